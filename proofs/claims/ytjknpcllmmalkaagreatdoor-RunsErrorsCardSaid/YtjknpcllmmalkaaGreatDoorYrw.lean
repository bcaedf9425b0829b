/- The law on errors of runs, over what the evaluator reckons. -/
import Derived.Test.YtjknpcllmmalkaaGreatDoorYre
import Derived.Test.YtjknpcllmmalkaaGreatDoorRlw
set_option maxRecDepth 4000

namespace Go.Proofs.YtjknpcllmmalkaaGreatDoor
open Go.RowKit
theorem rerOk : RerOk Ev.SmAt (fun w => Glob w ∧ Ev.Sizes w) where
 step := fun h hb => ⟨h.1.step hb, by
  obtain ⟨t, fr, h0⟩ := h.2
  exact ⟨t, fr, by rw [hb.block _ (Array.getElem?_eq_some_iff.1 h0).1]; exact h0⟩⟩
 lives := fun w h => Ev.lives_law w h.1 h.2
 same := fun w h => Ev.same_zero w h.1 h.2
 small := fun w h => Ev.small_any w h.1 h.2
 len := fun h => h.1
 tle := fun h => h.2.1
 below := fun h hb => h.below hb
 begin_ := fun h => Ev.begin_small h
theorem runsErrors_law (v0 : Value) (s : ScrV) (n : Int) (w : World) (hG : Glob w) (hS : Ev.Sizes w) (hs : ArgS w v0 s) :
 Calls Tryz.prog 3 #[v0, .int .i64 n] w fun e w' => e = .returned (.bool true) ∧ Below w.heap.size w w' := by
 obtain ⟨rfl, hk, hp, ha⟩ := hs
 exact law_rer rerOk s n w ⟨hG, hS⟩ hk hp ha
end Go.Proofs.YtjknpcllmmalkaaGreatDoor
