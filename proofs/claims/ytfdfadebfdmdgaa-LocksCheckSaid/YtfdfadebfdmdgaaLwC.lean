/- The walk of LocksCheck. -/
import Derived.Test.YtfdfadebfdmdgaaLpA
import Derived.Test.YtfdfadebfdmdgaaLvA
import Derived.Test.YtfdfadebfdmdgaaSerl
import Derived.Test.YtfdfadebfdmdgaaLkK
import Derived.Deep.CutRange
import Derived.Deep.DeepCutAuto
import Derived.Deep.RegionHeld3
namespace Go.Proofs.Ytfdfadebfdmdgaa
open Go.RowKit

/-- The boxes of the arguments. -/
def Box3 (b : Nat) (A : Option Addr) (n c : Nat) (lv ix : Int) (w : World) : Prop :=
  w.cell? ⟨b, 0, none⟩ = some (.slice A n c) ∧ w.cell? ⟨b + 1, 0, none⟩ = some (.int .i64 lv) ∧ w.cell? ⟨b + 1, 1, none⟩ = some (.int .i64 ix)
theorem Box3.step {b n c : Nat} {A : Option Addr} {lv ix : Int} {w w' : World} (h : Box3 b A n c lv ix w) (hb : Below w.heap.size w w') : Box3 b A n c lv ix w' :=
  ⟨keep_cell hb h.1, keep_cell hb h.2.1, keep_cell hb h.2.2⟩
theorem below_next {a b c : World} (h : Below a.heap.size a b) (h2 : Below b.heap.size b c) : Below a.heap.size a c := h.trans (h2.mono h.size)
theorem same_yes {n : Nat} {a b : List H3} (h : a = b) : b2i (decide (n = n) && decide (a = b)) = 1 := by subst h; simp [b2i]
theorem take_small {w : World} {B k : Nat} {A : Option Addr} {lv ix th : Int} {hs : List H3} (h : Rd w B 3 A k (cells3 (takeF lv ix th hs))) (hl : hs.length ≤ 60) : (k : Int) ≤ 1000000 := by
  have h1 := h.len3; have h2 := takeF_len lv ix th hs; omega
theorem without_small {w : World} {B k : Nat} {A : Option Addr} {lv ix th : Int} {hs : List H3} (h : Rd w B 3 A k (cells3 (withoutF lv ix th hs))) (hl : hs.length ≤ 60) : (k : Int) ≤ 1000000 := by
  have h1 := h.len3
  have h2 : (withoutF lv ix th hs).length ≤ hs.length := List.length_filter_le _ _
  omega
theorem same_no {n : Nat} {a b : List H3} (h : ¬ a = b) : b2i (decide (n = n) && decide (a = b)) = 0 := by simp [b2i, h]

set_option maxRecDepth 100000 in
theorem check_lives (A : Option Addr) (n c : Nat) (lv ix th : Int) (w : World) (h : n > 60) :
    Calls Try.prog 8 #[.agg #[.slice A n c], .agg #[.int .i64 lv, .int .i64 ix], .int .i64 th] w fun e w' => e = .returned (.bool true) ∧ Below w.heap.size w w' := by
  have hd : decide ((n : Int) > 60) = true := by simp; omega
  go_enter Try.func8, Try.ntmps8
  go_wp2_with fail
  refine (lives_any _).mono ?_
  rintro e w1 ⟨rfl, hb⟩
  go_wp2
  go_ret
  exact ⟨rfl, below_alloc2 hb⟩
end Go.Proofs.Ytfdfadebfdmdgaa
