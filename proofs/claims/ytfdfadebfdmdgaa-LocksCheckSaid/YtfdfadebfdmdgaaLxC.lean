/- Proved: LocksCheck returns true for every table, every lock and every thread, and leaves its arguments as they were. No conditions. -/
import Derived.Test.YtfdfadebfdmdgaaLxR
import Derived.Test.YtfdfadebfdmdgaaLwB
namespace Go.Proofs.Ytfdfadebfdmdgaa
open Go.ChangeShapes Go.WideShapes Go.ChangeAt Go.RowKit Go.Deep

section
variable {H : Type} {enc : TypeId × Value → H} {W : World} {base : Nat} {spare : Nat → Bool} {held : Bool}
theorem open_lock {v : Value} {d : DataW H} {p : List MemPlace} {r : Reach} {b0 : Nat} (hv : Value.okWide Try.prog W r b0 43 v) (h : DataW.Trod enc Try.prog W base spare held 43 v d p) :
    ∃ lv ix : Int, v = .agg #[.int .i64 lv, .int .i64 ix] := by
  obtain ⟨cs, rfl, _⟩ := okWide_struct Try.underlying43 hv
  obtain ⟨fuel, hf⟩ := h
  obtain ⟨lv, ix, e⟩ := trod_lock hf
  obtain ⟨l⟩ := cs
  have e2 : l = [.int .i64 lv, .int .i64 ix] := e
  rw [e2]
  exact ⟨lv, ix, rfl⟩
end

set_option maxRecDepth 100000 in
theorem check_lifted (os : Os) (started : os.Started) (H : Type) (enc : TypeId × Value → H) :
    ReturnsInHanded {} Try.checked os 8 .any (Rows.locksCheckSpec.pre6 enc Try.prog Try.f8 Rows.locksCheckRow.domain false) (Rows.locksCheckSpec.post enc Try.prog Try.f8 false true false false) := by
  refine returnsInHanded_of_change (C := Try.checked) ownK started (by kernel_rfl) Try.func8
    (ChangeSpec.witness6 (enc := enc) (C := Try.checked) false ⟨#[], #[.agg #[.slice none 0 0], .agg #[.int .i64 0, .int .i64 0], .int .i64 0], []⟩ 8 (by kernel_rfl) (by kernel_rfl) (by kernel_rfl) (by kernel_rfl)) ?_
  intro W base args ds gs before hval0 hW hcnd _
  have hval : ∀ (j : Nat) t v, Try.f8.params[j]? = some t → args[j]? = some v → Value.okWide Try.prog W .any base t v := hval0
  have hW' := hW
  obtain ⟨p, q, hA0, hV, rfl, hfz, hnd⟩ := hW
  have hA : DataW.TrodAll enc Try.prog W 0 (fun _ => true) true Try.f8.params.toList args.toList ds p := hA0
  rw [Try.params8] at hA hval
  obtain ⟨v0, v1, v2, d0, d1, d2, p0, p1, p2, rfl, rfl, rfl, h0, h1, h2⟩ := trodAll_three hA
  obtain ⟨rfl, rfl⟩ := trodVars_none hV
  obtain ⟨A, n, c, hs, rfl, hnc, hcm, hr⟩ := open_table (hval 0 29 v0 rfl rfl) h0
  obtain ⟨lv, ix, rfl⟩ := open_lock (hval 1 43 v1 rfl rfl) h1
  obtain ⟨th, rfl⟩ := okWide_int Try.underlying3 (hval 2 3 v2 rfl rfl)
  refine (check_law A n c hs lv ix th W hr).mono fun e W' ⟨he, hb⟩ => ?_
  subst he
  exact ⟨_, rfl, law_post laidOutK rfl rfl (tb := 4) (by kernel_rfl) Try.underlying4 (by kernel_rfl) hW' hb⟩

theorem locksCheck_holds : Rows.LocksCheckSaid :=
  OpenClaim.holds_of_wide 8 Try.f8 rfl rfl rfl rfl rfl rfl rfl ⟨rfl, rfl, rfl, rfl, rfl⟩ rfl rfl rfl rfl rfl (by kernel_rfl) Try.func8 (by kernel_rfl)
    (of_decide_eq_true (by kernel_rfl)) (by unfold Func.isWrapper; first | (rw [if_pos (by decide +kernel)]; kernel_rfl) | (rw [if_neg (by decide +kernel)]; exact ⟨rfl, rfl⟩))
    (fun os started H enc _ => check_lifted os started H enc)

#print axioms locksCheck_holds
end Go.Proofs.Ytfdfadebfdmdgaa
