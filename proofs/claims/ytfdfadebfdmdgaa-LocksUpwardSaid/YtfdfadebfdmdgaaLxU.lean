/- Proved: LocksUpward returns true for every table of plain data and every plain list of waits, and leaves its arguments as they were. No conditions. -/
import Derived.Test.YtfdfadebfdmdgaaWtR
import Derived.Test.YtfdfadebfdmdgaaWuA
namespace Go.Proofs.Ytfdfadebfdmdgaa
open Go.ChangeShapes Go.WideShapes Go.ChangeAt Go.RowKit Go.Deep

set_option maxRecDepth 100000 in
theorem locksUpward_lifted (os : Os) (started : os.Started) (H : Type) (enc : TypeId × Value → H) :
    ReturnsInHanded {} Try.checked os 4 .any (Rows.locksUpwardSpec.pre6 enc Try.prog Try.f4 Rows.locksUpwardRow.domain false) (Rows.locksUpwardSpec.post enc Try.prog Try.f4 false true false false) := by
  refine returnsInHanded_of_change (C := Try.checked) ownK started (by kernel_rfl) Try.func4
    (ChangeSpec.witness6 (enc := enc) (C := Try.checked) false ⟨#[], #[.agg #[.slice none 0 0], .slice none 0 0], []⟩ 8 (by kernel_rfl) (by kernel_rfl) (by kernel_rfl) (by kernel_rfl)) ?_
  intro W base args ds gs before hval0 hW hcnd _
  have hval : ∀ (j : Nat) t v, Try.f4.params[j]? = some t → args[j]? = some v → Value.okWide Try.prog W .any base t v := hval0
  have hW' := hW
  obtain ⟨p, q, hA0, hV, rfl, hfz, hnd⟩ := hW
  have hA : DataW.TrodAll enc Try.prog W 0 (fun _ => true) true Try.f4.params.toList args.toList ds p := hA0
  rw [Try.params4] at hA hval
  obtain ⟨v0, v1, d0, d1, p0, p1, rfl, rfl, rfl, h0, h1⟩ := trodAll_two hA
  obtain ⟨rfl, rfl⟩ := trodVars_none hV
  obtain ⟨A, n, c, l0, rfl, hnc, hcm, hr⟩ := open_T (hval 0 24 v0 rfl rfl) h0
  obtain ⟨B, m, d, l, rfl, hmd, hdm, hl⟩ := open_vs (hval 1 25 v1 rfl rfl) h1
  refine (upward_law A n c l0 B m d l W hr hl).mono fun e W' ⟨he, hb⟩ => ?_
  subst he
  exact ⟨_, rfl, law_post laidOutK rfl rfl (tb := 4) (by kernel_rfl) Try.underlying4 (by kernel_rfl) hW' hb⟩

theorem locksUpward_holds : Rows.LocksUpwardSaid :=
  OpenClaim.holds_of_wide 4 Try.f4 rfl rfl rfl rfl rfl rfl rfl ⟨rfl, rfl, rfl, rfl, rfl⟩ rfl rfl rfl rfl rfl (by kernel_rfl) Try.func4 (by kernel_rfl)
    (of_decide_eq_true (by kernel_rfl)) (by unfold Func.isWrapper; first | (rw [if_pos (by decide +kernel)]; kernel_rfl) | (rw [if_neg (by decide +kernel)]; exact ⟨rfl, rfl⟩))
    (fun os started H enc _ => locksUpward_lifted os started H enc)

#print axioms locksUpward_holds
end Go.Proofs.Ytfdfadebfdmdgaa
