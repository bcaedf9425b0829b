/- Proved: LocksKnown returns true. No conditions. -/
import Derived.Test.YtfdfadebfdmdgaaLxR
import Derived.Test.YtfdfadebfdmdgaaKnA
namespace Go.Proofs.Ytfdfadebfdmdgaa
open Go.ChangeShapes Go.WideShapes Go.ChangeAt Go.RowKit Go.Deep

theorem trodAll_zero {H : Type} {enc : TypeId × Value → H} {P : Program} {W : World} {base : Nat} {spare : Nat → Bool} {held : Bool} {args : Array Value} {ds : List (DataW H)} {p : List MemPlace}
    (h : DataW.TrodAll enc P W base spare held [] args.toList ds p) : args = #[] ∧ ds = [] ∧ p = [] := by
  obtain ⟨l⟩ := args
  cases l <;> cases ds <;> first | exact ⟨rfl, rfl, h⟩ | exact h.elim

set_option maxRecDepth 100000 in
theorem locksKnown_lifted (os : Os) (started : os.Started) (H : Type) (enc : TypeId × Value → H) :
    ReturnsInHanded {} Try.checked os 7 .any (Rows.locksKnownSpec.pre6 enc Try.prog Try.f7 Rows.locksKnownRow.domain false) (Rows.locksKnownSpec.post enc Try.prog Try.f7 false true false false) := by
  refine returnsInHanded_of_change (C := Try.checked) ownK started (by kernel_rfl) Try.func7
    (ChangeSpec.witness6 (enc := enc) (C := Try.checked) false ⟨#[], #[], []⟩ 8 (by kernel_rfl) (by kernel_rfl) (by kernel_rfl) (by kernel_rfl)) ?_
  intro W base args ds gs before hval0 hW hcnd _
  have hW' := hW
  obtain ⟨p, q, hA0, hV, rfl, hfz, hnd⟩ := hW
  have hA : DataW.TrodAll enc Try.prog W 0 (fun _ => true) true Try.f7.params.toList args.toList ds p := hA0
  rw [Try.params7] at hA
  obtain ⟨rfl, rfl, rfl⟩ := trodAll_zero hA
  obtain ⟨rfl, rfl⟩ := trodVars_none hV
  refine (known_law W).mono fun e W' ⟨he, hb⟩ => ?_
  subst he
  exact ⟨_, rfl, law_post laidOutK rfl rfl (tb := 4) (by kernel_rfl) Try.underlying4 (by kernel_rfl) hW' hb⟩

theorem locksKnown_holds : Rows.LocksKnownSaid :=
  OpenClaim.holds_of_wide 7 Try.f7 rfl rfl rfl rfl rfl rfl rfl ⟨rfl, rfl, rfl, rfl, rfl⟩ rfl rfl rfl rfl rfl (by kernel_rfl) Try.func7 (by kernel_rfl)
    (of_decide_eq_true (by kernel_rfl)) (by unfold Func.isWrapper; first | (rw [if_pos (by decide +kernel)]; kernel_rfl) | (rw [if_neg (by decide +kernel)]; exact ⟨rfl, rfl⟩))
    (fun os started H enc _ => locksKnown_lifted os started H enc)

#print axioms locksKnown_holds
end Go.Proofs.Ytfdfadebfdmdgaa
