/- Proved: FairsNumbers returns true, whatever its arguments are. The package-level tables (two of digests, one of nodes) hold what the program's text lays (the card ties that). -/
import Derived.Test.YtnpnljgjloofkaaGreatDoorFqkb
import Derived.Test.YtnpnljgjloofkaaGreatDoorTie
import Derived.Test.YtnpnljgjloofkaaGreatDoorCards
import Derived.ProofKit
import Derived.SizedLaws
import Derived.LaidMore
import Derived.Stop.LaidErr
import Derived.OpenShut
import Derived.Stop.Joined
import Derived.SevenTiedAt
set_option maxRecDepth 4000

namespace Go.Proofs.YtnpnljgjloofkaaGreatDoor
open Go.ChangeShapes Go.WideShapes Go.ChangeAt Go.RowKit Go.Deep
theorem fairsNumbers_c1 : Rows.fairsNumbersRow.wfByText (OpenSpec.ofChange Rows.fairsNumbersSpec) = true := by kernel_rfl
theorem fairsNumbers_c2 : Tryz.pinned.checked.prog.mainIs = some (Rows.fairsNumbersCard.stood.harness.1, Rows.fairsNumbersCard.stood.harness.2.toList) := by kernel_rfl
theorem fairsNumbers_c3 : true = Tryz.pinned.checked.prog.looks [] := by kernel_rfl
theorem all_still : (Tryz.pinned.checked.prog.funcs.toList.all fun fn => !fn.goes) = true := by kernel_rfl
theorem goes_none {P : Program} (h : (P.funcs.toList.all fun fn => !fn.goes) = true) (s : String) : P.goesAt .entering s = false := by
 have hf : ∀ (g : Nat) fn, P.funcs[g]? = some fn → fn.goes = false := fun g fn hg => by
  have := List.all_eq_true.1 h fn (by rw [← Array.getElem?_toList] at hg; exact List.mem_of_getElem? hg)
  simpa using this
 have h1 : ∀ g : Nat, (P.funcs[g]?).any Func.goes = false := fun g => by
  cases hg : P.funcs[g]? with
  | none => rfl
  | some fn => exact hf g fn hg
 have h2 : P.funcs.any Func.goes = false := by
  rw [Array.any_eq_false]
  intro i hi
  have := hf i P.funcs[i] (Array.getElem?_eq_getElem hi)
  simp [this]
 have h3 : ∀ f, P.goes f = false := fun f => by simp [Program.goes, h1, h2]
 unfold Program.goesAt Program.goesFrom
 cases P.funcNamed s with
 | none => rfl
 | some f => simp [h3]
theorem fairsNumbers_c4 : false = Rows.fairsNumbersRow.goesBy Tryz.pinned.checked.prog := (goes_none all_still _).symm
end Go.Proofs.YtnpnljgjloofkaaGreatDoor

namespace Go.Proofs.YtnpnljgjloofkaaGreatDoor
open Go.ChangeShapes Go.WideShapes Go.ChangeAt Go.RowKit Go.Deep
theorem fairsNumbers_holds : Rows.FairsNumbersCardSaid :=
 Claim7.holds_tied_plain_at .later [] [.data, .data, .data] true Rows.fairsNumbersCard.stood.harness true
  fairsNumbers_row (fun _ h => by cases h) fairsNumbers_c1 (fun _ h => by cases h) fairsNumbers_row_tie rfl ⟨rfl, rfl⟩ fairsNumbers_c2 rfl
  (fun f fn hf hfn => by
   obtain rfl : f = 3 := Option.some.inj (fairsNumbers_named.symm.trans hf) |>.symm
   obtain rfl : fn = Tryz.f3 := (Option.some.inj (Tryz.func3.symm.trans hfn)).symm
   exact ⟨fairsNumbers_c3, fun j t ht => by
    rw [Tryz.params3] at ht
    have hm : t ∈ [29, 30, 35] := by simpa using Array.mem_of_getElem? ht
    have hall : ([29, 30, 35].all fun u => !Tryz.prog.wantsStandIn u) = true := by kernel_rfl
    exact (show Tryz.prog.wantsStandIn t = false by simpa using List.all_eq_true.1 hall t hm)⟩)
  fairsNumbers_c4
#print axioms fairsNumbers_holds
end Go.Proofs.YtnpnljgjloofkaaGreatDoor
