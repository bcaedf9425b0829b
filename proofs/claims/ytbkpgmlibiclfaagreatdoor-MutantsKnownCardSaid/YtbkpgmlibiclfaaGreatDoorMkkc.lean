/- The card of MutantsKnown: what the kernel reckons of it. -/
import Derived.Test.YtbkpgmlibiclfaaGreatDoorMkkb
import Derived.Test.YtbkpgmlibiclfaaGreatDoorTie
import Derived.Test.YtbkpgmlibiclfaaGreatDoorCards
import Derived.ProofKit
import Derived.SizedLaws
import Derived.LaidMore
import Derived.Stop.LaidErr
import Derived.OpenShut
import Derived.Stop.Joined
import Derived.SevenTiedAt
set_option maxRecDepth 4000

namespace Go.Proofs.YtbkpgmlibiclfaaGreatDoor
open Go.ChangeShapes Go.WideShapes Go.ChangeAt Go.RowKit Go.Deep
theorem mutantsKnown_c1 : Rows.mutantsKnownRow.wfByText (OpenSpec.ofChange Rows.mutantsKnownSpec) = true := by kernel_rfl
theorem mutantsKnown_c2 : Tryz.pinned.checked.prog.mainIs = some (Rows.mutantsKnownCard.stood.harness.1, Rows.mutantsKnownCard.stood.harness.2.toList) := by kernel_rfl
theorem mutantsKnown_c3 : true = Tryz.pinned.checked.prog.looks [] := by kernel_rfl
theorem all_still : (Tryz.pinned.checked.prog.funcs.toList.all fun fn => !fn.goes) = true := by kernel_rfl
theorem goes_none {P : Program} (h : (P.funcs.toList.all fun fn => !fn.goes) = true) (s : String) : P.goesAt .entering s = false := by
 have hf : ∀ (g : Nat) fn, P.funcs[g]? = some fn → fn.goes = false := fun g fn hg => by
  have := List.all_eq_true.1 h fn (by rw [← Array.getElem?_toList] at hg; exact List.mem_of_getElem? hg)
  simpa using this
 have h1 : ∀ g : Nat, (P.funcs[g]?).any Func.goes = false := fun g => by
  cases hg : P.funcs[g]? with
  | none => rfl
  | some fn => exact hf g fn hg
 have h2 : P.funcs.any Func.goes = false := by
  rw [Array.any_eq_false]
  intro i hi
  have := hf i P.funcs[i] (Array.getElem?_eq_getElem hi)
  simp [this]
 have h3 : ∀ f, P.goes f = false := fun f => by simp [Program.goes, h1, h2]
 unfold Program.goesAt Program.goesFrom
 cases P.funcNamed s with
 | none => rfl
 | some f => simp [h3]
theorem mutantsKnown_c4 : false = Rows.mutantsKnownRow.goesBy Tryz.pinned.checked.prog := (goes_none all_still _).symm
end Go.Proofs.YtbkpgmlibiclfaaGreatDoor
