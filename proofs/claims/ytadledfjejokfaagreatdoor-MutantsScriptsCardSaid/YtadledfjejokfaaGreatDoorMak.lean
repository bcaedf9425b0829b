/- Proved: MutantsScripts returns true, whatever its argument is. The package-level tables (two of digests, one of nodes) hold what the program's text lays (the card ties that). -/
import Derived.Test.YtadledfjejokfaaGreatDoorMakc
import Derived.Test.YtadledfjejokfaaGreatDoorTie
import Derived.Test.YtadledfjejokfaaGreatDoorCards
import Derived.ProofKit
import Derived.SizedLaws
import Derived.LaidMore
import Derived.Stop.LaidErr
import Derived.OpenShut
import Derived.Stop.Joined
import Derived.SevenTiedAt
set_option maxRecDepth 4000

namespace Go.Proofs.YtadledfjejokfaaGreatDoor
open Go.ChangeShapes Go.WideShapes Go.ChangeAt Go.RowKit Go.Deep
theorem mutantsScripts_holds : Rows.MutantsScriptsCardSaid :=
 Claim7.holds_tied_plain_at .later [] [.data, .data, .data] true Rows.mutantsScriptsCard.stood.harness true
  mutantsScripts_row (fun _ h => by cases h) mutantsScripts_c1 (fun _ h => by cases h) mutantsScripts_row_tie rfl ⟨rfl, rfl⟩ mutantsScripts_c2 rfl
  (fun f fn hf hfn => by
   obtain rfl : f = 3 := Option.some.inj (mutantsScripts_named.symm.trans hf) |>.symm
   obtain rfl : fn = Tryz.f3 := (Option.some.inj (Tryz.func3.symm.trans hfn)).symm
   exact ⟨mutantsScripts_c3, fun j t ht => by
    rw [Tryz.params3] at ht
    have hm : t ∈ [5] := by simpa using Array.mem_of_getElem? ht
    have hall : ([5].all fun u => !Tryz.prog.wantsStandIn u) = true := by kernel_rfl
    exact (show Tryz.prog.wantsStandIn t = false by simpa using List.all_eq_true.1 hall t hm)⟩)
  mutantsScripts_c4
#print axioms mutantsScripts_holds
end Go.Proofs.YtadledfjejokfaaGreatDoor
