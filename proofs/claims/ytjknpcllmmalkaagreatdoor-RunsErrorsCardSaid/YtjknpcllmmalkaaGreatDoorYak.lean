/- Proved: RunsErrors returns true, whatever its arguments are. The package-level tables (two of digests, one of nodes) hold what the program's text lays (the card ties that). -/
import Derived.Test.YtjknpcllmmalkaaGreatDoorYakc
import Derived.Test.YtjknpcllmmalkaaGreatDoorTie
import Derived.Test.YtjknpcllmmalkaaGreatDoorCards
import Derived.ProofKit
import Derived.SizedLaws
import Derived.LaidMore
import Derived.Stop.LaidErr
import Derived.OpenShut
import Derived.Stop.Joined
import Derived.SevenTiedAt
set_option maxRecDepth 4000

namespace Go.Proofs.YtjknpcllmmalkaaGreatDoor
open Go.ChangeShapes Go.WideShapes Go.ChangeAt Go.RowKit Go.Deep
theorem runsErrors_holds : Rows.RunsErrorsCardSaid :=
 Claim7.holds_tied_plain_at .later [] [.data, .data, .data] true Rows.runsErrorsCard.stood.harness true
  runsErrors_row (fun _ h => by cases h) runsErrors_c1 (fun _ h => by cases h) runsErrors_row_tie rfl ⟨rfl, rfl⟩ runsErrors_c2 rfl
  (fun f fn hf hfn => by
   obtain rfl : f = 3 := Option.some.inj (runsErrors_named.symm.trans hf) |>.symm
   obtain rfl : fn = Tryz.f3 := (Option.some.inj (Tryz.func3.symm.trans hfn)).symm
   exact ⟨runsErrors_c3, fun j t ht => by
    rw [Tryz.params3] at ht
    have hm : t ∈ [30, 3] := by simpa using Array.mem_of_getElem? ht
    have hall : ([30, 3].all fun u => !Tryz.prog.wantsStandIn u) = true := by kernel_rfl
    exact (show Tryz.prog.wantsStandIn t = false by simpa using List.all_eq_true.1 hall t hm)⟩)
  runsErrors_c4
#print axioms runsErrors_holds
end Go.Proofs.YtjknpcllmmalkaaGreatDoor
