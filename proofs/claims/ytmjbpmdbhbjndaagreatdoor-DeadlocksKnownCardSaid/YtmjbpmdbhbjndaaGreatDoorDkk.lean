/- Proved: DeadlocksKnown returns true. The package-level tables (two of digests, one of nodes) hold what the program's text lays (the card ties that). -/
import Derived.Test.YtmjbpmdbhbjndaaGreatDoorDkkc
import Derived.Test.YtmjbpmdbhbjndaaGreatDoorTie
import Derived.Test.YtmjbpmdbhbjndaaGreatDoorCards
import Derived.ProofKit
import Derived.SizedLaws
import Derived.LaidMore
import Derived.Stop.LaidErr
import Derived.OpenShut
import Derived.Stop.Joined
import Derived.SevenTiedAt
set_option maxRecDepth 4000

namespace Go.Proofs.YtmjbpmdbhbjndaaGreatDoor
open Go.ChangeShapes Go.WideShapes Go.ChangeAt Go.RowKit Go.Deep
theorem deadlocksKnown_holds : Rows.DeadlocksKnownCardSaid :=
 Claim7.holds_tied_plain_at .later [] [.data, .data, .data] true Rows.deadlocksKnownCard.stood.harness true
  deadlocksKnown_row (fun _ h => by cases h) deadlocksKnown_c1 (fun _ h => by cases h) deadlocksKnown_row_tie rfl ⟨rfl, rfl⟩ deadlocksKnown_c2 rfl
  (fun f fn hf hfn => by
   obtain rfl : f = 3 := Option.some.inj (deadlocksKnown_named.symm.trans hf) |>.symm
   obtain rfl : fn = Tryz.f3 := (Option.some.inj (Tryz.func3.symm.trans hfn)).symm
   exact ⟨deadlocksKnown_c3, fun j t ht => by
    rw [Tryz.params3] at ht
    simp at ht⟩)
  deadlocksKnown_c4
#print axioms deadlocksKnown_holds
end Go.Proofs.YtmjbpmdbhbjndaaGreatDoor
