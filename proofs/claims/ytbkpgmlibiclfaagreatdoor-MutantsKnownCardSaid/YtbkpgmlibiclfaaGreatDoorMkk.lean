/- Proved: MutantsKnown returns true. The package-level tables (two of digests, one of nodes) hold what the program's text lays (the card ties that). -/
import Derived.Test.YtbkpgmlibiclfaaGreatDoorMkkc
import Derived.Test.YtbkpgmlibiclfaaGreatDoorTie
import Derived.Test.YtbkpgmlibiclfaaGreatDoorCards
import Derived.ProofKit
import Derived.SizedLaws
import Derived.LaidMore
import Derived.Stop.LaidErr
import Derived.OpenShut
import Derived.Stop.Joined
import Derived.SevenTiedAt
set_option maxRecDepth 4000

namespace Go.Proofs.YtbkpgmlibiclfaaGreatDoor
open Go.ChangeShapes Go.WideShapes Go.ChangeAt Go.RowKit Go.Deep
theorem mutantsKnown_holds : Rows.MutantsKnownCardSaid :=
 Claim7.holds_tied_plain_at .later [] [.data, .data, .data] true Rows.mutantsKnownCard.stood.harness true
  mutantsKnown_row (fun _ h => by cases h) mutantsKnown_c1 (fun _ h => by cases h) mutantsKnown_row_tie rfl ⟨rfl, rfl⟩ mutantsKnown_c2 rfl
  (fun f fn hf hfn => by
   obtain rfl : f = 3 := Option.some.inj (mutantsKnown_named.symm.trans hf) |>.symm
   obtain rfl : fn = Tryz.f3 := (Option.some.inj (Tryz.func3.symm.trans hfn)).symm
   exact ⟨mutantsKnown_c3, fun j t ht => by
    rw [Tryz.params3] at ht
    simp at ht⟩)
  mutantsKnown_c4
#print axioms mutantsKnown_holds
end Go.Proofs.YtbkpgmlibiclfaaGreatDoor
