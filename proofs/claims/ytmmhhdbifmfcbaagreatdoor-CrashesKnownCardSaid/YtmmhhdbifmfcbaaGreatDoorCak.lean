/- Proved: CrashesKnown returns true. The package-level tables (two of digests, one of nodes) hold what the program's text lays (the card ties that). -/
import Derived.Test.YtmmhhdbifmfcbaaGreatDoorCakc
import Derived.Test.YtmmhhdbifmfcbaaGreatDoorTie
import Derived.Test.YtmmhhdbifmfcbaaGreatDoorCards
import Derived.ProofKit
import Derived.SizedLaws
import Derived.LaidMore
import Derived.Stop.LaidErr
import Derived.OpenShut
import Derived.Stop.Joined
import Derived.SevenTiedAt
set_option maxRecDepth 4000

namespace Go.Proofs.YtmmhhdbifmfcbaaGreatDoor
open Go.ChangeShapes Go.WideShapes Go.ChangeAt Go.RowKit Go.Deep
theorem crashesKnown_holds : Rows.CrashesKnownCardSaid :=
 Claim7.holds_tied_plain_at .later [] [.data, .data, .data] true Rows.crashesKnownCard.stood.harness true
  crashesKnown_row (fun _ h => by cases h) crashesKnown_c1 (fun _ h => by cases h) crashesKnown_row_tie rfl ⟨rfl, rfl⟩ crashesKnown_c2 rfl
  (fun f fn hf hfn => by
   obtain rfl : f = 3 := Option.some.inj (crashesKnown_named.symm.trans hf) |>.symm
   obtain rfl : fn = Tryz.f3 := (Option.some.inj (Tryz.func3.symm.trans hfn)).symm
   exact ⟨crashesKnown_c3, fun j t ht => by
    rw [Tryz.params3] at ht
    simp at ht⟩)
  crashesKnown_c4
#print axioms crashesKnown_holds
end Go.Proofs.YtmmhhdbifmfcbaaGreatDoor
