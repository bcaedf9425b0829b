/- Proved: AuditsKnown returns true. The package-level tables (two of digests, one of nodes) hold what the program's text lays (the card ties that). -/
import Derived.Test.YtiobmlbnfmeacaaGreatDoorHakc
import Derived.Test.YtiobmlbnfmeacaaGreatDoorTie
import Derived.Test.YtiobmlbnfmeacaaGreatDoorCards
import Derived.ProofKit
import Derived.SizedLaws
import Derived.LaidMore
import Derived.Stop.LaidErr
import Derived.OpenShut
import Derived.Stop.Joined
import Derived.SevenTiedAt
set_option maxRecDepth 4000

namespace Go.Proofs.YtiobmlbnfmeacaaGreatDoor
open Go.ChangeShapes Go.WideShapes Go.ChangeAt Go.RowKit Go.Deep
theorem auditsKnown_holds : Rows.AuditsKnownCardSaid :=
 Claim7.holds_tied_plain_at .later [] [.data, .data, .data] true Rows.auditsKnownCard.stood.harness true
  auditsKnown_row (fun _ h => by cases h) auditsKnown_c1 (fun _ h => by cases h) auditsKnown_row_tie rfl ⟨rfl, rfl⟩ auditsKnown_c2 rfl
  (fun f fn hf hfn => by
   obtain rfl : f = 3 := Option.some.inj (auditsKnown_named.symm.trans hf) |>.symm
   obtain rfl : fn = Tryz.f3 := (Option.some.inj (Tryz.func3.symm.trans hfn)).symm
   exact ⟨auditsKnown_c3, fun j t ht => by
    rw [Tryz.params3] at ht
    simp at ht⟩)
  auditsKnown_c4
#print axioms auditsKnown_holds
end Go.Proofs.YtiobmlbnfmeacaaGreatDoor
