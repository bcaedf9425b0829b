/- Proved: VerdictsKnown returns true. The package-level tables (two of digests, one of nodes) hold what the program's text lays (the card ties that). -/
import Derived.Test.YtelincipkdacaaaGreatDoorVakc
import Derived.Test.YtelincipkdacaaaGreatDoorTie
import Derived.Test.YtelincipkdacaaaGreatDoorCards
import Derived.ProofKit
import Derived.SizedLaws
import Derived.LaidMore
import Derived.Stop.LaidErr
import Derived.OpenShut
import Derived.Stop.Joined
import Derived.SevenTiedAt
set_option maxRecDepth 4000

namespace Go.Proofs.YtelincipkdacaaaGreatDoor
open Go.ChangeShapes Go.WideShapes Go.ChangeAt Go.RowKit Go.Deep

theorem verdictsKnown_holds : Rows.VerdictsKnownCardSaid :=
  Claim7.holds_tied_plain_at .later [] [.data, .data, .data] true Rows.verdictsKnownCard.stood.harness true
    verdictsKnown_row (fun _ h => by cases h) verdictsKnown_c1 (fun _ h => by cases h) verdictsKnown_row_tie rfl ⟨rfl, rfl⟩ verdictsKnown_c2 rfl
    (fun f fn hf hfn => by
      obtain rfl : f = 3 := Option.some.inj (verdictsKnown_named.symm.trans hf) |>.symm
      obtain rfl : fn = Tryz.f3 := (Option.some.inj (Tryz.func3.symm.trans hfn)).symm
      exact ⟨verdictsKnown_c3, fun j t ht => by
        rw [Tryz.params3] at ht
        simp at ht⟩)
    verdictsKnown_c4

#print axioms verdictsKnown_holds
end Go.Proofs.YtelincipkdacaaaGreatDoor
