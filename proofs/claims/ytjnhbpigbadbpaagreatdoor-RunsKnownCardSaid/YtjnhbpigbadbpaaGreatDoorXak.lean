/- Proved: RunsKnown returns true. The package-level tables (two of digests, one of nodes) hold what the program's text lays (the card ties that). -/
import Derived.Test.YtjnhbpigbadbpaaGreatDoorXakb
import Derived.Test.YtjnhbpigbadbpaaGreatDoorTie
import Derived.Test.YtjnhbpigbadbpaaGreatDoorCards
import Derived.ProofKit
import Derived.SizedLaws
import Derived.LaidMore
import Derived.Stop.LaidErr
import Derived.OpenShut
import Derived.Stop.Joined
import Derived.SevenTiedAt
set_option maxRecDepth 4000

namespace Go.Proofs.YtjnhbpigbadbpaaGreatDoor
open Go.ChangeShapes Go.WideShapes Go.ChangeAt Go.RowKit Go.Deep

theorem runsKnown_holds : Rows.RunsKnownCardSaid :=
  Claim7.holds_tied_plain_at .later [] [.data, .data, .data] true Rows.runsKnownCard.stood.harness true
    runsKnown_row (fun _ h => by cases h) (by kernel_rfl) (fun _ h => by cases h) runsKnown_row_tie rfl ⟨rfl, rfl⟩ (by kernel_rfl) rfl
    (fun f fn hf hfn => by
      obtain rfl : f = 3 := Option.some.inj (runsKnown_named.symm.trans hf) |>.symm
      obtain rfl : fn = Tryz.f3 := (Option.some.inj (Tryz.func3.symm.trans hfn)).symm
      exact ⟨by kernel_rfl, fun j t ht => by
        rw [Tryz.params3] at ht
        simp at ht⟩)
    (by kernel_rfl)

#print axioms runsKnown_holds
end Go.Proofs.YtjnhbpigbadbpaaGreatDoor
