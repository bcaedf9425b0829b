/- Proved: ExtractsKnown returns true. The package-level tables (two of digests, one of nodes) hold what the program's text lays (the card ties that). -/
import Derived.Test.YtmciknpgbbjomaaGreatDoorZakc
import Derived.Test.YtmciknpgbbjomaaGreatDoorTie
import Derived.Test.YtmciknpgbbjomaaGreatDoorCards
set_option maxRecDepth 4000

namespace Go.Proofs.YtmciknpgbbjomaaGreatDoor
open Go.ChangeShapes Go.WideShapes Go.ChangeAt Go.RowKit Go.Deep

theorem extractsKnown_holds : Rows.ExtractsKnownCardSaid :=
  Claim7.holds_tied_plain_at .later [] [.data, .data, .data] true Rows.extractsKnownCard.stood.harness true
    q_row (fun _ h => by cases h) q_c1 (fun _ h => by cases h) extractsKnown_row_tie rfl ⟨rfl, rfl⟩ q_c2 rfl
    (fun f fn hf hfn => by
      obtain rfl : f = 3 := Option.some.inj (q_named.symm.trans hf) |>.symm
      obtain rfl : fn = Tryz.f3 := (Option.some.inj (Tryz.func3.symm.trans hfn)).symm
      exact ⟨q_c3, fun j t ht => by
        rw [Tryz.params3] at ht
        simp at ht⟩)
    q_c4

#print axioms extractsKnown_holds
end Go.Proofs.YtmciknpgbbjomaaGreatDoor
