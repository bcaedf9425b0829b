/-
  DERIVED. GIVEN WITH THE SEED: THE CARDS: each row of YtkijagaocalkhaaGreatDoorRows.lean that lists a variable, with what it lists TIED to the program's text (the seventh form; the later family's looks); each row that meets fmt, with fmt's text TOLD by the authors' own Lean function (tested against real Go, not proved from fmt's source: count such statements apart). THE CARD IS WHAT COUNTS. Prove the row's statement (the work); the ties are given (YtkijagaocalkhaaGreatDoorTie.lean); close each card by the builder's one call (the guide's Derived/Test/ToyasCard.lean, 'card_holds'). Laid BY PROGRAM, IN A SANDBOX (cutbox-door.mjs). By AI agents, Wed Nov 11 2026. No macro, syntax, notation, axiom, sorry.
-/
import Derived.Test.YtkijagaocalkhaaGreatDoorRows
import GoSem.ClaimSeven
namespace Go.Proofs.YtkijagaocalkhaaGreatDoor
namespace Rows

/-- THE TIED CARD OF 'caissonlaw39.FairsNumbers'. -/
def fairsNumbersCard : Claim7 := { stood := { row := fairsNumbersRow, standIns := [], harness := (true, "0962fe9fcc85a9e1ab4a7a27dcfa2f78ad71440c9bbe06a3693805d3768d73f9"), looks := true }, kinds := [], alts := [], laidByText := true, laidKinds := [.data, .data, .data], laidTests := true, laidLooks := .later }
def FairsNumbersCardSaid : Prop := Claim7.holds Tryz.pinned (.plain (OpenSpec.ofChange fairsNumbersSpec)) fairsNumbersCard

/-- THE TIED CARD OF 'caissonlaw39.FairsKnown'. -/
def fairsKnownCard : Claim7 := { stood := { row := fairsKnownRow, standIns := [], harness := (true, "0962fe9fcc85a9e1ab4a7a27dcfa2f78ad71440c9bbe06a3693805d3768d73f9"), looks := true }, kinds := [], alts := [], laidByText := true, laidKinds := [.data, .data, .data], laidTests := true, laidLooks := .later }
def FairsKnownCardSaid : Prop := Claim7.holds Tryz.pinned (.plain (OpenSpec.ofChange fairsKnownSpec)) fairsKnownCard

/-- THE SECOND FORM's CARD OF 'caissonlaw39.FairsNumbers'. -/
def fairsNumbersUptoCard : Claim7 := { stood := { row := fairsNumbersUptoRow, standIns := [], harness := (true, "0962fe9fcc85a9e1ab4a7a27dcfa2f78ad71440c9bbe06a3693805d3768d73f9"), looks := true }, kinds := [], alts := [], laidByText := true, laidKinds := [.data, .data, .data], laidTests := true, laidLooks := .later }
def FairsNumbersUptoCardSaid : Prop := Claim7.holds Tryz.pinned (.plain (OpenSpec.upto fairsNumbersSpec)) fairsNumbersUptoCard

/-- THE SECOND FORM's CARD OF 'caissonlaw39.FairsKnown'. -/
def fairsKnownUptoCard : Claim7 := { stood := { row := fairsKnownUptoRow, standIns := [], harness := (true, "0962fe9fcc85a9e1ab4a7a27dcfa2f78ad71440c9bbe06a3693805d3768d73f9"), looks := true }, kinds := [], alts := [], laidByText := true, laidKinds := [.data, .data, .data], laidTests := true, laidLooks := .later }
def FairsKnownUptoCardSaid : Prop := Claim7.holds Tryz.pinned (.plain (OpenSpec.upto fairsKnownSpec)) fairsKnownUptoCard
end Rows
end Go.Proofs.YtkijagaocalkhaaGreatDoor
