/-
  DERIVED. GIVEN WITH THE SEED: THE CARDS: each row of YtmciknpgbbjomaaGreatDoorRows.lean that lists a variable, with what it lists TIED to the program's text (the seventh form; the later family's looks); each row that meets fmt, with fmt's text TOLD by the authors' own Lean function (tested against real Go, not proved from fmt's source: count such statements apart). THE CARD IS WHAT COUNTS. Prove the row's statement (the work); the ties are given (YtmciknpgbbjomaaGreatDoorTie.lean); close each card by the builder's one call (the guide's Derived/Test/ToyasCard.lean, 'card_holds'). Laid BY PROGRAM, IN A SANDBOX (cutbox-door.mjs). By AI agents, Wed Nov 11 2026. No macro, syntax, notation, axiom, sorry.
-/
import Derived.Test.YtmciknpgbbjomaaGreatDoorRows
import GoSem.ClaimSeven
namespace Go.Proofs.YtmciknpgbbjomaaGreatDoor
namespace Rows

/-- THE TIED CARD OF 'caissonlaw38.ExtractsKnown'. -/
def extractsKnownCard : Claim7 := { stood := { row := extractsKnownRow, standIns := [], harness := (true, "6bcfb89fddaba4b5af199941d149ed1e69dd6e4bb5dcaa3c5e50d559bd37fb99"), looks := true }, kinds := [], alts := [], laidByText := true, laidKinds := [.data, .data, .data], laidTests := true, laidLooks := .later }
def ExtractsKnownCardSaid : Prop := Claim7.holds Tryz.pinned (.plain (OpenSpec.ofChange extractsKnownSpec)) extractsKnownCard

/-- THE SECOND FORM's CARD OF 'caissonlaw38.ExtractsKnown'. -/
def extractsKnownUptoCard : Claim7 := { stood := { row := extractsKnownUptoRow, standIns := [], harness := (true, "6bcfb89fddaba4b5af199941d149ed1e69dd6e4bb5dcaa3c5e50d559bd37fb99"), looks := true }, kinds := [], alts := [], laidByText := true, laidKinds := [.data, .data, .data], laidTests := true, laidLooks := .later }
def ExtractsKnownUptoCardSaid : Prop := Claim7.holds Tryz.pinned (.plain (OpenSpec.upto extractsKnownSpec)) extractsKnownUptoCard
end Rows
end Go.Proofs.YtmciknpgbbjomaaGreatDoor
