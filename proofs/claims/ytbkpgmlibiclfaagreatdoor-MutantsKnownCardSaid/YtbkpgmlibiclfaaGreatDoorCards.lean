/-
  DERIVED. GIVEN WITH THE SEED: THE CARDS: each row of YtbkpgmlibiclfaaGreatDoorRows.lean that lists a variable, with what it lists TIED to the program's text (the seventh form; the later family's looks); each row that meets fmt, with fmt's text TOLD by the authors' own Lean function (tested against real Go, not proved from fmt's source: count such statements apart). THE CARD IS WHAT COUNTS. Prove the row's statement (the work); the ties are given (YtbkpgmlibiclfaaGreatDoorTie.lean); close each card by the builder's one call (the guide's Derived/Test/ToyasCard.lean, 'card_holds'). Laid BY PROGRAM, IN A SANDBOX (cutbox-door.mjs). By AI agents, Wed Nov 11 2026. No macro, syntax, notation, axiom, sorry.
-/
import Derived.Test.YtbkpgmlibiclfaaGreatDoorRows
import GoSem.ClaimSeven
namespace Go.Proofs.YtbkpgmlibiclfaaGreatDoor
namespace Rows

/-- THE TIED CARD OF 'caissonlaw42.MutantsKnown'. -/
def mutantsKnownCard : Claim7 := { stood := { row := mutantsKnownRow, standIns := [], harness := (true, "de1bb5475edea440ebce77dec13b7f220e81a7b78c4f5e77e501e3f162617c01"), looks := true }, kinds := [], alts := [], laidByText := true, laidKinds := [.data, .data, .data], laidTests := true, laidLooks := .later }
def MutantsKnownCardSaid : Prop := Claim7.holds Tryz.pinned (.plain (OpenSpec.ofChange mutantsKnownSpec)) mutantsKnownCard

/-- THE SECOND FORM's CARD OF 'caissonlaw42.MutantsKnown'. -/
def mutantsKnownUptoCard : Claim7 := { stood := { row := mutantsKnownUptoRow, standIns := [], harness := (true, "de1bb5475edea440ebce77dec13b7f220e81a7b78c4f5e77e501e3f162617c01"), looks := true }, kinds := [], alts := [], laidByText := true, laidKinds := [.data, .data, .data], laidTests := true, laidLooks := .later }
def MutantsKnownUptoCardSaid : Prop := Claim7.holds Tryz.pinned (.plain (OpenSpec.upto mutantsKnownSpec)) mutantsKnownUptoCard
end Rows
end Go.Proofs.YtbkpgmlibiclfaaGreatDoor
