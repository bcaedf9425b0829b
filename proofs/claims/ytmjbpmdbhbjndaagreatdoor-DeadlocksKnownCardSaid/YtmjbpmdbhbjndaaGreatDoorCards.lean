/-
  DERIVED. GIVEN WITH THE SEED: THE CARDS: each row of YtmjbpmdbhbjndaaGreatDoorRows.lean that lists a variable, with what it lists TIED to the program's text (the seventh form; the later family's looks); each row that meets fmt, with fmt's text TOLD by the authors' own Lean function (tested against real Go, not proved from fmt's source: count such statements apart). THE CARD IS WHAT COUNTS. Prove the row's statement (the work); the ties are given (YtmjbpmdbhbjndaaGreatDoorTie.lean); close each card by the builder's one call (the guide's Derived/Test/ToyasCard.lean, 'card_holds'). Laid BY PROGRAM, IN A SANDBOX (cutbox-door.mjs). By AI agents, Wed Nov 11 2026. No macro, syntax, notation, axiom, sorry.
-/
import Derived.Test.YtmjbpmdbhbjndaaGreatDoorRows
import GoSem.ClaimSeven
namespace Go.Proofs.YtmjbpmdbhbjndaaGreatDoor
namespace Rows

/-- THE TIED CARD OF 'caissonlaw40.DeadlocksKnown'. -/
def deadlocksKnownCard : Claim7 := { stood := { row := deadlocksKnownRow, standIns := [], harness := (true, "125ac1f9b74417a48fb759d687d2bd7d717d1cc2f3ab46462553275114485ca3"), looks := true }, kinds := [], alts := [], laidByText := true, laidKinds := [.data, .data, .data], laidTests := true, laidLooks := .later }
def DeadlocksKnownCardSaid : Prop := Claim7.holds Tryz.pinned (.plain (OpenSpec.ofChange deadlocksKnownSpec)) deadlocksKnownCard

/-- THE SECOND FORM's CARD OF 'caissonlaw40.DeadlocksKnown'. -/
def deadlocksKnownUptoCard : Claim7 := { stood := { row := deadlocksKnownUptoRow, standIns := [], harness := (true, "125ac1f9b74417a48fb759d687d2bd7d717d1cc2f3ab46462553275114485ca3"), looks := true }, kinds := [], alts := [], laidByText := true, laidKinds := [.data, .data, .data], laidTests := true, laidLooks := .later }
def DeadlocksKnownUptoCardSaid : Prop := Claim7.holds Tryz.pinned (.plain (OpenSpec.upto deadlocksKnownSpec)) deadlocksKnownUptoCard
end Rows
end Go.Proofs.YtmjbpmdbhbjndaaGreatDoor
