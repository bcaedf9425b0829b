/-
  DERIVED. GIVEN WITH THE SEED: THE CARDS: each row of YtelincipkdacaaaGreatDoorRows.lean that lists a variable, with what it lists TIED to the program's text (the seventh form; the later family's looks); each row that meets fmt, with fmt's text TOLD by the authors' own Lean function (tested against real Go, not proved from fmt's source: count such statements apart). THE CARD IS WHAT COUNTS. Prove the row's statement (the work); the ties are given (YtelincipkdacaaaGreatDoorTie.lean); close each card by the builder's one call (the guide's Derived/Test/ToyasCard.lean, 'card_holds'). Laid BY PROGRAM, IN A SANDBOX (cutbox-door.mjs). By AI agents, Wed Nov 11 2026. No macro, syntax, notation, axiom, sorry.
-/
import Derived.Test.YtelincipkdacaaaGreatDoorRows
import GoSem.ClaimSeven
namespace Go.Proofs.YtelincipkdacaaaGreatDoor
namespace Rows

/-- THE TIED CARD OF 'caissonlaw36.VerdictsKnown'. -/
def verdictsKnownCard : Claim7 := { stood := { row := verdictsKnownRow, standIns := [], harness := (true, "765cb609f7c7da66ec6c41cfdad07b9a98492fef23384ff47d0ec2019e93f132"), looks := true }, kinds := [], alts := [], laidByText := true, laidKinds := [.data, .data, .data], laidTests := true, laidLooks := .later }
def VerdictsKnownCardSaid : Prop := Claim7.holds Tryz.pinned (.plain (OpenSpec.ofChange verdictsKnownSpec)) verdictsKnownCard

/-- THE SECOND FORM's CARD OF 'caissonlaw36.VerdictsKnown'. -/
def verdictsKnownUptoCard : Claim7 := { stood := { row := verdictsKnownUptoRow, standIns := [], harness := (true, "765cb609f7c7da66ec6c41cfdad07b9a98492fef23384ff47d0ec2019e93f132"), looks := true }, kinds := [], alts := [], laidByText := true, laidKinds := [.data, .data, .data], laidTests := true, laidLooks := .later }
def VerdictsKnownUptoCardSaid : Prop := Claim7.holds Tryz.pinned (.plain (OpenSpec.upto verdictsKnownSpec)) verdictsKnownUptoCard
end Rows
end Go.Proofs.YtelincipkdacaaaGreatDoor
