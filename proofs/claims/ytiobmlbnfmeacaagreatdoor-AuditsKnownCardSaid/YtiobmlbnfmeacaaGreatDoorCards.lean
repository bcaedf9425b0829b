/-
  DERIVED. GIVEN WITH THE SEED: THE CARDS: each row of YtiobmlbnfmeacaaGreatDoorRows.lean that lists a variable, with what it lists TIED to the program's text (the seventh form; the later family's looks); each row that meets fmt, with fmt's text TOLD by the authors' own Lean function (tested against real Go, not proved from fmt's source: count such statements apart). THE CARD IS WHAT COUNTS. Prove the row's statement (the work); the ties are given (YtiobmlbnfmeacaaGreatDoorTie.lean); close each card by the builder's one call (the guide's Derived/Test/ToyasCard.lean, 'card_holds'). Laid BY PROGRAM, IN A SANDBOX (cutbox-door.mjs). By AI agents, Wed Nov 11 2026. No macro, syntax, notation, axiom, sorry.
-/
import Derived.Test.YtiobmlbnfmeacaaGreatDoorRows
import GoSem.ClaimSeven
namespace Go.Proofs.YtiobmlbnfmeacaaGreatDoor
namespace Rows

/-- THE TIED CARD OF 'caissonlaw44.AuditsKnown'. -/
def auditsKnownCard : Claim7 := { stood := { row := auditsKnownRow, standIns := [], harness := (true, "11f2d001f90c9238df6352753938294420d85cd466c18c511e7d9a2e0d194551"), looks := true }, kinds := [], alts := [], laidByText := true, laidKinds := [.data, .data, .data], laidTests := true, laidLooks := .later }
def AuditsKnownCardSaid : Prop := Claim7.holds Tryz.pinned (.plain (OpenSpec.ofChange auditsKnownSpec)) auditsKnownCard

/-- THE SECOND FORM's CARD OF 'caissonlaw44.AuditsKnown'. -/
def auditsKnownUptoCard : Claim7 := { stood := { row := auditsKnownUptoRow, standIns := [], harness := (true, "11f2d001f90c9238df6352753938294420d85cd466c18c511e7d9a2e0d194551"), looks := true }, kinds := [], alts := [], laidByText := true, laidKinds := [.data, .data, .data], laidTests := true, laidLooks := .later }
def AuditsKnownUptoCardSaid : Prop := Claim7.holds Tryz.pinned (.plain (OpenSpec.upto auditsKnownSpec)) auditsKnownUptoCard
end Rows
end Go.Proofs.YtiobmlbnfmeacaaGreatDoor
