/-
  DERIVED. GIVEN WITH THE SEED: THE CARDS: each row of YtjknpcllmmalkaaGreatDoorRows.lean that lists a variable, with what it lists TIED to the program's text (the seventh form; the later family's looks); each row that meets fmt, with fmt's text TOLD by the authors' own Lean function (tested against real Go, not proved from fmt's source: count such statements apart). THE CARD IS WHAT COUNTS. Prove the row's statement (the work); the ties are given (YtjknpcllmmalkaaGreatDoorTie.lean); close each card by the builder's one call (the guide's Derived/Test/ToyasCard.lean, 'card_holds'). Laid BY PROGRAM, IN A SANDBOX (cutbox-door.mjs). By AI agents, Wed Nov 11 2026. No macro, syntax, notation, axiom, sorry.
-/
import Derived.Test.YtjknpcllmmalkaaGreatDoorRows
import GoSem.ClaimSeven
namespace Go.Proofs.YtjknpcllmmalkaaGreatDoor
namespace Rows

/-- THE TIED CARD OF 'caissonlaw35.RunsErrors'. -/
def runsErrorsCard : Claim7 := { stood := { row := runsErrorsRow, standIns := [], harness := (true, "b60e27d9a3bca2634317f298de652aa023b2f8e168ea0b9ce0818c65511f1df1"), looks := true }, kinds := [], alts := [], laidByText := true, laidKinds := [.data, .data, .data], laidTests := true, laidLooks := .later }
def RunsErrorsCardSaid : Prop := Claim7.holds Tryz.pinned (.plain (OpenSpec.ofChange runsErrorsSpec)) runsErrorsCard

/-- THE SECOND FORM's CARD OF 'caissonlaw35.RunsErrors'. -/
def runsErrorsUptoCard : Claim7 := { stood := { row := runsErrorsUptoRow, standIns := [], harness := (true, "b60e27d9a3bca2634317f298de652aa023b2f8e168ea0b9ce0818c65511f1df1"), looks := true }, kinds := [], alts := [], laidByText := true, laidKinds := [.data, .data, .data], laidTests := true, laidLooks := .later }
def RunsErrorsUptoCardSaid : Prop := Claim7.holds Tryz.pinned (.plain (OpenSpec.upto runsErrorsSpec)) runsErrorsUptoCard
end Rows
end Go.Proofs.YtjknpcllmmalkaaGreatDoor
