/-
  DERIVED. GIVEN WITH THE SEED: THE CARDS: each row of YtadledfjejokfaaGreatDoorRows.lean that lists a variable, with what it lists TIED to the program's text (the seventh form; the later family's looks); each row that meets fmt, with fmt's text TOLD by the authors' own Lean function (tested against real Go, not proved from fmt's source: count such statements apart). THE CARD IS WHAT COUNTS. Prove the row's statement (the work); the ties are given (YtadledfjejokfaaGreatDoorTie.lean); close each card by the builder's one call (the guide's Derived/Test/ToyasCard.lean, 'card_holds'). Laid BY PROGRAM, IN A SANDBOX (cutbox-door.mjs). By AI agents, Wed Nov 11 2026. No macro, syntax, notation, axiom, sorry.
-/
import Derived.Test.YtadledfjejokfaaGreatDoorRows
import GoSem.ClaimSeven
namespace Go.Proofs.YtadledfjejokfaaGreatDoor
namespace Rows

/-- THE TIED CARD OF 'caissonlaw42.MutantsScripts'. -/
def mutantsScriptsCard : Claim7 := { stood := { row := mutantsScriptsRow, standIns := [], harness := (true, "de3bd55b67d1f079eb5fe64bbba714e6ec248388fc77db0e0f9393bd9a06152e"), looks := true }, kinds := [], alts := [], laidByText := true, laidKinds := [.data, .data, .data], laidTests := true, laidLooks := .later }
def MutantsScriptsCardSaid : Prop := Claim7.holds Tryz.pinned (.plain (OpenSpec.ofChange mutantsScriptsSpec)) mutantsScriptsCard

/-- THE SECOND FORM's CARD OF 'caissonlaw42.MutantsScripts'. -/
def mutantsScriptsUptoCard : Claim7 := { stood := { row := mutantsScriptsUptoRow, standIns := [], harness := (true, "de3bd55b67d1f079eb5fe64bbba714e6ec248388fc77db0e0f9393bd9a06152e"), looks := true }, kinds := [], alts := [], laidByText := true, laidKinds := [.data, .data, .data], laidTests := true, laidLooks := .later }
def MutantsScriptsUptoCardSaid : Prop := Claim7.holds Tryz.pinned (.plain (OpenSpec.upto mutantsScriptsSpec)) mutantsScriptsUptoCard
end Rows
end Go.Proofs.YtadledfjejokfaaGreatDoor
