/-
  DERIVED. GIVEN WITH THE SEED: THE CARDS: each row of YtmmhhdbifmfcbaaGreatDoorRows.lean that lists a variable, with what it lists TIED to the program's text (the seventh form; the later family's looks); each row that meets fmt, with fmt's text TOLD by the authors' own Lean function (tested against real Go, not proved from fmt's source: count such statements apart). THE CARD IS WHAT COUNTS. Prove the row's statement (the work); the ties are given (YtmmhhdbifmfcbaaGreatDoorTie.lean); close each card by the builder's one call (the guide's Derived/Test/ToyasCard.lean, 'card_holds'). Laid BY PROGRAM, IN A SANDBOX (cutbox-door.mjs). By AI agents, Wed Nov 11 2026. No macro, syntax, notation, axiom, sorry.
-/
import Derived.Test.YtmmhhdbifmfcbaaGreatDoorRows
import GoSem.ClaimSeven
namespace Go.Proofs.YtmmhhdbifmfcbaaGreatDoor
namespace Rows

/-- THE TIED CARD OF 'caissonlaw37.CrashesKnown'. -/
def crashesKnownCard : Claim7 := { stood := { row := crashesKnownRow, standIns := [], harness := (true, "21065d212454b48a2a2806c372039932d48a250a8f7959fb72f83bd8717e8665"), looks := true }, kinds := [], alts := [], laidByText := true, laidKinds := [.data, .data, .data], laidTests := true, laidLooks := .later }
def CrashesKnownCardSaid : Prop := Claim7.holds Tryz.pinned (.plain (OpenSpec.ofChange crashesKnownSpec)) crashesKnownCard

/-- THE SECOND FORM's CARD OF 'caissonlaw37.CrashesKnown'. -/
def crashesKnownUptoCard : Claim7 := { stood := { row := crashesKnownUptoRow, standIns := [], harness := (true, "21065d212454b48a2a2806c372039932d48a250a8f7959fb72f83bd8717e8665"), looks := true }, kinds := [], alts := [], laidByText := true, laidKinds := [.data, .data, .data], laidTests := true, laidLooks := .later }
def CrashesKnownUptoCardSaid : Prop := Claim7.holds Tryz.pinned (.plain (OpenSpec.upto crashesKnownSpec)) crashesKnownUptoCard
end Rows
end Go.Proofs.YtmmhhdbifmfcbaaGreatDoor
