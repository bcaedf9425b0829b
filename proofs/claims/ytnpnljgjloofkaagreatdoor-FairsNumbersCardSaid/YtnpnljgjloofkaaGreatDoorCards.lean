/-
  DERIVED. GIVEN WITH THE SEED: THE CARDS: each row of YtnpnljgjloofkaaGreatDoorRows.lean that lists a variable, with what it lists TIED to the program's text (the seventh form; the later family's looks); each row that meets fmt, with fmt's text TOLD by the authors' own Lean function (tested against real Go, not proved from fmt's source: count such statements apart). THE CARD IS WHAT COUNTS. Prove the row's statement (the work); the ties are given (YtnpnljgjloofkaaGreatDoorTie.lean); close each card by the builder's one call (the guide's Derived/Test/ToyasCard.lean, 'card_holds'). Laid BY PROGRAM, IN A SANDBOX (cutbox-door.mjs). By AI agents, Wed Nov 11 2026. No macro, syntax, notation, axiom, sorry.
-/
import Derived.Test.YtnpnljgjloofkaaGreatDoorRows
import GoSem.ClaimSeven
namespace Go.Proofs.YtnpnljgjloofkaaGreatDoor
namespace Rows

/-- THE TIED CARD OF 'caissonlaw39.FairsNumbers'. -/
def fairsNumbersCard : Claim7 := { stood := { row := fairsNumbersRow, standIns := [], harness := (true, "8694a9ef5d596f7781b2710e5229fdf62eb5f3f498bc8f70348eb49f44fc6d0e"), looks := true }, kinds := [], alts := [], laidByText := true, laidKinds := [.data, .data, .data], laidTests := true, laidLooks := .later }
def FairsNumbersCardSaid : Prop := Claim7.holds Tryz.pinned (.plain (OpenSpec.ofChange fairsNumbersSpec)) fairsNumbersCard

/-- THE SECOND FORM's CARD OF 'caissonlaw39.FairsNumbers'. -/
def fairsNumbersUptoCard : Claim7 := { stood := { row := fairsNumbersUptoRow, standIns := [], harness := (true, "8694a9ef5d596f7781b2710e5229fdf62eb5f3f498bc8f70348eb49f44fc6d0e"), looks := true }, kinds := [], alts := [], laidByText := true, laidKinds := [.data, .data, .data], laidTests := true, laidLooks := .later }
def FairsNumbersUptoCardSaid : Prop := Claim7.holds Tryz.pinned (.plain (OpenSpec.upto fairsNumbersSpec)) fairsNumbersUptoCard
end Rows
end Go.Proofs.YtnpnljgjloofkaaGreatDoor
