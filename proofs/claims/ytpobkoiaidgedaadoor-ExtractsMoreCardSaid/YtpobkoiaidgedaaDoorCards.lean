/-
  DERIVED. GIVEN WITH THE SEED: THE CARDS: each row of YtpobkoiaidgedaaDoorRows.lean that lists a variable, with what it lists TIED to the program's text (the seventh form; the later family's looks); each row that meets fmt, with fmt's text TOLD by the authors' own Lean function (tested against real Go, not proved from fmt's source: count such statements apart). THE CARD IS WHAT COUNTS. Prove the row's statement (the work); the ties are given (YtpobkoiaidgedaaDoorTie.lean); close each card by the builder's one call (the guide's Derived/Test/ToyasCard.lean, 'card_holds'). Laid BY PROGRAM, IN A SANDBOX (cutbox-door.mjs). By AI agents, Wed Nov 11 2026. No macro, syntax, notation, axiom, sorry.
-/
import Derived.Test.YtpobkoiaidgedaaDoorRows
import GoSem.ClaimSeven
namespace Go.Proofs.YtpobkoiaidgedaaDoor
namespace Rows

/-- THE TIED CARD OF 'caissonlaw38.ExtractsCollision'. -/
def extractsCollisionCard : Claim7 := { stood := { row := extractsCollisionRow, standIns := [], harness := (true, "6bb8d067cdf0778258ddc74629d3b96e6f792a48c187de3239e21870c7f05ab0"), looks := false }, kinds := [], alts := [], laidByText := true, laidKinds := [.data, .data], laidTests := true, laidLooks := .later }
def ExtractsCollisionCardSaid : Prop := Claim7.holds Tryd.pinned (.plain (OpenSpec.ofChange extractsCollisionSpec)) extractsCollisionCard

/-- THE TIED CARD OF 'caissonlaw38.ExtractsForgery'. -/
def extractsForgeryCard : Claim7 := { stood := { row := extractsForgeryRow, standIns := [], harness := (true, "6bb8d067cdf0778258ddc74629d3b96e6f792a48c187de3239e21870c7f05ab0"), looks := false }, kinds := [], alts := [], laidByText := true, laidKinds := [.data, .data], laidTests := true, laidLooks := .later }
def ExtractsForgeryCardSaid : Prop := Claim7.holds Tryd.pinned (.plain (OpenSpec.ofChange extractsForgerySpec)) extractsForgeryCard

/-- THE TIED CARD OF 'caissonlaw38.ExtractsMore'. -/
def extractsMoreCard : Claim7 := { stood := { row := extractsMoreRow, standIns := [], harness := (true, "6bb8d067cdf0778258ddc74629d3b96e6f792a48c187de3239e21870c7f05ab0"), looks := false }, kinds := [], alts := [], laidByText := true, laidKinds := [.data, .data], laidTests := true, laidLooks := .later }
def ExtractsMoreCardSaid : Prop := Claim7.holds Tryd.pinned (.plain (OpenSpec.ofChange extractsMoreSpec)) extractsMoreCard

/-- THE SECOND FORM's CARD OF 'caissonlaw38.ExtractsCollision'. -/
def extractsCollisionUptoCard : Claim7 := { stood := { row := extractsCollisionUptoRow, standIns := [], harness := (true, "6bb8d067cdf0778258ddc74629d3b96e6f792a48c187de3239e21870c7f05ab0"), looks := false }, kinds := [], alts := [], laidByText := true, laidKinds := [.data, .data], laidTests := true, laidLooks := .later }
def ExtractsCollisionUptoCardSaid : Prop := Claim7.holds Tryd.pinned (.plain (OpenSpec.upto extractsCollisionSpec)) extractsCollisionUptoCard

/-- THE SECOND FORM's CARD OF 'caissonlaw38.ExtractsForgery'. -/
def extractsForgeryUptoCard : Claim7 := { stood := { row := extractsForgeryUptoRow, standIns := [], harness := (true, "6bb8d067cdf0778258ddc74629d3b96e6f792a48c187de3239e21870c7f05ab0"), looks := false }, kinds := [], alts := [], laidByText := true, laidKinds := [.data, .data], laidTests := true, laidLooks := .later }
def ExtractsForgeryUptoCardSaid : Prop := Claim7.holds Tryd.pinned (.plain (OpenSpec.upto extractsForgerySpec)) extractsForgeryUptoCard

/-- THE SECOND FORM's CARD OF 'caissonlaw38.ExtractsMore'. -/
def extractsMoreUptoCard : Claim7 := { stood := { row := extractsMoreUptoRow, standIns := [], harness := (true, "6bb8d067cdf0778258ddc74629d3b96e6f792a48c187de3239e21870c7f05ab0"), looks := false }, kinds := [], alts := [], laidByText := true, laidKinds := [.data, .data], laidTests := true, laidLooks := .later }
def ExtractsMoreUptoCardSaid : Prop := Claim7.holds Tryd.pinned (.plain (OpenSpec.upto extractsMoreSpec)) extractsMoreUptoCard
end Rows
end Go.Proofs.YtpobkoiaidgedaaDoor
