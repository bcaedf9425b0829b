/- The row of VerdictsKnown. -/
import Derived.Test.YtelincipkdacaaaGreatDoorVaka
import Derived.ProofKit
import Derived.SizedLaws
import Derived.LaidMore
import Derived.Stop.LaidErr
import Derived.OpenShut
import Derived.Stop.Joined
import Derived.SevenTiedAt
set_option maxRecDepth 4000

namespace Go.Proofs.YtelincipkdacaaaGreatDoor
open Go.ChangeShapes Go.WideShapes Go.ChangeAt Go.RowKit Go.Deep

theorem and_mk {a b : Bool} (h1 : a = true) (h2 : b = true) : (a && b) = true := by rw [h1, h2]; rfl
theorem verdictsKnown_j1 : (Rows.verdictsKnownRow.wf (OpenSpec.ofChange Rows.verdictsKnownSpec)) = true := by kernel_rfl
theorem verdictsKnown_j2 : (laidOutB Tryz.prog) = true := by kernel_rfl
theorem verdictsKnown_j3 : (mapsRowed Tryz.prog) = true := by kernel_rfl
theorem verdictsKnown_j4 : (Tryz.f3.params.all (Tryz.prog.readableRec ·)) = true := by kernel_rfl
theorem verdictsKnown_j5 : (namedTie Tryz.prog Rows.verdictsKnownRow.named Rows.verdictsKnownSpec.vars) = true := by kernel_rfl
theorem verdictsKnown_j6 : (Rows.verdictsKnownRow.stops == []) = true := by kernel_rfl
theorem verdictsKnown_j7 : (Tryz.prog.stops == []) = true := by kernel_rfl
theorem verdictsKnown_j8 : (Rows.verdictsKnownRow.knobs == []) = true := by kernel_rfl
theorem verdictsKnown_j9 : (Tryz.prog.stopKnobs == []) = true := by kernel_rfl
theorem verdictsKnown_j10 : (Rows.verdictsKnownRow.inPlace == Tryz.prog.inPlace 3) = true := by kernel_rfl
theorem verdictsKnown_j11 : (Rows.verdictsKnownRow.unfollowed == Tryz.prog.unfollowed 3) = true := by kernel_rfl
theorem verdictsKnown_j12 : (Rows.verdictsKnownRow.recurses == Tryz.prog.recurses 3) = true := by kernel_rfl
theorem verdictsKnown_j13 : (Rows.verdictsKnownRow.named == Tryz.prog.varsNamed 3) = true := by kernel_rfl
theorem verdictsKnown_j14 : (Rows.verdictsKnownRow.maps == (Tryz.f3.params.toList ++ Rows.verdictsKnownSpec.plain.varTypes Tryz.prog).any (Tryz.prog.mapsRec ·)) = true := by kernel_rfl
theorem verdictsKnown_j15 : (Rows.verdictsKnownRow.ifaces == (Tryz.f3.params.toList ++ Rows.verdictsKnownSpec.plain.varTypes Tryz.prog).any (Tryz.prog.ifacesRec ·)) = true := by kernel_rfl
theorem verdictsKnown_j16 : (Rows.verdictsKnownRow.mapsOut == Tryz.prog.mapsAmong Tryz.f3.resultTypes.toList) = true := by kernel_rfl
theorem verdictsKnown_j17 : (Rows.verdictsKnownRow.loops == (Tryz.f3.params.toList ++ Rows.verdictsKnownSpec.plain.varTypes Tryz.prog).any (Tryz.prog.loopsFrom ·)) = true := by kernel_rfl
theorem verdictsKnown_j18 : (Rows.verdictsKnownRow.wideKeys == (Tryz.f3.params.toList ++ Rows.verdictsKnownSpec.plain.varTypes Tryz.prog ++ Tryz.f3.resultTypes.toList).any (Tryz.prog.wideKeysFrom ·)) = true := by kernel_rfl
theorem verdictsKnown_j19 : (Rows.verdictsKnownSpec.vars.all (Tryz.prog.varReadable ·)) = true := by kernel_rfl
theorem verdictsKnown_j20 : (Tryz.f3.resultTypes.all (fun t => Tryz.prog.readableRec t && decide (t < Tryz.prog.types.size))) = true := by kernel_rfl
theorem verdictsKnown_j21 : (Rows.verdictsKnownRow.ifacesOut == Tryz.f3.resultTypes.toList.any (Tryz.prog.ifacesRec ·)) = true := by kernel_rfl
theorem verdictsKnown_j22 : (Rows.verdictsKnownRow.loopsOut == Tryz.f3.resultTypes.toList.any (Tryz.prog.loopsFrom ·)) = true := by kernel_rfl
theorem verdictsKnown_j23 : (Rows.verdictsKnownRow.plainKeys == Tryz.prog.plainKeys) = true := by kernel_rfl
theorem verdictsKnown_j24 : Rows.verdictsKnownRow.shortTexts.isNone = true := by kernel_rfl
theorem verdictsKnown_j25 : Tryz.prog.stopsHeard = true := by kernel_rfl
theorem verdictsKnown_j26 : Tryz.prog.mayEnter = true := by kernel_rfl
theorem verdictsKnown_j27 : (Rows.verdictsKnownRow.lifted == Tryz.prog.liftsFinal) = true := by kernel_rfl
theorem verdictsKnown_j28 : (Tryz.prog.make == some Rows.verdictsKnownRow.make) = true := by kernel_rfl
theorem verdictsKnown_j29 : (Rows.verdictsKnownRow.kinds == (if Rows.verdictsKnownRow.domain.isEmpty then [] else Tryz.f3.params.toList.map fun t => match Tryz.prog.underlying t with | some (.int k) => some k | _ => none)) = true := by kernel_rfl
theorem verdictsKnown_j30 : (Rows.verdictsKnownRow.pinned == Rows.verdictsKnownRow.pinnedBy) = true := by kernel_rfl
theorem verdictsKnown_j31 : (Rows.verdictsKnownRow.veiled == (Tryz.f3.params.toList ++ Rows.verdictsKnownSpec.plain.varTypes Tryz.prog ++ Tryz.f3.resultTypes.toList).any (Tryz.prog.veiledRec ·)) = true := by kernel_rfl
theorem verdictsKnown_j32 : (Rows.verdictsKnownRow.veiledFits Tryz.prog Tryz.f3.params.toList (Tryz.f3.params.toList ++ Rows.verdictsKnownSpec.plain.varTypes Tryz.prog ++ Tryz.f3.resultTypes.toList)) = true := by kernel_rfl
theorem verdictsKnown_facts : joinedFacts Tryz.prog 3 Tryz.f3 Rows.verdictsKnownSpec Rows.verdictsKnownRow = true := by
  unfold joinedFacts
  exact and_mk (and_mk (and_mk (and_mk (and_mk (and_mk (and_mk (and_mk (and_mk (and_mk (and_mk (and_mk (and_mk (and_mk (and_mk (and_mk (and_mk (and_mk (and_mk (and_mk (and_mk (and_mk (and_mk (and_mk (and_mk (and_mk (and_mk (and_mk (and_mk (and_mk (and_mk verdictsKnown_j1 verdictsKnown_j2) verdictsKnown_j3) verdictsKnown_j4) verdictsKnown_j5) verdictsKnown_j6) verdictsKnown_j7) verdictsKnown_j8) verdictsKnown_j9) verdictsKnown_j10) verdictsKnown_j11) verdictsKnown_j12) verdictsKnown_j13) verdictsKnown_j14) verdictsKnown_j15) verdictsKnown_j16) verdictsKnown_j17) verdictsKnown_j18) verdictsKnown_j19) verdictsKnown_j20) verdictsKnown_j21) verdictsKnown_j22) verdictsKnown_j23) verdictsKnown_j24) verdictsKnown_j25) verdictsKnown_j26) verdictsKnown_j27) verdictsKnown_j28) verdictsKnown_j29) verdictsKnown_j30) verdictsKnown_j31) verdictsKnown_j32
theorem verdictsKnown_named : Tryz.prog.funcNamed "caisson/caissonlaw36.VerdictsKnown" = some 3 := by kernel_rfl
theorem verdictsKnown_inst : Tryz.f3.isInstance Tryz.prog Rows.verdictsKnownRow.origin Rows.verdictsKnownRow.targs := of_decide_eq_true (by kernel_rfl)
theorem verdictsKnown_wrap : Tryz.f3.isWrapper Tryz.prog Rows.verdictsKnownRow.wrapper Rows.verdictsKnownRow.mainSum := by unfold Func.isWrapper; first | (rw [if_pos (by decide +kernel)]; kernel_rfl) | (rw [if_neg (by decide +kernel)]; exact ⟨rfl, rfl⟩)
theorem verdictsKnown_row : Rows.VerdictsKnownSaid :=
  OpenClaim.holds_of_wide 3 Tryz.f3 rfl rfl rfl rfl rfl rfl rfl ⟨rfl, rfl, rfl, rfl, rfl⟩ rfl rfl rfl rfl rfl verdictsKnown_named Tryz.func3 verdictsKnown_facts verdictsKnown_inst verdictsKnown_wrap
    (fun os started H enc _ => verdictsKnown_lifted os started H enc)
end Go.Proofs.YtelincipkdacaaaGreatDoor
