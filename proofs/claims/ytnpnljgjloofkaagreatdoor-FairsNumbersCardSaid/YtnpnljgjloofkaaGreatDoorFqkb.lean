/- The row of FairsNumbers. -/
import Derived.Test.YtnpnljgjloofkaaGreatDoorFqka
import Derived.ProofKit
import Derived.SizedLaws
import Derived.LaidMore
import Derived.Stop.LaidErr
import Derived.OpenShut
import Derived.Stop.Joined
import Derived.SevenTiedAt
set_option maxRecDepth 4000

namespace Go.Proofs.YtnpnljgjloofkaaGreatDoor
open Go.ChangeShapes Go.WideShapes Go.ChangeAt Go.RowKit Go.Deep
theorem and_mk {a b : Bool} (h1 : a = true) (h2 : b = true) : (a && b) = true := by rw [h1, h2]; rfl
theorem fairsNumbers_j1 : (Rows.fairsNumbersRow.wf (OpenSpec.ofChange Rows.fairsNumbersSpec)) = true := by kernel_rfl
theorem fairsNumbers_j2 : (laidOutB Tryz.prog) = true := by kernel_rfl
theorem fairsNumbers_j3 : (mapsRowed Tryz.prog) = true := by kernel_rfl
theorem fairsNumbers_j4 : (Tryz.f3.params.all (Tryz.prog.readableRec ·)) = true := by kernel_rfl
theorem fairsNumbers_j5 : (namedTie Tryz.prog Rows.fairsNumbersRow.named Rows.fairsNumbersSpec.vars) = true := by kernel_rfl
theorem fairsNumbers_j6 : (Rows.fairsNumbersRow.stops == []) = true := by kernel_rfl
theorem fairsNumbers_j7 : (Tryz.prog.stops == []) = true := by kernel_rfl
theorem fairsNumbers_j8 : (Rows.fairsNumbersRow.knobs == []) = true := by kernel_rfl
theorem fairsNumbers_j9 : (Tryz.prog.stopKnobs == []) = true := by kernel_rfl
theorem fairsNumbers_j10 : (Rows.fairsNumbersRow.inPlace == Tryz.prog.inPlace 3) = true := by kernel_rfl
theorem fairsNumbers_j11 : (Rows.fairsNumbersRow.unfollowed == Tryz.prog.unfollowed 3) = true := by kernel_rfl
theorem fairsNumbers_j12 : (Rows.fairsNumbersRow.recurses == Tryz.prog.recurses 3) = true := by kernel_rfl
theorem fairsNumbers_j13 : (Rows.fairsNumbersRow.named == Tryz.prog.varsNamed 3) = true := by kernel_rfl
theorem fairsNumbers_j14 : (Rows.fairsNumbersRow.maps == (Tryz.f3.params.toList ++ Rows.fairsNumbersSpec.plain.varTypes Tryz.prog).any (Tryz.prog.mapsRec ·)) = true := by kernel_rfl
theorem fairsNumbers_j15 : (Rows.fairsNumbersRow.ifaces == (Tryz.f3.params.toList ++ Rows.fairsNumbersSpec.plain.varTypes Tryz.prog).any (Tryz.prog.ifacesRec ·)) = true := by kernel_rfl
theorem fairsNumbers_j16 : (Rows.fairsNumbersRow.mapsOut == Tryz.prog.mapsAmong Tryz.f3.resultTypes.toList) = true := by kernel_rfl
theorem fairsNumbers_j17 : (Rows.fairsNumbersRow.loops == (Tryz.f3.params.toList ++ Rows.fairsNumbersSpec.plain.varTypes Tryz.prog).any (Tryz.prog.loopsFrom ·)) = true := by kernel_rfl
theorem fairsNumbers_j18 : (Rows.fairsNumbersRow.wideKeys == (Tryz.f3.params.toList ++ Rows.fairsNumbersSpec.plain.varTypes Tryz.prog ++ Tryz.f3.resultTypes.toList).any (Tryz.prog.wideKeysFrom ·)) = true := by kernel_rfl
theorem fairsNumbers_j19 : (Rows.fairsNumbersSpec.vars.all (Tryz.prog.varReadable ·)) = true := by kernel_rfl
theorem fairsNumbers_j20 : (Tryz.f3.resultTypes.all (fun t => Tryz.prog.readableRec t && decide (t < Tryz.prog.types.size))) = true := by kernel_rfl
theorem fairsNumbers_j21 : (Rows.fairsNumbersRow.ifacesOut == Tryz.f3.resultTypes.toList.any (Tryz.prog.ifacesRec ·)) = true := by kernel_rfl
theorem fairsNumbers_j22 : (Rows.fairsNumbersRow.loopsOut == Tryz.f3.resultTypes.toList.any (Tryz.prog.loopsFrom ·)) = true := by kernel_rfl
theorem fairsNumbers_j23 : (Rows.fairsNumbersRow.plainKeys == Tryz.prog.plainKeys) = true := by kernel_rfl
theorem fairsNumbers_j24 : Rows.fairsNumbersRow.shortTexts.isNone = true := by kernel_rfl
theorem fairsNumbers_j25 : Tryz.prog.stopsHeard = true := by kernel_rfl
theorem fairsNumbers_j26 : Tryz.prog.mayEnter = true := by kernel_rfl
theorem fairsNumbers_j27 : (Rows.fairsNumbersRow.lifted == Tryz.prog.liftsFinal) = true := by kernel_rfl
theorem fairsNumbers_j28 : (Tryz.prog.make == some Rows.fairsNumbersRow.make) = true := by kernel_rfl
theorem fairsNumbers_j29 : (Rows.fairsNumbersRow.kinds == (if Rows.fairsNumbersRow.domain.isEmpty then [] else Tryz.f3.params.toList.map fun t => match Tryz.prog.underlying t with | some (.int k) => some k | _ => none)) = true := by kernel_rfl
theorem fairsNumbers_j30 : (Rows.fairsNumbersRow.pinned == Rows.fairsNumbersRow.pinnedBy) = true := by kernel_rfl
theorem fairsNumbers_j31 : (Rows.fairsNumbersRow.veiled == (Tryz.f3.params.toList ++ Rows.fairsNumbersSpec.plain.varTypes Tryz.prog ++ Tryz.f3.resultTypes.toList).any (Tryz.prog.veiledRec ·)) = true := by kernel_rfl
theorem fairsNumbers_j32 : (Rows.fairsNumbersRow.veiledFits Tryz.prog Tryz.f3.params.toList (Tryz.f3.params.toList ++ Rows.fairsNumbersSpec.plain.varTypes Tryz.prog ++ Tryz.f3.resultTypes.toList)) = true := by kernel_rfl
theorem fairsNumbers_facts : joinedFacts Tryz.prog 3 Tryz.f3 Rows.fairsNumbersSpec Rows.fairsNumbersRow = true := by
 unfold joinedFacts
 exact and_mk (and_mk (and_mk (and_mk (and_mk (and_mk (and_mk (and_mk (and_mk (and_mk (and_mk (and_mk (and_mk (and_mk (and_mk (and_mk (and_mk (and_mk (and_mk (and_mk (and_mk (and_mk (and_mk (and_mk (and_mk (and_mk (and_mk (and_mk (and_mk (and_mk (and_mk fairsNumbers_j1 fairsNumbers_j2) fairsNumbers_j3) fairsNumbers_j4) fairsNumbers_j5) fairsNumbers_j6) fairsNumbers_j7) fairsNumbers_j8) fairsNumbers_j9) fairsNumbers_j10) fairsNumbers_j11) fairsNumbers_j12) fairsNumbers_j13) fairsNumbers_j14) fairsNumbers_j15) fairsNumbers_j16) fairsNumbers_j17) fairsNumbers_j18) fairsNumbers_j19) fairsNumbers_j20) fairsNumbers_j21) fairsNumbers_j22) fairsNumbers_j23) fairsNumbers_j24) fairsNumbers_j25) fairsNumbers_j26) fairsNumbers_j27) fairsNumbers_j28) fairsNumbers_j29) fairsNumbers_j30) fairsNumbers_j31) fairsNumbers_j32
theorem fairsNumbers_named : Tryz.prog.funcNamed "caisson/caissonlaw39.FairsNumbers" = some 3 := by kernel_rfl
theorem fairsNumbers_inst : Tryz.f3.isInstance Tryz.prog Rows.fairsNumbersRow.origin Rows.fairsNumbersRow.targs := of_decide_eq_true (by kernel_rfl)
theorem fairsNumbers_wrap : Tryz.f3.isWrapper Tryz.prog Rows.fairsNumbersRow.wrapper Rows.fairsNumbersRow.mainSum := by unfold Func.isWrapper; first | (rw [if_pos (by decide +kernel)]; kernel_rfl) | (rw [if_neg (by decide +kernel)]; exact ⟨rfl, rfl⟩)
theorem fairsNumbers_row : Rows.FairsNumbersSaid :=
 OpenClaim.holds_of_wide 3 Tryz.f3 rfl rfl rfl rfl rfl rfl rfl ⟨rfl, rfl, rfl, rfl, rfl⟩ rfl rfl rfl rfl rfl fairsNumbers_named Tryz.func3 fairsNumbers_facts fairsNumbers_inst fairsNumbers_wrap
  (fun os started H enc _ => fairsNumbers_lifted os started H enc)
end Go.Proofs.YtnpnljgjloofkaaGreatDoor
