/- The row of RunsErrors. -/
import Derived.Test.YtjknpcllmmalkaaGreatDoorYaka
import Derived.ProofKit
import Derived.SizedLaws
import Derived.LaidMore
import Derived.Stop.LaidErr
import Derived.OpenShut
import Derived.Stop.Joined
import Derived.SevenTiedAt
set_option maxRecDepth 4000

namespace Go.Proofs.YtjknpcllmmalkaaGreatDoor
open Go.ChangeShapes Go.WideShapes Go.ChangeAt Go.RowKit Go.Deep
theorem and_mk {a b : Bool} (h1 : a = true) (h2 : b = true) : (a && b) = true := by rw [h1, h2]; rfl
theorem runsErrors_j1 : (Rows.runsErrorsRow.wf (OpenSpec.ofChange Rows.runsErrorsSpec)) = true := by kernel_rfl
theorem runsErrors_j2 : (laidOutB Tryz.prog) = true := by kernel_rfl
theorem runsErrors_j3 : (mapsRowed Tryz.prog) = true := by kernel_rfl
theorem runsErrors_j4 : (Tryz.f3.params.all (Tryz.prog.readableRec ·)) = true := by kernel_rfl
theorem runsErrors_j5 : (namedTie Tryz.prog Rows.runsErrorsRow.named Rows.runsErrorsSpec.vars) = true := by kernel_rfl
theorem runsErrors_j6 : (Rows.runsErrorsRow.stops == []) = true := by kernel_rfl
theorem runsErrors_j7 : (Tryz.prog.stops == []) = true := by kernel_rfl
theorem runsErrors_j8 : (Rows.runsErrorsRow.knobs == []) = true := by kernel_rfl
theorem runsErrors_j9 : (Tryz.prog.stopKnobs == []) = true := by kernel_rfl
theorem runsErrors_j10 : (Rows.runsErrorsRow.inPlace == Tryz.prog.inPlace 3) = true := by kernel_rfl
theorem runsErrors_j11 : (Rows.runsErrorsRow.unfollowed == Tryz.prog.unfollowed 3) = true := by kernel_rfl
theorem runsErrors_j12 : (Rows.runsErrorsRow.recurses == Tryz.prog.recurses 3) = true := by kernel_rfl
theorem runsErrors_j13 : (Rows.runsErrorsRow.named == Tryz.prog.varsNamed 3) = true := by kernel_rfl
theorem runsErrors_j14 : (Rows.runsErrorsRow.maps == (Tryz.f3.params.toList ++ Rows.runsErrorsSpec.plain.varTypes Tryz.prog).any (Tryz.prog.mapsRec ·)) = true := by kernel_rfl
theorem runsErrors_j15 : (Rows.runsErrorsRow.ifaces == (Tryz.f3.params.toList ++ Rows.runsErrorsSpec.plain.varTypes Tryz.prog).any (Tryz.prog.ifacesRec ·)) = true := by kernel_rfl
theorem runsErrors_j16 : (Rows.runsErrorsRow.mapsOut == Tryz.prog.mapsAmong Tryz.f3.resultTypes.toList) = true := by kernel_rfl
theorem runsErrors_j17 : (Rows.runsErrorsRow.loops == (Tryz.f3.params.toList ++ Rows.runsErrorsSpec.plain.varTypes Tryz.prog).any (Tryz.prog.loopsFrom ·)) = true := by kernel_rfl
theorem runsErrors_j18 : (Rows.runsErrorsRow.wideKeys == (Tryz.f3.params.toList ++ Rows.runsErrorsSpec.plain.varTypes Tryz.prog ++ Tryz.f3.resultTypes.toList).any (Tryz.prog.wideKeysFrom ·)) = true := by kernel_rfl
theorem runsErrors_j19 : (Rows.runsErrorsSpec.vars.all (Tryz.prog.varReadable ·)) = true := by kernel_rfl
theorem runsErrors_j20 : (Tryz.f3.resultTypes.all (fun t => Tryz.prog.readableRec t && decide (t < Tryz.prog.types.size))) = true := by kernel_rfl
theorem runsErrors_j21 : (Rows.runsErrorsRow.ifacesOut == Tryz.f3.resultTypes.toList.any (Tryz.prog.ifacesRec ·)) = true := by kernel_rfl
theorem runsErrors_j22 : (Rows.runsErrorsRow.loopsOut == Tryz.f3.resultTypes.toList.any (Tryz.prog.loopsFrom ·)) = true := by kernel_rfl
theorem runsErrors_j23 : (Rows.runsErrorsRow.plainKeys == Tryz.prog.plainKeys) = true := by kernel_rfl
theorem runsErrors_j24 : Rows.runsErrorsRow.shortTexts.isNone = true := by kernel_rfl
theorem runsErrors_j25 : Tryz.prog.stopsHeard = true := by kernel_rfl
theorem runsErrors_j26 : Tryz.prog.mayEnter = true := by kernel_rfl
theorem runsErrors_j27 : (Rows.runsErrorsRow.lifted == Tryz.prog.liftsFinal) = true := by kernel_rfl
theorem runsErrors_j28 : (Tryz.prog.make == some Rows.runsErrorsRow.make) = true := by kernel_rfl
theorem runsErrors_j29 : (Rows.runsErrorsRow.kinds == (if Rows.runsErrorsRow.domain.isEmpty then [] else Tryz.f3.params.toList.map fun t => match Tryz.prog.underlying t with | some (.int k) => some k | _ => none)) = true := by kernel_rfl
theorem runsErrors_j30 : (Rows.runsErrorsRow.pinned == Rows.runsErrorsRow.pinnedBy) = true := by kernel_rfl
theorem runsErrors_j31 : (Rows.runsErrorsRow.veiled == (Tryz.f3.params.toList ++ Rows.runsErrorsSpec.plain.varTypes Tryz.prog ++ Tryz.f3.resultTypes.toList).any (Tryz.prog.veiledRec ·)) = true := by kernel_rfl
theorem runsErrors_j32 : (Rows.runsErrorsRow.veiledFits Tryz.prog Tryz.f3.params.toList (Tryz.f3.params.toList ++ Rows.runsErrorsSpec.plain.varTypes Tryz.prog ++ Tryz.f3.resultTypes.toList)) = true := by kernel_rfl
theorem runsErrors_facts : joinedFacts Tryz.prog 3 Tryz.f3 Rows.runsErrorsSpec Rows.runsErrorsRow = true := by
 unfold joinedFacts
 exact and_mk (and_mk (and_mk (and_mk (and_mk (and_mk (and_mk (and_mk (and_mk (and_mk (and_mk (and_mk (and_mk (and_mk (and_mk (and_mk (and_mk (and_mk (and_mk (and_mk (and_mk (and_mk (and_mk (and_mk (and_mk (and_mk (and_mk (and_mk (and_mk (and_mk (and_mk runsErrors_j1 runsErrors_j2) runsErrors_j3) runsErrors_j4) runsErrors_j5) runsErrors_j6) runsErrors_j7) runsErrors_j8) runsErrors_j9) runsErrors_j10) runsErrors_j11) runsErrors_j12) runsErrors_j13) runsErrors_j14) runsErrors_j15) runsErrors_j16) runsErrors_j17) runsErrors_j18) runsErrors_j19) runsErrors_j20) runsErrors_j21) runsErrors_j22) runsErrors_j23) runsErrors_j24) runsErrors_j25) runsErrors_j26) runsErrors_j27) runsErrors_j28) runsErrors_j29) runsErrors_j30) runsErrors_j31) runsErrors_j32
theorem runsErrors_named : Tryz.prog.funcNamed "caisson/caissonlaw35.RunsErrors" = some 3 := by kernel_rfl
theorem runsErrors_inst : Tryz.f3.isInstance Tryz.prog Rows.runsErrorsRow.origin Rows.runsErrorsRow.targs := of_decide_eq_true (by kernel_rfl)
theorem runsErrors_wrap : Tryz.f3.isWrapper Tryz.prog Rows.runsErrorsRow.wrapper Rows.runsErrorsRow.mainSum := by unfold Func.isWrapper; first | (rw [if_pos (by decide +kernel)]; kernel_rfl) | (rw [if_neg (by decide +kernel)]; exact ⟨rfl, rfl⟩)
theorem runsErrors_row : Rows.RunsErrorsSaid :=
 OpenClaim.holds_of_wide 3 Tryz.f3 rfl rfl rfl rfl rfl rfl rfl ⟨rfl, rfl, rfl, rfl, rfl⟩ rfl rfl rfl rfl rfl runsErrors_named Tryz.func3 runsErrors_facts runsErrors_inst runsErrors_wrap
  (fun os started H enc _ => runsErrors_lifted os started H enc)
end Go.Proofs.YtjknpcllmmalkaaGreatDoor
