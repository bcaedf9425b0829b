/- The row of AuditsKnown. -/
import Derived.Test.YtiobmlbnfmeacaaGreatDoorHaka
import Derived.ProofKit
import Derived.SizedLaws
import Derived.LaidMore
import Derived.Stop.LaidErr
import Derived.OpenShut
import Derived.Stop.Joined
import Derived.SevenTiedAt
set_option maxRecDepth 4000

namespace Go.Proofs.YtiobmlbnfmeacaaGreatDoor
open Go.ChangeShapes Go.WideShapes Go.ChangeAt Go.RowKit Go.Deep
theorem and_mk {a b : Bool} (h1 : a = true) (h2 : b = true) : (a && b) = true := by rw [h1, h2]; rfl
theorem auditsKnown_j1 : (Rows.auditsKnownRow.wf (OpenSpec.ofChange Rows.auditsKnownSpec)) = true := by kernel_rfl
theorem auditsKnown_j2 : (laidOutB Tryz.prog) = true := by kernel_rfl
theorem auditsKnown_j3 : (mapsRowed Tryz.prog) = true := by kernel_rfl
theorem auditsKnown_j4 : (Tryz.f3.params.all (Tryz.prog.readableRec ·)) = true := by kernel_rfl
theorem auditsKnown_j5 : (namedTie Tryz.prog Rows.auditsKnownRow.named Rows.auditsKnownSpec.vars) = true := by kernel_rfl
theorem auditsKnown_j6 : (Rows.auditsKnownRow.stops == []) = true := by kernel_rfl
theorem auditsKnown_j7 : (Tryz.prog.stops == []) = true := by kernel_rfl
theorem auditsKnown_j8 : (Rows.auditsKnownRow.knobs == []) = true := by kernel_rfl
theorem auditsKnown_j9 : (Tryz.prog.stopKnobs == []) = true := by kernel_rfl
theorem auditsKnown_j10 : (Rows.auditsKnownRow.inPlace == Tryz.prog.inPlace 3) = true := by kernel_rfl
theorem auditsKnown_j11 : (Rows.auditsKnownRow.unfollowed == Tryz.prog.unfollowed 3) = true := by kernel_rfl
theorem auditsKnown_j12 : (Rows.auditsKnownRow.recurses == Tryz.prog.recurses 3) = true := by kernel_rfl
theorem auditsKnown_j13 : (Rows.auditsKnownRow.named == Tryz.prog.varsNamed 3) = true := by kernel_rfl
theorem auditsKnown_j14 : (Rows.auditsKnownRow.maps == (Tryz.f3.params.toList ++ Rows.auditsKnownSpec.plain.varTypes Tryz.prog).any (Tryz.prog.mapsRec ·)) = true := by kernel_rfl
theorem auditsKnown_j15 : (Rows.auditsKnownRow.ifaces == (Tryz.f3.params.toList ++ Rows.auditsKnownSpec.plain.varTypes Tryz.prog).any (Tryz.prog.ifacesRec ·)) = true := by kernel_rfl
theorem auditsKnown_j16 : (Rows.auditsKnownRow.mapsOut == Tryz.prog.mapsAmong Tryz.f3.resultTypes.toList) = true := by kernel_rfl
theorem auditsKnown_j17 : (Rows.auditsKnownRow.loops == (Tryz.f3.params.toList ++ Rows.auditsKnownSpec.plain.varTypes Tryz.prog).any (Tryz.prog.loopsFrom ·)) = true := by kernel_rfl
theorem auditsKnown_j18 : (Rows.auditsKnownRow.wideKeys == (Tryz.f3.params.toList ++ Rows.auditsKnownSpec.plain.varTypes Tryz.prog ++ Tryz.f3.resultTypes.toList).any (Tryz.prog.wideKeysFrom ·)) = true := by kernel_rfl
theorem auditsKnown_j19 : (Rows.auditsKnownSpec.vars.all (Tryz.prog.varReadable ·)) = true := by kernel_rfl
theorem auditsKnown_j20 : (Tryz.f3.resultTypes.all (fun t => Tryz.prog.readableRec t && decide (t < Tryz.prog.types.size))) = true := by kernel_rfl
theorem auditsKnown_j21 : (Rows.auditsKnownRow.ifacesOut == Tryz.f3.resultTypes.toList.any (Tryz.prog.ifacesRec ·)) = true := by kernel_rfl
theorem auditsKnown_j22 : (Rows.auditsKnownRow.loopsOut == Tryz.f3.resultTypes.toList.any (Tryz.prog.loopsFrom ·)) = true := by kernel_rfl
theorem auditsKnown_j23 : (Rows.auditsKnownRow.plainKeys == Tryz.prog.plainKeys) = true := by kernel_rfl
theorem auditsKnown_j24 : Rows.auditsKnownRow.shortTexts.isNone = true := by kernel_rfl
theorem auditsKnown_j25 : Tryz.prog.stopsHeard = true := by kernel_rfl
theorem auditsKnown_j26 : Tryz.prog.mayEnter = true := by kernel_rfl
theorem auditsKnown_j27 : (Rows.auditsKnownRow.lifted == Tryz.prog.liftsFinal) = true := by kernel_rfl
theorem auditsKnown_j28 : (Tryz.prog.make == some Rows.auditsKnownRow.make) = true := by kernel_rfl
theorem auditsKnown_j29 : (Rows.auditsKnownRow.kinds == (if Rows.auditsKnownRow.domain.isEmpty then [] else Tryz.f3.params.toList.map fun t => match Tryz.prog.underlying t with | some (.int k) => some k | _ => none)) = true := by kernel_rfl
theorem auditsKnown_j30 : (Rows.auditsKnownRow.pinned == Rows.auditsKnownRow.pinnedBy) = true := by kernel_rfl
theorem auditsKnown_j31 : (Rows.auditsKnownRow.veiled == (Tryz.f3.params.toList ++ Rows.auditsKnownSpec.plain.varTypes Tryz.prog ++ Tryz.f3.resultTypes.toList).any (Tryz.prog.veiledRec ·)) = true := by kernel_rfl
theorem auditsKnown_j32 : (Rows.auditsKnownRow.veiledFits Tryz.prog Tryz.f3.params.toList (Tryz.f3.params.toList ++ Rows.auditsKnownSpec.plain.varTypes Tryz.prog ++ Tryz.f3.resultTypes.toList)) = true := by kernel_rfl
theorem auditsKnown_facts : joinedFacts Tryz.prog 3 Tryz.f3 Rows.auditsKnownSpec Rows.auditsKnownRow = true := by
 unfold joinedFacts
 exact and_mk (and_mk (and_mk (and_mk (and_mk (and_mk (and_mk (and_mk (and_mk (and_mk (and_mk (and_mk (and_mk (and_mk (and_mk (and_mk (and_mk (and_mk (and_mk (and_mk (and_mk (and_mk (and_mk (and_mk (and_mk (and_mk (and_mk (and_mk (and_mk (and_mk (and_mk auditsKnown_j1 auditsKnown_j2) auditsKnown_j3) auditsKnown_j4) auditsKnown_j5) auditsKnown_j6) auditsKnown_j7) auditsKnown_j8) auditsKnown_j9) auditsKnown_j10) auditsKnown_j11) auditsKnown_j12) auditsKnown_j13) auditsKnown_j14) auditsKnown_j15) auditsKnown_j16) auditsKnown_j17) auditsKnown_j18) auditsKnown_j19) auditsKnown_j20) auditsKnown_j21) auditsKnown_j22) auditsKnown_j23) auditsKnown_j24) auditsKnown_j25) auditsKnown_j26) auditsKnown_j27) auditsKnown_j28) auditsKnown_j29) auditsKnown_j30) auditsKnown_j31) auditsKnown_j32
theorem auditsKnown_named : Tryz.prog.funcNamed "caisson/caissonlaw44.AuditsKnown" = some 3 := by kernel_rfl
theorem auditsKnown_inst : Tryz.f3.isInstance Tryz.prog Rows.auditsKnownRow.origin Rows.auditsKnownRow.targs := of_decide_eq_true (by kernel_rfl)
theorem auditsKnown_wrap : Tryz.f3.isWrapper Tryz.prog Rows.auditsKnownRow.wrapper Rows.auditsKnownRow.mainSum := by unfold Func.isWrapper; first | (rw [if_pos (by decide +kernel)]; kernel_rfl) | (rw [if_neg (by decide +kernel)]; exact ⟨rfl, rfl⟩)
theorem auditsKnown_row : Rows.AuditsKnownSaid :=
 OpenClaim.holds_of_wide 3 Tryz.f3 rfl rfl rfl rfl rfl rfl rfl ⟨rfl, rfl, rfl, rfl, rfl⟩ rfl rfl rfl rfl rfl auditsKnown_named Tryz.func3 auditsKnown_facts auditsKnown_inst auditsKnown_wrap
  (fun os started H enc _ => auditsKnown_lifted os started H enc)
end Go.Proofs.YtiobmlbnfmeacaaGreatDoor
