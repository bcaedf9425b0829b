/- The row of FairsKnown. -/
import Derived.Test.YtkijagaocalkhaaGreatDoorFka
import Derived.ProofKit
import Derived.SizedLaws
import Derived.LaidMore
import Derived.Stop.LaidErr
import Derived.OpenShut
import Derived.Stop.Joined
import Derived.SevenTiedAt
set_option maxRecDepth 4000

namespace Go.Proofs.YtkijagaocalkhaaGreatDoor
open Go.ChangeShapes Go.WideShapes Go.ChangeAt Go.RowKit Go.Deep

theorem and_mk {a b : Bool} (h1 : a = true) (h2 : b = true) : (a && b) = true := by rw [h1, h2]; rfl
theorem fairsKnown_j1 : (Rows.fairsKnownRow.wf (OpenSpec.ofChange Rows.fairsKnownSpec)) = true := by kernel_rfl
theorem fairsKnown_j2 : (laidOutB Tryz.prog) = true := by kernel_rfl
theorem fairsKnown_j3 : (mapsRowed Tryz.prog) = true := by kernel_rfl
theorem fairsKnown_j4 : (Tryz.f4.params.all (Tryz.prog.readableRec ·)) = true := by kernel_rfl
theorem fairsKnown_j5 : (namedTie Tryz.prog Rows.fairsKnownRow.named Rows.fairsKnownSpec.vars) = true := by kernel_rfl
theorem fairsKnown_j6 : (Rows.fairsKnownRow.stops == []) = true := by kernel_rfl
theorem fairsKnown_j7 : (Tryz.prog.stops == []) = true := by kernel_rfl
theorem fairsKnown_j8 : (Rows.fairsKnownRow.knobs == []) = true := by kernel_rfl
theorem fairsKnown_j9 : (Tryz.prog.stopKnobs == []) = true := by kernel_rfl
theorem fairsKnown_j10 : (Rows.fairsKnownRow.inPlace == Tryz.prog.inPlace 4) = true := by kernel_rfl
theorem fairsKnown_j11 : (Rows.fairsKnownRow.unfollowed == Tryz.prog.unfollowed 4) = true := by kernel_rfl
theorem fairsKnown_j12 : (Rows.fairsKnownRow.recurses == Tryz.prog.recurses 4) = true := by kernel_rfl
theorem fairsKnown_j13 : (Rows.fairsKnownRow.named == Tryz.prog.varsNamed 4) = true := by kernel_rfl
theorem fairsKnown_j14 : (Rows.fairsKnownRow.maps == (Tryz.f4.params.toList ++ Rows.fairsKnownSpec.plain.varTypes Tryz.prog).any (Tryz.prog.mapsRec ·)) = true := by kernel_rfl
theorem fairsKnown_j15 : (Rows.fairsKnownRow.ifaces == (Tryz.f4.params.toList ++ Rows.fairsKnownSpec.plain.varTypes Tryz.prog).any (Tryz.prog.ifacesRec ·)) = true := by kernel_rfl
theorem fairsKnown_j16 : (Rows.fairsKnownRow.mapsOut == Tryz.prog.mapsAmong Tryz.f4.resultTypes.toList) = true := by kernel_rfl
theorem fairsKnown_j17 : (Rows.fairsKnownRow.loops == (Tryz.f4.params.toList ++ Rows.fairsKnownSpec.plain.varTypes Tryz.prog).any (Tryz.prog.loopsFrom ·)) = true := by kernel_rfl
theorem fairsKnown_j18 : (Rows.fairsKnownRow.wideKeys == (Tryz.f4.params.toList ++ Rows.fairsKnownSpec.plain.varTypes Tryz.prog ++ Tryz.f4.resultTypes.toList).any (Tryz.prog.wideKeysFrom ·)) = true := by kernel_rfl
theorem fairsKnown_j19 : (Rows.fairsKnownSpec.vars.all (Tryz.prog.varReadable ·)) = true := by kernel_rfl
theorem fairsKnown_j20 : (Tryz.f4.resultTypes.all (fun t => Tryz.prog.readableRec t && decide (t < Tryz.prog.types.size))) = true := by kernel_rfl
theorem fairsKnown_j21 : (Rows.fairsKnownRow.ifacesOut == Tryz.f4.resultTypes.toList.any (Tryz.prog.ifacesRec ·)) = true := by kernel_rfl
theorem fairsKnown_j22 : (Rows.fairsKnownRow.loopsOut == Tryz.f4.resultTypes.toList.any (Tryz.prog.loopsFrom ·)) = true := by kernel_rfl
theorem fairsKnown_j23 : (Rows.fairsKnownRow.plainKeys == Tryz.prog.plainKeys) = true := by kernel_rfl
theorem fairsKnown_j24 : Rows.fairsKnownRow.shortTexts.isNone = true := by kernel_rfl
theorem fairsKnown_j25 : Tryz.prog.stopsHeard = true := by kernel_rfl
theorem fairsKnown_j26 : Tryz.prog.mayEnter = true := by kernel_rfl
theorem fairsKnown_j27 : (Rows.fairsKnownRow.lifted == Tryz.prog.liftsFinal) = true := by kernel_rfl
theorem fairsKnown_j28 : (Tryz.prog.make == some Rows.fairsKnownRow.make) = true := by kernel_rfl
theorem fairsKnown_j29 : (Rows.fairsKnownRow.kinds == (if Rows.fairsKnownRow.domain.isEmpty then [] else Tryz.f4.params.toList.map fun t => match Tryz.prog.underlying t with | some (.int k) => some k | _ => none)) = true := by kernel_rfl
theorem fairsKnown_j30 : (Rows.fairsKnownRow.pinned == Rows.fairsKnownRow.pinnedBy) = true := by kernel_rfl
theorem fairsKnown_j31 : (Rows.fairsKnownRow.veiled == (Tryz.f4.params.toList ++ Rows.fairsKnownSpec.plain.varTypes Tryz.prog ++ Tryz.f4.resultTypes.toList).any (Tryz.prog.veiledRec ·)) = true := by kernel_rfl
theorem fairsKnown_j32 : (Rows.fairsKnownRow.veiledFits Tryz.prog Tryz.f4.params.toList (Tryz.f4.params.toList ++ Rows.fairsKnownSpec.plain.varTypes Tryz.prog ++ Tryz.f4.resultTypes.toList)) = true := by kernel_rfl
theorem fairsKnown_facts : joinedFacts Tryz.prog 4 Tryz.f4 Rows.fairsKnownSpec Rows.fairsKnownRow = true := by
  unfold joinedFacts
  exact and_mk (and_mk (and_mk (and_mk (and_mk (and_mk (and_mk (and_mk (and_mk (and_mk (and_mk (and_mk (and_mk (and_mk (and_mk (and_mk (and_mk (and_mk (and_mk (and_mk (and_mk (and_mk (and_mk (and_mk (and_mk (and_mk (and_mk (and_mk (and_mk (and_mk (and_mk fairsKnown_j1 fairsKnown_j2) fairsKnown_j3) fairsKnown_j4) fairsKnown_j5) fairsKnown_j6) fairsKnown_j7) fairsKnown_j8) fairsKnown_j9) fairsKnown_j10) fairsKnown_j11) fairsKnown_j12) fairsKnown_j13) fairsKnown_j14) fairsKnown_j15) fairsKnown_j16) fairsKnown_j17) fairsKnown_j18) fairsKnown_j19) fairsKnown_j20) fairsKnown_j21) fairsKnown_j22) fairsKnown_j23) fairsKnown_j24) fairsKnown_j25) fairsKnown_j26) fairsKnown_j27) fairsKnown_j28) fairsKnown_j29) fairsKnown_j30) fairsKnown_j31) fairsKnown_j32
theorem fairsKnown_named : Tryz.prog.funcNamed "caisson/caissonlaw39.FairsKnown" = some 4 := by kernel_rfl
theorem fairsKnown_inst : Tryz.f4.isInstance Tryz.prog Rows.fairsKnownRow.origin Rows.fairsKnownRow.targs := of_decide_eq_true (by kernel_rfl)
theorem fairsKnown_wrap : Tryz.f4.isWrapper Tryz.prog Rows.fairsKnownRow.wrapper Rows.fairsKnownRow.mainSum := by unfold Func.isWrapper; first | (rw [if_pos (by decide +kernel)]; kernel_rfl) | (rw [if_neg (by decide +kernel)]; exact ⟨rfl, rfl⟩)
theorem fairsKnown_row : Rows.FairsKnownSaid :=
  OpenClaim.holds_of_wide 4 Tryz.f4 rfl rfl rfl rfl rfl rfl rfl ⟨rfl, rfl, rfl, rfl, rfl⟩ rfl rfl rfl rfl rfl fairsKnown_named Tryz.func4 fairsKnown_facts fairsKnown_inst fairsKnown_wrap
    (fun os started H enc _ => fairsKnown_lifted os started H enc)
end Go.Proofs.YtkijagaocalkhaaGreatDoor
