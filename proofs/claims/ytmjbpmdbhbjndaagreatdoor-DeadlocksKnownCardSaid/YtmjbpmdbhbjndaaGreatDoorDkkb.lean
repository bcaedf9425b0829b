/- The row of DeadlocksKnown. -/
import Derived.Test.YtmjbpmdbhbjndaaGreatDoorDkka
import Derived.ProofKit
import Derived.SizedLaws
import Derived.LaidMore
import Derived.Stop.LaidErr
import Derived.OpenShut
import Derived.Stop.Joined
import Derived.SevenTiedAt
set_option maxRecDepth 4000

namespace Go.Proofs.YtmjbpmdbhbjndaaGreatDoor
open Go.ChangeShapes Go.WideShapes Go.ChangeAt Go.RowKit Go.Deep
theorem and_mk {a b : Bool} (h1 : a = true) (h2 : b = true) : (a && b) = true := by rw [h1, h2]; rfl
theorem deadlocksKnown_j1 : (Rows.deadlocksKnownRow.wf (OpenSpec.ofChange Rows.deadlocksKnownSpec)) = true := by kernel_rfl
theorem deadlocksKnown_j2 : (laidOutB Tryz.prog) = true := by kernel_rfl
theorem deadlocksKnown_j3 : (mapsRowed Tryz.prog) = true := by kernel_rfl
theorem deadlocksKnown_j4 : (Tryz.f3.params.all (Tryz.prog.readableRec ·)) = true := by kernel_rfl
theorem deadlocksKnown_j5 : (namedTie Tryz.prog Rows.deadlocksKnownRow.named Rows.deadlocksKnownSpec.vars) = true := by kernel_rfl
theorem deadlocksKnown_j6 : (Rows.deadlocksKnownRow.stops == []) = true := by kernel_rfl
theorem deadlocksKnown_j7 : (Tryz.prog.stops == []) = true := by kernel_rfl
theorem deadlocksKnown_j8 : (Rows.deadlocksKnownRow.knobs == []) = true := by kernel_rfl
theorem deadlocksKnown_j9 : (Tryz.prog.stopKnobs == []) = true := by kernel_rfl
theorem deadlocksKnown_j10 : (Rows.deadlocksKnownRow.inPlace == Tryz.prog.inPlace 3) = true := by kernel_rfl
theorem deadlocksKnown_j11 : (Rows.deadlocksKnownRow.unfollowed == Tryz.prog.unfollowed 3) = true := by kernel_rfl
theorem deadlocksKnown_j12 : (Rows.deadlocksKnownRow.recurses == Tryz.prog.recurses 3) = true := by kernel_rfl
theorem deadlocksKnown_j13 : (Rows.deadlocksKnownRow.named == Tryz.prog.varsNamed 3) = true := by kernel_rfl
theorem deadlocksKnown_j14 : (Rows.deadlocksKnownRow.maps == (Tryz.f3.params.toList ++ Rows.deadlocksKnownSpec.plain.varTypes Tryz.prog).any (Tryz.prog.mapsRec ·)) = true := by kernel_rfl
theorem deadlocksKnown_j15 : (Rows.deadlocksKnownRow.ifaces == (Tryz.f3.params.toList ++ Rows.deadlocksKnownSpec.plain.varTypes Tryz.prog).any (Tryz.prog.ifacesRec ·)) = true := by kernel_rfl
theorem deadlocksKnown_j16 : (Rows.deadlocksKnownRow.mapsOut == Tryz.prog.mapsAmong Tryz.f3.resultTypes.toList) = true := by kernel_rfl
theorem deadlocksKnown_j17 : (Rows.deadlocksKnownRow.loops == (Tryz.f3.params.toList ++ Rows.deadlocksKnownSpec.plain.varTypes Tryz.prog).any (Tryz.prog.loopsFrom ·)) = true := by kernel_rfl
theorem deadlocksKnown_j18 : (Rows.deadlocksKnownRow.wideKeys == (Tryz.f3.params.toList ++ Rows.deadlocksKnownSpec.plain.varTypes Tryz.prog ++ Tryz.f3.resultTypes.toList).any (Tryz.prog.wideKeysFrom ·)) = true := by kernel_rfl
theorem deadlocksKnown_j19 : (Rows.deadlocksKnownSpec.vars.all (Tryz.prog.varReadable ·)) = true := by kernel_rfl
theorem deadlocksKnown_j20 : (Tryz.f3.resultTypes.all (fun t => Tryz.prog.readableRec t && decide (t < Tryz.prog.types.size))) = true := by kernel_rfl
theorem deadlocksKnown_j21 : (Rows.deadlocksKnownRow.ifacesOut == Tryz.f3.resultTypes.toList.any (Tryz.prog.ifacesRec ·)) = true := by kernel_rfl
theorem deadlocksKnown_j22 : (Rows.deadlocksKnownRow.loopsOut == Tryz.f3.resultTypes.toList.any (Tryz.prog.loopsFrom ·)) = true := by kernel_rfl
theorem deadlocksKnown_j23 : (Rows.deadlocksKnownRow.plainKeys == Tryz.prog.plainKeys) = true := by kernel_rfl
theorem deadlocksKnown_j24 : Rows.deadlocksKnownRow.shortTexts.isNone = true := by kernel_rfl
theorem deadlocksKnown_j25 : Tryz.prog.stopsHeard = true := by kernel_rfl
theorem deadlocksKnown_j26 : Tryz.prog.mayEnter = true := by kernel_rfl
theorem deadlocksKnown_j27 : (Rows.deadlocksKnownRow.lifted == Tryz.prog.liftsFinal) = true := by kernel_rfl
theorem deadlocksKnown_j28 : (Tryz.prog.make == some Rows.deadlocksKnownRow.make) = true := by kernel_rfl
theorem deadlocksKnown_j29 : (Rows.deadlocksKnownRow.kinds == (if Rows.deadlocksKnownRow.domain.isEmpty then [] else Tryz.f3.params.toList.map fun t => match Tryz.prog.underlying t with | some (.int k) => some k | _ => none)) = true := by kernel_rfl
theorem deadlocksKnown_j30 : (Rows.deadlocksKnownRow.pinned == Rows.deadlocksKnownRow.pinnedBy) = true := by kernel_rfl
theorem deadlocksKnown_j31 : (Rows.deadlocksKnownRow.veiled == (Tryz.f3.params.toList ++ Rows.deadlocksKnownSpec.plain.varTypes Tryz.prog ++ Tryz.f3.resultTypes.toList).any (Tryz.prog.veiledRec ·)) = true := by kernel_rfl
theorem deadlocksKnown_j32 : (Rows.deadlocksKnownRow.veiledFits Tryz.prog Tryz.f3.params.toList (Tryz.f3.params.toList ++ Rows.deadlocksKnownSpec.plain.varTypes Tryz.prog ++ Tryz.f3.resultTypes.toList)) = true := by kernel_rfl
theorem deadlocksKnown_facts : joinedFacts Tryz.prog 3 Tryz.f3 Rows.deadlocksKnownSpec Rows.deadlocksKnownRow = true := by
 unfold joinedFacts
 exact and_mk (and_mk (and_mk (and_mk (and_mk (and_mk (and_mk (and_mk (and_mk (and_mk (and_mk (and_mk (and_mk (and_mk (and_mk (and_mk (and_mk (and_mk (and_mk (and_mk (and_mk (and_mk (and_mk (and_mk (and_mk (and_mk (and_mk (and_mk (and_mk (and_mk (and_mk deadlocksKnown_j1 deadlocksKnown_j2) deadlocksKnown_j3) deadlocksKnown_j4) deadlocksKnown_j5) deadlocksKnown_j6) deadlocksKnown_j7) deadlocksKnown_j8) deadlocksKnown_j9) deadlocksKnown_j10) deadlocksKnown_j11) deadlocksKnown_j12) deadlocksKnown_j13) deadlocksKnown_j14) deadlocksKnown_j15) deadlocksKnown_j16) deadlocksKnown_j17) deadlocksKnown_j18) deadlocksKnown_j19) deadlocksKnown_j20) deadlocksKnown_j21) deadlocksKnown_j22) deadlocksKnown_j23) deadlocksKnown_j24) deadlocksKnown_j25) deadlocksKnown_j26) deadlocksKnown_j27) deadlocksKnown_j28) deadlocksKnown_j29) deadlocksKnown_j30) deadlocksKnown_j31) deadlocksKnown_j32
theorem deadlocksKnown_named : Tryz.prog.funcNamed "caisson/caissonlaw40.DeadlocksKnown" = some 3 := by kernel_rfl
theorem deadlocksKnown_inst : Tryz.f3.isInstance Tryz.prog Rows.deadlocksKnownRow.origin Rows.deadlocksKnownRow.targs := of_decide_eq_true (by kernel_rfl)
theorem deadlocksKnown_wrap : Tryz.f3.isWrapper Tryz.prog Rows.deadlocksKnownRow.wrapper Rows.deadlocksKnownRow.mainSum := by unfold Func.isWrapper; first | (rw [if_pos (by decide +kernel)]; kernel_rfl) | (rw [if_neg (by decide +kernel)]; exact ⟨rfl, rfl⟩)
theorem deadlocksKnown_row : Rows.DeadlocksKnownSaid :=
 OpenClaim.holds_of_wide 3 Tryz.f3 rfl rfl rfl rfl rfl rfl rfl ⟨rfl, rfl, rfl, rfl, rfl⟩ rfl rfl rfl rfl rfl deadlocksKnown_named Tryz.func3 deadlocksKnown_facts deadlocksKnown_inst deadlocksKnown_wrap
  (fun os started H enc _ => deadlocksKnown_lifted os started H enc)
end Go.Proofs.YtmjbpmdbhbjndaaGreatDoor
