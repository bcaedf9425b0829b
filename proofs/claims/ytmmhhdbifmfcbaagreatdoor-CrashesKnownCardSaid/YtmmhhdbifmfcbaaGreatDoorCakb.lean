/- The row of CrashesKnown. -/
import Derived.Test.YtmmhhdbifmfcbaaGreatDoorCaka
import Derived.ProofKit
import Derived.SizedLaws
import Derived.LaidMore
import Derived.Stop.LaidErr
import Derived.OpenShut
import Derived.Stop.Joined
import Derived.SevenTiedAt
set_option maxRecDepth 4000

namespace Go.Proofs.YtmmhhdbifmfcbaaGreatDoor
open Go.ChangeShapes Go.WideShapes Go.ChangeAt Go.RowKit Go.Deep
theorem and_mk {a b : Bool} (h1 : a = true) (h2 : b = true) : (a && b) = true := by rw [h1, h2]; rfl
theorem crashesKnown_j1 : (Rows.crashesKnownRow.wf (OpenSpec.ofChange Rows.crashesKnownSpec)) = true := by kernel_rfl
theorem crashesKnown_j2 : (laidOutB Tryz.prog) = true := by kernel_rfl
theorem crashesKnown_j3 : (mapsRowed Tryz.prog) = true := by kernel_rfl
theorem crashesKnown_j4 : (Tryz.f3.params.all (Tryz.prog.readableRec ·)) = true := by kernel_rfl
theorem crashesKnown_j5 : (namedTie Tryz.prog Rows.crashesKnownRow.named Rows.crashesKnownSpec.vars) = true := by kernel_rfl
theorem crashesKnown_j6 : (Rows.crashesKnownRow.stops == []) = true := by kernel_rfl
theorem crashesKnown_j7 : (Tryz.prog.stops == []) = true := by kernel_rfl
theorem crashesKnown_j8 : (Rows.crashesKnownRow.knobs == []) = true := by kernel_rfl
theorem crashesKnown_j9 : (Tryz.prog.stopKnobs == []) = true := by kernel_rfl
theorem crashesKnown_j10 : (Rows.crashesKnownRow.inPlace == Tryz.prog.inPlace 3) = true := by kernel_rfl
theorem crashesKnown_j11 : (Rows.crashesKnownRow.unfollowed == Tryz.prog.unfollowed 3) = true := by kernel_rfl
theorem crashesKnown_j12 : (Rows.crashesKnownRow.recurses == Tryz.prog.recurses 3) = true := by kernel_rfl
theorem crashesKnown_j13 : (Rows.crashesKnownRow.named == Tryz.prog.varsNamed 3) = true := by kernel_rfl
theorem crashesKnown_j14 : (Rows.crashesKnownRow.maps == (Tryz.f3.params.toList ++ Rows.crashesKnownSpec.plain.varTypes Tryz.prog).any (Tryz.prog.mapsRec ·)) = true := by kernel_rfl
theorem crashesKnown_j15 : (Rows.crashesKnownRow.ifaces == (Tryz.f3.params.toList ++ Rows.crashesKnownSpec.plain.varTypes Tryz.prog).any (Tryz.prog.ifacesRec ·)) = true := by kernel_rfl
theorem crashesKnown_j16 : (Rows.crashesKnownRow.mapsOut == Tryz.prog.mapsAmong Tryz.f3.resultTypes.toList) = true := by kernel_rfl
theorem crashesKnown_j17 : (Rows.crashesKnownRow.loops == (Tryz.f3.params.toList ++ Rows.crashesKnownSpec.plain.varTypes Tryz.prog).any (Tryz.prog.loopsFrom ·)) = true := by kernel_rfl
theorem crashesKnown_j18 : (Rows.crashesKnownRow.wideKeys == (Tryz.f3.params.toList ++ Rows.crashesKnownSpec.plain.varTypes Tryz.prog ++ Tryz.f3.resultTypes.toList).any (Tryz.prog.wideKeysFrom ·)) = true := by kernel_rfl
theorem crashesKnown_j19 : (Rows.crashesKnownSpec.vars.all (Tryz.prog.varReadable ·)) = true := by kernel_rfl
theorem crashesKnown_j20 : (Tryz.f3.resultTypes.all (fun t => Tryz.prog.readableRec t && decide (t < Tryz.prog.types.size))) = true := by kernel_rfl
theorem crashesKnown_j21 : (Rows.crashesKnownRow.ifacesOut == Tryz.f3.resultTypes.toList.any (Tryz.prog.ifacesRec ·)) = true := by kernel_rfl
theorem crashesKnown_j22 : (Rows.crashesKnownRow.loopsOut == Tryz.f3.resultTypes.toList.any (Tryz.prog.loopsFrom ·)) = true := by kernel_rfl
theorem crashesKnown_j23 : (Rows.crashesKnownRow.plainKeys == Tryz.prog.plainKeys) = true := by kernel_rfl
theorem crashesKnown_j24 : Rows.crashesKnownRow.shortTexts.isNone = true := by kernel_rfl
theorem crashesKnown_j25 : Tryz.prog.stopsHeard = true := by kernel_rfl
theorem crashesKnown_j26 : Tryz.prog.mayEnter = true := by kernel_rfl
theorem crashesKnown_j27 : (Rows.crashesKnownRow.lifted == Tryz.prog.liftsFinal) = true := by kernel_rfl
theorem crashesKnown_j28 : (Tryz.prog.make == some Rows.crashesKnownRow.make) = true := by kernel_rfl
theorem crashesKnown_j29 : (Rows.crashesKnownRow.kinds == (if Rows.crashesKnownRow.domain.isEmpty then [] else Tryz.f3.params.toList.map fun t => match Tryz.prog.underlying t with | some (.int k) => some k | _ => none)) = true := by kernel_rfl
theorem crashesKnown_j30 : (Rows.crashesKnownRow.pinned == Rows.crashesKnownRow.pinnedBy) = true := by kernel_rfl
theorem crashesKnown_j31 : (Rows.crashesKnownRow.veiled == (Tryz.f3.params.toList ++ Rows.crashesKnownSpec.plain.varTypes Tryz.prog ++ Tryz.f3.resultTypes.toList).any (Tryz.prog.veiledRec ·)) = true := by kernel_rfl
theorem crashesKnown_j32 : (Rows.crashesKnownRow.veiledFits Tryz.prog Tryz.f3.params.toList (Tryz.f3.params.toList ++ Rows.crashesKnownSpec.plain.varTypes Tryz.prog ++ Tryz.f3.resultTypes.toList)) = true := by kernel_rfl
theorem crashesKnown_facts : joinedFacts Tryz.prog 3 Tryz.f3 Rows.crashesKnownSpec Rows.crashesKnownRow = true := by
 unfold joinedFacts
 exact and_mk (and_mk (and_mk (and_mk (and_mk (and_mk (and_mk (and_mk (and_mk (and_mk (and_mk (and_mk (and_mk (and_mk (and_mk (and_mk (and_mk (and_mk (and_mk (and_mk (and_mk (and_mk (and_mk (and_mk (and_mk (and_mk (and_mk (and_mk (and_mk (and_mk (and_mk crashesKnown_j1 crashesKnown_j2) crashesKnown_j3) crashesKnown_j4) crashesKnown_j5) crashesKnown_j6) crashesKnown_j7) crashesKnown_j8) crashesKnown_j9) crashesKnown_j10) crashesKnown_j11) crashesKnown_j12) crashesKnown_j13) crashesKnown_j14) crashesKnown_j15) crashesKnown_j16) crashesKnown_j17) crashesKnown_j18) crashesKnown_j19) crashesKnown_j20) crashesKnown_j21) crashesKnown_j22) crashesKnown_j23) crashesKnown_j24) crashesKnown_j25) crashesKnown_j26) crashesKnown_j27) crashesKnown_j28) crashesKnown_j29) crashesKnown_j30) crashesKnown_j31) crashesKnown_j32
theorem crashesKnown_named : Tryz.prog.funcNamed "caisson/caissonlaw37.CrashesKnown" = some 3 := by kernel_rfl
theorem crashesKnown_inst : Tryz.f3.isInstance Tryz.prog Rows.crashesKnownRow.origin Rows.crashesKnownRow.targs := of_decide_eq_true (by kernel_rfl)
theorem crashesKnown_wrap : Tryz.f3.isWrapper Tryz.prog Rows.crashesKnownRow.wrapper Rows.crashesKnownRow.mainSum := by unfold Func.isWrapper; first | (rw [if_pos (by decide +kernel)]; kernel_rfl) | (rw [if_neg (by decide +kernel)]; exact ⟨rfl, rfl⟩)
theorem crashesKnown_row : Rows.CrashesKnownSaid :=
 OpenClaim.holds_of_wide 3 Tryz.f3 rfl rfl rfl rfl rfl rfl rfl ⟨rfl, rfl, rfl, rfl, rfl⟩ rfl rfl rfl rfl rfl crashesKnown_named Tryz.func3 crashesKnown_facts crashesKnown_inst crashesKnown_wrap
  (fun os started H enc _ => crashesKnown_lifted os started H enc)
end Go.Proofs.YtmmhhdbifmfcbaaGreatDoor
