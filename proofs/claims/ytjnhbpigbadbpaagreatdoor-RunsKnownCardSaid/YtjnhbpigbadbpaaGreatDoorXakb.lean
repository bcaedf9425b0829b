/- The row of RunsKnown. -/
import Derived.Test.YtjnhbpigbadbpaaGreatDoorXaka
import Derived.ProofKit
import Derived.SizedLaws
import Derived.LaidMore
import Derived.Stop.LaidErr
import Derived.OpenShut
import Derived.Stop.Joined
import Derived.SevenTiedAt
set_option maxRecDepth 4000

namespace Go.Proofs.YtjnhbpigbadbpaaGreatDoor
open Go.ChangeShapes Go.WideShapes Go.ChangeAt Go.RowKit Go.Deep

theorem and_mk {a b : Bool} (h1 : a = true) (h2 : b = true) : (a && b) = true := by rw [h1, h2]; rfl
theorem runsKnown_j1 : (Rows.runsKnownRow.wf (OpenSpec.ofChange Rows.runsKnownSpec)) = true := by kernel_rfl
theorem runsKnown_j2 : (laidOutB Tryz.prog) = true := by kernel_rfl
theorem runsKnown_j3 : (mapsRowed Tryz.prog) = true := by kernel_rfl
theorem runsKnown_j4 : (Tryz.f3.params.all (Tryz.prog.readableRec ·)) = true := by kernel_rfl
theorem runsKnown_j5 : (namedTie Tryz.prog Rows.runsKnownRow.named Rows.runsKnownSpec.vars) = true := by kernel_rfl
theorem runsKnown_j6 : (Rows.runsKnownRow.stops == []) = true := by kernel_rfl
theorem runsKnown_j7 : (Tryz.prog.stops == []) = true := by kernel_rfl
theorem runsKnown_j8 : (Rows.runsKnownRow.knobs == []) = true := by kernel_rfl
theorem runsKnown_j9 : (Tryz.prog.stopKnobs == []) = true := by kernel_rfl
theorem runsKnown_j10 : (Rows.runsKnownRow.inPlace == Tryz.prog.inPlace 3) = true := by kernel_rfl
theorem runsKnown_j11 : (Rows.runsKnownRow.unfollowed == Tryz.prog.unfollowed 3) = true := by kernel_rfl
theorem runsKnown_j12 : (Rows.runsKnownRow.recurses == Tryz.prog.recurses 3) = true := by kernel_rfl
theorem runsKnown_j13 : (Rows.runsKnownRow.named == Tryz.prog.varsNamed 3) = true := by kernel_rfl
theorem runsKnown_j14 : (Rows.runsKnownRow.maps == (Tryz.f3.params.toList ++ Rows.runsKnownSpec.plain.varTypes Tryz.prog).any (Tryz.prog.mapsRec ·)) = true := by kernel_rfl
theorem runsKnown_j15 : (Rows.runsKnownRow.ifaces == (Tryz.f3.params.toList ++ Rows.runsKnownSpec.plain.varTypes Tryz.prog).any (Tryz.prog.ifacesRec ·)) = true := by kernel_rfl
theorem runsKnown_j16 : (Rows.runsKnownRow.mapsOut == Tryz.prog.mapsAmong Tryz.f3.resultTypes.toList) = true := by kernel_rfl
theorem runsKnown_j17 : (Rows.runsKnownRow.loops == (Tryz.f3.params.toList ++ Rows.runsKnownSpec.plain.varTypes Tryz.prog).any (Tryz.prog.loopsFrom ·)) = true := by kernel_rfl
theorem runsKnown_j18 : (Rows.runsKnownRow.wideKeys == (Tryz.f3.params.toList ++ Rows.runsKnownSpec.plain.varTypes Tryz.prog ++ Tryz.f3.resultTypes.toList).any (Tryz.prog.wideKeysFrom ·)) = true := by kernel_rfl
theorem runsKnown_j19 : (Rows.runsKnownSpec.vars.all (Tryz.prog.varReadable ·)) = true := by kernel_rfl
theorem runsKnown_j20 : (Tryz.f3.resultTypes.all (fun t => Tryz.prog.readableRec t && decide (t < Tryz.prog.types.size))) = true := by kernel_rfl
theorem runsKnown_j21 : (Rows.runsKnownRow.ifacesOut == Tryz.f3.resultTypes.toList.any (Tryz.prog.ifacesRec ·)) = true := by kernel_rfl
theorem runsKnown_j22 : (Rows.runsKnownRow.loopsOut == Tryz.f3.resultTypes.toList.any (Tryz.prog.loopsFrom ·)) = true := by kernel_rfl
theorem runsKnown_j23 : (Rows.runsKnownRow.plainKeys == Tryz.prog.plainKeys) = true := by kernel_rfl
theorem runsKnown_j24 : Rows.runsKnownRow.shortTexts.isNone = true := by kernel_rfl
theorem runsKnown_j25 : Tryz.prog.stopsHeard = true := by kernel_rfl
theorem runsKnown_j26 : Tryz.prog.mayEnter = true := by kernel_rfl
theorem runsKnown_j27 : (Rows.runsKnownRow.lifted == Tryz.prog.liftsFinal) = true := by kernel_rfl
theorem runsKnown_j28 : (Tryz.prog.make == some Rows.runsKnownRow.make) = true := by kernel_rfl
theorem runsKnown_j29 : (Rows.runsKnownRow.kinds == (if Rows.runsKnownRow.domain.isEmpty then [] else Tryz.f3.params.toList.map fun t => match Tryz.prog.underlying t with | some (.int k) => some k | _ => none)) = true := by kernel_rfl
theorem runsKnown_j30 : (Rows.runsKnownRow.pinned == Rows.runsKnownRow.pinnedBy) = true := by kernel_rfl
theorem runsKnown_j31 : (Rows.runsKnownRow.veiled == (Tryz.f3.params.toList ++ Rows.runsKnownSpec.plain.varTypes Tryz.prog ++ Tryz.f3.resultTypes.toList).any (Tryz.prog.veiledRec ·)) = true := by kernel_rfl
theorem runsKnown_j32 : (Rows.runsKnownRow.veiledFits Tryz.prog Tryz.f3.params.toList (Tryz.f3.params.toList ++ Rows.runsKnownSpec.plain.varTypes Tryz.prog ++ Tryz.f3.resultTypes.toList)) = true := by kernel_rfl
theorem runsKnown_facts : joinedFacts Tryz.prog 3 Tryz.f3 Rows.runsKnownSpec Rows.runsKnownRow = true := by
  unfold joinedFacts
  exact and_mk (and_mk (and_mk (and_mk (and_mk (and_mk (and_mk (and_mk (and_mk (and_mk (and_mk (and_mk (and_mk (and_mk (and_mk (and_mk (and_mk (and_mk (and_mk (and_mk (and_mk (and_mk (and_mk (and_mk (and_mk (and_mk (and_mk (and_mk (and_mk (and_mk (and_mk runsKnown_j1 runsKnown_j2) runsKnown_j3) runsKnown_j4) runsKnown_j5) runsKnown_j6) runsKnown_j7) runsKnown_j8) runsKnown_j9) runsKnown_j10) runsKnown_j11) runsKnown_j12) runsKnown_j13) runsKnown_j14) runsKnown_j15) runsKnown_j16) runsKnown_j17) runsKnown_j18) runsKnown_j19) runsKnown_j20) runsKnown_j21) runsKnown_j22) runsKnown_j23) runsKnown_j24) runsKnown_j25) runsKnown_j26) runsKnown_j27) runsKnown_j28) runsKnown_j29) runsKnown_j30) runsKnown_j31) runsKnown_j32
theorem runsKnown_named : Tryz.prog.funcNamed "caisson/caissonlaw35.RunsKnown" = some 3 := by kernel_rfl
theorem runsKnown_inst : Tryz.f3.isInstance Tryz.prog Rows.runsKnownRow.origin Rows.runsKnownRow.targs := of_decide_eq_true (by kernel_rfl)
theorem runsKnown_wrap : Tryz.f3.isWrapper Tryz.prog Rows.runsKnownRow.wrapper Rows.runsKnownRow.mainSum := by unfold Func.isWrapper; first | (rw [if_pos (by decide +kernel)]; kernel_rfl) | (rw [if_neg (by decide +kernel)]; exact ⟨rfl, rfl⟩)
theorem runsKnown_row : Rows.RunsKnownSaid :=
  OpenClaim.holds_of_wide 3 Tryz.f3 rfl rfl rfl rfl rfl rfl rfl ⟨rfl, rfl, rfl, rfl, rfl⟩ rfl rfl rfl rfl rfl runsKnown_named Tryz.func3 runsKnown_facts runsKnown_inst runsKnown_wrap
    (fun os started H enc _ => runsKnown_lifted os started H enc)
end Go.Proofs.YtjnhbpigbadbpaaGreatDoor
