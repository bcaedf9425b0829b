/- The row of MutantsKnown. -/
import Derived.Test.YtbkpgmlibiclfaaGreatDoorMkka
import Derived.ProofKit
import Derived.SizedLaws
import Derived.LaidMore
import Derived.Stop.LaidErr
import Derived.OpenShut
import Derived.Stop.Joined
import Derived.SevenTiedAt
set_option maxRecDepth 4000

namespace Go.Proofs.YtbkpgmlibiclfaaGreatDoor
open Go.ChangeShapes Go.WideShapes Go.ChangeAt Go.RowKit Go.Deep
theorem and_mk {a b : Bool} (h1 : a = true) (h2 : b = true) : (a && b) = true := by rw [h1, h2]; rfl
theorem mutantsKnown_j1 : (Rows.mutantsKnownRow.wf (OpenSpec.ofChange Rows.mutantsKnownSpec)) = true := by kernel_rfl
theorem mutantsKnown_j2 : (laidOutB Tryz.prog) = true := by kernel_rfl
theorem mutantsKnown_j3 : (mapsRowed Tryz.prog) = true := by kernel_rfl
theorem mutantsKnown_j4 : (Tryz.f3.params.all (Tryz.prog.readableRec ·)) = true := by kernel_rfl
theorem mutantsKnown_j5 : (namedTie Tryz.prog Rows.mutantsKnownRow.named Rows.mutantsKnownSpec.vars) = true := by kernel_rfl
theorem mutantsKnown_j6 : (Rows.mutantsKnownRow.stops == []) = true := by kernel_rfl
theorem mutantsKnown_j7 : (Tryz.prog.stops == []) = true := by kernel_rfl
theorem mutantsKnown_j8 : (Rows.mutantsKnownRow.knobs == []) = true := by kernel_rfl
theorem mutantsKnown_j9 : (Tryz.prog.stopKnobs == []) = true := by kernel_rfl
theorem mutantsKnown_j10 : (Rows.mutantsKnownRow.inPlace == Tryz.prog.inPlace 3) = true := by kernel_rfl
theorem mutantsKnown_j11 : (Rows.mutantsKnownRow.unfollowed == Tryz.prog.unfollowed 3) = true := by kernel_rfl
theorem mutantsKnown_j12 : (Rows.mutantsKnownRow.recurses == Tryz.prog.recurses 3) = true := by kernel_rfl
theorem mutantsKnown_j13 : (Rows.mutantsKnownRow.named == Tryz.prog.varsNamed 3) = true := by kernel_rfl
theorem mutantsKnown_j14 : (Rows.mutantsKnownRow.maps == (Tryz.f3.params.toList ++ Rows.mutantsKnownSpec.plain.varTypes Tryz.prog).any (Tryz.prog.mapsRec ·)) = true := by kernel_rfl
theorem mutantsKnown_j15 : (Rows.mutantsKnownRow.ifaces == (Tryz.f3.params.toList ++ Rows.mutantsKnownSpec.plain.varTypes Tryz.prog).any (Tryz.prog.ifacesRec ·)) = true := by kernel_rfl
theorem mutantsKnown_j16 : (Rows.mutantsKnownRow.mapsOut == Tryz.prog.mapsAmong Tryz.f3.resultTypes.toList) = true := by kernel_rfl
theorem mutantsKnown_j17 : (Rows.mutantsKnownRow.loops == (Tryz.f3.params.toList ++ Rows.mutantsKnownSpec.plain.varTypes Tryz.prog).any (Tryz.prog.loopsFrom ·)) = true := by kernel_rfl
theorem mutantsKnown_j18 : (Rows.mutantsKnownRow.wideKeys == (Tryz.f3.params.toList ++ Rows.mutantsKnownSpec.plain.varTypes Tryz.prog ++ Tryz.f3.resultTypes.toList).any (Tryz.prog.wideKeysFrom ·)) = true := by kernel_rfl
theorem mutantsKnown_j19 : (Rows.mutantsKnownSpec.vars.all (Tryz.prog.varReadable ·)) = true := by kernel_rfl
theorem mutantsKnown_j20 : (Tryz.f3.resultTypes.all (fun t => Tryz.prog.readableRec t && decide (t < Tryz.prog.types.size))) = true := by kernel_rfl
theorem mutantsKnown_j21 : (Rows.mutantsKnownRow.ifacesOut == Tryz.f3.resultTypes.toList.any (Tryz.prog.ifacesRec ·)) = true := by kernel_rfl
theorem mutantsKnown_j22 : (Rows.mutantsKnownRow.loopsOut == Tryz.f3.resultTypes.toList.any (Tryz.prog.loopsFrom ·)) = true := by kernel_rfl
theorem mutantsKnown_j23 : (Rows.mutantsKnownRow.plainKeys == Tryz.prog.plainKeys) = true := by kernel_rfl
theorem mutantsKnown_j24 : Rows.mutantsKnownRow.shortTexts.isNone = true := by kernel_rfl
theorem mutantsKnown_j25 : Tryz.prog.stopsHeard = true := by kernel_rfl
theorem mutantsKnown_j26 : Tryz.prog.mayEnter = true := by kernel_rfl
theorem mutantsKnown_j27 : (Rows.mutantsKnownRow.lifted == Tryz.prog.liftsFinal) = true := by kernel_rfl
theorem mutantsKnown_j28 : (Tryz.prog.make == some Rows.mutantsKnownRow.make) = true := by kernel_rfl
theorem mutantsKnown_j29 : (Rows.mutantsKnownRow.kinds == (if Rows.mutantsKnownRow.domain.isEmpty then [] else Tryz.f3.params.toList.map fun t => match Tryz.prog.underlying t with | some (.int k) => some k | _ => none)) = true := by kernel_rfl
theorem mutantsKnown_j30 : (Rows.mutantsKnownRow.pinned == Rows.mutantsKnownRow.pinnedBy) = true := by kernel_rfl
theorem mutantsKnown_j31 : (Rows.mutantsKnownRow.veiled == (Tryz.f3.params.toList ++ Rows.mutantsKnownSpec.plain.varTypes Tryz.prog ++ Tryz.f3.resultTypes.toList).any (Tryz.prog.veiledRec ·)) = true := by kernel_rfl
theorem mutantsKnown_j32 : (Rows.mutantsKnownRow.veiledFits Tryz.prog Tryz.f3.params.toList (Tryz.f3.params.toList ++ Rows.mutantsKnownSpec.plain.varTypes Tryz.prog ++ Tryz.f3.resultTypes.toList)) = true := by kernel_rfl
theorem mutantsKnown_facts : joinedFacts Tryz.prog 3 Tryz.f3 Rows.mutantsKnownSpec Rows.mutantsKnownRow = true := by
 unfold joinedFacts
 exact and_mk (and_mk (and_mk (and_mk (and_mk (and_mk (and_mk (and_mk (and_mk (and_mk (and_mk (and_mk (and_mk (and_mk (and_mk (and_mk (and_mk (and_mk (and_mk (and_mk (and_mk (and_mk (and_mk (and_mk (and_mk (and_mk (and_mk (and_mk (and_mk (and_mk (and_mk mutantsKnown_j1 mutantsKnown_j2) mutantsKnown_j3) mutantsKnown_j4) mutantsKnown_j5) mutantsKnown_j6) mutantsKnown_j7) mutantsKnown_j8) mutantsKnown_j9) mutantsKnown_j10) mutantsKnown_j11) mutantsKnown_j12) mutantsKnown_j13) mutantsKnown_j14) mutantsKnown_j15) mutantsKnown_j16) mutantsKnown_j17) mutantsKnown_j18) mutantsKnown_j19) mutantsKnown_j20) mutantsKnown_j21) mutantsKnown_j22) mutantsKnown_j23) mutantsKnown_j24) mutantsKnown_j25) mutantsKnown_j26) mutantsKnown_j27) mutantsKnown_j28) mutantsKnown_j29) mutantsKnown_j30) mutantsKnown_j31) mutantsKnown_j32
theorem mutantsKnown_named : Tryz.prog.funcNamed "caisson/caissonlaw42.MutantsKnown" = some 3 := by kernel_rfl
theorem mutantsKnown_inst : Tryz.f3.isInstance Tryz.prog Rows.mutantsKnownRow.origin Rows.mutantsKnownRow.targs := of_decide_eq_true (by kernel_rfl)
theorem mutantsKnown_wrap : Tryz.f3.isWrapper Tryz.prog Rows.mutantsKnownRow.wrapper Rows.mutantsKnownRow.mainSum := by unfold Func.isWrapper; first | (rw [if_pos (by decide +kernel)]; kernel_rfl) | (rw [if_neg (by decide +kernel)]; exact ⟨rfl, rfl⟩)
theorem mutantsKnown_row : Rows.MutantsKnownSaid :=
 OpenClaim.holds_of_wide 3 Tryz.f3 rfl rfl rfl rfl rfl rfl rfl ⟨rfl, rfl, rfl, rfl, rfl⟩ rfl rfl rfl rfl rfl mutantsKnown_named Tryz.func3 mutantsKnown_facts mutantsKnown_inst mutantsKnown_wrap
  (fun os started H enc _ => mutantsKnown_lifted os started H enc)
end Go.Proofs.YtbkpgmlibiclfaaGreatDoor
