/- The row of MutantsScripts. -/
import Derived.Test.YtadledfjejokfaaGreatDoorMaka
import Derived.ProofKit
import Derived.SizedLaws
import Derived.LaidMore
import Derived.Stop.LaidErr
import Derived.OpenShut
import Derived.Stop.Joined
import Derived.SevenTiedAt
set_option maxRecDepth 4000

namespace Go.Proofs.YtadledfjejokfaaGreatDoor
open Go.ChangeShapes Go.WideShapes Go.ChangeAt Go.RowKit Go.Deep
theorem and_mk {a b : Bool} (h1 : a = true) (h2 : b = true) : (a && b) = true := by rw [h1, h2]; rfl
theorem mutantsScripts_j1 : (Rows.mutantsScriptsRow.wf (OpenSpec.ofChange Rows.mutantsScriptsSpec)) = true := by kernel_rfl
theorem mutantsScripts_j2 : (laidOutB Tryz.prog) = true := by kernel_rfl
theorem mutantsScripts_j3 : (mapsRowed Tryz.prog) = true := by kernel_rfl
theorem mutantsScripts_j4 : (Tryz.f3.params.all (Tryz.prog.readableRec ·)) = true := by kernel_rfl
theorem mutantsScripts_j5 : (namedTie Tryz.prog Rows.mutantsScriptsRow.named Rows.mutantsScriptsSpec.vars) = true := by kernel_rfl
theorem mutantsScripts_j6 : (Rows.mutantsScriptsRow.stops == []) = true := by kernel_rfl
theorem mutantsScripts_j7 : (Tryz.prog.stops == []) = true := by kernel_rfl
theorem mutantsScripts_j8 : (Rows.mutantsScriptsRow.knobs == []) = true := by kernel_rfl
theorem mutantsScripts_j9 : (Tryz.prog.stopKnobs == []) = true := by kernel_rfl
theorem mutantsScripts_j10 : (Rows.mutantsScriptsRow.inPlace == Tryz.prog.inPlace 3) = true := by kernel_rfl
theorem mutantsScripts_j11 : (Rows.mutantsScriptsRow.unfollowed == Tryz.prog.unfollowed 3) = true := by kernel_rfl
theorem mutantsScripts_j12 : (Rows.mutantsScriptsRow.recurses == Tryz.prog.recurses 3) = true := by kernel_rfl
theorem mutantsScripts_j13 : (Rows.mutantsScriptsRow.named == Tryz.prog.varsNamed 3) = true := by kernel_rfl
theorem mutantsScripts_j14 : (Rows.mutantsScriptsRow.maps == (Tryz.f3.params.toList ++ Rows.mutantsScriptsSpec.plain.varTypes Tryz.prog).any (Tryz.prog.mapsRec ·)) = true := by kernel_rfl
theorem mutantsScripts_j15 : (Rows.mutantsScriptsRow.ifaces == (Tryz.f3.params.toList ++ Rows.mutantsScriptsSpec.plain.varTypes Tryz.prog).any (Tryz.prog.ifacesRec ·)) = true := by kernel_rfl
theorem mutantsScripts_j16 : (Rows.mutantsScriptsRow.mapsOut == Tryz.prog.mapsAmong Tryz.f3.resultTypes.toList) = true := by kernel_rfl
theorem mutantsScripts_j17 : (Rows.mutantsScriptsRow.loops == (Tryz.f3.params.toList ++ Rows.mutantsScriptsSpec.plain.varTypes Tryz.prog).any (Tryz.prog.loopsFrom ·)) = true := by kernel_rfl
theorem mutantsScripts_j18 : (Rows.mutantsScriptsRow.wideKeys == (Tryz.f3.params.toList ++ Rows.mutantsScriptsSpec.plain.varTypes Tryz.prog ++ Tryz.f3.resultTypes.toList).any (Tryz.prog.wideKeysFrom ·)) = true := by kernel_rfl
theorem mutantsScripts_j19 : (Rows.mutantsScriptsSpec.vars.all (Tryz.prog.varReadable ·)) = true := by kernel_rfl
theorem mutantsScripts_j20 : (Tryz.f3.resultTypes.all (fun t => Tryz.prog.readableRec t && decide (t < Tryz.prog.types.size))) = true := by kernel_rfl
theorem mutantsScripts_j21 : (Rows.mutantsScriptsRow.ifacesOut == Tryz.f3.resultTypes.toList.any (Tryz.prog.ifacesRec ·)) = true := by kernel_rfl
theorem mutantsScripts_j22 : (Rows.mutantsScriptsRow.loopsOut == Tryz.f3.resultTypes.toList.any (Tryz.prog.loopsFrom ·)) = true := by kernel_rfl
theorem mutantsScripts_j23 : (Rows.mutantsScriptsRow.plainKeys == Tryz.prog.plainKeys) = true := by kernel_rfl
theorem mutantsScripts_j24 : Rows.mutantsScriptsRow.shortTexts.isNone = true := by kernel_rfl
theorem mutantsScripts_j25 : Tryz.prog.stopsHeard = true := by kernel_rfl
theorem mutantsScripts_j26 : Tryz.prog.mayEnter = true := by kernel_rfl
theorem mutantsScripts_j27 : (Rows.mutantsScriptsRow.lifted == Tryz.prog.liftsFinal) = true := by kernel_rfl
theorem mutantsScripts_j28 : (Tryz.prog.make == some Rows.mutantsScriptsRow.make) = true := by kernel_rfl
theorem mutantsScripts_j29 : (Rows.mutantsScriptsRow.kinds == (if Rows.mutantsScriptsRow.domain.isEmpty then [] else Tryz.f3.params.toList.map fun t => match Tryz.prog.underlying t with | some (.int k) => some k | _ => none)) = true := by kernel_rfl
theorem mutantsScripts_j30 : (Rows.mutantsScriptsRow.pinned == Rows.mutantsScriptsRow.pinnedBy) = true := by kernel_rfl
theorem mutantsScripts_j31 : (Rows.mutantsScriptsRow.veiled == (Tryz.f3.params.toList ++ Rows.mutantsScriptsSpec.plain.varTypes Tryz.prog ++ Tryz.f3.resultTypes.toList).any (Tryz.prog.veiledRec ·)) = true := by kernel_rfl
theorem mutantsScripts_j32 : (Rows.mutantsScriptsRow.veiledFits Tryz.prog Tryz.f3.params.toList (Tryz.f3.params.toList ++ Rows.mutantsScriptsSpec.plain.varTypes Tryz.prog ++ Tryz.f3.resultTypes.toList)) = true := by kernel_rfl
theorem mutantsScripts_facts : joinedFacts Tryz.prog 3 Tryz.f3 Rows.mutantsScriptsSpec Rows.mutantsScriptsRow = true := by
 unfold joinedFacts
 exact and_mk (and_mk (and_mk (and_mk (and_mk (and_mk (and_mk (and_mk (and_mk (and_mk (and_mk (and_mk (and_mk (and_mk (and_mk (and_mk (and_mk (and_mk (and_mk (and_mk (and_mk (and_mk (and_mk (and_mk (and_mk (and_mk (and_mk (and_mk (and_mk (and_mk (and_mk mutantsScripts_j1 mutantsScripts_j2) mutantsScripts_j3) mutantsScripts_j4) mutantsScripts_j5) mutantsScripts_j6) mutantsScripts_j7) mutantsScripts_j8) mutantsScripts_j9) mutantsScripts_j10) mutantsScripts_j11) mutantsScripts_j12) mutantsScripts_j13) mutantsScripts_j14) mutantsScripts_j15) mutantsScripts_j16) mutantsScripts_j17) mutantsScripts_j18) mutantsScripts_j19) mutantsScripts_j20) mutantsScripts_j21) mutantsScripts_j22) mutantsScripts_j23) mutantsScripts_j24) mutantsScripts_j25) mutantsScripts_j26) mutantsScripts_j27) mutantsScripts_j28) mutantsScripts_j29) mutantsScripts_j30) mutantsScripts_j31) mutantsScripts_j32
theorem mutantsScripts_named : Tryz.prog.funcNamed "caisson/caissonlaw42.MutantsScripts" = some 3 := by kernel_rfl
theorem mutantsScripts_inst : Tryz.f3.isInstance Tryz.prog Rows.mutantsScriptsRow.origin Rows.mutantsScriptsRow.targs := of_decide_eq_true (by kernel_rfl)
theorem mutantsScripts_wrap : Tryz.f3.isWrapper Tryz.prog Rows.mutantsScriptsRow.wrapper Rows.mutantsScriptsRow.mainSum := by unfold Func.isWrapper; first | (rw [if_pos (by decide +kernel)]; kernel_rfl) | (rw [if_neg (by decide +kernel)]; exact ⟨rfl, rfl⟩)
theorem mutantsScripts_row : Rows.MutantsScriptsSaid :=
 OpenClaim.holds_of_wide 3 Tryz.f3 rfl rfl rfl rfl rfl rfl rfl ⟨rfl, rfl, rfl, rfl, rfl⟩ rfl rfl rfl rfl rfl mutantsScripts_named Tryz.func3 mutantsScripts_facts mutantsScripts_inst mutantsScripts_wrap
  (fun os started H enc _ => mutantsScripts_lifted os started H enc)
end Go.Proofs.YtadledfjejokfaaGreatDoor
