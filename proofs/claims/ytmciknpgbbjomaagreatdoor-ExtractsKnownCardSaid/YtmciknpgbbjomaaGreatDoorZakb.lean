/- The row of ExtractsKnown. -/
import Derived.Test.YtmciknpgbbjomaaGreatDoorZaka
set_option maxRecDepth 4000

namespace Go.Proofs.YtmciknpgbbjomaaGreatDoor
open Go.ChangeShapes Go.WideShapes Go.ChangeAt Go.RowKit Go.Deep

theorem and_mk {a b : Bool} (h1 : a = true) (h2 : b = true) : (a && b) = true := by rw [h1, h2]; rfl
theorem q_j1 : (Rows.extractsKnownRow.wf (OpenSpec.ofChange Rows.extractsKnownSpec)) = true := by kernel_rfl
theorem q_j2 : (laidOutB Tryz.prog) = true := by kernel_rfl
theorem q_j3 : (mapsRowed Tryz.prog) = true := by kernel_rfl
theorem q_j4 : (Tryz.f3.params.all (Tryz.prog.readableRec ·)) = true := by kernel_rfl
theorem q_j5 : (namedTie Tryz.prog Rows.extractsKnownRow.named Rows.extractsKnownSpec.vars) = true := by kernel_rfl
theorem q_j6 : (Rows.extractsKnownRow.stops == []) = true := by kernel_rfl
theorem q_j7 : (Tryz.prog.stops == []) = true := by kernel_rfl
theorem q_j8 : (Rows.extractsKnownRow.knobs == []) = true := by kernel_rfl
theorem q_j9 : (Tryz.prog.stopKnobs == []) = true := by kernel_rfl
theorem q_j10 : (Rows.extractsKnownRow.inPlace == Tryz.prog.inPlace 3) = true := by kernel_rfl
theorem q_j11 : (Rows.extractsKnownRow.unfollowed == Tryz.prog.unfollowed 3) = true := by kernel_rfl
theorem q_j12 : (Rows.extractsKnownRow.recurses == Tryz.prog.recurses 3) = true := by kernel_rfl
theorem q_j13 : (Rows.extractsKnownRow.named == Tryz.prog.varsNamed 3) = true := by kernel_rfl
theorem q_j14 : (Rows.extractsKnownRow.maps == (Tryz.f3.params.toList ++ Rows.extractsKnownSpec.plain.varTypes Tryz.prog).any (Tryz.prog.mapsRec ·)) = true := by kernel_rfl
theorem q_j15 : (Rows.extractsKnownRow.ifaces == (Tryz.f3.params.toList ++ Rows.extractsKnownSpec.plain.varTypes Tryz.prog).any (Tryz.prog.ifacesRec ·)) = true := by kernel_rfl
theorem q_j16 : (Rows.extractsKnownRow.mapsOut == Tryz.prog.mapsAmong Tryz.f3.resultTypes.toList) = true := by kernel_rfl
theorem q_j17 : (Rows.extractsKnownRow.loops == (Tryz.f3.params.toList ++ Rows.extractsKnownSpec.plain.varTypes Tryz.prog).any (Tryz.prog.loopsFrom ·)) = true := by kernel_rfl
theorem q_j18 : (Rows.extractsKnownRow.wideKeys == (Tryz.f3.params.toList ++ Rows.extractsKnownSpec.plain.varTypes Tryz.prog ++ Tryz.f3.resultTypes.toList).any (Tryz.prog.wideKeysFrom ·)) = true := by kernel_rfl
theorem q_j19 : (Rows.extractsKnownSpec.vars.all (Tryz.prog.varReadable ·)) = true := by kernel_rfl
theorem q_j20 : (Tryz.f3.resultTypes.all (fun t => Tryz.prog.readableRec t && decide (t < Tryz.prog.types.size))) = true := by kernel_rfl
theorem q_j21 : (Rows.extractsKnownRow.ifacesOut == Tryz.f3.resultTypes.toList.any (Tryz.prog.ifacesRec ·)) = true := by kernel_rfl
theorem q_j22 : (Rows.extractsKnownRow.loopsOut == Tryz.f3.resultTypes.toList.any (Tryz.prog.loopsFrom ·)) = true := by kernel_rfl
theorem q_j23 : (Rows.extractsKnownRow.plainKeys == Tryz.prog.plainKeys) = true := by kernel_rfl
theorem q_j24 : Rows.extractsKnownRow.shortTexts.isNone = true := by kernel_rfl
theorem q_j25 : Tryz.prog.stopsHeard = true := by kernel_rfl
theorem q_j26 : Tryz.prog.mayEnter = true := by kernel_rfl
theorem q_j27 : (Rows.extractsKnownRow.lifted == Tryz.prog.liftsFinal) = true := by kernel_rfl
theorem q_j28 : (Tryz.prog.make == some Rows.extractsKnownRow.make) = true := by kernel_rfl
theorem q_j29 : (Rows.extractsKnownRow.kinds == (if Rows.extractsKnownRow.domain.isEmpty then [] else Tryz.f3.params.toList.map fun t => match Tryz.prog.underlying t with | some (.int k) => some k | _ => none)) = true := by kernel_rfl
theorem q_j30 : (Rows.extractsKnownRow.pinned == Rows.extractsKnownRow.pinnedBy) = true := by kernel_rfl
theorem q_j31 : (Rows.extractsKnownRow.veiled == (Tryz.f3.params.toList ++ Rows.extractsKnownSpec.plain.varTypes Tryz.prog ++ Tryz.f3.resultTypes.toList).any (Tryz.prog.veiledRec ·)) = true := by kernel_rfl
theorem q_j32 : (Rows.extractsKnownRow.veiledFits Tryz.prog Tryz.f3.params.toList (Tryz.f3.params.toList ++ Rows.extractsKnownSpec.plain.varTypes Tryz.prog ++ Tryz.f3.resultTypes.toList)) = true := by kernel_rfl
theorem q_facts : joinedFacts Tryz.prog 3 Tryz.f3 Rows.extractsKnownSpec Rows.extractsKnownRow = true := by
  unfold joinedFacts
  exact and_mk (and_mk (and_mk (and_mk (and_mk (and_mk (and_mk (and_mk (and_mk (and_mk (and_mk (and_mk (and_mk (and_mk (and_mk (and_mk (and_mk (and_mk (and_mk (and_mk (and_mk (and_mk (and_mk (and_mk (and_mk (and_mk (and_mk (and_mk (and_mk (and_mk (and_mk q_j1 q_j2) q_j3) q_j4) q_j5) q_j6) q_j7) q_j8) q_j9) q_j10) q_j11) q_j12) q_j13) q_j14) q_j15) q_j16) q_j17) q_j18) q_j19) q_j20) q_j21) q_j22) q_j23) q_j24) q_j25) q_j26) q_j27) q_j28) q_j29) q_j30) q_j31) q_j32
theorem q_named : Tryz.prog.funcNamed "caisson/caissonlaw38.ExtractsKnown" = some 3 := by kernel_rfl
theorem q_inst : Tryz.f3.isInstance Tryz.prog Rows.extractsKnownRow.origin Rows.extractsKnownRow.targs := of_decide_eq_true (by kernel_rfl)
theorem q_wrap : Tryz.f3.isWrapper Tryz.prog Rows.extractsKnownRow.wrapper Rows.extractsKnownRow.mainSum := by unfold Func.isWrapper; first | (rw [if_pos (by decide +kernel)]; kernel_rfl) | (rw [if_neg (by decide +kernel)]; exact ⟨rfl, rfl⟩)
theorem q_row : Rows.ExtractsKnownSaid :=
  OpenClaim.holds_of_wide 3 Tryz.f3 rfl rfl rfl rfl rfl rfl rfl ⟨rfl, rfl, rfl, rfl, rfl⟩ rfl rfl rfl rfl rfl q_named Tryz.func3 q_facts q_inst q_wrap
    (fun os started H enc _ => extractsKnown_lifted os started H enc)
end Go.Proofs.YtmciknpgbbjomaaGreatDoor
