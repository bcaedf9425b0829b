/- The closed law FairsKnown, reckoned from its calls. -/
import Derived.Test.YtkijagaocalkhaaGreatDoorFr1
import Derived.Test.YtkijagaocalkhaaGreatDoorFr2
import Derived.Test.YtkijagaocalkhaaGreatDoorFr3
import Derived.Test.YtkijagaocalkhaaGreatDoorFr4
set_option maxRecDepth 4000

/-! FairsKnown, reckoned. -/
namespace Go.Ev
open Go.RowKit
open Go.Proofs
open Go.Proofs.YtkijagaocalkhaaGreatDoor (Glob)

theorem base_ok : ∀ f g, pick orcs f = some g → OrcOk Tryz.prog f g := pick_ok orcs_ok
theorem fair_ok (es : List Memo) (h : ∀ e ∈ es, ClosedV e.v ∧ memoRun Tryz.prog (pick orcs) 3000 60 12 e = true) : OrcOk Tryz.prog 12 (orcMemo es) := memos_ok base_ok Tryz.func12 (by kernel_rfl) es h
theorem late_ok (es : List Memo) (h : ∀ e ∈ es, ClosedV e.v ∧ memoRun Tryz.prog (pick orcs) 3000 60 13 e = true) : OrcOk Tryz.prog 13 (orcMemo es) := memos_ok base_ok Tryz.func13 (by kernel_rfl) es h
/-- the calls within 'lives' -/
noncomputable def orcL : List (Nat × (Cal → V → H → Nm → C)) := (12, orcMemo [me0, me1]) :: (13, orcMemo [me2, me3]) :: orcs
theorem orcL_ok : ∀ f g, pick orcL f = some g → OrcOk Tryz.prog f g := pick_ok fun p hp => by
  rcases List.mem_cons.1 hp with rfl | hp
  · exact fair_ok [me0, me1] fun e he => by
      simp only [List.mem_cons, List.not_mem_nil, or_false] at he
      rcases he with rfl | rfl
      · exact ⟨me0_closed, me0_run⟩
      · exact ⟨me1_closed, me1_run⟩
  rcases List.mem_cons.1 hp with rfl | hp
  · exact late_ok [me2, me3] fun e he => by
      simp only [List.mem_cons, List.not_mem_nil, or_false] at he
      rcases he with rfl | rfl
      · exact ⟨me2_closed, me2_run⟩
      · exact ⟨me3_closed, me3_run⟩
  exact orcs_ok p hp
theorem lives_run : closedTrue Tryz.prog (pick orcL) 10 = true := by kernel_rfl
theorem lives_ok : OrcOk Tryz.prog 10 orcLaw := orcLaw_ok orcL_ok Tryz.func10 (by kernel_rfl) lives_run
/-- the calls within FairsKnown -/
noncomputable def orcT : List (Nat × (Cal → V → H → Nm → C)) := (10, orcLaw) :: (12, orcMemo [me4, me5, me7]) :: (13, orcMemo [me6, me8, me9]) :: orcs
theorem orcT_ok : ∀ f g, pick orcT f = some g → OrcOk Tryz.prog f g := pick_ok fun p hp => by
  rcases List.mem_cons.1 hp with rfl | hp
  · exact lives_ok
  rcases List.mem_cons.1 hp with rfl | hp
  · exact fair_ok [me4, me5, me7] fun e he => by
      simp only [List.mem_cons, List.not_mem_nil, or_false] at he
      rcases he with rfl | rfl | rfl
      · exact ⟨me4_closed, me4_run⟩
      · exact ⟨me5_closed, me5_run⟩
      · exact ⟨me7_closed, me7_run⟩
  rcases List.mem_cons.1 hp with rfl | hp
  · exact late_ok [me6, me8, me9] fun e he => by
      simp only [List.mem_cons, List.not_mem_nil, or_false] at he
      rcases he with rfl | rfl | rfl
      · exact ⟨me6_closed, me6_run⟩
      · exact ⟨me8_closed, me8_run⟩
      · exact ⟨me9_closed, me9_run⟩
  exact orcs_ok p hp
theorem top_run : closedTrue Tryz.prog (pick orcT) 4 = true := by kernel_rfl
theorem fairsKnown_law (w : World) (h1 : Glob w) (h2 : Sizes w) : Calls Tryz.prog 4 #[] w fun e w' => e = .returned (.bool true) ∧ Below w.heap.size w w' :=
  law_of orcT_ok Tryz.func4 (by kernel_rfl) top_run h1 h2
end Go.Ev
