/- The chapter's example, reckoned from its calls. -/
import Derived.Test.YtjknpcllmmalkaaGreatDoorYar1
import Derived.Test.YtjknpcllmmalkaaGreatDoorYar2
import Derived.Test.YtjknpcllmmalkaaGreatDoorYar3
set_option maxRecDepth 4000

namespace Go.Ev
open Go.RowKit
open Go.Proofs
open Go.Proofs.YtjknpcllmmalkaaGreatDoor (Glob)
theorem mem_cons_ok {P : Program} {l : List (Nat × (Cal → V → H → Nm → C))} {f : Nat} {g : Cal → V → H → Nm → C} (h : OrcOk P f g) (hl : ∀ p ∈ l, OrcOk P p.1 p.2) : ∀ p ∈ (f, g) :: l, OrcOk P p.1 p.2 := fun p hp => by
 rcases List.mem_cons.1 hp with rfl | hp
 · exact h
 · exact hl p hp
theorem runs_app {P : Program} {O : Orc} {f : Nat} {l : List Mem2} (c : List Mem2) (h : runs P O f c = true) (hl : ∀ e ∈ l, mem2Run P O 3000 60 f e = true) : ∀ e ∈ appM c l, mem2Run P O 3000 60 f e = true := by
 induction c with
 | nil => exact hl
 | cons a c ih =>
   have e1 : runs P O f (a :: c) = (Bool.rec false (runs P O f c) (mem2Run P O 3000 60 f a) : Bool) := rfl
   rw [e1] at h
   cases hm : mem2Run P O 3000 60 f a
   · rw [hm] at h; cases h
   · rw [hm] at h
     intro e he
     rcases List.mem_cons.1 (show e ∈ a :: appM c l from he) with rfl | he
     · exact hm
     · exact ih h e he
theorem oYa0_ok : ∀ p ∈ oYa0, OrcOk Tryz.prog p.1 p.2 := mem_cons_ok (mem3s_ok (pick_ok orcsJ_ok) Tryz.func67 (by kernel_rfl) eYa0 (runs_app _ cYa0r (fun _ h => (by cases h)))) orcsJ_ok
theorem oYa1_ok : ∀ p ∈ oYa1, OrcOk Tryz.prog p.1 p.2 := mem_cons_ok (mem3s_ok (pick_ok oYa0_ok) Tryz.func78 (by kernel_rfl) eYa1 (runs_app _ cYa1r (fun _ h => (by cases h)))) oYa0_ok
theorem oYa2_ok : ∀ p ∈ oYa2, OrcOk Tryz.prog p.1 p.2 := mem_cons_ok (mem3s_ok (pick_ok oYa1_ok) Tryz.func122 (by kernel_rfl) eYa2 (runs_app _ cYa2r (fun _ h => (by cases h)))) oYa1_ok
theorem oYa3_ok : ∀ p ∈ oYa3, OrcOk Tryz.prog p.1 p.2 := mem_cons_ok (mem3s_ok (pick_ok oYa2_ok) Tryz.func127 (by kernel_rfl) eYa3 (runs_app _ cYa3r (fun _ h => (by cases h)))) oYa2_ok
theorem oYa4_ok : ∀ p ∈ oYa4, OrcOk Tryz.prog p.1 p.2 := mem_cons_ok (mem3s_ok (pick_ok oYa3_ok) Tryz.func137 (by kernel_rfl) eYa4 (runs_app _ cYa4r (fun _ h => (by cases h)))) oYa3_ok
theorem oYa5_ok : ∀ p ∈ oYa5, OrcOk Tryz.prog p.1 p.2 := mem_cons_ok (mem3s_ok (pick_ok oYa4_ok) Tryz.func359 (by kernel_rfl) eYa5 (runs_app _ cYa5r (fun _ h => (by cases h)))) oYa4_ok
theorem oYa6_ok : ∀ p ∈ oYa6, OrcOk Tryz.prog p.1 p.2 := mem_cons_ok (mem3s_ok (pick_ok oYa5_ok) Tryz.func360 (by kernel_rfl) eYa6 (runs_app _ cYa6r (runs_app _ cYa7r (runs_app _ cYa8r (fun _ h => (by cases h)))))) oYa5_ok
theorem oYa7_ok : ∀ p ∈ oYa7, OrcOk Tryz.prog p.1 p.2 := mem_cons_ok (mem3s_ok (pick_ok oYa6_ok) Tryz.func23 (by kernel_rfl) eYa7 (runs_app _ cYa9r (runs_app _ cYa10r (runs_app _ cYa11r (runs_app _ cYa12r (runs_app _ cYa13r (runs_app _ cYa14r (runs_app _ cYa15r (runs_app _ cYa16r (fun _ h => (by cases h))))))))))) oYa6_ok
theorem oYa8_ok : ∀ p ∈ oYa8, OrcOk Tryz.prog p.1 p.2 := mem_cons_ok (mem3s_ok (pick_ok oYa7_ok) Tryz.func50 (by kernel_rfl) eYa8 (runs_app _ cYa17r (fun _ h => (by cases h)))) oYa7_ok
theorem oYa9_ok : ∀ p ∈ oYa9, OrcOk Tryz.prog p.1 p.2 := mem_cons_ok (mem3s_ok (pick_ok oYa8_ok) Tryz.func80 (by kernel_rfl) eYa9 (runs_app _ cYa18r (fun _ h => (by cases h)))) oYa8_ok
theorem oYa10_ok : ∀ p ∈ oYa10, OrcOk Tryz.prog p.1 p.2 := mem_cons_ok (mem3s_ok (pick_ok oYa9_ok) Tryz.func36 (by kernel_rfl) eYa10 (runs_app _ cYa19r (fun _ h => (by cases h)))) oYa9_ok
theorem oYa11_ok : ∀ p ∈ oYa11, OrcOk Tryz.prog p.1 p.2 := mem_cons_ok (mem3s_ok (pick_ok oYa10_ok) Tryz.func17 (by kernel_rfl) eYa11 (runs_app _ cYa20r (fun _ h => (by cases h)))) oYa10_ok
noncomputable def oYaLAST : List (Nat × (Cal → V → H → Nm → C)) := oYa11
theorem oYaLAST_ok : ∀ p ∈ oYaLAST, OrcOk Tryz.prog p.1 p.2 := oYa11_ok
theorem lives_run : closedTrue Tryz.prog (pick oYa11) 4 = true := by kernel_rfl
theorem lives_law (w : World) (h1 : Glob w) (h2 : Sizes w) : Calls Tryz.prog 4 #[] w fun e w' => e = .returned (.bool true) ∧ Below w.heap.size w w' := law_of (pick_ok oYa11_ok) Tryz.func4 (by kernel_rfl) lives_run h1 h2
end Go.Ev
