/- The closed law RunsKnown, reckoned from its calls. -/
import Derived.Test.YtjnhbpigbadbpaaGreatDoorXar1
import Derived.Test.YtjnhbpigbadbpaaGreatDoorXar2
import Derived.Test.YtjnhbpigbadbpaaGreatDoorXar3
import Derived.Test.YtjnhbpigbadbpaaGreatDoorXar4
set_option maxRecDepth 4000

/-! The law, reckoned. -/
namespace Go.Ev
open Go.RowKit
open Go.Proofs
open Go.Proofs.YtjnhbpigbadbpaaGreatDoor (Glob)

theorem mem_cons_ok {P : Program} {l : List (Nat × (Cal → V → H → Nm → C))} {f : Nat} {g : Cal → V → H → Nm → C} (h : OrcOk P f g) (hl : ∀ p ∈ l, OrcOk P p.1 p.2) : ∀ p ∈ (f, g) :: l, OrcOk P p.1 p.2 := fun p hp => by
  rcases List.mem_cons.1 hp with rfl | hp
  · exact h
  · exact hl p hp
theorem run_cons {P : Program} {O : Orc} {f : Nat} {e : Mem2} {l : List Mem2} (h : mem2Run P O 3000 60 f e = true) (hl : ∀ e ∈ l, mem2Run P O 3000 60 f e = true) : ∀ e' ∈ e :: l, mem2Run P O 3000 60 f e' = true := fun e' he => by
  rcases List.mem_cons.1 he with rfl | he
  · exact h
  · exact hl e' he
theorem oXa0_ok : ∀ p ∈ oXa0, OrcOk Tryz.prog p.1 p.2 := mem_cons_ok (mem3s_ok (pick_ok orcsI_ok) Tryz.func8 (by kernel_rfl) eXa0 (run_cons mXa60_run (fun _ h => (by cases h)))) orcsI_ok
theorem oXa1_ok : ∀ p ∈ oXa1, OrcOk Tryz.prog p.1 p.2 := mem_cons_ok (mem3s_ok (pick_ok oXa0_ok) Tryz.func53 (by kernel_rfl) eXa1 (run_cons mXa0_run (fun _ h => (by cases h)))) oXa0_ok
theorem oXa2_ok : ∀ p ∈ oXa2, OrcOk Tryz.prog p.1 p.2 := mem_cons_ok (mem3s_ok (pick_ok oXa1_ok) Tryz.func58 (by kernel_rfl) eXa2 (run_cons mXa1_run (run_cons mXa34_run (fun _ h => (by cases h))))) oXa1_ok
theorem oXa3_ok : ∀ p ∈ oXa3, OrcOk Tryz.prog p.1 p.2 := mem_cons_ok (mem3s_ok (pick_ok oXa2_ok) Tryz.func135 (by kernel_rfl) eXa3 (run_cons mXa3_run (fun _ h => (by cases h)))) oXa2_ok
theorem oXa4_ok : ∀ p ∈ oXa4, OrcOk Tryz.prog p.1 p.2 := mem_cons_ok (mem3s_ok (pick_ok oXa3_ok) Tryz.func140 (by kernel_rfl) eXa4 (run_cons mXa4_run (fun _ h => (by cases h)))) oXa3_ok
theorem oXa5_ok : ∀ p ∈ oXa5, OrcOk Tryz.prog p.1 p.2 := mem_cons_ok (mem3s_ok (pick_ok oXa4_ok) Tryz.func376 (by kernel_rfl) eXa5 (run_cons mXa16_run (fun _ h => (by cases h)))) oXa4_ok
theorem oXa6_ok : ∀ p ∈ oXa6, OrcOk Tryz.prog p.1 p.2 := mem_cons_ok (mem3s_ok (pick_ok oXa5_ok) Tryz.func377 (by kernel_rfl) eXa6 (run_cons mXa17_run (run_cons mXa18_run (run_cons mXa19_run (fun _ h => (by cases h)))))) oXa5_ok
theorem oXa7_ok : ∀ p ∈ oXa7, OrcOk Tryz.prog p.1 p.2 := mem_cons_ok (mem3s_ok (pick_ok oXa6_ok) Tryz.func14 (by kernel_rfl) eXa7 (run_cons mXa5_run (run_cons mXa6_run (run_cons mXa7_run (run_cons mXa8_run (run_cons mXa9_run (run_cons mXa10_run (run_cons mXa11_run (run_cons mXa12_run (run_cons mXa13_run (run_cons mXa14_run (run_cons mXa15_run (run_cons mXa20_run (run_cons mXa21_run (run_cons mXa22_run (run_cons mXa23_run (run_cons mXa24_run (run_cons mXa25_run (run_cons mXa26_run (run_cons mXa27_run (run_cons mXa28_run (run_cons mXa35_run (run_cons mXa36_run (run_cons mXa37_run (run_cons mXa38_run (run_cons mXa39_run (run_cons mXa40_run (run_cons mXa41_run (run_cons mXa42_run (run_cons mXa43_run (run_cons mXa44_run (run_cons mXa45_run (run_cons mXa46_run (run_cons mXa47_run (run_cons mXa48_run (run_cons mXa49_run (run_cons mXa50_run (run_cons mXa54_run (fun _ h => (by cases h)))))))))))))))))))))))))))))))))))))))) oXa6_ok
theorem oXa8_ok : ∀ p ∈ oXa8, OrcOk Tryz.prog p.1 p.2 := mem_cons_ok (mem3s_ok (pick_ok oXa7_ok) Tryz.func4 (by kernel_rfl) eXa8 (run_cons mXa2_run (run_cons mXa51_run (fun _ h => (by cases h))))) oXa7_ok
theorem oXa9_ok : ∀ p ∈ oXa9, OrcOk Tryz.prog p.1 p.2 := mem_cons_ok (mem3s_ok (pick_ok oXa8_ok) Tryz.func6 (by kernel_rfl) eXa9 (run_cons mXa29_run (run_cons mXa30_run (run_cons mXa31_run (run_cons mXa32_run (run_cons mXa33_run (run_cons mXa52_run (run_cons mXa56_run (run_cons mXa58_run (fun _ h => (by cases h))))))))))) oXa8_ok
theorem oXa10_ok : ∀ p ∈ oXa10, OrcOk Tryz.prog p.1 p.2 := mem_cons_ok (mem3s_ok (pick_ok oXa9_ok) Tryz.func7 (by kernel_rfl) eXa10 (run_cons mXa53_run (run_cons mXa57_run (run_cons mXa59_run (fun _ h => (by cases h)))))) oXa9_ok
theorem oXa11_ok : ∀ p ∈ oXa11, OrcOk Tryz.prog p.1 p.2 := mem_cons_ok (mem3s_ok (pick_ok oXa10_ok) Tryz.func26 (by kernel_rfl) eXa11 (run_cons mXa55_run (fun _ h => (by cases h)))) oXa10_ok
theorem runsKnown_run : closedTrue Tryz.prog (pick oXa11) 3 = true := by kernel_rfl
theorem runsKnown_law (w : World) (h1 : Glob w) (h2 : Sizes w) : Calls Tryz.prog 3 #[] w fun e w' => e = .returned (.bool true) ∧ Below w.heap.size w w' := law_of (pick_ok oXa11_ok) Tryz.func3 (by kernel_rfl) runsKnown_run h1 h2
end Go.Ev
