/- The closed law ExtractsKnown, reckoned from its calls. -/
import Derived.Test.YtmciknpgbbjomaaGreatDoorZar1
import Derived.Test.YtmciknpgbbjomaaGreatDoorZar2
import Derived.Test.YtmciknpgbbjomaaGreatDoorZar3
import Derived.Test.YtmciknpgbbjomaaGreatDoorZar4
set_option maxRecDepth 4000

/-! The law, reckoned. -/
namespace Go.Ev
open Go.RowKit
open Go.Proofs
open Go.Proofs.YtmciknpgbbjomaaGreatDoor (Glob)

theorem mem_cons_ok {P : Program} {l : List (Nat × (Cal → V → H → Nm → C))} {f : Nat} {g : Cal → V → H → Nm → C} (h : OrcOk P f g) (hl : ∀ p ∈ l, OrcOk P p.1 p.2) : ∀ p ∈ (f, g) :: l, OrcOk P p.1 p.2 := fun p hp => by
  rcases List.mem_cons.1 hp with rfl | hp
  · exact h
  · exact hl p hp
theorem run_cons {P : Program} {O : Orc} {f : Nat} {e : Mem2} {l : List Mem2} (h : mem2Run P O 3000 60 f e = true) (hl : ∀ e ∈ l, mem2Run P O 3000 60 f e = true) : ∀ e' ∈ e :: l, mem2Run P O 3000 60 f e' = true := fun e' he => by
  rcases List.mem_cons.1 he with rfl | he
  · exact h
  · exact hl e' he
theorem oZa0_ok : ∀ p ∈ oZa0, OrcOk Tryz.prog p.1 p.2 := mem_cons_ok (mem3s_ok (pick_ok orcsL_ok) Tryz.func18 (by kernel_rfl) eZa0 (run_cons mZa1_run (run_cons mZa38_run (fun _ h => (by cases h))))) orcsL_ok
theorem oZa1_ok : ∀ p ∈ oZa1, OrcOk Tryz.prog p.1 p.2 := mem_cons_ok (mem3s_ok (pick_ok oZa0_ok) Tryz.func65 (by kernel_rfl) eZa1 (run_cons mZa2_run (fun _ h => (by cases h)))) oZa0_ok
theorem oZa2_ok : ∀ p ∈ oZa2, OrcOk Tryz.prog p.1 p.2 := mem_cons_ok (mem3s_ok (pick_ok oZa1_ok) Tryz.func149 (by kernel_rfl) eZa2 (run_cons mZa29_run (run_cons mZa61_run (fun _ h => (by cases h))))) oZa1_ok
theorem oZa3_ok : ∀ p ∈ oZa3, OrcOk Tryz.prog p.1 p.2 := mem_cons_ok (mem3s_ok (pick_ok oZa2_ok) Tryz.func187 (by kernel_rfl) eZa3 (run_cons mZa4_run (fun _ h => (by cases h)))) oZa2_ok
theorem oZa4_ok : ∀ p ∈ oZa4, OrcOk Tryz.prog p.1 p.2 := mem_cons_ok (mem3s_ok (pick_ok oZa3_ok) Tryz.func192 (by kernel_rfl) eZa4 (run_cons mZa13_run (fun _ h => (by cases h)))) oZa3_ok
theorem oZa5_ok : ∀ p ∈ oZa5, OrcOk Tryz.prog p.1 p.2 := mem_cons_ok (mem3s_ok (pick_ok oZa4_ok) Tryz.func405 (by kernel_rfl) eZa5 (run_cons mZa16_run (fun _ h => (by cases h)))) oZa4_ok
theorem oZa6_ok : ∀ p ∈ oZa6, OrcOk Tryz.prog p.1 p.2 := mem_cons_ok (mem3s_ok (pick_ok oZa5_ok) Tryz.func406 (by kernel_rfl) eZa6 (run_cons mZa17_run (run_cons mZa18_run (run_cons mZa19_run (fun _ h => (by cases h)))))) oZa5_ok
theorem oZa7_ok : ∀ p ∈ oZa7, OrcOk Tryz.prog p.1 p.2 := mem_cons_ok (mem3s_ok (pick_ok oZa6_ok) Tryz.func29 (by kernel_rfl) eZa7 (run_cons mZa3_run (run_cons mZa5_run (run_cons mZa6_run (run_cons mZa7_run (run_cons mZa8_run (run_cons mZa9_run (run_cons mZa10_run (run_cons mZa11_run (run_cons mZa12_run (run_cons mZa14_run (run_cons mZa15_run (run_cons mZa20_run (run_cons mZa21_run (run_cons mZa22_run (run_cons mZa23_run (run_cons mZa24_run (run_cons mZa25_run (run_cons mZa26_run (run_cons mZa27_run (run_cons mZa28_run (run_cons mZa31_run (run_cons mZa32_run (run_cons mZa33_run (run_cons mZa34_run (run_cons mZa35_run (run_cons mZa36_run (run_cons mZa41_run (run_cons mZa42_run (run_cons mZa43_run (run_cons mZa44_run (run_cons mZa45_run (run_cons mZa46_run (run_cons mZa47_run (run_cons mZa48_run (run_cons mZa49_run (run_cons mZa50_run (run_cons mZa51_run (run_cons mZa52_run (run_cons mZa53_run (run_cons mZa54_run (run_cons mZa55_run (run_cons mZa56_run (run_cons mZa57_run (run_cons mZa58_run (run_cons mZa59_run (run_cons mZa60_run (run_cons mZa63_run (run_cons mZa64_run (run_cons mZa65_run (run_cons mZa66_run (run_cons mZa67_run (run_cons mZa68_run (run_cons mZa69_run (run_cons mZa72_run (run_cons mZa73_run (run_cons mZa74_run (run_cons mZa75_run (run_cons mZa76_run (run_cons mZa77_run (run_cons mZa78_run (fun _ h => (by cases h))))))))))))))))))))))))))))))))))))))))))))))))))))))))))))))) oZa6_ok
theorem oZa8_ok : ∀ p ∈ oZa8, OrcOk Tryz.prog p.1 p.2 := mem_cons_ok (mem3s_ok (pick_ok oZa7_ok) Tryz.func12 (by kernel_rfl) eZa8 (run_cons mZa30_run (run_cons mZa62_run (run_cons mZa71_run (fun _ h => (by cases h)))))) oZa7_ok
theorem oZa9_ok : ∀ p ∈ oZa9, OrcOk Tryz.prog p.1 p.2 := mem_cons_ok (mem3s_ok (pick_ok oZa8_ok) Tryz.func24 (by kernel_rfl) eZa9 (run_cons mZa0_run (run_cons mZa40_run (fun _ h => (by cases h))))) oZa8_ok
theorem oZa10_ok : ∀ p ∈ oZa10, OrcOk Tryz.prog p.1 p.2 := mem_cons_ok (mem3s_ok (pick_ok oZa9_ok) Tryz.func7 (by kernel_rfl) eZa10 (run_cons mZa37_run (run_cons mZa39_run (run_cons mZa70_run (fun _ h => (by cases h)))))) oZa9_ok
theorem oZa11_ok : ∀ p ∈ oZa11, OrcOk Tryz.prog p.1 p.2 := mem_cons_ok (mem3s_ok (pick_ok oZa10_ok) Tryz.func9 (by kernel_rfl) eZa11 (run_cons mZa79_run (fun _ h => (by cases h)))) oZa10_ok
theorem extractsKnown_run : closedTrue Tryz.prog (pick oZa11) 3 = true := by kernel_rfl
theorem extractsKnown_law (w : World) (h1 : Glob w) (h2 : Sizes w) : Calls Tryz.prog 3 #[] w fun e w' => e = .returned (.bool true) ∧ Below w.heap.size w w' := law_of (pick_ok oZa11_ok) Tryz.func3 (by kernel_rfl) extractsKnown_run h1 h2
end Go.Ev
