/- The closed law AuditsKnown, reckoned from its calls. -/
import Derived.Test.YtiobmlbnfmeacaaGreatDoorHar1
import Derived.Test.YtiobmlbnfmeacaaGreatDoorHar2
import Derived.Test.YtiobmlbnfmeacaaGreatDoorHar3
import Derived.Test.YtiobmlbnfmeacaaGreatDoorHar4
import Derived.Test.YtiobmlbnfmeacaaGreatDoorHar5
import Derived.Test.YtiobmlbnfmeacaaGreatDoorHar6
set_option maxRecDepth 4000

namespace Go.Ev
open Go.RowKit
open Go.Proofs
open Go.Proofs.YtiobmlbnfmeacaaGreatDoor (Glob)
theorem mem_cons_ok {P : Program} {l : List (Nat × (Cal → V → H → Nm → C))} {f : Nat} {g : Cal → V → H → Nm → C} (h : OrcOk P f g) (hl : ∀ p ∈ l, OrcOk P p.1 p.2) : ∀ p ∈ (f, g) :: l, OrcOk P p.1 p.2 := fun p hp => by
 rcases List.mem_cons.1 hp with rfl | hp
 · exact h
 · exact hl p hp
theorem run_cons {P : Program} {O : Orc} {f : Nat} {e : Mem2} {l : List Mem2} (h : mem2Run P O 3000 60 f e = true) (hl : ∀ e ∈ l, mem2Run P O 3000 60 f e = true) : ∀ e' ∈ e :: l, mem2Run P O 3000 60 f e' = true := fun e' he => by
 rcases List.mem_cons.1 he with rfl | he
 · exact h
 · exact hl e' he
theorem oHa0_ok : ∀ p ∈ oHa0, OrcOk Tryz.prog p.1 p.2 := mem_cons_ok (mem3s_ok (pick_ok orcsJ_ok) Tryz.func26 (by kernel_rfl) eHa0 (run_cons mHa2_run (fun _ h => (by cases h)))) orcsJ_ok
theorem oHa1_ok : ∀ p ∈ oHa1, OrcOk Tryz.prog p.1 p.2 := mem_cons_ok (mem3s_ok (pick_ok oHa0_ok) Tryz.func56 (by kernel_rfl) eHa1 (run_cons mHa4_run (run_cons mHa11_run (run_cons mHa12_run (run_cons mHa17_run (fun _ h => (by cases h))))))) oHa0_ok
theorem oHa2_ok : ∀ p ∈ oHa2, OrcOk Tryz.prog p.1 p.2 := mem_cons_ok (mem3s_ok (pick_ok oHa1_ok) Tryz.func102 (by kernel_rfl) eHa2 (run_cons mHa6_run (run_cons mHa7_run (run_cons mHa9_run (fun _ h => (by cases h)))))) oHa1_ok
theorem oHa3_ok : ∀ p ∈ oHa3, OrcOk Tryz.prog p.1 p.2 := mem_cons_ok (mem3s_ok (pick_ok oHa2_ok) Tryz.func196 (by kernel_rfl) eHa3 (run_cons mHa14_run (fun _ h => (by cases h)))) oHa2_ok
theorem oHa4_ok : ∀ p ∈ oHa4, OrcOk Tryz.prog p.1 p.2 := mem_cons_ok (mem3s_ok (pick_ok oHa3_ok) Tryz.func201 (by kernel_rfl) eHa4 (run_cons mHa31_run (fun _ h => (by cases h)))) oHa3_ok
theorem oHa5_ok : ∀ p ∈ oHa5, OrcOk Tryz.prog p.1 p.2 := mem_cons_ok (mem3s_ok (pick_ok oHa4_ok) Tryz.func402 (by kernel_rfl) eHa5 (run_cons mHa36_run (fun _ h => (by cases h)))) oHa4_ok
theorem oHa6_ok : ∀ p ∈ oHa6, OrcOk Tryz.prog p.1 p.2 := mem_cons_ok (mem3s_ok (pick_ok oHa5_ok) Tryz.func403 (by kernel_rfl) eHa6 (run_cons mHa37_run (run_cons mHa38_run (run_cons mHa39_run (fun _ h => (by cases h)))))) oHa5_ok
theorem oHa7_ok : ∀ p ∈ oHa7, OrcOk Tryz.prog p.1 p.2 := mem_cons_ok (mem3s_ok (pick_ok oHa6_ok) Tryz.func30 (by kernel_rfl) eHa7 (run_cons mHa3_run (run_cons mHa10_run (run_cons mHa16_run (run_cons mHa108_run (fun _ h => (by cases h))))))) oHa6_ok
theorem oHa8_ok : ∀ p ∈ oHa8, OrcOk Tryz.prog p.1 p.2 := mem_cons_ok (mem3s_ok (pick_ok oHa7_ok) Tryz.func9 (by kernel_rfl) eHa8 (run_cons mHa8_run (run_cons mHa15_run (run_cons mHa19_run (run_cons mHa21_run (run_cons mHa23_run (run_cons mHa25_run (run_cons mHa27_run (run_cons mHa29_run (run_cons mHa32_run (run_cons mHa34_run (run_cons mHa40_run (run_cons mHa43_run (run_cons mHa45_run (run_cons mHa47_run (run_cons mHa49_run (run_cons mHa51_run (run_cons mHa53_run (run_cons mHa57_run (run_cons mHa59_run (run_cons mHa61_run (run_cons mHa63_run (run_cons mHa65_run (run_cons mHa67_run (run_cons mHa69_run (run_cons mHa71_run (run_cons mHa73_run (run_cons mHa75_run (run_cons mHa77_run (run_cons mHa80_run (run_cons mHa82_run (run_cons mHa84_run (run_cons mHa86_run (run_cons mHa88_run (run_cons mHa90_run (run_cons mHa92_run (run_cons mHa94_run (run_cons mHa96_run (run_cons mHa99_run (run_cons mHa100_run (run_cons mHa102_run (run_cons mHa103_run (run_cons mHa104_run (run_cons mHa105_run (fun _ h => (by cases h)))))))))))))))))))))))))))))))))))))))))))))) oHa7_ok
theorem oHa9_ok : ∀ p ∈ oHa9, OrcOk Tryz.prog p.1 p.2 := mem_cons_ok (mem3s_ok (pick_ok oHa8_ok) Tryz.func31 (by kernel_rfl) eHa9 (run_cons mHa5_run (fun _ h => (by cases h)))) oHa8_ok
theorem oHa10_ok : ∀ p ∈ oHa10, OrcOk Tryz.prog p.1 p.2 := mem_cons_ok (mem3s_ok (pick_ok oHa9_ok) Tryz.func18 (by kernel_rfl) eHa10 (run_cons mHa1_run (run_cons mHa56_run (run_cons mHa98_run (run_cons mHa107_run (fun _ h => (by cases h))))))) oHa9_ok
theorem oHa11_ok : ∀ p ∈ oHa11, OrcOk Tryz.prog p.1 p.2 := mem_cons_ok (mem3s_ok (pick_ok oHa10_ok) Tryz.func49 (by kernel_rfl) eHa11 (run_cons mHa42_run (run_cons mHa79_run (fun _ h => (by cases h))))) oHa10_ok
theorem oHa12_ok : ∀ p ∈ oHa12, OrcOk Tryz.prog p.1 p.2 := mem_cons_ok (mem3s_ok (pick_ok oHa11_ok) Tryz.func23 (by kernel_rfl) eHa12 (run_cons mHa13_run (run_cons mHa18_run (run_cons mHa20_run (run_cons mHa22_run (run_cons mHa24_run (run_cons mHa26_run (run_cons mHa28_run (run_cons mHa30_run (run_cons mHa33_run (run_cons mHa35_run (run_cons mHa41_run (run_cons mHa44_run (run_cons mHa46_run (run_cons mHa48_run (run_cons mHa50_run (run_cons mHa52_run (run_cons mHa54_run (run_cons mHa58_run (run_cons mHa60_run (run_cons mHa62_run (run_cons mHa64_run (run_cons mHa66_run (run_cons mHa68_run (run_cons mHa70_run (run_cons mHa72_run (run_cons mHa74_run (run_cons mHa76_run (run_cons mHa78_run (run_cons mHa81_run (run_cons mHa83_run (run_cons mHa85_run (run_cons mHa87_run (run_cons mHa89_run (run_cons mHa91_run (run_cons mHa93_run (run_cons mHa95_run (run_cons mHa109_run (run_cons mHa110_run (run_cons mHa111_run (run_cons mHa112_run (run_cons mHa113_run (run_cons mHa114_run (run_cons mHa115_run (run_cons mHa116_run (fun _ h => (by cases h))))))))))))))))))))))))))))))))))))))))))))))) oHa11_ok
theorem oHa13_ok : ∀ p ∈ oHa13, OrcOk Tryz.prog p.1 p.2 := mem_cons_ok (mem3s_ok (pick_ok oHa12_ok) Tryz.func5 (by kernel_rfl) eHa13 (run_cons mHa0_run (run_cons mHa55_run (fun _ h => (by cases h))))) oHa12_ok
theorem oHa14_ok : ∀ p ∈ oHa14, OrcOk Tryz.prog p.1 p.2 := mem_cons_ok (mem3s_ok (pick_ok oHa13_ok) Tryz.func7 (by kernel_rfl) eHa14 (run_cons mHa97_run (run_cons mHa106_run (fun _ h => (by cases h))))) oHa13_ok
theorem oHa15_ok : ∀ p ∈ oHa15, OrcOk Tryz.prog p.1 p.2 := mem_cons_ok (mem3s_ok (pick_ok oHa14_ok) Tryz.func10 (by kernel_rfl) eHa15 (run_cons mHa101_run (fun _ h => (by cases h)))) oHa14_ok
theorem auditsKnown_run : closedTrue Tryz.prog (pick oHa15) 3 = true := by kernel_rfl
theorem auditsKnown_law (w : World) (h1 : Glob w) (h2 : Sizes w) : Calls Tryz.prog 3 #[] w fun e w' => e = .returned (.bool true) ∧ Below w.heap.size w w' := law_of (pick_ok oHa15_ok) Tryz.func3 (by kernel_rfl) auditsKnown_run h1 h2
end Go.Ev
