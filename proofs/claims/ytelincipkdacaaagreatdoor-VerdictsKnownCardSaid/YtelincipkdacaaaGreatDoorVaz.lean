/- The closed law VerdictsKnown, reckoned from its calls. -/
import Derived.Test.YtelincipkdacaaaGreatDoorVar1
import Derived.Test.YtelincipkdacaaaGreatDoorVar2
import Derived.Test.YtelincipkdacaaaGreatDoorVar3
import Derived.Test.YtelincipkdacaaaGreatDoorVar4
set_option maxRecDepth 4000

/-! The law, reckoned. -/
namespace Go.Ev
open Go.RowKit
open Go.Proofs
open Go.Proofs.YtelincipkdacaaaGreatDoor (Glob)

theorem mem_cons_ok {P : Program} {l : List (Nat × (Cal → V → H → Nm → C))} {f : Nat} {g : Cal → V → H → Nm → C} (h : OrcOk P f g) (hl : ∀ p ∈ l, OrcOk P p.1 p.2) : ∀ p ∈ (f, g) :: l, OrcOk P p.1 p.2 := fun p hp => by
  rcases List.mem_cons.1 hp with rfl | hp
  · exact h
  · exact hl p hp
theorem run_cons {P : Program} {O : Orc} {f : Nat} {e : Mem2} {l : List Mem2} (h : mem2Run P O 3000 60 f e = true) (hl : ∀ e ∈ l, mem2Run P O 3000 60 f e = true) : ∀ e' ∈ e :: l, mem2Run P O 3000 60 f e' = true := fun e' he => by
  rcases List.mem_cons.1 he with rfl | he
  · exact h
  · exact hl e' he
theorem oVa0_ok : ∀ p ∈ oVa0, OrcOk Tryz.prog p.1 p.2 := mem_cons_ok (mem3s_ok (pick_ok orcsL_ok) Tryz.func8 (by kernel_rfl) eVa0 (run_cons mVa36_run (run_cons mVa47_run (run_cons mVa48_run (run_cons mVa74_run (run_cons mVa75_run (run_cons mVa76_run (fun _ h => (by cases h))))))))) orcsL_ok
theorem oVa1_ok : ∀ p ∈ oVa1, OrcOk Tryz.prog p.1 p.2 := mem_cons_ok (mem3s_ok (pick_ok oVa0_ok) Tryz.func9 (by kernel_rfl) eVa1 (run_cons mVa37_run (run_cons mVa77_run (fun _ h => (by cases h))))) oVa0_ok
theorem oVa2_ok : ∀ p ∈ oVa2, OrcOk Tryz.prog p.1 p.2 := mem_cons_ok (mem3s_ok (pick_ok oVa1_ok) Tryz.func48 (by kernel_rfl) eVa2 (run_cons mVa2_run (fun _ h => (by cases h)))) oVa1_ok
theorem oVa3_ok : ∀ p ∈ oVa3, OrcOk Tryz.prog p.1 p.2 := mem_cons_ok (mem3s_ok (pick_ok oVa2_ok) Tryz.func53 (by kernel_rfl) eVa3 (run_cons mVa3_run (fun _ h => (by cases h)))) oVa2_ok
theorem oVa4_ok : ∀ p ∈ oVa4, OrcOk Tryz.prog p.1 p.2 := mem_cons_ok (mem3s_ok (pick_ok oVa3_ok) Tryz.func124 (by kernel_rfl) eVa4 (run_cons mVa35_run (fun _ h => (by cases h)))) oVa3_ok
theorem oVa5_ok : ∀ p ∈ oVa5, OrcOk Tryz.prog p.1 p.2 := mem_cons_ok (mem3s_ok (pick_ok oVa4_ok) Tryz.func163 (by kernel_rfl) eVa5 (run_cons mVa5_run (fun _ h => (by cases h)))) oVa4_ok
theorem oVa6_ok : ∀ p ∈ oVa6, OrcOk Tryz.prog p.1 p.2 := mem_cons_ok (mem3s_ok (pick_ok oVa5_ok) Tryz.func168 (by kernel_rfl) eVa6 (run_cons mVa14_run (fun _ h => (by cases h)))) oVa5_ok
theorem oVa7_ok : ∀ p ∈ oVa7, OrcOk Tryz.prog p.1 p.2 := mem_cons_ok (mem3s_ok (pick_ok oVa6_ok) Tryz.func386 (by kernel_rfl) eVa7 (run_cons mVa17_run (fun _ h => (by cases h)))) oVa6_ok
theorem oVa8_ok : ∀ p ∈ oVa8, OrcOk Tryz.prog p.1 p.2 := mem_cons_ok (mem3s_ok (pick_ok oVa7_ok) Tryz.func387 (by kernel_rfl) eVa8 (run_cons mVa18_run (run_cons mVa19_run (run_cons mVa20_run (fun _ h => (by cases h)))))) oVa7_ok
theorem oVa9_ok : ∀ p ∈ oVa9, OrcOk Tryz.prog p.1 p.2 := mem_cons_ok (mem3s_ok (pick_ok oVa8_ok) Tryz.func25 (by kernel_rfl) eVa9 (run_cons mVa1_run (run_cons mVa52_run (fun _ h => (by cases h))))) oVa8_ok
theorem oVa10_ok : ∀ p ∈ oVa10, OrcOk Tryz.prog p.1 p.2 := mem_cons_ok (mem3s_ok (pick_ok oVa9_ok) Tryz.func43 (by kernel_rfl) eVa10 (run_cons mVa4_run (run_cons mVa6_run (run_cons mVa7_run (run_cons mVa8_run (run_cons mVa9_run (run_cons mVa10_run (run_cons mVa11_run (run_cons mVa12_run (run_cons mVa13_run (run_cons mVa15_run (run_cons mVa16_run (run_cons mVa21_run (run_cons mVa22_run (run_cons mVa23_run (run_cons mVa24_run (run_cons mVa25_run (run_cons mVa26_run (run_cons mVa27_run (run_cons mVa28_run (run_cons mVa29_run (run_cons mVa30_run (run_cons mVa31_run (run_cons mVa32_run (run_cons mVa33_run (run_cons mVa34_run (run_cons mVa40_run (run_cons mVa41_run (run_cons mVa42_run (run_cons mVa43_run (run_cons mVa44_run (run_cons mVa45_run (run_cons mVa46_run (run_cons mVa54_run (run_cons mVa55_run (run_cons mVa56_run (run_cons mVa57_run (run_cons mVa58_run (run_cons mVa59_run (run_cons mVa60_run (run_cons mVa61_run (run_cons mVa62_run (run_cons mVa63_run (run_cons mVa64_run (run_cons mVa65_run (run_cons mVa66_run (run_cons mVa67_run (run_cons mVa68_run (run_cons mVa69_run (run_cons mVa70_run (run_cons mVa71_run (run_cons mVa72_run (run_cons mVa73_run (fun _ h => (by cases h))))))))))))))))))))))))))))))))))))))))))))))))))))))) oVa9_ok
theorem oVa11_ok : ∀ p ∈ oVa11, OrcOk Tryz.prog p.1 p.2 := mem_cons_ok (mem3s_ok (pick_ok oVa10_ok) Tryz.func7 (by kernel_rfl) eVa11 (run_cons mVa0_run (fun _ h => (by cases h)))) oVa10_ok
theorem oVa12_ok : ∀ p ∈ oVa12, OrcOk Tryz.prog p.1 p.2 := mem_cons_ok (mem3s_ok (pick_ok oVa11_ok) Tryz.func20 (by kernel_rfl) eVa12 (run_cons mVa39_run (run_cons mVa53_run (fun _ h => (by cases h))))) oVa11_ok
theorem oVa13_ok : ∀ p ∈ oVa13, OrcOk Tryz.prog p.1 p.2 := mem_cons_ok (mem3s_ok (pick_ok oVa12_ok) Tryz.func11 (by kernel_rfl) eVa13 (run_cons mVa38_run (run_cons mVa51_run (fun _ h => (by cases h))))) oVa12_ok
theorem oVa14_ok : ∀ p ∈ oVa14, OrcOk Tryz.prog p.1 p.2 := mem_cons_ok (mem3s_ok (pick_ok oVa13_ok) Tryz.func21 (by kernel_rfl) eVa14 (run_cons mVa50_run (fun _ h => (by cases h)))) oVa13_ok
theorem oVa15_ok : ∀ p ∈ oVa15, OrcOk Tryz.prog p.1 p.2 := mem_cons_ok (mem3s_ok (pick_ok oVa14_ok) Tryz.func12 (by kernel_rfl) eVa15 (run_cons mVa49_run (fun _ h => (by cases h)))) oVa14_ok
theorem verdictsKnown_run : closedTrue Tryz.prog (pick oVa15) 3 = true := by kernel_rfl
theorem verdictsKnown_law (w : World) (h1 : Glob w) (h2 : Sizes w) : Calls Tryz.prog 3 #[] w fun e w' => e = .returned (.bool true) ∧ Below w.heap.size w w' := law_of (pick_ok oVa15_ok) Tryz.func3 (by kernel_rfl) verdictsKnown_run h1 h2
end Go.Ev
