/- The closed law DeadlocksKnown, reckoned from its calls. -/
import Derived.Test.YtmjbpmdbhbjndaaGreatDoorDkr1
import Derived.Test.YtmjbpmdbhbjndaaGreatDoorDkr2
import Derived.Test.YtmjbpmdbhbjndaaGreatDoorDkr3
import Derived.Test.YtmjbpmdbhbjndaaGreatDoorDkr4
set_option maxRecDepth 4000

namespace Go.Ev
open Go.RowKit
open Go.Proofs
open Go.Proofs.YtmjbpmdbhbjndaaGreatDoor (Glob)
theorem mem_cons_ok {P : Program} {l : List (Nat × (Cal → V → H → Nm → C))} {f : Nat} {g : Cal → V → H → Nm → C} (h : OrcOk P f g) (hl : ∀ p ∈ l, OrcOk P p.1 p.2) : ∀ p ∈ (f, g) :: l, OrcOk P p.1 p.2 := fun p hp => by
 rcases List.mem_cons.1 hp with rfl | hp
 · exact h
 · exact hl p hp
theorem xn {Q : Nat × List Mem2 → Prop} : ∀ p ∈ ([] : Grp), Q p := fun _ h => (by cases h)
theorem xa {P : Program} {O : Orc} {f : Nat} {c l : Grp} (h : runsK P O f c = true) (hl : ∀ p ∈ l, ∀ e ∈ p.2, mem2Run P O 3000 60 f e = true) : ∀ p ∈ appG c l, ∀ e ∈ p.2, mem2Run P O 3000 60 f e = true := runsK_app c h hl
theorem oDk0_ok : ∀ p ∈ oDk0, OrcOk Tryz.prog p.1 p.2 := mem_cons_ok (memKs_ok (pick_ok orcsD_ok) Tryz.func7 (by kernel_rfl) ek0 (xa rk0 xn)) orcsD_ok
theorem oDk1_ok : ∀ p ∈ oDk1, OrcOk Tryz.prog p.1 p.2 := mem_cons_ok (memKs_ok (pick_ok oDk0_ok) Tryz.func11 (by kernel_rfl) ek1 (xa rk1 (xa rk2 (xa rk3 (xa rk4 (xa rk5 (xa rk6 (xa rk7 (xa rk8 (xa rk9 (xa rk10 (xa rk11 (xa rk12 (xa rk13 (xa rk14 (xa rk15 (xa rk16 (xa rk17 (xa rk18 (xa rk19 (xa rk20 (xa rk21 (xa rk22 (xa rk23 (xa rk24 (xa rk25 (xa rk26 (xa rk27 (xa rk28 (xa rk29 (xa rk30 (xa rk31 (xa rk32 (xa rk33 (xa rk34 (xa rk35 (xa rk36 (xa rk37 (xa rk38 (xa rk39 (xa rk40 (xa rk41 (xa rk42 (xa rk43 (xa rk44 (xa rk45 (xa rk46 (xa rk47 (xa rk48 (xa rk49 (xa rk50 (xa rk51 (xa rk52 (xa rk53 (xa rk54 (xa rk55 (xa rk56 (xa rk57 (xa rk58 (xa rk59 (xa rk60 (xa rk61 xn)))))))))))))))))))))))))))))))))))))))))))))))))))))))))))))) oDk0_ok
theorem oDk2_ok : ∀ p ∈ oDk2, OrcOk Tryz.prog p.1 p.2 := mem_cons_ok (memKs_ok (pick_ok oDk1_ok) Tryz.func20 (by kernel_rfl) ek2 (xa rk62 xn)) oDk1_ok
theorem oDk3_ok : ∀ p ∈ oDk3, OrcOk Tryz.prog p.1 p.2 := mem_cons_ok (memKs_ok (pick_ok oDk2_ok) Tryz.func52 (by kernel_rfl) ek3 (xa rk63 xn)) oDk2_ok
theorem oDk4_ok : ∀ p ∈ oDk4, OrcOk Tryz.prog p.1 p.2 := mem_cons_ok (memKs_ok (pick_ok oDk3_ok) Tryz.func64 (by kernel_rfl) ek4 (xa rk64 xn)) oDk3_ok
theorem oDk5_ok : ∀ p ∈ oDk5, OrcOk Tryz.prog p.1 p.2 := mem_cons_ok (memKs_ok (pick_ok oDk4_ok) Tryz.func119 (by kernel_rfl) ek5 (xa rk65 xn)) oDk4_ok
theorem oDk6_ok : ∀ p ∈ oDk6, OrcOk Tryz.prog p.1 p.2 := mem_cons_ok (memKs_ok (pick_ok oDk5_ok) Tryz.func124 (by kernel_rfl) ek6 (xa rk66 xn)) oDk5_ok
theorem oDk7_ok : ∀ p ∈ oDk7, OrcOk Tryz.prog p.1 p.2 := mem_cons_ok (memKs_ok (pick_ok oDk6_ok) Tryz.func138 (by kernel_rfl) ek7 (xa rk67 xn)) oDk6_ok
theorem oDk8_ok : ∀ p ∈ oDk8, OrcOk Tryz.prog p.1 p.2 := mem_cons_ok (memKs_ok (pick_ok oDk7_ok) Tryz.func353 (by kernel_rfl) ek8 (xa rk68 xn)) oDk7_ok
theorem oDk9_ok : ∀ p ∈ oDk9, OrcOk Tryz.prog p.1 p.2 := mem_cons_ok (memKs_ok (pick_ok oDk8_ok) Tryz.func354 (by kernel_rfl) ek9 (xa rk69 (xa rk70 (xa rk71 xn)))) oDk8_ok
theorem oDk10_ok : ∀ p ∈ oDk10, OrcOk Tryz.prog p.1 p.2 := mem_cons_ok (memKs_ok (pick_ok oDk9_ok) Tryz.func6 (by kernel_rfl) ek10 (xa rk72 (xa rk73 (xa rk74 (xa rk75 (xa rk76 (xa rk77 (xa rk78 (xa rk79 (xa rk80 (xa rk81 xn))))))))))) oDk9_ok
theorem oDk11_ok : ∀ p ∈ oDk11, OrcOk Tryz.prog p.1 p.2 := mem_cons_ok (memKs_ok (pick_ok oDk10_ok) Tryz.func35 (by kernel_rfl) ek11 (xa rk82 xn)) oDk10_ok
theorem oDk12_ok : ∀ p ∈ oDk12, OrcOk Tryz.prog p.1 p.2 := mem_cons_ok (memKs_ok (pick_ok oDk11_ok) Tryz.func13 (by kernel_rfl) ek12 (xa rk83 (xa rk84 (xa rk85 (xa rk86 (xa rk87 (xa rk88 (xa rk89 (xa rk90 (xa rk91 xn)))))))))) oDk11_ok
theorem oDk13_ok : ∀ p ∈ oDk13, OrcOk Tryz.prog p.1 p.2 := mem_cons_ok (memKs_ok (pick_ok oDk12_ok) Tryz.func14 (by kernel_rfl) ek13 (xa rk92 (xa rk93 (xa rk94 (xa rk95 (xa rk96 (xa rk97 (xa rk98 (xa rk99 (xa rk100 (xa rk101 (xa rk102 (xa rk103 (xa rk104 (xa rk105 (xa rk106 (xa rk107 (xa rk108 (xa rk109 (xa rk110 (xa rk111 (xa rk112 (xa rk113 (xa rk114 (xa rk115 (xa rk116 (xa rk117 (xa rk118 (xa rk119 (xa rk120 (xa rk121 (xa rk122 (xa rk123 (xa rk124 xn)))))))))))))))))))))))))))))))))) oDk12_ok
theorem oDk14_ok : ∀ p ∈ oDk14, OrcOk Tryz.prog p.1 p.2 := mem_cons_ok (memKs_ok (pick_ok oDk13_ok) Tryz.func66 (by kernel_rfl) ek14 (xa rk125 xn)) oDk13_ok
theorem oDk15_ok : ∀ p ∈ oDk15, OrcOk Tryz.prog p.1 p.2 := mem_cons_ok (memKs_ok (pick_ok oDk14_ok) Tryz.func21 (by kernel_rfl) ek15 (xa rk126 (xa rk127 (xa rk128 xn)))) oDk14_ok
theorem oDk16_ok : ∀ p ∈ oDk16, OrcOk Tryz.prog p.1 p.2 := mem_cons_ok (memKs_ok (pick_ok oDk15_ok) Tryz.func4 (by kernel_rfl) ek16 (xa rk129 (xa rk130 (xa rk131 xn)))) oDk15_ok
theorem oDk17_ok : ∀ p ∈ oDk17, OrcOk Tryz.prog p.1 p.2 := mem_cons_ok (memKs_ok (pick_ok oDk16_ok) Tryz.func5 (by kernel_rfl) ek17 (xa rk132 xn)) oDk16_ok
theorem oDk18_ok : ∀ p ∈ oDk18, OrcOk Tryz.prog p.1 p.2 := mem_cons_ok (memKs_ok (pick_ok oDk17_ok) Tryz.func9 (by kernel_rfl) ek18 (xa rk133 xn)) oDk17_ok
noncomputable def oDkLAST : List (Nat × (Cal → V → H → Nm → C)) := oDk18
theorem oDkLAST_ok : ∀ p ∈ oDkLAST, OrcOk Tryz.prog p.1 p.2 := oDk18_ok
theorem deadlocksKnown_run : closedTrue Tryz.prog (pick oDk18) 3 = true := by kernel_rfl
theorem deadlocksKnown_law (w : World) (h1 : Glob w) (h2 : Sizes w) : Calls Tryz.prog 3 #[] w fun e w' => e = .returned (.bool true) ∧ Below w.heap.size w w' := law_of (pick_ok oDk18_ok) Tryz.func3 (by kernel_rfl) deadlocksKnown_run h1 h2
end Go.Ev
