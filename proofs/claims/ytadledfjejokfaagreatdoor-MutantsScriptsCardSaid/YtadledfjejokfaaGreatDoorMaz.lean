/- The calls of the law MutantsScripts, reckoned. -/
import Derived.Test.YtadledfjejokfaaGreatDoorMar1
import Derived.Test.YtadledfjejokfaaGreatDoorMar2
import Derived.Test.YtadledfjejokfaaGreatDoorMar3
import Derived.Test.YtadledfjejokfaaGreatDoorMar4
set_option maxRecDepth 4000

namespace Go.Ev
open Go.RowKit
open Go.Proofs
open Go.Proofs.YtadledfjejokfaaGreatDoor (Glob)
theorem mem_cons_ok {P : Program} {l : List (Nat × (Cal → V → H → Nm → C))} {f : Nat} {g : Cal → V → H → Nm → C} (h : OrcOk P f g) (hl : ∀ p ∈ l, OrcOk P p.1 p.2) : ∀ p ∈ (f, g) :: l, OrcOk P p.1 p.2 := fun p hp => by
 rcases List.mem_cons.1 hp with rfl | hp
 · exact h
 · exact hl p hp
theorem oMa0_ok : ∀ p ∈ oMa0, OrcOk Tryz.prog p.1 p.2 := mem_cons_ok (memKs_ok (pick_ok orcsL_ok) Tryz.func21 (by kernel_rfl) eMa0 (runsK_app _ cMa0r (runsK_app _ cMa1r (runsK_app _ cMa2r (runsK_app _ cMa3r (runsK_app _ cMa4r (fun _ h => (by cases h)))))))) orcsL_ok
theorem oMa1_ok : ∀ p ∈ oMa1, OrcOk Tryz.prog p.1 p.2 := mem_cons_ok (memKs_ok (pick_ok oMa0_ok) Tryz.func27 (by kernel_rfl) eMa1 (runsK_app _ cMa5r (fun _ h => (by cases h)))) oMa0_ok
theorem oMa2_ok : ∀ p ∈ oMa2, OrcOk Tryz.prog p.1 p.2 := mem_cons_ok (memKs_ok (pick_ok oMa1_ok) Tryz.func147 (by kernel_rfl) eMa2 (runsK_app _ cMa6r (runsK_app _ cMa7r (fun _ h => (by cases h))))) oMa1_ok
theorem oMa3_ok : ∀ p ∈ oMa3, OrcOk Tryz.prog p.1 p.2 := mem_cons_ok (memKs_ok (pick_ok oMa2_ok) Tryz.func168 (by kernel_rfl) eMa3 (runsK_app _ cMa8r (fun _ h => (by cases h)))) oMa2_ok
theorem oMa4_ok : ∀ p ∈ oMa4, OrcOk Tryz.prog p.1 p.2 := mem_cons_ok (memKs_ok (pick_ok oMa3_ok) Tryz.func210 (by kernel_rfl) eMa4 (runsK_app _ cMa9r (runsK_app _ cMa10r (runsK_app _ cMa11r (runsK_app _ cMa12r (runsK_app _ cMa13r (runsK_app _ cMa14r (runsK_app _ cMa15r (runsK_app _ cMa16r (runsK_app _ cMa17r (fun _ h => (by cases h)))))))))))) oMa3_ok
theorem oMa5_ok : ∀ p ∈ oMa5, OrcOk Tryz.prog p.1 p.2 := mem_cons_ok (memKs_ok (pick_ok oMa4_ok) Tryz.func213 (by kernel_rfl) eMa5 (runsK_app _ cMa18r (fun _ h => (by cases h)))) oMa4_ok
theorem oMa6_ok : ∀ p ∈ oMa6, OrcOk Tryz.prog p.1 p.2 := mem_cons_ok (memKs_ok (pick_ok oMa5_ok) Tryz.func218 (by kernel_rfl) eMa6 (runsK_app _ cMa19r (fun _ h => (by cases h)))) oMa5_ok
theorem oMa7_ok : ∀ p ∈ oMa7, OrcOk Tryz.prog p.1 p.2 := mem_cons_ok (memKs_ok (pick_ok oMa6_ok) Tryz.func225 (by kernel_rfl) eMa7 (runsK_app _ cMa20r (fun _ h => (by cases h)))) oMa6_ok
theorem oMa8_ok : ∀ p ∈ oMa8, OrcOk Tryz.prog p.1 p.2 := mem_cons_ok (memKs_ok (pick_ok oMa7_ok) Tryz.func447 (by kernel_rfl) eMa8 (runsK_app _ cMa21r (fun _ h => (by cases h)))) oMa7_ok
theorem oMa9_ok : ∀ p ∈ oMa9, OrcOk Tryz.prog p.1 p.2 := mem_cons_ok (memKs_ok (pick_ok oMa8_ok) Tryz.func448 (by kernel_rfl) eMa9 (runsK_app _ cMa22r (runsK_app _ cMa23r (runsK_app _ cMa24r (runsK_app _ cMa25r (runsK_app _ cMa26r (runsK_app _ cMa27r (fun _ h => (by cases h))))))))) oMa8_ok
theorem oMa10_ok : ∀ p ∈ oMa10, OrcOk Tryz.prog p.1 p.2 := mem_cons_ok (memKs_ok (pick_ok oMa9_ok) Tryz.func124 (by kernel_rfl) eMa10 (runsK_app _ cMa28r (fun _ h => (by cases h)))) oMa9_ok
theorem oMa11_ok : ∀ p ∈ oMa11, OrcOk Tryz.prog p.1 p.2 := mem_cons_ok (memKs_ok (pick_ok oMa10_ok) Tryz.func125 (by kernel_rfl) eMa11 (runsK_app _ cMa29r (fun _ h => (by cases h)))) oMa10_ok
theorem oMa12_ok : ∀ p ∈ oMa12, OrcOk Tryz.prog p.1 p.2 := mem_cons_ok (memKs_ok (pick_ok oMa11_ok) Tryz.func83 (by kernel_rfl) eMa12 (runsK_app _ cMa30r (runsK_app _ cMa31r (runsK_app _ cMa32r (runsK_app _ cMa33r (runsK_app _ cMa34r (runsK_app _ cMa35r (runsK_app _ cMa36r (runsK_app _ cMa37r (runsK_app _ cMa38r (runsK_app _ cMa39r (fun _ h => (by cases h))))))))))))) oMa11_ok
theorem oMa13_ok : ∀ p ∈ oMa13, OrcOk Tryz.prog p.1 p.2 := mem_cons_ok (memKs_ok (pick_ok oMa12_ok) Tryz.func170 (by kernel_rfl) eMa13 (runsK_app _ cMa40r (runsK_app _ cMa41r (runsK_app _ cMa42r (fun _ h => (by cases h)))))) oMa12_ok
theorem oMa14_ok : ∀ p ∈ oMa14, OrcOk Tryz.prog p.1 p.2 := mem_cons_ok (memKs_ok (pick_ok oMa13_ok) Tryz.func196 (by kernel_rfl) eMa14 (runsK_app _ cMa43r (runsK_app _ cMa44r (runsK_app _ cMa45r (runsK_app _ cMa46r (runsK_app _ cMa47r (runsK_app _ cMa48r (runsK_app _ cMa49r (runsK_app _ cMa50r (runsK_app _ cMa51r (runsK_app _ cMa52r (runsK_app _ cMa53r (runsK_app _ cMa54r (runsK_app _ cMa55r (runsK_app _ cMa56r (runsK_app _ cMa57r (runsK_app _ cMa58r (runsK_app _ cMa59r (runsK_app _ cMa60r (runsK_app _ cMa61r (runsK_app _ cMa62r (runsK_app _ cMa63r (runsK_app _ cMa64r (runsK_app _ cMa65r (runsK_app _ cMa66r (runsK_app _ cMa67r (runsK_app _ cMa68r (runsK_app _ cMa69r (runsK_app _ cMa70r (runsK_app _ cMa71r (runsK_app _ cMa72r (fun _ h => (by cases h))))))))))))))))))))))))))))))))) oMa13_ok
theorem oMa15_ok : ∀ p ∈ oMa15, OrcOk Tryz.prog p.1 p.2 := mem_cons_ok (memKs_ok (pick_ok oMa14_ok) Tryz.func200 (by kernel_rfl) eMa15 (runsK_app _ cMa73r (runsK_app _ cMa74r (fun _ h => (by cases h))))) oMa14_ok
theorem oMa16_ok : ∀ p ∈ oMa16, OrcOk Tryz.prog p.1 p.2 := mem_cons_ok (memKs_ok (pick_ok oMa15_ok) Tryz.func23 (by kernel_rfl) eMa16 (runsK_app _ cMa75r (runsK_app _ cMa76r (runsK_app _ cMa77r (runsK_app _ cMa78r (fun _ h => (by cases h))))))) oMa15_ok
theorem oMa17_ok : ∀ p ∈ oMa17, OrcOk Tryz.prog p.1 p.2 := mem_cons_ok (memKs_ok (pick_ok oMa16_ok) Tryz.func211 (by kernel_rfl) eMa17 (runsK_app _ cMa79r (runsK_app _ cMa80r (runsK_app _ cMa81r (runsK_app _ cMa82r (runsK_app _ cMa83r (runsK_app _ cMa84r (runsK_app _ cMa85r (runsK_app _ cMa86r (runsK_app _ cMa87r (runsK_app _ cMa88r (runsK_app _ cMa89r (runsK_app _ cMa90r (runsK_app _ cMa91r (runsK_app _ cMa92r (fun _ h => (by cases h))))))))))))))))) oMa16_ok
theorem oMa18_ok : ∀ p ∈ oMa18, OrcOk Tryz.prog p.1 p.2 := mem_cons_ok (memKs_ok (pick_ok oMa17_ok) Tryz.func10 (by kernel_rfl) eMa18 (runsK_app _ cMa93r (runsK_app _ cMa94r (runsK_app _ cMa95r (runsK_app _ cMa96r (runsK_app _ cMa97r (runsK_app _ cMa98r (runsK_app _ cMa99r (runsK_app _ cMa100r (runsK_app _ cMa101r (runsK_app _ cMa102r (runsK_app _ cMa103r (runsK_app _ cMa104r (runsK_app _ cMa105r (runsK_app _ cMa106r (runsK_app _ cMa107r (runsK_app _ cMa108r (runsK_app _ cMa109r (runsK_app _ cMa110r (runsK_app _ cMa111r (runsK_app _ cMa112r (runsK_app _ cMa113r (runsK_app _ cMa114r (runsK_app _ cMa115r (runsK_app _ cMa116r (runsK_app _ cMa117r (runsK_app _ cMa118r (runsK_app _ cMa119r (fun _ h => (by cases h)))))))))))))))))))))))))))))) oMa17_ok
theorem oMa19_ok : ∀ p ∈ oMa19, OrcOk Tryz.prog p.1 p.2 := mem_cons_ok (memKs_ok (pick_ok oMa18_ok) Tryz.func6 (by kernel_rfl) eMa19 (runsK_app _ cMa120r (fun _ h => (by cases h)))) oMa18_ok
noncomputable def oMaLAST : List (Nat × (Cal → V → H → Nm → C)) := oMa19
theorem oMaLAST_ok : ∀ p ∈ oMaLAST, OrcOk Tryz.prog p.1 p.2 := oMa19_ok
theorem lives_run : closedTrue Tryz.prog (pick oMa19) 6 = true := by kernel_rfl
theorem lives_law (w : World) (h1 : Glob w) (h2 : Sizes w) : Calls Tryz.prog 6 #[] w fun e w' => e = .returned (.bool true) ∧ Below w.heap.size w w' := law_of (pick_ok oMa19_ok) Tryz.func6 (by kernel_rfl) lives_run h1 h2
end Go.Ev
