/- The chapter's examples, reckoned from their calls; the law on fairs' numbers over them. -/
import Derived.Test.YtnpnljgjloofkaaGreatDoorFqr1
import Derived.Test.YtnpnljgjloofkaaGreatDoorFnt
set_option maxRecDepth 4000

namespace Go.Ev
open Go.RowKit
open Go.Proofs
open Go.Proofs.YtnpnljgjloofkaaGreatDoor (Glob)
theorem mem_cons_ok {P : Program} {l : List (Nat × (Cal → V → H → Nm → C))} {f : Nat} {g : Cal → V → H → Nm → C} (h : OrcOk P f g) (hl : ∀ p ∈ l, OrcOk P p.1 p.2) : ∀ p ∈ (f, g) :: l, OrcOk P p.1 p.2 := fun p hp => by
 rcases List.mem_cons.1 hp with rfl | hp
 · exact h
 · exact hl p hp
theorem xn {Q : Nat × List Mem2 → Prop} : ∀ p ∈ ([] : Grp), Q p := fun _ h => (by cases h)
theorem xa {P : Program} {O : Orc} {f : Nat} {c l : Grp} (h : runsK P O f c = true) (hl : ∀ p ∈ l, ∀ e ∈ p.2, mem2Run P O 3000 60 f e = true) : ∀ p ∈ appG c l, ∀ e ∈ p.2, mem2Run P O 3000 60 f e = true := runsK_app c h hl
theorem oFq0_ok : ∀ p ∈ oFq0, OrcOk Tryz.prog p.1 p.2 := mem_cons_ok (memKs_ok (pick_ok orcsJ_ok) Tryz.func45 (by kernel_rfl) ek0 (xa rk0 xn)) orcsJ_ok
theorem oFq1_ok : ∀ p ∈ oFq1, OrcOk Tryz.prog p.1 p.2 := mem_cons_ok (memKs_ok (pick_ok oFq0_ok) Tryz.func73 (by kernel_rfl) ek1 (xa rk1 xn)) oFq0_ok
theorem oFq2_ok : ∀ p ∈ oFq2, OrcOk Tryz.prog p.1 p.2 := mem_cons_ok (memKs_ok (pick_ok oFq1_ok) Tryz.func112 (by kernel_rfl) ek2 (xa rk2 xn)) oFq1_ok
theorem oFq3_ok : ∀ p ∈ oFq3, OrcOk Tryz.prog p.1 p.2 := mem_cons_ok (memKs_ok (pick_ok oFq2_ok) Tryz.func126 (by kernel_rfl) ek3 (xa rk3 xn)) oFq2_ok
theorem oFq4_ok : ∀ p ∈ oFq4, OrcOk Tryz.prog p.1 p.2 := mem_cons_ok (memKs_ok (pick_ok oFq3_ok) Tryz.func131 (by kernel_rfl) ek4 (xa rk4 xn)) oFq3_ok
theorem oFq5_ok : ∀ p ∈ oFq5, OrcOk Tryz.prog p.1 p.2 := mem_cons_ok (memKs_ok (pick_ok oFq4_ok) Tryz.func49 (by kernel_rfl) ek5 (xa rk5 xn)) oFq4_ok
theorem oFq6_ok : ∀ p ∈ oFq6, OrcOk Tryz.prog p.1 p.2 := mem_cons_ok (memKs_ok (pick_ok oFq5_ok) Tryz.func50 (by kernel_rfl) ek6 (xa rk6 xn)) oFq5_ok
theorem oFq7_ok : ∀ p ∈ oFq7, OrcOk Tryz.prog p.1 p.2 := mem_cons_ok (memKs_ok (pick_ok oFq6_ok) Tryz.func29 (by kernel_rfl) ek7 (xa rk7 (xa rk8 (xa rk9 xn)))) oFq6_ok
theorem oFq8_ok : ∀ p ∈ oFq8, OrcOk Tryz.prog p.1 p.2 := mem_cons_ok (memKs_ok (pick_ok oFq7_ok) Tryz.func37 (by kernel_rfl) ek8 (xa rk10 (xa rk11 (xa rk12 xn)))) oFq7_ok
noncomputable def oFqLAST : List (Nat × (Cal → V → H → Nm → C)) := oFq8
theorem oFqLAST_ok : ∀ p ∈ oFqLAST, OrcOk Tryz.prog p.1 p.2 := oFq8_ok
theorem lives_run : closedTrue Tryz.prog (pick oFq8) 9 = true := by kernel_rfl
theorem lives_law (w : World) (h1 : Glob w) (h2 : Sizes w) : Calls Tryz.prog 9 #[] w fun e w' => e = .returned (.bool true) ∧ Below w.heap.size w w' := law_of (pick_ok oFq8_ok) Tryz.func9 (by kernel_rfl) lives_run h1 h2
end Go.Ev

namespace Go.Proofs.YtnpnljgjloofkaaGreatDoor
open Go.RowKit
theorem fairsNumbers_law (v0 v1 v2 : Value) (x : CV) (l : List LV) (A : Option Addr) (n k : Nat) (la : List PlA) (z0 z1 : Int) (c : Cfg) (hc : c.ms.length = 32) (w : World) (hG : Glob w) (hS : Ev.Sizes w) (hs : ArgF w v0 x l A n k la) (h1 : v1 = .agg #[.int .i64 z0, .int .i64 z1]) (h2 : v2 = .agg c.cells.toArray) :
 Calls Tryz.prog 3 #[v0, v1, v2] w fun e w' => e = .returned (.bool true) ∧ Below w.heap.size w w' := by
 obtain ⟨rfl, hp, ha⟩ := hs
 subst h1 h2
 exact numbers_any (OkW := fun w => Glob w ∧ Ev.Sizes w) (fun h hb => ⟨h.1.step hb, by
  obtain ⟨t, fr, h0⟩ := h.2
  exact ⟨t, fr, by rw [hb.block _ (Array.getElem?_eq_some_iff.1 h0).1]; exact h0⟩⟩) (fun w h => Ev.lives_law w h.1 h.2) x l A n k la z0 z1 c hc w ⟨hG, hS⟩ hp ha
end Go.Proofs.YtnpnljgjloofkaaGreatDoor
