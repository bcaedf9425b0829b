/- The law on fairs' numbers, walked over contracts; its arguments: what they read as. -/
import Derived.Test.YtnpnljgjloofkaaGreatDoorFrb
import Derived.Test.YtnpnljgjloofkaaGreatDoorFrc
import Derived.Test.YtnpnljgjloofkaaGreatDoorFrj
import Derived.Test.YtnpnljgjloofkaaGreatDoorSerl
import Derived.Deep.MidRow
import Derived.ProofKit
import Derived.Deep.Slices
import Derived.SizedLaws
import Derived.OpenShut
namespace Go.Proofs.YtnpnljgjloofkaaGreatDoor
open Go.RowKit

theorem list39 {l : List Value} (h : l.length = 39) : ∃ a0 a1 a2 a3 a4 a5 a6 a7 a8 a9 a10 a11 a12 a13 a14 a15 a16 a17 a18 a19 a20 a21 a22 a23 a24 a25 a26 a27 a28 a29 a30 a31 a32 a33 a34 a35 a36 a37 a38, l = [a0, a1, a2, a3, a4, a5, a6, a7, a8, a9, a10, a11, a12, a13, a14, a15, a16, a17, a18, a19, a20, a21, a22, a23, a24, a25, a26, a27, a28, a29, a30, a31, a32, a33, a34, a35, a36, a37, a38] := by
  have get : ∀ j, j < 39 → ∃ v, l[j]? = some v := fun j hj => ⟨l[j], List.getElem?_eq_getElem (by omega)⟩
  obtain ⟨a0, e0⟩ := get 0 (by decide)
  obtain ⟨a1, e1⟩ := get 1 (by decide)
  obtain ⟨a2, e2⟩ := get 2 (by decide)
  obtain ⟨a3, e3⟩ := get 3 (by decide)
  obtain ⟨a4, e4⟩ := get 4 (by decide)
  obtain ⟨a5, e5⟩ := get 5 (by decide)
  obtain ⟨a6, e6⟩ := get 6 (by decide)
  obtain ⟨a7, e7⟩ := get 7 (by decide)
  obtain ⟨a8, e8⟩ := get 8 (by decide)
  obtain ⟨a9, e9⟩ := get 9 (by decide)
  obtain ⟨a10, e10⟩ := get 10 (by decide)
  obtain ⟨a11, e11⟩ := get 11 (by decide)
  obtain ⟨a12, e12⟩ := get 12 (by decide)
  obtain ⟨a13, e13⟩ := get 13 (by decide)
  obtain ⟨a14, e14⟩ := get 14 (by decide)
  obtain ⟨a15, e15⟩ := get 15 (by decide)
  obtain ⟨a16, e16⟩ := get 16 (by decide)
  obtain ⟨a17, e17⟩ := get 17 (by decide)
  obtain ⟨a18, e18⟩ := get 18 (by decide)
  obtain ⟨a19, e19⟩ := get 19 (by decide)
  obtain ⟨a20, e20⟩ := get 20 (by decide)
  obtain ⟨a21, e21⟩ := get 21 (by decide)
  obtain ⟨a22, e22⟩ := get 22 (by decide)
  obtain ⟨a23, e23⟩ := get 23 (by decide)
  obtain ⟨a24, e24⟩ := get 24 (by decide)
  obtain ⟨a25, e25⟩ := get 25 (by decide)
  obtain ⟨a26, e26⟩ := get 26 (by decide)
  obtain ⟨a27, e27⟩ := get 27 (by decide)
  obtain ⟨a28, e28⟩ := get 28 (by decide)
  obtain ⟨a29, e29⟩ := get 29 (by decide)
  obtain ⟨a30, e30⟩ := get 30 (by decide)
  obtain ⟨a31, e31⟩ := get 31 (by decide)
  obtain ⟨a32, e32⟩ := get 32 (by decide)
  obtain ⟨a33, e33⟩ := get 33 (by decide)
  obtain ⟨a34, e34⟩ := get 34 (by decide)
  obtain ⟨a35, e35⟩ := get 35 (by decide)
  obtain ⟨a36, e36⟩ := get 36 (by decide)
  obtain ⟨a37, e37⟩ := get 37 (by decide)
  obtain ⟨a38, e38⟩ := get 38 (by decide)
  refine ⟨a0, a1, a2, a3, a4, a5, a6, a7, a8, a9, a10, a11, a12, a13, a14, a15, a16, a17, a18, a19, a20, a21, a22, a23, a24, a25, a26, a27, a28, a29, a30, a31, a32, a33, a34, a35, a36, a37, a38, List.ext_getElem? fun i => ?_⟩
  match i with
  | 0 => exact e0
  | 1 => exact e1
  | 2 => exact e2
  | 3 => exact e3
  | 4 => exact e4
  | 5 => exact e5
  | 6 => exact e6
  | 7 => exact e7
  | 8 => exact e8
  | 9 => exact e9
  | 10 => exact e10
  | 11 => exact e11
  | 12 => exact e12
  | 13 => exact e13
  | 14 => exact e14
  | 15 => exact e15
  | 16 => exact e16
  | 17 => exact e17
  | 18 => exact e18
  | 19 => exact e19
  | 20 => exact e20
  | 21 => exact e21
  | 22 => exact e22
  | 23 => exact e23
  | 24 => exact e24
  | 25 => exact e25
  | 26 => exact e26
  | 27 => exact e27
  | 28 => exact e28
  | 29 => exact e29
  | 30 => exact e30
  | 31 => exact e31
  | 32 => exact e32
  | 33 => exact e33
  | 34 => exact e34
  | 35 => exact e35
  | 36 => exact e36
  | 37 => exact e37
  | 38 => exact e38
  | i + 39 => rw [List.getElem?_eq_none (by omega), List.getElem?_eq_none (by simp)]
set_option maxRecDepth 100000 in
theorem run_fldCfg (cs : List Value) (hl : cs.length = 39) (u v : Value) (w : World) : (Instr.field 39 (.agg (cs ++ [u, v]).toArray) 0).run Tryz.prog w = .ok (.agg cs.toArray) w := by
  obtain ⟨a0, a1, a2, a3, a4, a5, a6, a7, a8, a9, a10, a11, a12, a13, a14, a15, a16, a17, a18, a19, a20, a21, a22, a23, a24, a25, a26, a27, a28, a29, a30, a31, a32, a33, a34, a35, a36, a37, a38, rfl⟩ := list39 hl
  kernel_rfl
set_option maxRecDepth 100000 in
theorem run_buildTwo (cs ds : List Value) (hl : cs.length = 39) (hd : ds.length = 39) (w : World) : (Instr.buildSlice 41 2 #[(0, .agg cs.toArray), (1, .agg ds.toArray)]).run Tryz.prog w = .ok (.slice (some ⟨w.heap.size, 0, none⟩) 2 2) (w.alloc (.cells (cs ++ ds).toArray 35)) := by
  obtain ⟨a0, a1, a2, a3, a4, a5, a6, a7, a8, a9, a10, a11, a12, a13, a14, a15, a16, a17, a18, a19, a20, a21, a22, a23, a24, a25, a26, a27, a28, a29, a30, a31, a32, a33, a34, a35, a36, a37, a38, rfl⟩ := list39 hl
  obtain ⟨b0, b1, b2, b3, b4, b5, b6, b7, b8, b9, b10, b11, b12, b13, b14, b15, b16, b17, b18, b19, b20, b21, b22, b23, b24, b25, b26, b27, b28, b29, b30, b31, b32, b33, b34, b35, b36, b37, b38, rfl⟩ := list39 hd
  kernel_rfl
theorem exec_fldCfg {o : Oper} {ev : Operand → Value} {w : World} (p : Operand) (ho : o.op = .field 39 p 0) (cs : List Value) (hl : cs.length = 39) (u v : Value) (hp : ev p = .agg (cs ++ [u, v]).toArray) : (execOp ev o).run Tryz.prog w = .ok (.value (.agg cs.toArray)) w := by
  unfold execOp
  simp only [ho, hp, Sem.run_bind, run_fldCfg cs hl u v w, Result.andThen_ok, Sem.run_pure]
theorem wp_buildTwo {o : Oper} {a : Act} {w : World} {K : Act → World → Prop} {Q : Exit → Act → World → Prop} (p q : Operand) (ho : o.op = .buildSlice 41 2 #[(0, p), (1, q)]) (cs ds : List Value) (hl : cs.length = 39) (hd : ds.length = 39)
    (hp : a.eval p = .agg cs.toArray) (hq : a.eval q = .agg ds.toArray) (h : K (a.put o.dst (.slice (some ⟨w.heap.size, 0, none⟩) 2 2)) (w.alloc (.cells (cs ++ ds).toArray 35))) : o.wp Tryz.prog a w K Q := by
  unfold Oper.wp execOp
  simp only [ho, List.map_toArray, List.map_cons, List.map_nil, hp, hq, Sem.run_bind, run_buildTwo cs ds hl hd w, Result.andThen_ok, Sem.run_pure]
  exact h
/-- what the law asks of one configuration -/
theorem num_cases (d : Cfg) (z0 z1 : Int) : (d.err = 7 ∧ d.tE z0 = 7 ∧ d.tV z0 = 0 ∧ d.bE z0 z1 = 7 ∧ d.bV z0 z1 = 0) ∨ (d.err = 0 ∧ ¬ (0 ≤ z0 ∧ z0 ≤ 512) ∧ d.tE z0 = 1 ∧ d.tV z0 = 0 ∧ d.bE z0 z1 = 1 ∧ d.bV z0 z1 = 0) ∨
    (d.good ∧ d.err = 0 ∧ (0 ≤ z0 ∧ z0 ≤ 512) ∧ ¬ (1 ≤ z1 ∧ z1 ≤ 4096) ∧ d.tE z0 = 0 ∧ d.tV z0 = tNum d.bl d.sh z0 ∧ d.bE z0 z1 = 1 ∧ d.bV z0 z1 = 0) ∨
    (d.good ∧ d.err = 0 ∧ (0 ≤ z0 ∧ z0 ≤ 512) ∧ (1 ≤ z1 ∧ z1 ≤ 4096) ∧ d.tE z0 = 0 ∧ d.tV z0 = tNum d.bl d.sh z0 ∧ d.bE z0 z1 = 0 ∧ d.bV z0 z1 = z1 * tNum d.bl d.sh z0) := by
  rcases d.err_cases2 with ⟨he, hg⟩ | he
  · by_cases h0 : 0 ≤ z0 ∧ z0 ≤ 512
    · have hE : d.tE z0 = 0 := by unfold Cfg.tE; rw [if_pos he, if_pos h0]
      have hV : d.tV z0 = tNum d.bl d.sh z0 := by unfold Cfg.tV; rw [if_pos hE]
      by_cases h1 : 1 ≤ z1 ∧ z1 ≤ 4096
      · have hB : d.bE z0 z1 = 0 := by unfold Cfg.bE; rw [if_pos hE, if_pos h1]
        exact .inr (.inr (.inr ⟨hg, he, h0, h1, hE, hV, hB, by unfold Cfg.bV; rw [if_pos hB, hV]⟩))
      · have hB : d.bE z0 z1 = 1 := by unfold Cfg.bE; rw [if_pos hE, if_neg h1]
        exact .inr (.inr (.inl ⟨hg, he, h0, h1, hE, hV, hB, by unfold Cfg.bV; rw [if_neg (by omega)]⟩))
    · have hE : d.tE z0 = 1 := by unfold Cfg.tE; rw [if_pos he, if_neg h0]
      have hB : d.bE z0 z1 = 1 := by unfold Cfg.bE; rw [if_neg (by omega), hE]
      exact .inr (.inl ⟨he, h0, hE, by unfold Cfg.tV; rw [if_neg (by omega)], hB, by unfold Cfg.bV; rw [if_neg (by omega)]⟩)
  · have hE : d.tE z0 = 7 := by unfold Cfg.tE; rw [if_neg (by omega), he]
    have hB : d.bE z0 z1 = 7 := by unfold Cfg.bE; rw [if_neg (by omega), hE]
    exact .inl ⟨he, hE, by unfold Cfg.tV; rw [if_neg (by omega)], hB, by unfold Cfg.bV; rw [if_neg (by omega)]⟩
theorem good_range {d : Cfg} (hg : d.good) : ∃ n : Nat, d.bl = (n : Int) ∧ 1 ≤ n ∧ n ≤ 4096 ∧ 0 ≤ d.sh ∧ d.sh ≤ 8 := by
  have h1 := hg.1
  unfold htE at h1
  refine ⟨d.bl.toNat, ?_, ?_, ?_, ?_, ?_⟩ <;> (have h2 := hg.2.1; have h3 := hg.2.2.1; split at h1 <;> omega)
set_option maxRecDepth 100000 in
set_option maxHeartbeats 8000000 in
theorem numbers_any {OkW : World → Prop} (hstep : ∀ {w w' : World}, OkW w → Below w.heap.size w w' → OkW w') (hlives : ∀ w, OkW w → Calls Tryz.prog 9 #[] w fun e w' => e = .returned (.bool true) ∧ Below w.heap.size w w')
    (x : CV) (l : List LV) (A : Option Addr) (n k : Nat) (la : List PlA) (z0 z1 : Int) (c : Cfg) (hc : c.ms.length = 32) (w : World) (ok : OkW w) (hr : ArgP w w.heap.size x.A x.n l) (ha : ArgA w w.heap.size A n la) :
    Calls Tryz.prog 3 #[.agg #[.int .u8 (bv x.a0), .int .u8 (bv x.a1), .int .u8 (bv x.a2), .int .u8 (bv x.a3), .int .u8 (bv x.a4), .int .u8 (bv x.a5), .int .u8 (bv x.a6), .slice x.A x.n x.c, .slice A n k], .agg #[.int .i64 z0, .int .i64 z1], .agg c.cells.toArray] w fun e w' => e = .returned (.bool true) ∧ Below w.heap.size w w' := by
  have HR := Lib.hid hr
  have HA := Lib.hid ha
  have HOK := Lib.hid ok
  have HCL := Lib.hid (cfg_len c hc)
  have HCI := Lib.hid (cfg_info c hc)
  clear hr ha ok
  obtain ⟨ds, hds⟩ : ∃ ds, ds = c.cells := ⟨_, rfl⟩
  rw [← hds] at HCL HCI ⊢
  have HDS := Lib.hid hds
  clear hds
  go_enter Tryz.func3, Tryz.ntmps3
  go_upto_region 1 with (fail)
  change Code.wp _ _ _ _ (((w.alloc (.cells #[.int .u8 (bv x.a0), .int .u8 (bv x.a1), .int .u8 (bv x.a2), .int .u8 (bv x.a3), .int .u8 (bv x.a4), .int .u8 (bv x.a5), .int .u8 (bv x.a6), .slice x.A x.n x.c, .slice A n k] 29)).alloc (.cells #[.int .i64 z0, .int .i64 z1] 30)).alloc (.cells ds.toArray 35))
  obtain ⟨w3, hw3⟩ : ∃ w3, w3 = ((w.alloc (.cells #[.int .u8 (bv x.a0), .int .u8 (bv x.a1), .int .u8 (bv x.a2), .int .u8 (bv x.a3), .int .u8 (bv x.a4), .int .u8 (bv x.a5), .int .u8 (bv x.a6), .slice x.A x.n x.c, .slice A n k] 29)).alloc (.cells #[.int .i64 z0, .int .i64 z1] 30)).alloc (.cells ds.toArray 35) := ⟨_, rfl⟩
  rw [← hw3]
  obtain ⟨g, hg⟩ : ∃ g, g = w.heap.size := ⟨_, rfl⟩
  have b3 : Below w.heap.size w w3 := by rw [hw3]; exact (below_alloc2 (Below.refl _ _)).alloc (by simp; omega) _
  have rS : Row w3 g 29 [.int .u8 (bv x.a0), .int .u8 (bv x.a1), .int .u8 (bv x.a2), .int .u8 (bv x.a3), .int .u8 (bv x.a4), .int .u8 (bv x.a5), .int .u8 (bv x.a6), .slice x.A x.n x.c, .slice A n k] := by
    rw [hw3, hg]; exact (heap_alloc_old _ _ (by simp; omega)).trans ((heap_alloc_old _ _ (by simp)).trans (heap_alloc_new _ _))
  have rZ : Row w3 (g + 1) 30 [.int .i64 z0, .int .i64 z1] := by
    rw [hw3, hg]; exact (heap_alloc_old _ _ (by simp)).trans (heap_new_at (by simp))
  have rC : Row w3 (g + 2) 35 ds := by rw [hw3, hg]; exact heap_new_at (by simp)
  have hsz : w3.heap.size = g + 3 := by rw [hw3, hg]; simp
  rw [← hg]
  have HG := Lib.hid hg
  have B3 := Lib.hid b3
  have HZ := Lib.hid rZ
  have HSZ := Lib.hid hsz
  clear hw3 hg b3 rZ hsz
  refine wp_region_held_drew (S := (fun W : World => Row W g 29 [.int .u8 (bv x.a0), .int .u8 (bv x.a1), .int .u8 (bv x.a2), .int .u8 (bv x.a3), .int .u8 (bv x.a4), .int .u8 (bv x.a5), .int .u8 (bv x.a6), .slice x.A x.n x.c, .slice A n k] ∧ Row W (g + 2) 35 ds ∧ Below (g + 3) w3 W)) (by kernel_rfl) ⟨rS, rC, (by rw [← HSZ.out]; exact below_drewN' (Below.refl _ _) 1)⟩ (fun hHeld => ?_)
  refine take_run 0 (v := .agg #[.int .u8 (bv x.a0), .int .u8 (bv x.a1), .int .u8 (bv x.a2), .int .u8 (bv x.a3), .int .u8 (bv x.a4), .int .u8 (bv x.a5), .int .u8 (bv x.a6), .slice x.A x.n x.c, .slice A n k]) rfl (by kernel_rfl) (by kernel_rfl) (by kernel_rfl) (fun _ _ _ h => h) rfl ?_ hHeld ?_
  · intro w hSw; (try dsimp only at hSw); exact exec_load_rowF 29 (.tmp 3) rfl g rfl 29 #[.int .u8 (bv x.a0), .int .u8 (bv x.a1), .int .u8 (bv x.a2), .int .u8 (bv x.a3), .int .u8 (bv x.a4), .int .u8 (bv x.a5), .int .u8 (bv x.a6), .slice x.A x.n x.c, .slice A n k] (0, 0) _ hSw.1 Tryz.underlying29 rfl (by kernel_rfl)
  try simp only [Act.put, List.setIfInBounds_toArray, List.set_cons_zero, List.set_cons_succ]
  refine take_run 3 (v := .agg ds.toArray) rfl (by kernel_rfl) (by kernel_rfl) (by kernel_rfl) (fun _ _ _ h => h) rfl ?_ hHeld ?_
  · intro w hSw; (try dsimp only at hSw); exact exec_load_rowF 35 (.tmp 5) rfl (g + 2) rfl 35 ds.toArray (0, 0) _ hSw.2.1 Tryz.underlying35 rfl (by rw [List.size_toArray]; exact HCI.out)
  try simp only [Act.put, List.setIfInBounds_toArray, List.set_cons_zero, List.set_cons_succ]
  refine take_run 6 (v := ?_) rfl (by kernel_rfl) (by kernel_rfl) (by kernel_rfl) (fun _ _ _ h => h) rfl ?_ hHeld ?_
  rotate_left
  · intro w hSw; (try dsimp only at hSw); go_simp <;> with_reducible rfl
  try simp only [Act.put, List.setIfInBounds_toArray, List.set_cons_zero, List.set_cons_succ]
  refine take_call 1 rfl (by kernel_rfl) rfl (fun K hK => ?_)
  go_simp
  refine (sOf_any x l A n k la _ (HR.out.step (below_drewN' B3.out 1)) (HA.out.step (below_drewN' B3.out 1))).mono ?_
  rintro e w4 ⟨q, s1, s2, rfl, hq, hb4⟩
  have Y4 : Below (g + 3) w3 w4 := by rw [← HSZ.out]; exact below_of_drew hb4
  obtain ⟨cs, hcs⟩ : ∃ cs, cs = q.cells := ⟨_, rfl⟩
  rw [← hcs]
  have HQ := Lib.hid hq
  have HQL : Hid (cs.length = 39) := Lib.hid (by rw [hcs]; exact cfg_len q hq.1)
  have HCS := Lib.hid hcs
  clear hb4 hcs hq
  try dsimp only
  try clear hHeld
  refine hK.out _ _ ⟨(Y4.block _ (by omega)).trans rS, (Y4.block _ (by omega)).trans rC, Y4⟩ (fun hHeld => ?_)
  clear hK K
  try simp only [Act.put, List.setIfInBounds_toArray, List.set_cons_zero, List.set_cons_succ]
  refine take_run 2 (v := .agg cs.toArray) rfl (by kernel_rfl) (by kernel_rfl) (by kernel_rfl) (fun _ _ _ h => h) rfl ?_ hHeld ?_
  · intro w hSw; (try dsimp only at hSw); exact exec_fldCfg (.tmp 15) rfl cs HQL.out s1 s2 rfl
  try simp only [Act.put, List.setIfInBounds_toArray, List.set_cons_zero, List.set_cons_succ]
  refine take_call 4 rfl (by kernel_rfl) rfl (fun K hK => ?_)
  refine wp_buildTwo (.tmp 16) (.tmp 17) rfl cs ds HQL.out HCL.out rfl rfl ?_
  obtain ⟨w5, hw5⟩ : ∃ w5, w5 = w4.alloc (.cells (cs ++ ds).toArray 35) := ⟨_, rfl⟩
  rw [← hw5]
  obtain ⟨g4, hg4⟩ : ∃ g4, g4 = w4.heap.size := ⟨_, rfl⟩
  have R5 : Row w5 g4 35 (cs ++ ds) := by rw [hw5, hg4]; exact heap_alloc_new _ _
  have Y5 : Below (g + 3) w3 w5 := by rw [hw5]; exact Y4.alloc (by have := Y4.size; have := HSZ.out; omega) _
  have S5 : w5.heap.size = g4 + 1 := by rw [hw5, hg4]; simp
  have L5 : g + 3 ≤ g4 := by rw [hg4]; have := Y4.size; have := HSZ.out; omega
  rw [← hg4]
  clear hw5 hg4 Y4
  try dsimp only
  try clear hHeld
  refine hK.out _ _ ⟨(Y5.block _ (by omega)).trans rS, (Y5.block _ (by omega)).trans rC, Y5⟩ (fun hHeld => ?_)
  clear hK K
  try simp only [Act.put, List.setIfInBounds_toArray, List.set_cons_zero, List.set_cons_succ]
  refine take_run 5 (v := ?_) rfl (by kernel_rfl) (by kernel_rfl) (by kernel_rfl) (fun _ _ _ h => h) rfl ?_ hHeld ?_
  rotate_left
  · intro w hSw; (try dsimp only at hSw); go_simp <;> with_reducible rfl
  try simp only [Act.put, List.setIfInBounds_toArray, List.set_cons_zero, List.set_cons_succ]
  refine wpAnyH_done (by kernel_rfl) ?_ _
  try clear hHeld
  have R5H := Lib.hid R5
  have Y5H := Lib.hid Y5
  have S5H := Lib.hid S5
  have L5H := Lib.hid L5
  clear R5 Y5 S5 L5 rS rC
  go_wp2
  go_loopw [20] (fun i wr => ∃ m : Nat, i = .int .i64 m ∧ m ≤ 2 ∧ Below (g4 + 1) w5 wr) (fun i _ => 2 - (intOf i).toNat)
  case atStart => exact ⟨0, rfl, by omega, Below.refl _ _⟩
  case round =>
    obtain ⟨m, rfl, hm, hb⟩ := hrel
    by_cases hm2 : m < 2
    · have hd : decide ((m : Int) < 2) = true := by simp; omega
      obtain ⟨d, dl, hdl, hms, hdr⟩ : ∃ (d : Cfg) (dl : List Value), dl = d.cells ∧ d.ms.length = 32 ∧ wr.rangeAt g4 (m * 39) dl := by
        have hrow := R5H.out.below hb (Nat.lt_succ_self _)
        by_cases h0 : m = 0
        · refine ⟨q, cs, HCS.out, HQ.out.1, fun j v hj => ?_⟩
          have hj2 := (List.getElem?_eq_some_iff.1 hj).1
          subst h0
          rw [Nat.zero_mul, Nat.zero_add]
          exact hrow.cell (by rw [List.getElem?_append_left hj2]; exact hj)
        · obtain rfl : m = 1 := by omega
          refine ⟨c, ds, HDS.out, hc, fun j v hj => hrow.cell ?_⟩
          rw [List.getElem?_append_right (by rw [HQL.out]; omega), HQL.out, Nat.one_mul, Nat.add_sub_cancel_left]; exact hj
      have HDI : Hid ((Tryz.prog.info? 35).map (·.size) = some dl.length) := Lib.hid (by rw [hdl]; exact cfg_info d hms)
      have H1 : Hid (dl.toArray.all (·.oneCell') = true) := Lib.hid (by rw [hdl]; exact cfg_one d)
      have HDL : Hid (dl.length = 39) := Lib.hid (by rw [hdl]; exact cfg_len d hms)
      have K0 : Hid (dl[0]? = some (.int .i64 d.bl)) := Lib.hid (by rw [hdl]; rfl)
      have K1 : Hid (dl[1]? = some (.int .i64 d.sh)) := Lib.hid (by rw [hdl]; rfl)
      have HT := fun W => fT_any d hms z0 W
      have HB := fun W => fB_any d hms z0 z1 W
      have HCk := fun W => wCheck_any d hms W
      rw [← hdl] at HT HB HCk
      have b6s : Hid (g4 + 1 ≤ wr.heap.size) := Lib.hid (by rw [← S5H.out]; exact hb.size)
      have hb6 := Lib.hid hb
      have z0' : wr.cell? ⟨g + 1, 0, none⟩ = some (.int .i64 z0) := cs_ hb (by have := L5H.out; omega) (cs_ Y5H.out (by omega) (HZ.out.cell (i := 0) rfl))
      have z1' : wr.cell? ⟨g + 1, 1, none⟩ = some (.int .i64 z1) := cs_ hb (by have := L5H.out; omega) (cs_ Y5H.out (by omega) (HZ.out.cell (i := 1) rfl))
      have zl6 : Hid (g + 1 < wr.heap.size) := Lib.hid (by have := L5H.out; have := b6s.out; omega)
      clear hdl hb
      go_upto_region 4 with (first
        | (refine wpList_load_mid rfl 35 (.tmp 22) rfl g4 (m * 39) (by first | rfl | (show Value.pointer (some (Addr.add _ _)) = _; rw [Addr.add_mid, Nat.zero_add])) dl _ hdr Tryz.underlying35 rfl HDI.out ?_)
        | (refine wpList_newCfg rfl rfl ?_; rintro w6 hw6; have RA : Row w6 wr.heap.size 35 zCfg := (by rw [hw6]; exact heap_alloc_new _ _); have b6 : Below wr.heap.size wr w6 := (by rw [hw6]; exact (Below.refl _ _).alloc (Nat.le_refl _) _); clear hw6)
        | (refine Row.store RA rfl 35 (.tmp 8) (.tmp 23) rfl rfl rfl HDI.out (by rw [HDL.out]; rfl) H1.out ?_; rintro w7 hw7 r70; have b70 : Below wr.heap.size wr w7 := (by rw [hw7]; exact b6.grown (grown_setRow _ _ _) b6.size (fun k hk => by cases hk; exact Nat.le_refl _)); clear hw7 RA b6))
      have z70 := cs_ b70 zl6.out z0'
      have z71 := cs_ b70 zl6.out z1'
      have zl : Hid (g + 1 < w7.heap.size) := Lib.hid (Nat.lt_of_lt_of_le zl6.out b70.size)
      have b7 : Hid (Below (g4 + 1) w5 w7) := Lib.hid (hb6.out.trans (b70.mono b6s.out))
      have b7s : Hid (g4 + 1 ≤ w7.heap.size) := Lib.hid (Nat.le_trans b6s.out b70.size)
      obtain ⟨g6, hg6⟩ : ∃ g6, g6 = wr.heap.size := ⟨_, rfl⟩
      rw [← hg6] at r70 ⊢
      have r7 := Lib.hid r70
      clear z0' z1' b70 hdr r70 hg6
      obtain ⟨vT, hvT⟩ : ∃ v, v = d.tV z0 := ⟨_, rfl⟩
      obtain ⟨vE, hvE⟩ : ∃ v, v = d.tE z0 := ⟨_, rfl⟩
      obtain ⟨vB, hvB⟩ : ∃ v, v = d.bV z0 z1 := ⟨_, rfl⟩
      obtain ⟨vF, hvF⟩ : ∃ v, v = d.bE z0 z1 := ⟨_, rfl⟩
      obtain ⟨vC, hvC⟩ : ∃ v, v = d.err := ⟨_, rfl⟩
      rw [← hvT, ← hvE] at HT
      rw [← hvB, ← hvF] at HB
      rw [← hvC] at HCk
      have hnum := num_cases d z0 z1
      rw [← hvT, ← hvE, ← hvB, ← hvF, ← hvC] at hnum
      clear hvT hvE hvB hvF hvC
      have HNUM := Lib.hid hnum
      clear hnum
      go_upto_region 5 with (first
        | (refine wpList_load_row rfl 35 (.tmp 8) rfl g6 rfl 35 dl.toArray (0, 0) _ r7.out Tryz.underlying35 rfl (by rw [List.size_toArray]; exact HDI.out) ?_)
        | (go_at_call 5; refine (HT _).mono ?_; rintro e w8 ⟨rfl, hb8⟩; have b8 : Hid (Below (g4 + 1) w5 w8) := Lib.hid (b7.out.trans (hb8.mono b7s.out)); have r8 : Hid (Row w8 g6 35 dl) := Lib.hid (r7.out.below hb8 r7.out.lt); have z80 := cs_ hb8 zl.out z70; have z81 := cs_ hb8 zl.out z71; have b8s : Hid (g4 + 1 ≤ w8.heap.size) := Lib.hid (Nat.le_trans b7s.out hb8.size); have zl8 : Hid (g + 1 < w8.heap.size) := Lib.hid (Nat.lt_of_lt_of_le zl.out hb8.size); clear z70 z71 hb8))
      go_upto_region 6 with (first
        | (refine wpList_load_row rfl 35 (.tmp 8) rfl g6 rfl 35 dl.toArray (0, 0) _ r8.out Tryz.underlying35 rfl (by rw [List.size_toArray]; exact HDI.out) ?_)
        | (go_at_call 6; refine (HB _).mono ?_; rintro e w9 ⟨rfl, hb9⟩; have b9 : Hid (Below (g4 + 1) w5 w9) := Lib.hid (b8.out.trans (hb9.mono b8s.out)); have r9 : Hid (Row w9 g6 35 dl) := Lib.hid (r8.out.below hb9 r8.out.lt); have z90 := cs_ hb9 zl8.out z80; have z91 := cs_ hb9 zl8.out z81; have b9s : Hid (g4 + 1 ≤ w9.heap.size) := Lib.hid (Nat.le_trans b8s.out hb9.size); have zl9 : Hid (g + 1 < w9.heap.size) := Lib.hid (Nat.lt_of_lt_of_le zl8.out hb9.size); clear z80 z81 hb9))
      go_upto_region 7 with (first
        | (refine wpList_load_row rfl 35 (.tmp 8) rfl g6 rfl 35 dl.toArray (0, 0) _ r9.out Tryz.underlying35 rfl (by rw [List.size_toArray]; exact HDI.out) ?_)
        | (go_at_call 7; refine (HCk _).mono ?_; rintro e wA ⟨rfl, hbA⟩; have bA : Hid (Below (g4 + 1) w5 wA) := Lib.hid (b9.out.trans (hbA.mono b9s.out)); have rA := r9.out.below hbA r9.out.lt; have k0 := rA.cell K0.out; have k1 := rA.cell K1.out; have zA0 := cs_ hbA zl9.out z90; have zA1 := cs_ hbA zl9.out z91; clear z90 z91 hbA rA))
      clear HT HB HCk
      rcases HNUM.out with ⟨h1, h2, h3, h4, h5⟩ | ⟨h1, hz, h2, h3, h4, h5⟩ | ⟨hgd, h1, hz, hy, h2, h3, h4, h5⟩ | ⟨hgd, h1, hz, hy, h2, h3, h4, h5⟩
      · subst h1 h2 h3 h4 h5
        clear HNUM
        go_wp2
        go_roundw
        case rel => exact ⟨m + 1, by go_num, by omega, bA.out⟩
        case measure => simp [intOf]; omega
      · subst h1 h2 h3 h4 h5
        clear HNUM
        by_cases hz0 : z0 < 0
        · have hdz : decide (z0 < 0) = true := by simpa using hz0
          clear hz
          go_wp2
          go_roundw
          case rel => exact ⟨m + 1, by go_num, by omega, bA.out⟩
          case measure => simp [intOf]; omega
        · have hdz : decide (z0 < 0) = false := by simpa using hz0
          have hdz2 : decide (z0 > 512) = true := by simp; omega
          clear hz
          go_wp2
          go_roundw
          case rel => exact ⟨m + 1, by go_num, by omega, bA.out⟩
          case measure => simp [intOf]; omega
      · obtain ⟨nb, hnb, hn1, hn2, hs1, hs2⟩ := good_range hgd
        have H39 := fun W => t39_any nb hn1 hn2 d.sh z0 ⟨hs1, hs2⟩ hz W
        rw [← hnb] at H39
        have hdz : decide (z0 < 0) = false := by simp; omega
        have hdz2 : decide (z0 > 512) = false := by simp; omega
        rw [← h3] at H39
        clear h3
        subst h1 h2 h4 h5
        clear HNUM hz hgd hnb
        by_cases hy0 : z1 < 1
        · have hdy : decide (z1 < 1) = true := by simpa using hy0
          clear hy
          go_wp2_with (go_at_call 8; refine (H39 _).mono ?_; rintro e wB ⟨rfl, rfl⟩)
          go_roundw
          case rel => exact ⟨m + 1, by go_num, by omega, bA.out⟩
          case measure => simp [intOf]; omega
        · have hdy : decide (z1 < 1) = false := by simpa using hy0
          have hdy2 : decide (z1 > 4096) = true := by simp; omega
          clear hy
          go_wp2_with (go_at_call 8; refine (H39 _).mono ?_; rintro e wB ⟨rfl, rfl⟩)
          go_roundw
          case rel => exact ⟨m + 1, by go_num, by omega, bA.out⟩
          case measure => simp [intOf]; omega
      · obtain ⟨nb, hnb, hn1, hn2, hs1, hs2⟩ := good_range hgd
        have H39 := fun W => t39_any nb hn1 hn2 d.sh z0 ⟨hs1, hs2⟩ hz W
        have hle := tNum_le (bl := d.bl) (sh := d.sh) (z := z0) hs1 hs2 hz.1 hz.2
        rw [← hnb] at H39
        have hdz : decide (z0 < 0) = false := by simp; omega
        have hdz2 : decide (z0 > 512) = false := by simp; omega
        have hdy : decide (z1 < 1) = false := by simp; omega
        have hdy2 : decide (z1 > 4096) = false := by simp; omega
        have hw : IntKind.i64.wrap (z1 * vT) = z1 * vT := by
          have hv : 0 ≤ vT ∧ vT ≤ 3173888 := by rw [h3]; unfold tNum; omega
          have a1 : 0 ≤ z1 * vT := Int.mul_nonneg (by omega) hv.1
          have a2 : z1 * vT ≤ 4096 * 3173888 := Int.mul_le_mul (by omega) hv.2 hv.1 (by omega)
          exact IntWalk.i64_in _ (by omega)
        rw [← h3] at H39 h5
        clear h3 hle
        subst h1 h2 h4 h5
        clear HNUM hz hy hgd hnb
        go_wp2_with (go_at_call 8; refine (H39 _).mono ?_; rintro e wB ⟨rfl, rfl⟩)
        go_roundw
        case rel => exact ⟨m + 1, by go_num, by omega, bA.out⟩
        case measure => simp [intOf]; omega
    · have hd : decide ((m : Int) < 2) = false := by simp; omega
      have bF : Hid (Below w.heap.size w wr) := Lib.hid ((B3.out.trans ((Y5H.out.mono (by rw [← HG.out]; omega)))).trans (hb.mono (by rw [← HG.out]; have := L5H.out; omega)))
      have HLv := hlives wr (hstep HOK.out bF.out)
      clear hb
      go_wp2_with (go_at_call 9; refine HLv.mono ?_; rintro e wE ⟨rfl, hbE⟩)
      go_ret
      exact ⟨rfl, bF.out.trans (hbE.mono bF.out.size)⟩
end Go.Proofs.YtnpnljgjloofkaaGreatDoor
namespace Go.Proofs.YtnpnljgjloofkaaGreatDoor
open Go.ChangeShapes Go.WideShapes Go.ChangeAt Go.RowKit Go.Deep

section
variable {H : Type} {enc : TypeId × Value → H} {W : World} {base : Nat} {spare : Nat → Bool} {held : Bool}

theorem flatMap_len {α : Type} (f : α → List Value) (s : Nat) (hs : ∀ x, (f x).length = s) : ∀ (l : List α), (l.flatMap f).length = l.length * s
  | [] => by simp
  | x :: l => by rw [List.flatMap_cons, List.length_append, hs, flatMap_len f s hs l, List.length_cons, Nat.succ_mul]; omega
theorem take1 {cs : List Value} {j : Nat} {v : Value} (h : (cs.drop j).take 1 = [v]) : cs[j]? = some v := by
  have h1 : ((cs.drop j).take 1)[0]? = some v := by rw [h]; rfl
  simpa using h1

theorem wf_u8 {n : Int} (h : (Lit.int .u8 n).wf = true) : ∃ b : B8, n = bv b := by
  have h2 : 0 ≤ n ∧ n < 256 := by
    simp only [Lit.wf, Bool.and_eq_true, decide_eq_true_eq] at h
    have h0 : IntKind.u8.min = 0 := by decide
    have h1 : IntKind.u8.max = 255 := by decide
    omega
  refine ⟨BitVec.ofNat 8 n.toNat, ?_⟩
  unfold bv
  rw [BitVec.toNat_ofNat, Nat.mod_eq_of_lt (by omega)]
  omega
theorem trod_u8 {fuel : Nat} {cs : List Value} {x : DataW H × List MemPlace} (h : DataW.trod enc Tryz.prog W base spare held fuel 5 cs = some x) : ∃ b : B8, cs = [.int .u8 (bv b)] := by
  obtain ⟨n, h1, _, h3⟩ := DataW.trod_int Tryz.underlying5 h
  obtain ⟨b, rfl⟩ := wf_u8 h3
  exact ⟨b, h1⟩
/-- Rows of equal pieces: from the pieces to the row. -/
theorem pieces {α : Type} (cells : α → List Value) (k : Nat) (hk : ∀ x, (cells x).length = k) (n : Nat) (w : World) (a : Addr) (h : ∀ i, i < n → ∃ x : α, ∀ j, j < k → w.cell? ((a.add (i * k)).add j) = (cells x)[j]?) :
    ∃ xs : List α, xs.length = n ∧ Cells w a (xs.flatMap cells) := by
  induction n with
  | zero => exact ⟨[], rfl, fun j v hv => by simp at hv⟩
  | succ n ih =>
    obtain ⟨xs, hl, hc⟩ := ih fun i hi => h i (by omega)
    obtain ⟨x, hx⟩ := h n (by omega)
    refine ⟨xs ++ [x], by simp [hl], fun j v hv => ?_⟩
    rw [List.flatMap_append] at hv
    have hfl : (xs.flatMap cells).length = n * k := by
      rw [← hl]
      clear hc hl hv
      induction xs with
      | nil => simp
      | cons y ys ih2 => simp only [List.flatMap_cons, List.length_append, List.length_cons, ih2, hk]; rw [Nat.succ_mul]; omega
    rcases Nat.lt_or_ge j (n * k) with hj | hj
    · rw [List.getElem?_append_left (by rw [hfl]; exact hj)] at hv
      exact hc j v hv
    · rw [List.getElem?_append_right (by rw [hfl]; exact hj), hfl] at hv
      have hv2 : (cells x)[j - n * k]? = some v := by simpa using hv
      have hjk : j - n * k < k := by have := (List.getElem?_eq_some_iff.1 hv2).1; rw [hk] at this; exact this
      have := hx (j - n * k) hjk
      rw [hv2, add_twice, show n * k + (j - n * k) = j by omega] at this
      exact this

theorem flat8 (l : List B8) : (l.flatMap fun b => [Value.int .u8 (bv b)]) = cells8 l := by
  induction l with
  | nil => rfl
  | cons b l ih => rw [List.flatMap_cons, ih]; rfl
theorem open_bytes {fuel : Nat} {cs : List Value} {x : DataW H × List MemPlace} (h : DataW.trod enc Tryz.prog W base (fun _ => true) held fuel 53 cs = some x) :
    ∃ (A : Option Addr) (n c : Nat) (l : List B8), cs = [.slice A n c] ∧ n ≤ c ∧ c ≤ maxLen ∧ Rd W W.heap.size 1 A n (cells8 l) := by
  rcases open_slice Tryz.underlying53 h with ⟨rfl, _⟩ | ⟨a, len, cap, m, k, D, Pl, rfl, hb, hl, hm, hmm, hx, hi⟩
  · exact ⟨none, 0, 0, [], rfl, Nat.le_refl _, Nat.zero_le _, Rd.none_⟩
  · have hC : Tryz.prog.cellsOf 5 = 1 := by kernel_rfl
    rw [hC] at hi
    obtain ⟨xs, hxl, hc⟩ := pieces (fun b : B8 => [Value.int .u8 (bv b)]) 1 (fun _ => rfl) len W a (fun i hil => by
      obtain ⟨cs', hcs, ht⟩ := hi i (by rw [hmm]; simp; omega)
      obtain ⟨_, _, hat⟩ := World.cells?_some hcs
      obtain ⟨g, rfl⟩ := trod_u8 ht
      exact ⟨g, fun j hj => hat j hj⟩)
    subst hxl
    rw [flat8] at hc
    refine ⟨some a, xs.length, cap, xs, rfl, hl, hm, by rw [cells8_len, Nat.mul_one], fun h0 => ⟨a, rfl, ?_, hc⟩⟩
    have h1 : (cells8 xs)[0]? = some (.int .u8 (bv xs[0])) := by rw [cells8, List.getElem?_map, List.getElem?_eq_getElem h0]; rfl
    have h2 := lt_of_cell (hc 0 _ h1)
    rwa [add_block] at h2
theorem flat1 {α β : Type} (f : α → β) : ∀ l : List α, (l.flatMap fun a => [f a]) = l.map f
  | [] => rfl
  | a :: l => by rw [List.flatMap_cons, flat1 f l]; rfl
/-- a row of any pieces -/
theorem open_row {t e : TypeId} {α : Type} (cells : α → List Value) (k : Nat) (hk : ∀ x, (cells x).length = k) (h1k : 0 < k) {fuel : Nat} {cs : List Value} {x : DataW H × List MemPlace} (ht : Tryz.prog.underlying t = some (.slice e)) (hC : Tryz.prog.cellsOf e = k)
    (hp : ∀ (fuel : Nat) (cs : List Value) (x : DataW H × List MemPlace), DataW.trod enc Tryz.prog W base (fun _ => true) held fuel e cs = some x → ∃ g : α, cs = cells g)
    (h : DataW.trod enc Tryz.prog W base (fun _ => true) held fuel t cs = some x) :
    ∃ (A : Option Addr) (n c : Nat) (l : List α), cs = [.slice A n c] ∧ n ≤ c ∧ c ≤ maxLen ∧ n = l.length ∧ Rd W W.heap.size k A n (l.flatMap cells) := by
  rcases open_slice ht h with ⟨rfl, _⟩ | ⟨a, len, cap, m, fu, D, Pl, rfl, hb, hl, hm, hmm, hx, hi⟩
  · exact ⟨none, 0, 0, [], rfl, Nat.le_refl _, Nat.zero_le _, rfl, by simpa using (Rd.none_ : Rd W W.heap.size k none 0 [])⟩
  · rw [hC] at hi
    obtain ⟨xs, hxl, hc⟩ := pieces cells k hk len W a (fun i hil => by
      obtain ⟨cs', hcs, ht⟩ := hi i (by rw [hmm]; simp; omega)
      obtain ⟨_, _, hat⟩ := World.cells?_some hcs
      obtain ⟨g, rfl⟩ := hp _ _ _ ht
      exact ⟨g, fun j hj => hat j hj⟩)
    subst hxl
    refine ⟨some a, xs.length, cap, xs, rfl, hl, hm, rfl, by rw [flatMap_len cells k hk], fun h0 => ⟨a, rfl, ?_, hc⟩⟩
    match xs, h0 with
    | g :: t, _ =>
      have hl0 : 0 < (cells g).length := by rw [hk]; exact h1k
      have h1 : ((g :: t).flatMap cells)[0]? = some (cells g)[0] := by
        rw [List.flatMap_cons, List.getElem?_append_left hl0, List.getElem?_eq_getElem hl0]
      have h2 := lt_of_cell (hc 0 _ h1)
      rwa [add_block] at h2
theorem open_key {fuel : Nat} {cs : List Value} {x : DataW H × List MemPlace} (h : DataW.trod enc Tryz.prog W base (fun _ => true) held fuel 33 cs = some x) : ∃ l : List B8, l.length = 32 ∧ cs = cells8 l := by
  obtain ⟨xs, m, _, _, hlen, hl, hel⟩ := DataW.trod_array Tryz.underlying33 h
  have hC : Tryz.prog.cellsOf 5 = 1 := by kernel_rfl
  have hK : Tryz.prog.cellsOf 33 = 32 := by kernel_rfl
  rw [hC] at hel
  rw [hK] at hlen
  have hq : ∀ i, i < 32 → ∃ b : B8, cs[i]? = some (.int .u8 (bv b)) := fun i hi => by
    have h1 := hel i hi
    rw [List.getElem?_eq_getElem (by omega), Nat.mul_one] at h1
    obtain ⟨b, hb⟩ := trod_u8 h1
    exact ⟨b, take1 hb⟩
  have : ∀ (cs : List Value), (∀ i, i < cs.length → ∃ b : B8, cs[i]? = some (.int .u8 (bv b))) → ∃ l : List B8, l.length = cs.length ∧ cs = cells8 l := by
    intro cs
    induction cs with
    | nil => intro _; exact ⟨[], rfl, rfl⟩
    | cons v cs ih =>
      intro hh
      obtain ⟨b, hb⟩ := hh 0 (by simp)
      obtain ⟨l, h1, h2⟩ := ih fun i hi => by
        obtain ⟨b, hb⟩ := hh (i + 1) (by simp; omega)
        exact ⟨b, by simpa using hb⟩
      have hv : v = .int .u8 (bv b) := by simpa using hb
      exact ⟨b :: l, by simp [h1], by rw [hv, h2]; rfl⟩
  obtain ⟨l, h1, h2⟩ := this cs (fun i hi => hq i (by omega))
  exact ⟨l, by omega, h2⟩
set_option maxRecDepth 100000 in
theorem trod_cfg {fuel : Nat} {cs : List Value} {x : DataW H × List MemPlace} (h : DataW.trod enc Tryz.prog W base (fun _ => true) held fuel 35 cs = some x) : ∃ c : Cfg, c.ms.length = 32 ∧ cs = c.cells := by
  obtain ⟨xs, n, _, _, hlen, hxl, hf⟩ := DataW.trod_struct Tryz.underlying35 h
  have h0 := hf 0 _ rfl
  have h1 := hf 1 _ rfl
  have h2 := hf 2 _ rfl
  have h3 := hf 3 _ rfl
  have h4 := hf 4 _ rfl
  have h5 := hf 5 _ rfl
  have h6 := hf 6 _ rfl
  have h7 := hf 7 _ rfl
  have hx2 : xs.length = 8 := hxl
  rw [List.getElem?_eq_getElem (by omega)] at h0 h1 h2 h3 h4 h5 h6 h7
  obtain ⟨a0, e0, _⟩ := DataW.trod_int Tryz.underlying3 h0
  obtain ⟨a1, e1, _⟩ := DataW.trod_int Tryz.underlying3 h1
  obtain ⟨a2, e2, _⟩ := DataW.trod_int Tryz.underlying3 h2
  obtain ⟨a3, e3, _⟩ := DataW.trod_int Tryz.underlying3 h3
  obtain ⟨a4, e4, _⟩ := DataW.trod_int Tryz.underlying31 h4
  obtain ⟨a5, e5, _⟩ := DataW.trod_int Tryz.underlying31 h5
  obtain ⟨ms, hml, e6⟩ := open_key h6
  obtain ⟨a7, e7, _⟩ := DataW.trod_int Tryz.underlying5 h7
  refine ⟨⟨a0, a1, a2, a3, a4, a5, a7, ms⟩, hml, ?_⟩
  have hl2 : cs.length = 39 := hlen
  have g0 : cs[0]? = some (.int .i64 a0) := take1 e0
  have g1 : cs[1]? = some (.int .i64 a1) := take1 e1
  have g2 : cs[2]? = some (.int .i64 a2) := take1 e2
  have g3 : cs[3]? = some (.int .i64 a3) := take1 e3
  have g4 : cs[4]? = some (.int .u64 a4) := take1 e4
  have g5 : cs[5]? = some (.int .u64 a5) := take1 e5
  have g6 : (cs.drop 6).take 32 = cells8 ms := e6
  have g7 : cs[38]? = some (.int .u8 a7) := take1 e7
  match cs, hl2 with
  | c0 :: c1 :: c2 :: c3 :: c4 :: c5 :: r, hl2 =>
    simp only [List.length_cons] at hl2
    have q0 : c0 = .int .i64 a0 := by simpa using g0
    have q1 : c1 = .int .i64 a1 := by simpa using g1
    have q2 : c2 = .int .i64 a2 := by simpa using g2
    have q3 : c3 = .int .i64 a3 := by simpa using g3
    have q4 : c4 = .int .u64 a4 := by simpa using g4
    have q5 : c5 = .int .u64 a5 := by simpa using g5
    have q6 : r.take 32 = cells8 ms := by simpa using g6
    have q7 : r[32]? = some (.int .u8 a7) := by simpa using g7
    have q8 : r.drop 32 = [.int .u8 a7] := by
      have h1 : (r.drop 32).length = 1 := by rw [List.length_drop]; omega
      match hd : r.drop 32, h1 with
      | [v], _ =>
        have : (r.drop 32)[0]? = some v := by rw [hd]; rfl
        rw [List.getElem?_drop] at this
        rw [q7] at this
        injection this with this
        rw [this]
    have q9 : r = cells8 ms ++ [.int .u8 a7] := by rw [← q6, ← q8, List.take_append_drop]
    rw [q0, q1, q2, q3, q4, q5, q9]; rfl
set_option maxRecDepth 100000 in
theorem trod_q {fuel : Nat} {cs : List Value} {x : DataW H × List MemPlace} (h : DataW.trod enc Tryz.prog W base (fun _ => true) held fuel 103 cs = some x) : ∃ o : QV, cs = o.cells := by
  obtain ⟨xs, n, _, _, hlen, hxl, hf⟩ := DataW.trod_struct Tryz.underlying103 h
  have h0 := hf 0 _ rfl
  have h1 := hf 1 _ rfl
  have h2 := hf 2 _ rfl
  have hx2 : xs.length = 3 := hxl
  rw [List.getElem?_eq_getElem (by omega)] at h0 h1 h2
  obtain ⟨a, ha⟩ := trod_u8 h0
  obtain ⟨b, hb⟩ := trod_u8 h1
  obtain ⟨d, hd⟩ := trod_u8 h2
  refine ⟨⟨a, b, d⟩, ?_⟩
  have hl2 : cs.length = 3 := hlen
  match cs, hl2 with
  | [u, v, t], _ =>
    have f0 : u = .int .u8 (bv a) := by have := take1 ha; simpa using this
    have f1 : v = .int .u8 (bv b) := by have := take1 hb; simpa using this
    have f2 : t = .int .u8 (bv d) := by have := take1 hd; simpa using this
    rw [f0, f1, f2]; rfl
set_option maxRecDepth 100000 in
theorem trod_qs {fuel : Nat} {cs : List Value} {x : DataW H × List MemPlace} (h : DataW.trod enc Tryz.prog W base (fun _ => true) held fuel 101 cs = some x) : ∃ p : { p : LV // Rd W W.heap.size 3 p.A p.n (cellsQ p.qs) }, cs = [p.1.val] := by
  obtain ⟨A, n, c, l, e, _, _, _, hr⟩ := open_row QV.cells 3 (fun _ => rfl) (by decide) Tryz.underlying101 (by kernel_rfl) (fun _ _ _ h => trod_q h) h
  exact ⟨⟨⟨A, n, c, l⟩, hr⟩, e⟩
set_option maxRecDepth 100000 in
theorem open_qss {fuel : Nat} {cs : List Value} {x : DataW H × List MemPlace} (h : DataW.trod enc Tryz.prog W base (fun _ => true) held fuel 22 cs = some x) :
    ∃ (A : Option Addr) (n c : Nat) (l : List LV), cs = [.slice A n c] ∧ ArgP W W.heap.size A n l := by
  obtain ⟨A, n, c, l, e, _, _, _, hr⟩ := open_row (fun p : { p : LV // Rd W W.heap.size 3 p.A p.n (cellsQ p.qs) } => [p.1.val]) 1 (fun _ => rfl) (by decide) Tryz.underlying22 (by kernel_rfl) (fun _ _ _ h => trod_qs h) h
  refine ⟨A, n, c, l.map (·.1), e, ?_, fun p hp => ?_⟩
  · have : (l.flatMap fun p : { p : LV // Rd W W.heap.size 3 p.A p.n (cellsQ p.qs) } => [p.1.val]) = cellsL (l.map (·.1)) := by
      unfold cellsL; rw [List.map_map]; exact flat1 _ _
    rw [← this]; exact hr
  · obtain ⟨y, _, rfl⟩ := List.mem_map.1 hp
    exact y.2
set_option maxRecDepth 100000 in
theorem trod_p {fuel : Nat} {cs : List Value} {x : DataW H × List MemPlace} (h : DataW.trod enc Tryz.prog W base (fun _ => true) held fuel 24 cs = some x) : ∃ (A : Option Addr) (n c : Nat) (l : List LV), cs = [.slice A n c] ∧ ArgP W W.heap.size A n l := by
  obtain ⟨xs, n, _, _, hlen, hxl, hf⟩ := DataW.trod_struct Tryz.underlying24 h
  have h0 := hf 0 _ rfl
  have hx2 : xs.length = 1 := hxl
  rw [List.getElem?_eq_getElem (by omega)] at h0
  obtain ⟨A, m, c, l, e, hl⟩ := open_qss h0
  refine ⟨A, m, c, l, ?_, hl⟩
  have hl2 : cs.length = 1 := hlen
  match cs, hl2 with
  | [u], _ =>
    have f : u = .slice A m c := by have := take1 (j := 0) e; simpa using this
    rw [f]
set_option maxRecDepth 100000 in
theorem trod_c {fuel : Nat} {cs : List Value} {x : DataW H × List MemPlace} (h : DataW.trod enc Tryz.prog W base (fun _ => true) held fuel 26 cs = some x) : ∃ (x : CV) (l : List LV), cs = x.cells ∧ ArgP W W.heap.size x.A x.n l := by
  obtain ⟨xs, n, _, _, hlen, hxl, hf⟩ := DataW.trod_struct Tryz.underlying26 h
  have h0 := hf 0 _ rfl
  have h1 := hf 1 _ rfl
  have h2 := hf 2 _ rfl
  have h3 := hf 3 _ rfl
  have h4 := hf 4 _ rfl
  have h5 := hf 5 _ rfl
  have h6 := hf 6 _ rfl
  have h7 := hf 7 _ rfl
  have hx2 : xs.length = 8 := hxl
  rw [List.getElem?_eq_getElem (by omega)] at h0 h1 h2 h3 h4 h5 h6 h7
  obtain ⟨a0, e0⟩ := trod_u8 h0
  obtain ⟨a1, e1⟩ := trod_u8 h1
  obtain ⟨a2, e2⟩ := trod_u8 h2
  obtain ⟨a3, e3⟩ := trod_u8 h3
  obtain ⟨a4, e4⟩ := trod_u8 h4
  obtain ⟨a5, e5⟩ := trod_u8 h5
  obtain ⟨a6, e6⟩ := trod_u8 h6
  obtain ⟨A, m, c, l, e7, hl⟩ := trod_p h7
  refine ⟨⟨a0, a1, a2, a3, a4, a5, a6, A, m, c⟩, l, ?_, hl⟩
  have hl2 : cs.length = 8 := hlen
  match cs, hl2 with
  | [u0, u1, u2, u3, u4, u5, u6, u7], _ =>
    have f0 : u0 = .int .u8 (bv a0) := by have := take1 e0; simpa using this
    have f1 : u1 = .int .u8 (bv a1) := by have := take1 e1; simpa using this
    have f2 : u2 = .int .u8 (bv a2) := by have := take1 e2; simpa using this
    have f3 : u3 = .int .u8 (bv a3) := by have := take1 e3; simpa using this
    have f4 : u4 = .int .u8 (bv a4) := by have := take1 e4; simpa using this
    have f5 : u5 = .int .u8 (bv a5) := by have := take1 e5; simpa using this
    have f6 : u6 = .int .u8 (bv a6) := by have := take1 e6; simpa using this
    have f7 : u7 = .slice A m c := by have := take1 e7; simpa using this
    rw [f0, f1, f2, f3, f4, f5, f6, f7]; rfl
set_option maxRecDepth 100000 in
theorem trod_pa {fuel : Nat} {cs : List Value} {x : DataW H × List MemPlace} (h : DataW.trod enc Tryz.prog W base (fun _ => true) held fuel 57 cs = some x) : ∃ a : { a : PlA // Rd W W.heap.size 1 a.A a.n (cells8 a.bs) ∧ a.n ≤ a.c ∧ a.c ≤ maxLen }, cs = a.1.cells := by
  obtain ⟨xs, n, _, _, hlen, hxl, hf⟩ := DataW.trod_struct Tryz.underlying57 h
  have h0 := hf 0 _ rfl
  have h1 := hf 1 _ rfl
  have h2 := hf 2 _ rfl
  have h3 := hf 3 _ rfl
  have hx2 : xs.length = 4 := hxl
  rw [List.getElem?_eq_getElem (by omega)] at h0 h1 h2 h3
  obtain ⟨a0, e0⟩ := trod_u8 h0
  obtain ⟨a1, e1⟩ := trod_u8 h1
  obtain ⟨a2, e2⟩ := trod_u8 h2
  obtain ⟨A, m, c, l, e3, hmc, hcm, hr⟩ := open_bytes h3
  refine ⟨⟨⟨a0, a1, a2, A, m, c, l⟩, hr, hmc, hcm⟩, ?_⟩
  have hl2 : cs.length = 4 := hlen
  match cs, hl2 with
  | [u0, u1, u2, u3], _ =>
    have f0 : u0 = .int .u8 (bv a0) := by have := take1 e0; simpa using this
    have f1 : u1 = .int .u8 (bv a1) := by have := take1 e1; simpa using this
    have f2 : u2 = .int .u8 (bv a2) := by have := take1 e2; simpa using this
    have f3 : u3 = .slice A m c := by have := take1 e3; simpa using this
    rw [f0, f1, f2, f3]; rfl
set_option maxRecDepth 100000 in
theorem open_pas {fuel : Nat} {cs : List Value} {x : DataW H × List MemPlace} (h : DataW.trod enc Tryz.prog W base (fun _ => true) held fuel 27 cs = some x) :
    ∃ (A : Option Addr) (n c : Nat) (l : List PlA), cs = [.slice A n c] ∧ ArgA W W.heap.size A n l := by
  obtain ⟨A, n, c, l, e, _, _, _, hr⟩ := open_row (fun a : { a : PlA // Rd W W.heap.size 1 a.A a.n (cells8 a.bs) ∧ a.n ≤ a.c ∧ a.c ≤ maxLen } => a.1.cells) 4 (fun _ => rfl) (by decide) Tryz.underlying27 (by kernel_rfl) (fun _ _ _ h => trod_pa h) h
  refine ⟨A, n, c, l.map (·.1), e, ?_, fun p hp => ?_⟩
  · have : (l.flatMap fun a : { a : PlA // Rd W W.heap.size 1 a.A a.n (cells8 a.bs) ∧ a.n ≤ a.c ∧ a.c ≤ maxLen } => a.1.cells) = cellsPA (l.map (·.1)) := by
      unfold cellsPA; rw [List.flatMap_map]
    rw [← this]; exact hr
  · obtain ⟨y, _, rfl⟩ := List.mem_map.1 hp
    exact y.2
/-- a script out of plain data as an argument -/
structure ArgF (W : World) (v : Value) (x : CV) (l : List LV) (A : Option Addr) (n k : Nat) (la : List PlA) : Prop where
  eq : v = .agg #[.int .u8 (bv x.a0), .int .u8 (bv x.a1), .int .u8 (bv x.a2), .int .u8 (bv x.a3), .int .u8 (bv x.a4), .int .u8 (bv x.a5), .int .u8 (bv x.a6), .slice x.A x.n x.c, .slice A n k]
  pg : ArgP W W.heap.size x.A x.n l
  ac : ArgA W W.heap.size A n la
set_option maxRecDepth 100000 in
theorem open_plain {v : Value} {d : DataW H} {p : List MemPlace} {r : Reach} {b0 : Nat} (hv : Value.okWide Tryz.prog W r b0 29 v) (h : DataW.Trod enc Tryz.prog W base (fun _ => true) held 29 v d p) :
    ∃ x l A n k la, ArgF W v x l A n k la := by
  obtain ⟨cs, rfl, hsz⟩ := okWide_struct Tryz.underlying29 hv
  have hC : Tryz.prog.cellsOf 29 = 9 := by kernel_rfl
  obtain ⟨l⟩ := cs
  have hl : l.length = 9 := hsz.trans hC
  obtain ⟨fuel, hf⟩ := h
  obtain ⟨xs, n, _, _, _, hxl, hg⟩ := DataW.trod_struct Tryz.underlying29 hf
  have h0 := hg 0 _ rfl
  have h1 := hg 1 _ rfl
  have hx1 : xs.length = 2 := hxl
  rw [List.getElem?_eq_getElem (by omega)] at h0 h1
  obtain ⟨x, lv, e0, hx⟩ := trod_c h0
  obtain ⟨A, m, k, la, e1, ha⟩ := open_pas h1
  refine ⟨x, lv, A, m, k, la, ?_, hx, ha⟩
  have g0 : l.take 8 = x.cells := e0
  have g1 : l[8]? = some (.slice A m k) := take1 e1
  have g3 : l.drop 8 = [.slice A m k] := by
    have h1 : (l.drop 8).length = 1 := by rw [List.length_drop]; omega
    match hd : l.drop 8, h1 with
    | [v], _ =>
      have i0 : (l.drop 8)[0]? = some v := by rw [hd]; rfl
      rw [List.getElem?_drop] at i0
      rw [g1] at i0
      injection i0 with i0
      rw [i0]
  have : l = x.cells ++ [.slice A m k] := by rw [← g0, ← g3, List.take_append_drop]
  rw [this]; rfl
set_option maxRecDepth 100000 in
theorem open_pair {v : Value} {d : DataW H} {p : List MemPlace} {r : Reach} {b0 : Nat} (hv : Value.okWide Tryz.prog W r b0 30 v) (h : DataW.Trod enc Tryz.prog W base (fun _ => true) held 30 v d p) :
    ∃ z0 z1 : Int, v = .agg #[.int .i64 z0, .int .i64 z1] := by
  obtain ⟨cs, rfl, hsz⟩ : ∃ cs, v = .agg cs ∧ cs.size = Tryz.prog.cellsOf 30 := by
    simp only [Value.okWide, Tryz.underlying30] at hv
    obtain ⟨cs, h1, h2, _⟩ := hv
    exact ⟨cs, h1, h2⟩
  have hK : Tryz.prog.cellsOf 30 = 2 := by kernel_rfl
  have hC : Tryz.prog.cellsOf 3 = 1 := by kernel_rfl
  obtain ⟨l⟩ := cs
  have hl2 : l.length = 2 := hsz.trans hK
  obtain ⟨fuel, hf⟩ := h
  obtain ⟨xs, m, _, _, hlen, hxl, hel⟩ := DataW.trod_array Tryz.underlying30 hf
  rw [hC] at hel
  have h0 := hel 0 (by decide)
  have h1 := hel 1 (by decide)
  rw [List.getElem?_eq_getElem (by omega), Nat.mul_one] at h0 h1
  obtain ⟨z0, e0, _⟩ := DataW.trod_int Tryz.underlying3 h0
  obtain ⟨z1, e1, _⟩ := DataW.trod_int Tryz.underlying3 h1
  refine ⟨z0, z1, ?_⟩
  match l, hl2 with
  | [u, v], _ =>
    have f0 : u = .int .i64 z0 := by have := take1 e0; simpa [Value.cells] using this
    have f1 : v = .int .i64 z1 := by have := take1 e1; simpa [Value.cells] using this
    rw [f0, f1]
set_option maxRecDepth 100000 in
theorem open_cfg {v : Value} {d : DataW H} {p : List MemPlace} {r : Reach} {b0 : Nat} (hv : Value.okWide Tryz.prog W r b0 35 v) (h : DataW.Trod enc Tryz.prog W base (fun _ => true) held 35 v d p) :
    ∃ c : Cfg, c.ms.length = 32 ∧ v = .agg c.cells.toArray := by
  obtain ⟨cs, rfl, hsz⟩ := okWide_struct Tryz.underlying35 hv
  obtain ⟨l⟩ := cs
  obtain ⟨fuel, hf⟩ := h
  obtain ⟨c, hc, e⟩ := trod_cfg hf
  exact ⟨c, hc, by rw [show l = c.cells from e]⟩
end
end Go.Proofs.YtnpnljgjloofkaaGreatDoor
