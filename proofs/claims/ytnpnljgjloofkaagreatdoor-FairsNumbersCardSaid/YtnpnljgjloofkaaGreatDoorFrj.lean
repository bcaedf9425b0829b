/- A script out of plain data (layer 34). -/
import Derived.Test.YtnpnljgjloofkaaGreatDoorFri
import Derived.Test.YtnpnljgjloofkaaGreatDoorSeru
namespace Go.Proofs.YtnpnljgjloofkaaGreatDoor
open Go.RowKit

structure PlA where
  k : B8
  a : B8
  b : B8
  A : Option Addr
  n : Nat
  c : Nat
  bs : List B8
def PlA.cells (x : PlA) : List Value := [.int .u8 (bv x.k), .int .u8 (bv x.a), .int .u8 (bv x.b), .slice x.A x.n x.c]
def cellsPA (l : List PlA) : List Value := l.flatMap PlA.cells
theorem cellsPA_len (hs : List PlA) : (cellsPA hs).length = hs.length * 4 := by
  induction hs with
  | nil => rfl
  | cons h t ih => simp only [cellsPA, List.flatMap_cons, List.length_append, List.length_cons] at ih ⊢; rw [ih]; simp [PlA.cells]; omega
theorem cellsPA_drop (hs : List PlA) (k : Nat) : (cellsPA hs).drop (k * 4) = cellsPA (hs.drop k) := by
  induction k generalizing hs with
  | zero => simp
  | succ k ih =>
    cases hs with
    | nil => simp [cellsPA]
    | cons h t =>
      have e : (k + 1) * 4 = 4 + k * 4 := by omega
      rw [e, ← List.drop_drop]
      have e2 : (cellsPA (h :: t)).drop 4 = cellsPA t := by simp [cellsPA, PlA.cells]
      rw [e2, ih]; rfl
theorem Rd.lenA {w : World} {B n : Nat} {A : Option Addr} {l : List PlA} (h : Rd w B 4 A n (cellsPA l)) : n = l.length := by
  have := h.1; rw [cellsPA_len] at this; omega
theorem Rd.atA {w : World} {B n : Nat} {A : Option Addr} {l : List PlA} (h : Rd w B 4 A n (cellsPA l)) {k : Nat} (hk : k < l.length) :
    ∃ ad, A = some ad ∧ ad.block < B ∧ w.cell? (ad.add (k * 4)) = some (.int .u8 (bv l[k].k)) ∧ w.cell? ⟨(ad.add (k * 4)).block, (ad.add (k * 4)).off + 1, none⟩ = some (.int .u8 (bv l[k].a)) ∧ w.cell? ⟨(ad.add (k * 4)).block, (ad.add (k * 4)).off + 2, none⟩ = some (.int .u8 (bv l[k].b)) ∧ w.cell? ⟨(ad.add (k * 4)).block, (ad.add (k * 4)).off + 3, none⟩ = some (.slice l[k].A l[k].n l[k].c) := by
  have hn := h.lenA
  obtain ⟨ad, e, hl, hc⟩ := h.at_ (k := k) (by omega)
  rw [cellsPA_drop, List.drop_eq_getElem_cons hk] at hc
  exact ⟨ad, e, hl, hc.c0, hc.c1, hc.c2, by rw [add_succ (ad.add (k * 4)) 2]; exact hc 3 _ rfl⟩
theorem info_act : (Tryz.prog.info? 55).map (fun i => (i.zero, i.size, i.bytes)) = some (some (.agg #[.int .u8 0, .int .i64 0, .int .i64 0, .slice none 0 0, .int .i64 0]), 5, 56) := by kernel_rfl
theorem one5 (k1 t1 s1 : Int) (A1 : Option Addr) (n1 c1 : Nat) (b1 : Int) : ∀ u ∈ [(.int .u8 k1 : Value), .int .i64 t1, .int .i64 s1, .slice A1 n1 c1, .int .i64 b1], u.oneCell' = true := fun u hu => by
  simp only [List.mem_cons, List.not_mem_nil, or_false] at hu
  rcases hu with h | h | h | h | h <;> (rw [h]; rfl)
/-- plain data of actions as they lie -/
def ArgA (w : World) (B : Nat) (A : Option Addr) (n : Nat) (l : List PlA) : Prop := Rd w B 4 A n (cellsPA l) ∧ ∀ p ∈ l, Rd w B 1 p.A p.n (cells8 p.bs) ∧ p.n ≤ p.c ∧ p.c ≤ maxLen
theorem ArgA.below {w w' : World} {B : Nat} {A : Option Addr} {n : Nat} {l : List PlA} (h : ArgA w B A n l) (hb : Below B w w') (hB : B ≤ B) : ArgA w' B A n l := ⟨h.1.below hb hB, fun p hp => ⟨(h.2 p hp).1.below hb hB, (h.2 p hp).2⟩⟩
theorem ArgA.mono {w : World} {B C : Nat} {A : Option Addr} {n : Nat} {l : List PlA} (h : ArgA w B A n l) (hB : B ≤ C) : ArgA w C A n l := ⟨h.1.mono hB, fun p hp => ⟨(h.2 p hp).1.mono hB, (h.2 p hp).2⟩⟩
theorem ArgA.step {w w' : World} {A : Option Addr} {n : Nat} {l : List PlA} (h : ArgA w w.heap.size A n l) (hb : Below w.heap.size w w') : ArgA w' w'.heap.size A n l := (h.below hb (Nat.le_refl _)).mono hb.size
/-- a script's zero -/
def zScr : List Value := zCfg ++ [Value.slice none 0 0, Value.slice none 0 0]
/-- what a call of an action out of plain data does -/
theorem aOf_any8 (x : PlA) (q : Cfg) (hq : CfgOk q) (w : World) (hr : Rd w w.heap.size 1 x.A x.n (cells8 x.bs)) (hnc : x.n ≤ x.c) (hcm : x.c ≤ maxLen) :
    Calls Tryz.prog 11 #[.agg #[.int .u8 (bv x.k), .int .u8 (bv x.a), .int .u8 (bv x.b), .slice x.A x.n x.c], .agg q.cells.toArray] w fun e w' => (∃ v, e = .returned v ∧ ActIs v) ∧ Below w.heap.size w w' :=
  aOf_any x.k.toNat x.a.toNat x.b.toNat x.k.isLt x.a.isLt x.b.isLt x.A x.n x.c x.bs q hq w hr hnc hcm
theorem list_succ {n : Nat} {l : List Value} (h : l.length = n + 1) : ∃ a t, l = a :: t ∧ t.length = n := by
  cases l with
  | nil => cases h
  | cons a t => exact ⟨a, t, rfl, by simpa using h⟩
set_option maxRecDepth 100000 in
theorem run_buildScr (cs : List Value) (hl : cs.length = 39) (A : Option Addr) (n c : Nat) (w : World) :
    (Instr.build 39 #[(0, .agg cs.toArray), (1, .slice A n c)]).run Tryz.prog w = .ok (.agg (cs ++ [Value.slice A n c, Value.slice none 0 0]).toArray) w := by
  obtain ⟨c0, t0, rfl, h0⟩ := list_succ hl
  obtain ⟨c1, t1, rfl, h1⟩ := list_succ h0
  obtain ⟨c2, t2, rfl, h2⟩ := list_succ h1
  obtain ⟨c3, t3, rfl, h3⟩ := list_succ h2
  obtain ⟨c4, t4, rfl, h4⟩ := list_succ h3
  obtain ⟨c5, t5, rfl, h5⟩ := list_succ h4
  obtain ⟨c6, t6, rfl, h6⟩ := list_succ h5
  obtain ⟨c7, t7, rfl, h7⟩ := list_succ h6
  obtain ⟨c8, t8, rfl, h8⟩ := list_succ h7
  obtain ⟨c9, t9, rfl, h9⟩ := list_succ h8
  obtain ⟨c10, t10, rfl, h10⟩ := list_succ h9
  obtain ⟨c11, t11, rfl, h11⟩ := list_succ h10
  obtain ⟨c12, t12, rfl, h12⟩ := list_succ h11
  obtain ⟨c13, t13, rfl, h13⟩ := list_succ h12
  obtain ⟨c14, t14, rfl, h14⟩ := list_succ h13
  obtain ⟨c15, t15, rfl, h15⟩ := list_succ h14
  obtain ⟨c16, t16, rfl, h16⟩ := list_succ h15
  obtain ⟨c17, t17, rfl, h17⟩ := list_succ h16
  obtain ⟨c18, t18, rfl, h18⟩ := list_succ h17
  obtain ⟨c19, t19, rfl, h19⟩ := list_succ h18
  obtain ⟨c20, t20, rfl, h20⟩ := list_succ h19
  obtain ⟨c21, t21, rfl, h21⟩ := list_succ h20
  obtain ⟨c22, t22, rfl, h22⟩ := list_succ h21
  obtain ⟨c23, t23, rfl, h23⟩ := list_succ h22
  obtain ⟨c24, t24, rfl, h24⟩ := list_succ h23
  obtain ⟨c25, t25, rfl, h25⟩ := list_succ h24
  obtain ⟨c26, t26, rfl, h26⟩ := list_succ h25
  obtain ⟨c27, t27, rfl, h27⟩ := list_succ h26
  obtain ⟨c28, t28, rfl, h28⟩ := list_succ h27
  obtain ⟨c29, t29, rfl, h29⟩ := list_succ h28
  obtain ⟨c30, t30, rfl, h30⟩ := list_succ h29
  obtain ⟨c31, t31, rfl, h31⟩ := list_succ h30
  obtain ⟨c32, t32, rfl, h32⟩ := list_succ h31
  obtain ⟨c33, t33, rfl, h33⟩ := list_succ h32
  obtain ⟨c34, t34, rfl, h34⟩ := list_succ h33
  obtain ⟨c35, t35, rfl, h35⟩ := list_succ h34
  obtain ⟨c36, t36, rfl, h36⟩ := list_succ h35
  obtain ⟨c37, t37, rfl, h37⟩ := list_succ h36
  obtain ⟨c38, t38, rfl, h38⟩ := list_succ h37
  obtain rfl : t38 = [] := List.length_eq_zero_iff.1 h38
  clear h38
  kernel_rfl
theorem wpList_buildScr {ops : Array Oper} {rest : List Oper} {o : Oper} {a : Act} {w : World} {Q : Exit → Act → World → Prop} (hg : o.guard = none) (p q : Operand) (ho : o.op = .build 39 #[(0, p), (1, q)])
    (cs : List Value) (hl : cs.length = 39) (A : Option Addr) (n c : Nat) (hp : a.eval p = .agg cs.toArray) (hq : a.eval q = .slice A n c)
    (h : wpList Tryz.prog ops Q rest (a.put o.dst (.agg (cs ++ [Value.slice A n c, Value.slice none 0 0]).toArray)) w) : wpList Tryz.prog ops Q (o :: rest) a w :=
  wpList_plain hg fun _ hK => by
    have hrun := run_buildScr cs hl A n c w
    unfold Oper.wp execOp
    simp only [ho, List.map_toArray, List.map_cons, List.map_nil, hp, hq, Sem.run_bind, hrun, Result.andThen_ok, Sem.run_pure]
    exact hK _ _ h
theorem wpList_newScr {ops : Array Oper} {rest : List Oper} {o : Oper} {a : Act} {w : World} {Q : Exit → Act → World → Prop} (hg : o.guard = none) (ho : o.op = .alloc 39)
    (h : ∀ w', w' = w.alloc (.cells zScr.toArray 39) → wpList Tryz.prog ops Q rest (a.put o.dst (.pointer (some ⟨w.heap.size, 0, none⟩))) w') : wpList Tryz.prog ops Q (o :: rest) a w := by
  have hz : (zeroValue 39).run Tryz.prog w = .ok (.agg zScr.toArray) w := by kernel_rfl
  refine Great.wpList_allocTo hg o.dst rfl (.pointer (some ⟨w.heap.size, 0, none⟩)) (.cells zScr.toArray 39) ?_ (h _ rfl)
  simp only [execOp, ho, Instr.alloc, Sem.run_bind, hz, Result.andThen_ok, newVar, newRow, run_newObj_alloc, Sem.run_pure]
  rfl
theorem scr_info {cs : List Value} (hl : cs.length = 39) (u v : Value) : (Tryz.prog.info? 39).map (·.size) = some (cs ++ [u, v]).length := by
  have h : (Tryz.prog.info? 39).map (·.size) = some 41 := by kernel_rfl
  rw [h, List.length_append, hl]; rfl
theorem scr_one {cs : List Value} (h : cs.toArray.all (·.oneCell') = true) (A B : Option Addr) (n m c d : Nat) : (cs ++ [Value.slice A n c, Value.slice B m d]).toArray.all (·.oneCell') = true := by
  simp only [List.all_toArray] at h ⊢
  rw [List.all_append, h]; rfl
theorem exec_load_rowF {P : Program} {o : Oper} {ev : Operand → Value} {w : World} (ty : TypeId) (x : Operand) (ho : o.op = .load ty x) (g : Nat) (hx : ev x = .pointer (some ⟨g, 0, none⟩)) (t : TypeId) (cs : Array Value) (fr : Nat × Nat) (d : TypeDesc) (hg : w.heap[g]? = some (.cells cs t fr))
    (hu : P.underlying ty = some d) (hd : (match d with | .struct _ | .array _ _ => true | _ => false) = true) (hi : (P.info? ty).map (·.size) = some cs.size) : (execOp ev o).run P w = .ok (.value (.agg cs)) w := by
  unfold execOp
  simp only [ho, hx, Instr.loadAt, Instr.sureAddr, Sem.run_bind, Sem.run_pure, Result.andThen_ok, run_loadVar_row w g t ty cs fr d hg hu hd hi]
theorem scr_put {w : World} {g : Nat} {cs : List Value} {u v v' : Value} {t : TypeId} (hl : cs.length = 39) (h : Row w g t (cs ++ [u, v])) : Row (w.setCell ⟨g, 40, none⟩ v') g t (cs ++ [u, v']) := by
  have h2 := h.setCell (i := 40) v'
  rw [List.set_append_right _ _ (by omega), hl] at h2
  exact h2
theorem own_setCell {w : World} {B e size n g i : Nat} {v u : Value} {xs : List Value} (h : w.ownsRow B e size v n xs) (hg : g < B) : (w.setCell ⟨g, i, none⟩ u).ownsRow B e size v n xs :=
  h.kept (row := some g) ⟨rfl, rfl, rfl, by simp [World.setCell], fun k _ hk => Below.heap_setCell _ _ _ _ (fun e => hk (by simp [e]))⟩ (Or.inr fun e => by have := (h.lt g e).1; omega)
set_option maxRecDepth 100000 in
set_option maxHeartbeats 8000000 in
theorem sOf_any (x : CV) (l : List LV) (A : Option Addr) (n c : Nat) (la : List PlA) (w : World) (hr : ArgP w w.heap.size x.A x.n l) (ha : ArgA w w.heap.size A n la) :
    Calls Tryz.prog 4 #[.agg #[.int .u8 (bv x.a0), .int .u8 (bv x.a1), .int .u8 (bv x.a2), .int .u8 (bv x.a3), .int .u8 (bv x.a4), .int .u8 (bv x.a5), .int .u8 (bv x.a6), .slice x.A x.n x.c, .slice A n c]] w
      fun e w' => ∃ (g : Cfg) (s1 s2 : Value), e = .returned (.agg (g.cells ++ [s1, s2]).toArray) ∧ CfgOk g ∧ Below w.heap.size w w' := by
  have HR := Lib.hid hr
  have HA := Lib.hid ha
  clear hr ha
  go_enter Tryz.func4, Tryz.ntmps4
  go_upto_region 1 with (fail)
  change Code.wp _ _ _ _ ((w.alloc (.cells #[.int .u8 (bv x.a0), .int .u8 (bv x.a1), .int .u8 (bv x.a2), .int .u8 (bv x.a3), .int .u8 (bv x.a4), .int .u8 (bv x.a5), .int .u8 (bv x.a6), .slice x.A x.n x.c, .slice A n c] 29)).alloc (.cells zScr.toArray 39))
  obtain ⟨w2, hw2⟩ : ∃ w2, w2 = ((w.alloc (.cells #[.int .u8 (bv x.a0), .int .u8 (bv x.a1), .int .u8 (bv x.a2), .int .u8 (bv x.a3), .int .u8 (bv x.a4), .int .u8 (bv x.a5), .int .u8 (bv x.a6), .slice x.A x.n x.c, .slice A n c] 29)).alloc (.cells zScr.toArray 39)) := ⟨_, rfl⟩
  rw [← hw2]
  obtain ⟨g, hg⟩ : ∃ g, g = w.heap.size := ⟨_, rfl⟩
  have b2 : Below w.heap.size w w2 := by rw [hw2]; exact below_alloc2 (Below.refl _ _)
  have rC : Row w2 g 29 [.int .u8 (bv x.a0), .int .u8 (bv x.a1), .int .u8 (bv x.a2), .int .u8 (bv x.a3), .int .u8 (bv x.a4), .int .u8 (bv x.a5), .int .u8 (bv x.a6), .slice x.A x.n x.c, .slice A n c] := by
    rw [hw2, hg]; exact ((Below.refl _ _).alloc (Nat.le_refl _) _).block w.heap.size (by simp) |>.trans (heap_alloc_new _ _)
  have rR : Row w2 (g + 1) 39 zScr := by rw [hw2, hg]; exact heap_new_at (by simp)
  have hsz : w2.heap.size = g + 2 := by rw [hw2, hg]; simp
  rw [← hg]
  have HG := Lib.hid hg
  have B2 := Lib.hid b2
  have RC := Lib.hid rC
  have RR := Lib.hid rR
  have HSZ := Lib.hid hsz
  have HCO := cOf_any x l w2 (HR.out.step b2)
  have d0 := rC.cell (i := 0) rfl
  have d1 := rC.cell (i := 1) rfl
  have d2 := rC.cell (i := 2) rfl
  have d3 := rC.cell (i := 3) rfl
  have d4 := rC.cell (i := 4) rfl
  have d5 := rC.cell (i := 5) rfl
  have d6 := rC.cell (i := 6) rfl
  have d7 := rC.cell (i := 7) rfl
  clear hw2 hg b2 rC rR hsz
  go_upto_region 2 with (first
    | (go_at_call 10; refine HCO.mono ?_; rintro e w3 ⟨q, pA, pn, pc, rfl, hq, hb3⟩; have HQ := Lib.hid hq; have b3 : Below w.heap.size w w3 := B2.out.trans (hb3.mono B2.out.size); have RC3 : Row w3 g _ _ := RC.out.below hb3 (by have := HSZ.out; omega); have RR3 : Row w3 (g + 1) _ _ := RR.out.below hb3 (by have := HSZ.out; omega); obtain ⟨cs, hcs⟩ : ∃ cs, cs = q.cells := ⟨_, rfl⟩; rw [← hcs]; have HI : Hid ((Tryz.prog.info? 35).map (·.size) = some cs.length) := Lib.hid (by rw [hcs]; exact cfg_info q hq.1); have H1 : Hid (cs.toArray.all (·.oneCell') = true) := Lib.hid (by rw [hcs]; exact cfg_one q); have HL : Hid (cs.length = 39) := Lib.hid (by rw [hcs]; exact cfg_len q hq.1); have HCS := Lib.hid hcs; have HK : Hid (g + 2 ≤ w3.heap.size) := Lib.hid (by have := hb3.size; have := HSZ.out; omega); clear hcs hq hb3 d0 d1 d2 d3 d4 d5 d6 d7)
    | (refine wpList_newCfg rfl rfl ?_; rintro w4 hw4; have RA : Row w4 w3.heap.size 35 zCfg := (by rw [hw4]; exact heap_alloc_new _ _); have b4 : Below w.heap.size w w4 := (by rw [hw4]; exact b3.alloc b3.size _); have RC4 : Row w4 g _ _ := (by rw [hw4]; exact (heap_alloc_old _ _ (by have := HK.out; omega)).trans RC3); have RR4 : Row w4 (g + 1) _ _ := (by rw [hw4]; exact (heap_alloc_old _ _ (by have := HK.out; omega)).trans RR3); have hs4 : w4.heap.size = w3.heap.size + 1 := (by rw [hw4]; simp); have HS4 := Lib.hid hs4; clear hw4 hs4 RC3 RR3 b3)
    | (refine Row.store RA rfl 35 (.tmp 3) (.tmp 11) rfl rfl rfl HI.out (by rw [HL.out]; rfl) H1.out ?_; rintro w5 hw5 r5; have b5 : Below w.heap.size w w5 := (by rw [hw5]; exact b4.grown (grown_setRow _ _ _) b4.size (fun k hk => by cases hk; have := HK.out; have := HG.out; omega)); have RC5 : Row w5 g _ _ := (by rw [hw5]; exact RC4.other (by have := HK.out; omega) _); have RR5 : Row w5 (g + 1) _ _ := (by rw [hw5]; exact RR4.other (by have := HK.out; omega) _); clear hw5 RA b4 RC4 RR4))
  refine wp_region_lit ?_
  refine wpList_load_row rfl 35 (.tmp 3) rfl w3.heap.size rfl 35 cs.toArray (0, 0) _ r5 Tryz.underlying35 rfl (by rw [List.size_toArray]; exact HI.out) ?_
  go_upto_region 3 with (first
    | (refine wpList_buildScr rfl (.tmp 13) (.tmp 14) rfl cs HL.out pA pn pc rfl rfl ?_)
    | (refine wpList_newScr rfl rfl ?_; rintro w6 hw6; have RA : Row w6 w5.heap.size 39 zScr := (by rw [hw6]; exact heap_alloc_new _ _); have b6 : Below w.heap.size w w6 := (by rw [hw6]; exact b5.alloc b5.size _); have RC6 : Row w6 g _ _ := (by rw [hw6]; exact (heap_alloc_old _ _ RC5.lt).trans RC5); have RR6 : Row w6 (g + 1) _ _ := (by rw [hw6]; exact (heap_alloc_old _ _ RR5.lt).trans RR5); have r6 : Row w6 w3.heap.size _ _ := (by rw [hw6]; exact (heap_alloc_old _ _ r5.lt).trans r5); have HC5 := Lib.hid RC5.lt; have HR5 := Lib.hid RR5.lt; have H35 := Lib.hid r5.lt; have HS5 : Hid (w.heap.size ≤ w5.heap.size) := Lib.hid b5.size; clear hw6 RC5 RR5 r5 b5)
    | (refine Row.store RA rfl 39 (.tmp 5) (.tmp 15) rfl rfl rfl (scr_info HL.out _ _) (by rw [List.length_append, HL.out]; rfl) (scr_one H1.out _ _ _ _ _ _) ?_; rintro w7 hw7 r7; have b7 : Below w.heap.size w w7 := (by rw [hw7]; exact b6.grown (grown_setRow _ _ _) b6.size (fun k hk => by cases hk; exact HS5.out)); have RC7 : Row w7 g _ _ := (by rw [hw7]; exact RC6.other (by have := HC5.out; omega) _); have RR7 : Row w7 (g + 1) _ _ := (by rw [hw7]; exact RR6.other (by have := HR5.out; omega) _); have r37 : Row w7 w3.heap.size _ _ := (by rw [hw7]; exact r6.other (by have := H35.out; omega) _); clear hw7 RA b6 RC6 RR6 r6))
  obtain ⟨g3, hg3⟩ : ∃ g3, g3 = w3.heap.size := ⟨_, rfl⟩
  obtain ⟨g5, hg5⟩ : ∃ g5, g5 = w5.heap.size := ⟨_, rfl⟩
  rw [← hg3] at r37 H35
  rw [← hg5] at r7 H35 HC5 HR5 HS5
  rw [← hg3, ← hg5]
  have HR7 := Lib.hid r7
  have HB7 := Lib.hid b7
  have HC7 := Lib.hid RC7
  have HO7 := Lib.hid RR7
  have H37 := Lib.hid r37
  have HL7 := Lib.hid r7.lt
  have HA7 := Lib.hid (HA.out.step b7)
  clear hg3 hg5 r7 b7 RC7 RR7 r37
  go_wp2
  go_loopw [6] (fun i wr => ∃ k : Nat, i = .int .i64 k ∧ k ≤ 120 ∧ Below g5 w7 wr ∧ ∃ (v : Value) (xs : List Value), Row wr g5 39 (cs ++ [.slice pA pn pc, v]) ∧ wr.ownsRow (g5 + 1) 55 5 v k xs) (fun i _ => 121 - (intOf i).toNat)
  case atStart => exact ⟨0, rfl, by omega, Below.refl _ _, _, [], HR7.out, World.ownsRow_nil _ _ _ _⟩
  case round =>
    obtain ⟨k, rfl, hk, hb, v, xs, hrow, hown⟩ := hrel
    have HB := Lib.hid hb
    have HROW := Lib.hid hrow
    have HOWN := Lib.hid hown
    have HCR := Lib.hid (HC7.out.below hb HC5.out)
    have c8 := HCR.out.cell (i := 8) rfl
    clear hb hrow hown
    by_cases hkn : k < n
    · have hd1 : decide ((k : Int) < (n : Int)) = true := by simp; omega
      by_cases hk2 : k < 120
      · have hd2 : decide ((k : Int) < 120) = true := by simp; omega
        obtain ⟨lA, lc, rfl, _, _⟩ := own_slice HOWN.out
        have bR : Below w.heap.size w wr := HB7.out.trans (HB.out.mono HS5.out)
        have BR := Lib.hid bR
        have hAr := HA.out.below bR (Nat.le_refl _)
        have hkl : k < la.length := by have := hAr.1.lenA; omega
        obtain ⟨ad, hAe, had, e0, e1, e2, e3⟩ := hAr.1.atA hkl
        have hmem : la[k] ∈ la := List.getElem_mem _
        generalize la[k] = xk at e0 e1 e2 e3 hmem
        have HAO : ∀ W, Below w.heap.size w W → Calls Tryz.prog 11 #[.agg #[.int .u8 (bv xk.k), .int .u8 (bv xk.a), .int .u8 (bv xk.b), .slice xk.A xk.n xk.c], .agg cs.toArray] W fun e w' => (∃ v, e = .returned v ∧ ActIs v) ∧ Below W.heap.size W w' := fun W hW => by
          rw [HCS.out]
          have h := (HA.out.below hW (Nat.le_refl _)).2 xk hmem
          exact aOf_any8 xk q HQ.out W (h.1.mono hW.size) h.2.1 h.2.2
        have r3 := H37.out.below HB.out H35.out
        have c40 : wr.cell? ⟨g5, 40, none⟩ = some (.slice lA k lc) := HROW.out.cell (i := 40) (by rw [List.getElem?_append_right (by rw [HL.out]; omega), HL.out]; rfl)
        have f40 := HROW.out.free 40
        have HK5 : Hid (g5 < wr.heap.size) := Lib.hid HROW.out.lt
        obtain ⟨i0, hi, hz0, hz1, hz2⟩ := info_parts info_act
        subst hAe
        have HMX : Hid (k + 1 ≤ maxLen) := Lib.hid (by unfold maxLen; omega)
        have HBY : Hid ((k + 1) * 56 ≤ 140737488355328) := Lib.hid (by omega)
        clear bR
        have R3 := Lib.hid r3
        have H3L := Lib.hid (show g3 < g5 + 1 by have := H35.out; omega)
        have HGG := Lib.hid (show g < g5 + 1 by have := HC5.out; omega)
        have HAD := Lib.hid (show ad.block < g5 + 1 by have := HS5.out; omega)
        have HS0 : ∀ W, Below (g5 + 1) wr W → (fun W : World => W.cell? ⟨g5, 40, none⟩ = some (.slice lA k lc) ∧ W.cell? ⟨g, 8, none⟩ = some (.slice (some ad) n c) ∧ W.cell? (ad.add (k * 4)) = some (.int .u8 (bv xk.k)) ∧ W.cell? ⟨(ad.add (k * 4)).block, (ad.add (k * 4)).off + 1, none⟩ = some (.int .u8 (bv xk.a)) ∧ W.cell? ⟨(ad.add (k * 4)).block, (ad.add (k * 4)).off + 2, none⟩ = some (.int .u8 (bv xk.b)) ∧ W.cell? ⟨(ad.add (k * 4)).block, (ad.add (k * 4)).off + 3, none⟩ = some (.slice xk.A xk.n xk.c) ∧ Below (g5 + 1) wr W) W := fun W h => ⟨cs_ h (Nat.lt_succ_self _) c40, cs_ h HGG.out c8, (h.cell (p := ad.add (k * 4)) (by rw [add_block]; exact HAD.out)).trans e0, cs_ h (by rw [add_block]; exact HAD.out) e1, cs_ h (by rw [add_block]; exact HAD.out) e2, cs_ h (by rw [add_block]; exact HAD.out) e3, h⟩
        clear r3 hkl hAr
        go_upto_region 6 with (fail)
        refine anyU_begin (S := (fun W : World => W.cell? ⟨g5, 40, none⟩ = some (.slice lA k lc) ∧ W.cell? ⟨g, 8, none⟩ = some (.slice (some ad) n c) ∧ W.cell? (ad.add (k * 4)) = some (.int .u8 (bv xk.k)) ∧ W.cell? ⟨(ad.add (k * 4)).block, (ad.add (k * 4)).off + 1, none⟩ = some (.int .u8 (bv xk.a)) ∧ W.cell? ⟨(ad.add (k * 4)).block, (ad.add (k * 4)).off + 2, none⟩ = some (.int .u8 (bv xk.b)) ∧ W.cell? ⟨(ad.add (k * 4)).block, (ad.add (k * 4)).off + 3, none⟩ = some (.slice xk.A xk.n xk.c) ∧ Below (g5 + 1) wr W)) (M := (fun j => j == 12)) (by kernel_rfl) (HS0 _ (below_drewN' (Below.refl _ _) 1)) (fun hHeld => ?_)
        refine takeU_run 0 (v := ?_) rfl (by kernel_rfl) (by kernel_rfl) (by kernel_rfl) (by kernel_rfl) (fun _ _ _ h => h) rfl ?_ hHeld ?_
        rotate_left
        · intro w hSw; (try dsimp only at hSw); go_simp <;> with_reducible rfl
        try simp only [Act.put, List.setIfInBounds_toArray, List.set_cons_zero, List.set_cons_succ]
        refine takeU_run 1 (v := ?_) rfl (by kernel_rfl) (by kernel_rfl) (by kernel_rfl) (by kernel_rfl) (fun _ _ _ h => h) rfl ?_ hHeld ?_
        rotate_left
        · intro w hSw; (try dsimp only at hSw); go_simp <;> with_reducible rfl
        try simp only [Act.put, List.setIfInBounds_toArray, List.set_cons_zero, List.set_cons_succ]
        refine takeU_run 2 (v := ?_) rfl (by kernel_rfl) (by kernel_rfl) (by kernel_rfl) (by kernel_rfl) (fun _ _ _ h => h) rfl ?_ hHeld ?_
        rotate_left
        · intro w hSw; (try dsimp only at hSw); go_simp <;> with_reducible rfl
        try simp only [Act.put, List.setIfInBounds_toArray, List.set_cons_zero, List.set_cons_succ]
        refine takeU_run 3 (v := ?_) rfl (by kernel_rfl) (by kernel_rfl) (by kernel_rfl) (by kernel_rfl) (fun _ _ _ h => h) rfl ?_ hHeld ?_
        rotate_left
        · intro w hSw; (try dsimp only at hSw); go_simp <;> with_reducible rfl
        try simp only [Act.put, List.setIfInBounds_toArray, List.set_cons_zero, List.set_cons_succ]
        refine takeU_run 4 (v := ?_) rfl (by kernel_rfl) (by kernel_rfl) (by kernel_rfl) (by kernel_rfl) (fun _ _ _ h => h) rfl ?_ hHeld ?_
        rotate_left
        · intro w hSw; (try dsimp only at hSw); go_simp <;> with_reducible rfl
        try simp only [Act.put, List.setIfInBounds_toArray, List.set_cons_zero, List.set_cons_succ]
        refine takeU_run 5 (v := ?_) rfl (by kernel_rfl) (by kernel_rfl) (by kernel_rfl) (by kernel_rfl) (fun _ _ _ h => h) rfl ?_ hHeld ?_
        rotate_left
        · intro w hSw; (try dsimp only at hSw); go_simp <;> with_reducible rfl
        try simp only [Act.put, List.setIfInBounds_toArray, List.set_cons_zero, List.set_cons_succ]
        refine takeU_run 6 (v := ?_) rfl (by kernel_rfl) (by kernel_rfl) (by kernel_rfl) (by kernel_rfl) (fun _ _ _ h => h) rfl ?_ hHeld ?_
        rotate_left
        · intro w hSw; (try dsimp only at hSw); go_simp <;> with_reducible rfl
        try simp only [Act.put, List.setIfInBounds_toArray, List.set_cons_zero, List.set_cons_succ]
        refine takeU_run 7 (v := .agg cs.toArray) rfl (by kernel_rfl) (by kernel_rfl) (by kernel_rfl) (by kernel_rfl) (fun _ _ _ h => h) rfl ?_ hHeld ?_
        · intro w hSw; (try dsimp only at hSw); exact exec_load_rowF 35 (.tmp 3) rfl g3 rfl 35 cs.toArray (0, 0) _ ((hSw.2.2.2.2.2.2.block g3 H3L.out).trans R3.out) Tryz.underlying35 rfl (by rw [List.size_toArray]; exact HI.out)
        try simp only [Act.put, List.setIfInBounds_toArray, List.set_cons_zero, List.set_cons_succ]
        refine takeU_call 8 rfl (by kernel_rfl) rfl (fun K hK => ?_)
        go_simp
        refine (HAO _ (below_drewN' BR.out 1)).mono ?_
        rintro e w8 ⟨⟨va, rfl, k1, t1, s1, A1, n1, c1, b1, rfl⟩, hb8⟩
        have y8 : Below wr.heap.size wr w8 := below_of_drew hb8
        have Y8 : Below (g5 + 1) wr w8 := y8.mono HK5.out
        have OW8 := own_below HOWN.out y8 (Nat.le_refl _)
        have HY8 := Lib.hid y8.size
        clear hb8 y8
        try dsimp only
        try clear hHeld
        refine hK.out _ _ (HS0 _ Y8) (fun hHeld => ?_)
        clear hK K
        try simp only [Act.put, List.setIfInBounds_toArray, List.set_cons_zero, List.set_cons_succ]
        refine takeU_call 9 rfl (by kernel_rfl) rfl (fun K hK => ?_)
        go_simp
        refine hK.out _ _ (HS0 _ (Y8.alloc (Nat.le_trans HK5.out HY8.out) _)) (fun hHeld => ?_)
        clear hK K
        try simp only [Act.put, List.setIfInBounds_toArray, List.set_cons_zero, List.set_cons_succ]
        refine takeU_call 10 rfl (by kernel_rfl) rfl (fun K hK => ?_)
        refine wp_append_rd _ (.tmp 28) (.tmp 36) _ rfl (g5 + 1) 55 i0 _ 5 56 Tryz.underlying37 hi hz0 hz1 hz2 rfl (by decide) (.slice lA k lc) k xs rfl (OW8.alloc _) _ _ 1 _ [.int .u8 k1, .int .i64 t1, .int .i64 s1, .slice A1 n1 c1, .int .i64 b1] rfl (Rd.lit1 rfl rfl) (one5 _ _ _ _ _ _ _) HMX.out HBY.out (by have := HY8.out; have := HK5.out; simp; omega) ?_
        intro v' w10 hown' hgrow hat
        have Y10 : Below (g5 + 1) wr w10 := below_grown (Y8.alloc (Nat.le_trans HK5.out HY8.out) _) hgrow (by have := HY8.out; have := HK5.out; simp; omega) (OW8.alloc _)
        obtain ⟨A9, n9, rfl, hc9, hrd9⟩ := own_slice hown'
        have c10 := cs_ Y10 (Nat.lt_succ_self _) c40
        have f10 := fs_ Y10 (Nat.lt_succ_self _) f40
        clear hat hgrow hc9 hrd9
        try dsimp only
        try clear hHeld
        refine hK.out _ _ (HS0 _ Y10) (fun hHeld => ?_)
        clear hK K
        try simp only [Act.put, List.setIfInBounds_toArray, List.set_cons_zero, List.set_cons_succ]
        refine takeU_run 11 (v := ?_) rfl (by kernel_rfl) (by kernel_rfl) (by kernel_rfl) (by kernel_rfl) (fun _ _ _ h => h) rfl ?_ hHeld ?_
        rotate_left
        · intro w hSw; (try dsimp only at hSw); go_simp <;> with_reducible rfl
        try simp only [Act.put, List.setIfInBounds_toArray, List.set_cons_zero, List.set_cons_succ]
        refine takeU_last 12 rfl (by kernel_rfl) rfl rfl (fun K hK => ?_)
        go_simp
        refine hK.out _ _ ?_
        clear hK K
        try simp only [Act.put, List.setIfInBounds_toArray, List.set_cons_zero, List.set_cons_succ]
        refine anyU_done (by kernel_rfl) ?_ _
        try clear hHeld
        go_wp2
        go_roundw
        case rel => exact ⟨k + 1, by go_num, by omega, (HB.out.trans (Y10.mono (Nat.le_succ _))).setCell (Nat.le_refl _) _, _, _, scr_put HL.out (HROW.out.below Y10 (Nat.lt_succ_self _)), own_setCell hown' (Nat.lt_succ_self _)⟩
        case measure => simp [intOf]; omega
      · have hd2 : decide ((k : Int) < 120) = false := by simp; omega
        go_upto_region 7 with (fail)
        have sX := HO7.out.below HB.out HR5.out
        obtain ⟨lA, lc, rfl, _, _⟩ := own_slice HOWN.out
        have bX : Below w.heap.size w wr := HB7.out.trans (HB.out.mono HS5.out)
        refine wp_region_lit ?_
        refine wpList_load_row rfl 39 (.tmp 5) rfl g5 rfl 39 (cs ++ [Value.slice pA pn pc, Value.slice lA k lc]).toArray (0, 0) _ HROW.out Tryz.underlying39 rfl (by rw [List.size_toArray]; exact scr_info HL.out _ _) ?_
        go_wp2_with (first | (refine Row.store sX rfl 39 (.tmp 2) (.tmp 39) rfl rfl rfl (scr_info HL.out _ _) (by rw [List.length_append, HL.out]; rfl) (scr_one H1.out _ _ _ _ _ _) ?_; rintro wF hwF rF; have bF : Below w.heap.size w wF := (by rw [hwF]; exact bX.grown (grown_setRow _ _ _) bX.size (fun k hk => by cases hk; have := HG.out; omega)); clear hwF sX bX))
        refine bodyPost_ret (v := .agg (cs ++ [Value.slice pA pn pc, Value.slice lA k lc]).toArray) (results_cell_row Tryz.results4 _ wF (g + 1) 39 _ (0, 0) _ rfl rF Tryz.underlying39 rfl (by rw [List.size_toArray]; exact scr_info HL.out _ _)) rfl ⟨q, _, _, by rw [HCS.out], HQ.out, bF⟩
    · have hd1 : decide ((k : Int) < (n : Int)) = false := by simp; omega
      go_upto_region 7 with (fail)
      have sX := HO7.out.below HB.out HR5.out
      obtain ⟨lA, lc, rfl, _, _⟩ := own_slice HOWN.out
      have bX : Below w.heap.size w wr := HB7.out.trans (HB.out.mono HS5.out)
      refine wp_region_lit ?_
      refine wpList_load_row rfl 39 (.tmp 5) rfl g5 rfl 39 (cs ++ [Value.slice pA pn pc, Value.slice lA k lc]).toArray (0, 0) _ HROW.out Tryz.underlying39 rfl (by rw [List.size_toArray]; exact scr_info HL.out _ _) ?_
      go_wp2_with (first | (refine Row.store sX rfl 39 (.tmp 2) (.tmp 39) rfl rfl rfl (scr_info HL.out _ _) (by rw [List.length_append, HL.out]; rfl) (scr_one H1.out _ _ _ _ _ _) ?_; rintro wF hwF rF; have bF : Below w.heap.size w wF := (by rw [hwF]; exact bX.grown (grown_setRow _ _ _) bX.size (fun k hk => by cases hk; have := HG.out; omega)); clear hwF sX bX))
      refine bodyPost_ret (v := .agg (cs ++ [Value.slice pA pn pc, Value.slice lA k lc]).toArray) (results_cell_row Tryz.results4 _ wF (g + 1) 39 _ (0, 0) _ rfl rF Tryz.underlying39 rfl (by rw [List.size_toArray]; exact scr_info HL.out _ _)) rfl ⟨q, _, _, by rw [HCS.out], HQ.out, bF⟩
end Go.Proofs.YtnpnljgjloofkaaGreatDoor
