/- A configuration out of plain data (layer 30). -/
import Derived.Test.YtnpnljgjloofkaaGreatDoorFrf
import Derived.Test.YtnpnljgjloofkaaGreatDoorFrd
import Derived.Test.YtnpnljgjloofkaaGreatDoorShE
import Derived.Great.Walk
namespace Go.Proofs.YtnpnljgjloofkaaGreatDoor
open Go.RowKit

/-- values put together are these, their parts named -/
theorem wpList_build_as2 {P : Program} {ops : Array Oper} {rest : List Oper} {o : Oper} {a : Act} {w : World} {Q : Exit → Act → World → Prop} (hg : o.guard = none) (t : TypeId) (parts : Array (Nat × Operand)) (ho : o.op = .build t parts)
    (ps : List (Nat × Value)) (cells : Array Value) (hf : P.built t ps = some cells) (hp : (parts.map fun (i, x) => (i, a.eval x)).toList = ps)
    (h : wpList P ops Q rest (a.put o.dst (.agg cells)) w) : wpList P ops Q (o :: rest) a w :=
  wpList_build_is hg t parts ho cells (by rw [hp]; exact hf) h
def zCfg : List Value := [.int .i64 0, .int .i64 0, .int .i64 0, .int .i64 0, .int .u64 0, .int .u64 0, .int .u8 0, .int .u8 0, .int .u8 0, .int .u8 0, .int .u8 0, .int .u8 0, .int .u8 0, .int .u8 0, .int .u8 0, .int .u8 0, .int .u8 0, .int .u8 0, .int .u8 0, .int .u8 0, .int .u8 0, .int .u8 0, .int .u8 0, .int .u8 0, .int .u8 0, .int .u8 0, .int .u8 0, .int .u8 0, .int .u8 0, .int .u8 0, .int .u8 0, .int .u8 0, .int .u8 0, .int .u8 0, .int .u8 0, .int .u8 0, .int .u8 0, .int .u8 0, .int .u8 0]
def cfg0 (b s c r : Int) : Cfg := ⟨b, s, 0, c, 0, r, 0, List.replicate 32 0#8⟩
theorem build_cfg (b s c r : Int) : Tryz.prog.built 35 [(0, .int .i64 b), (1, .int .i64 s), (3, .int .i64 c), (5, .int .u64 r)] = some (cfg0 b s c r).cells.toArray := by kernel_rfl
theorem wpList_buildCfg {ops : Array Oper} {rest : List Oper} {o : Oper} {a : Act} {w : World} {Q : Exit → Act → World → Prop} (hg : o.guard = none) (parts : Array (Nat × Operand)) (ho : o.op = .build 35 parts)
    (b s c r : Int) (hp : (parts.map fun (i, x) => (i, a.eval x)).toList = [(0, .int .i64 b), (1, .int .i64 s), (3, .int .i64 c), (5, .int .u64 r)])
    (h : ∀ cs : List Value, Hid (cs = (cfg0 b s c r).cells) → wpList Tryz.prog ops Q rest (a.put o.dst (.agg cs.toArray)) w) : wpList Tryz.prog ops Q (o :: rest) a w :=
  wpList_build_as2 hg 35 parts ho _ _ (build_cfg b s c r) hp (h _ (Lib.hid rfl))
theorem wpList_newCfg {ops : Array Oper} {rest : List Oper} {o : Oper} {a : Act} {w : World} {Q : Exit → Act → World → Prop} (hg : o.guard = none) (ho : o.op = .alloc 35)
    (h : ∀ w', w' = w.alloc (.cells zCfg.toArray 35) → wpList Tryz.prog ops Q rest (a.put o.dst (.pointer (some ⟨w.heap.size, 0, none⟩))) w') : wpList Tryz.prog ops Q (o :: rest) a w := by
  have hz : (zeroValue 35).run Tryz.prog w = .ok (.agg zCfg.toArray) w := by kernel_rfl
  refine Great.wpList_allocTo hg o.dst rfl (.pointer (some ⟨w.heap.size, 0, none⟩)) (.cells zCfg.toArray 35) ?_ (h _ rfl)
  simp only [execOp, ho, Instr.alloc, Sem.run_bind, hz, Result.andThen_ok, newVar, newRow, run_newObj_alloc, Sem.run_pure]
  rfl
theorem cfg_info (c : Cfg) (hl : c.ms.length = 32) : (Tryz.prog.info? 35).map (·.size) = some c.cells.length := by
  have h : (Tryz.prog.info? 35).map (·.size) = some 39 := by kernel_rfl
  rw [h]; simp [Cfg.cells, cells8_len, hl]
theorem cfg_len (c : Cfg) (hl : c.ms.length = 32) : c.cells.length = 39 := by simp [Cfg.cells, cells8_len, hl]
theorem cells8_ones2 (l : List B8) : ∀ v ∈ cells8 l, v.oneCell' = true := by
  intro v hv; simp only [cells8, List.mem_map] at hv; obtain ⟨_, _, rfl⟩ := hv; rfl
theorem cfg_one (c : Cfg) : c.cells.toArray.all (·.oneCell') = true := by
  refine all_oneCell_toArray ?_
  intro v hv
  simp only [Cfg.cells, List.mem_append, List.mem_cons, List.not_mem_nil, or_false] at hv
  rcases hv with (rfl | rfl | rfl | rfl | rfl | rfl) | hv | rfl <;> first | rfl | exact cells8_ones2 _ v hv
theorem cfg_set6 (bl sh fr cl li re fl : Int) (a : B8) (j : Nat) (hj : j < 32) : (Cfg.cells ⟨bl, sh, fr, cl, li, re, fl, List.replicate j a ++ List.replicate (32 - j) 0#8⟩).set (6 + j) (.int .u8 (bv a)) = Cfg.cells ⟨bl, sh, fr, cl, li, re, fl, List.replicate (j + 1) a ++ List.replicate (32 - (j + 1)) 0#8⟩ := by
  unfold Cfg.cells
  have hl : (cells8 (List.replicate j a ++ List.replicate (32 - j) 0#8)).length = 32 := by rw [cells8_len]; simp; omega
  rw [List.set_append_right _ _ (by simp), List.set_append_left _ _ (by rw [hl]; simp; omega)]
  have e := set_rep32 32 j a hj
  have e6 : 6 + j - [Value.int .i64 bl, .int .i64 sh, .int .i64 fr, .int .i64 cl, .int .u64 li, .int .u64 re].length = j := by simp
  rw [e6]
  show _ ++ (((cells8 (List.replicate j a ++ List.replicate (32 - j) 0)).set j (.int .u8 (bv a))) ++ _) = _
  rw [e]
  rfl
theorem cfg_at6 (bl sh fr cl li re fl : Int) (a : B8) (j : Nat) (hj : j < 32) : (Cfg.cells ⟨bl, sh, fr, cl, li, re, fl, List.replicate j a ++ List.replicate (32 - j) 0#8⟩)[6 + j]? = some (.int .u8 0) := by
  unfold Cfg.cells
  have hl : (cells8 (List.replicate j a ++ List.replicate (32 - j) 0#8)).length = 32 := by rw [cells8_len]; simp; omega
  rw [List.getElem?_append_right (by simp)]
  have e6 : 6 + j - [Value.int .i64 bl, .int .i64 sh, .int .i64 fr, .int .i64 cl, .int .u64 li, .int .u64 re].length = j := by simp
  rw [e6, List.getElem?_append_left (by rw [hl]; exact hj)]
  exact at_rep32 32 j a hj
set_option maxRecDepth 100000 in
set_option maxHeartbeats 8000000 in
theorem config_any (a0 a1 a2 a3 a4 a5 : Nat) (h0 : a0 < 256) (h1 : a1 < 256) (h2 : a2 < 256) (h3 : a3 < 256) (h4 : a4 < 256) (h5 : a5 < 256) (a6 : B8) (A : Option Addr) (n c : Nat) (w : World) :
    Calls Tryz.prog 22 #[.agg #[.int .u8 a0, .int .u8 a1, .int .u8 a2, .int .u8 a3, .int .u8 a4, .int .u8 a5, .int .u8 (bv a6), .slice A n c]] w
      fun e w' => ∃ g : Cfg, e = .returned (.agg g.cells.toArray) ∧ g.ms.length = 32 ∧ (1 ≤ g.bl ∧ g.bl ≤ 20) ∧ (1 ≤ g.sh ∧ g.sh ≤ 2) ∧ (1 ≤ g.cl ∧ g.cl ≤ 3) ∧ Below w.heap.size w w' := by
  go_enter Tryz.func22, Tryz.ntmps22
  go_upto_region 1 with (fail)
  change Code.wp _ _ _ _ ((w.alloc (.cells #[.int .u8 a0, .int .u8 a1, .int .u8 a2, .int .u8 a3, .int .u8 a4, .int .u8 a5, .int .u8 (bv a6), .slice A n c] 26)).alloc (.cells zCfg.toArray 35))
  obtain ⟨w2, hw2⟩ : ∃ w2, w2 = ((w.alloc (.cells #[.int .u8 a0, .int .u8 a1, .int .u8 a2, .int .u8 a3, .int .u8 a4, .int .u8 a5, .int .u8 (bv a6), .slice A n c] 26)).alloc (.cells zCfg.toArray 35)) := ⟨_, rfl⟩
  rw [← hw2]
  obtain ⟨g, hg⟩ : ∃ g, g = w.heap.size := ⟨_, rfl⟩
  have b2 : Below w.heap.size w w2 := by rw [hw2]; exact below_alloc2 (Below.refl _ _)
  have rC : Row w2 g 26 [.int .u8 a0, .int .u8 a1, .int .u8 a2, .int .u8 a3, .int .u8 a4, .int .u8 a5, .int .u8 (bv a6), .slice A n c] := by
    rw [hw2, hg]; exact ((Below.refl _ _).alloc (Nat.le_refl _) _).block w.heap.size (by simp) |>.trans (heap_alloc_new _ _)
  have rR : Row w2 (g + 1) 35 zCfg := by rw [hw2, hg]; exact heap_new_at (by simp)
  have hsz : w2.heap.size = g + 2 := by rw [hw2, hg]; simp
  rw [← hg]
  have HG := Lib.hid hg
  have B2 := Lib.hid b2
  clear hw2 hg b2
  have d0 := rC.cell (i := 0) rfl
  have d1 := rC.cell (i := 1) rfl
  have d2 := rC.cell (i := 2) rfl
  have d5 := rC.cell (i := 5) rfl
  have rA : Row (w2.alloc (.cells zCfg.toArray 35)) (g + 2) 35 zCfg := by rw [← hsz]; exact heap_alloc_new _ _
  have bA : Below w.heap.size w (w2.alloc (.cells zCfg.toArray 35)) := B2.out.alloc (by have := HG.out; omega) _
  have RA := Lib.hid rA
  have BA := Lib.hid bA
  have RC := Lib.hid rC
  have RR := Lib.hid rR
  clear rA bA rC rR
  go_upto_region 2 with (first | (refine wpList_newCfg rfl rfl ?_; rintro w3 hw3; rw [hsz]; have RA : Row w3 (g + 2) 35 zCfg := (by rw [hw3]; exact RA.out); have BA : Below w.heap.size w w3 := (by rw [hw3]; exact BA.out); have RC3 : Row w3 g _ _ := (by rw [hw3]; exact (heap_alloc_old _ _ (by omega)).trans RC.out); have RR3 : Row w3 (g + 1) _ _ := (by rw [hw3]; exact (heap_alloc_old _ _ (by omega)).trans RR.out); clear hw3) | (refine Row.store RA rfl 35 (.tmp 3) (.tmp 26) rfl rfl rfl (by kernel_rfl) rfl (by kernel_rfl) ?_; rintro w4 hw4 r4; have b4 : Below w.heap.size w w4 := (by rw [hw4]; exact BA.grown (grown_setRow _ _ _) BA.size (fun k hk => by cases hk; have := HG.out; omega)); have RC4 : Row w4 g _ _ := (by rw [hw4]; exact RC3.other (by omega) _); have RR4 : Row w4 (g + 1) _ _ := (by rw [hw4]; exact RR3.other (by omega) _); clear hw4 RA BA RC3 RR3))
  have HX := fun (q : Nat) (h1 : 1 ≤ q) (hn : q ≤ 4096) (W : World) => h12_any q h1 hn W
  have e0 := r4.cell (i := 0) rfl
  have e1 := r4.cell (i := 1) rfl
  have f1 := r4.free 1
  go_upto_region 3 with (fail)
  obtain ⟨sh, hsh⟩ : ∃ sh : Int, sh = 1 + min ((a1 : Int) % 2) ((a0 : Int) % 20) := ⟨_, rfl⟩
  rw [← hsh]
  have hsb : 1 ≤ sh ∧ sh ≤ 2 := by omega
  clear hsh
  obtain ⟨bl, hbl⟩ : ∃ bl : Nat, (bl : Int) = 1 + (a0 : Int) % 20 := ⟨1 + a0 % 20, by omega⟩
  have hbb : 1 ≤ bl ∧ bl ≤ 20 := by omega
  obtain ⟨cl, hcl⟩ : ∃ cl : Int, cl = 1 + (a2 : Int) % 3 := ⟨_, rfl⟩
  have hcb : 1 ≤ cl ∧ cl ≤ 3 := by omega
  rw [← hbl, ← hcl] at r4 ⊢
  clear hbl hcl e0 e1 f1
  obtain ⟨w5, hw5⟩ : ∃ w5, w5 = w4.setCell ⟨g + 2, 1, none⟩ (.int .i64 sh) := ⟨_, rfl⟩
  rw [← hw5]
  have r5 := r4.setCell (i := 1) (.int .i64 sh)
  have b5 : Below w.heap.size w w5 := by rw [hw5]; exact b4.setCell (by have := HG.out; simp; omega) _
  rw [← hw5] at r5
  have RC5 := RC4.apart (g2 := g + 2) (by omega) 1 (.int .i64 sh)
  have RR5 := RR4.apart (g2 := g + 2) (by omega) 1 (.int .i64 sh)
  rw [← hw5] at RC5 RR5
  clear hw5 r4 b4 RC4 RR4
  have r5 : Row w5 (g + 2) 35 (Cfg.cells ⟨bl, sh, 0, cl, 0, 1 + (a5 : Int) % 6, 0, List.replicate 32 0#8⟩) := r5
  have x0 := r5.cell (i := 0) rfl
  have x3 := r5.cell (i := 3) rfl
  have hh5 := hgtN_le5 bl
  have HX5 := HX bl hbb.1 (by omega)
  generalize hgtN bl = ht at hh5 HX5
  go_region_held3 (fun w' => w'.cell? ⟨g + 2, 0, none⟩ = some (.int .i64 (bl : Int)) ∧ w'.cell? ⟨g + 2, 3, none⟩ = some (.int .i64 cl)) (go_keep) (first | (go_at_call 38; refine (HX5 _).mono ?_; rintro e w2 ⟨rfl, rfl⟩))
  have e2 : IntKind.i64.wrap (2 * cl) = 2 * cl := IntWalk.i64_in _ (by omega)
  have e3 : IntKind.i64.wrap (2 * cl + (ht : Int)) = 2 * cl + ht := IntWalk.i64_in _ (by omega)
  have e4 : IntKind.i64.wrap (2 * cl + (ht : Int) + 1) = 2 * cl + ht + 1 := IntWalk.i64_in _ (by omega)
  rw [e2, e3, e4]
  clear e2 e3 e4 x0 x3
  obtain ⟨nd, hnd⟩ : ∃ nd : Int, nd = 2 * cl + ht + 1 := ⟨_, rfl⟩
  have hndb : 3 ≤ nd ∧ nd ≤ 12 := by omega
  rw [← hnd]
  clear hnd
  have r6 := (show Row w5.drew (g + 2) _ _ from r5)
  have b6 : Below w.heap.size w w5.drew := below_drewN' b5 1
  have RC6 := (show Row w5.drew g _ _ from RC5)
  have RR6 := (show Row w5.drew (g + 1) _ _ from RR5)
  obtain ⟨w6, hw6⟩ : ∃ w6, w6 = w5.drew := ⟨_, rfl⟩
  rw [← hw6] at r6 b6 RC6 RR6 ⊢
  clear hw6 r5 b5 RC5 RR5
  have y1 := r6.cell (i := 1) rfl
  have y3 := r6.cell (i := 3) rfl
  have y2 := r6.cell (i := 2) rfl
  have yf := r6.free 2
  have hs0 : ¬ sh = 0 := by omega
  have yc : w6.cell? ⟨g, 3, none⟩ = some (.int .u8 a3) := RC6.cell rfl
  go_upto_region 4 with (fail)
  go_region
  obtain ⟨fr, hfr⟩ : ∃ fr : Int, fr = wrap64 (max (cl + 1) ((nd + sh - 1) / sh) + (a3 : Int) % 3) := ⟨_, rfl⟩
  rw [← hfr]
  clear hfr
  have r7 := (show Row (w6.setCell ⟨g + 2, 2, none⟩ (.int .i64 fr)).drew (g + 2) _ _ from r6.setCell (i := 2) (.int .i64 fr))
  have b7 : Below w.heap.size w (w6.setCell ⟨g + 2, 2, none⟩ (.int .i64 fr)).drew := below_drewN' (b6.setCell (by have := HG.out; simp; omega) _) 1
  have RC7 := (show Row (w6.setCell ⟨g + 2, 2, none⟩ (.int .i64 fr)).drew g _ _ from RC6.apart (g2 := g + 2) (by omega) 2 (.int .i64 fr))
  have RR7 := (show Row (w6.setCell ⟨g + 2, 2, none⟩ (.int .i64 fr)).drew (g + 1) _ _ from RR6.apart (g2 := g + 2) (by omega) 2 (.int .i64 fr))
  obtain ⟨w7, hw7⟩ : ∃ w7, w7 = (w6.setCell ⟨g + 2, 2, none⟩ (.int .i64 fr)).drew := ⟨_, rfl⟩
  rw [← hw7] at r7 b7 RC7 RR7 ⊢
  clear hw7 r6 b6 RC6 RR6 y1 y2 y3 yf yc
  have r7 : Row w7 (g + 2) 35 (Cfg.cells ⟨bl, sh, fr, cl, 0, 1 + (a5 : Int) % 6, 0, List.replicate 32 0#8⟩) := r7
  have z4 : w7.cell? ⟨g, 4, none⟩ = some (.int .u8 a4) := RC7.cell rfl
  have z5 := r7.cell (i := 5) rfl
  have z6 := r7.cell (i := 4) rfl
  have zf := r7.free 4
  by_cases h8 : (a4 : Int) % 8 = 0
  · have hd : ((a4 : Int) % 8 == 0) = true := by simpa using h8
    go_upto_region 8 with (fail)
    have r8 : Row ((w7.setCell ⟨g + 2, 4, none⟩ (.int .u64 1000)).setCell ⟨g + 2, 4, none⟩ (.int .u64 (1 + (a5 : Int) % 6 + (a4 : Int) / 8 % 4))) (g + 2) 35 (Cfg.cells ⟨bl, sh, fr, cl, 1 + (a5 : Int) % 6 + (a4 : Int) / 8 % 4, 1 + (a5 : Int) % 6, 0, List.replicate 0 a6 ++ List.replicate (32 - 0) 0#8⟩) := (r7.setCell (i := 4) (.int .u64 1000)).setCell (i := 4) _
    have b8 : Below w.heap.size w ((w7.setCell ⟨g + 2, 4, none⟩ (.int .u64 1000)).setCell ⟨g + 2, 4, none⟩ (.int .u64 (1 + (a5 : Int) % 6 + (a4 : Int) / 8 % 4))) := (b7.setCell (by have := HG.out; simp; omega) _).setCell (by have := HG.out; simp; omega) _
    have RC8 : Row ((w7.setCell ⟨g + 2, 4, none⟩ (.int .u64 1000)).setCell ⟨g + 2, 4, none⟩ (.int .u64 (1 + (a5 : Int) % 6 + (a4 : Int) / 8 % 4))) g 26 [.int .u8 a0, .int .u8 a1, .int .u8 a2, .int .u8 a3, .int .u8 a4, .int .u8 a5, .int .u8 (bv a6), .slice A n c] := (RC7.apart (g2 := g + 2) (by omega) 4 _).apart (g2 := g + 2) (by omega) 4 _
    have RR8 : Row ((w7.setCell ⟨g + 2, 4, none⟩ (.int .u64 1000)).setCell ⟨g + 2, 4, none⟩ (.int .u64 (1 + (a5 : Int) % 6 + (a4 : Int) / 8 % 4))) (g + 1) 35 zCfg := (RR7.apart (g2 := g + 2) (by omega) 4 _).apart (g2 := g + 2) (by omega) 4 _
    obtain ⟨w8, hw8⟩ : ∃ w8, w8 = ((w7.setCell ⟨g + 2, 4, none⟩ (.int .u64 1000)).setCell ⟨g + 2, 4, none⟩ (.int .u64 (1 + (a5 : Int) % 6 + (a4 : Int) / 8 % 4))) := ⟨_, rfl⟩
    rw [← hw8] at r8 b8 RC8 RR8 ⊢
    clear hw8 r7 b7 RC7 RR7 z4 z5 z6 zf hd
    generalize (1 + (a5 : Int) % 6 + (a4 : Int) / 8 % 4 : Int) = li at r8 ⊢
    go_wp2
    go_loopw [5] (fun i wr => ∃ j : Nat, j ≤ 32 ∧ i = .int .i64 (j : Int) ∧ Row wr (g + 2) 35 (Cfg.cells ⟨bl, sh, fr, cl, li, 1 + (a5 : Int) % 6, 0, List.replicate j a6 ++ List.replicate (32 - j) 0#8⟩) ∧ Row wr g 26 [.int .u8 a0, .int .u8 a1, .int .u8 a2, .int .u8 a3, .int .u8 a4, .int .u8 a5, .int .u8 (bv a6), .slice A n c] ∧ Row wr (g + 1) 35 zCfg ∧ Below w.heap.size w wr) (fun i _ => 32 - (intOf i).toNat)
    case atStart => exact ⟨0, Nat.zero_le _, rfl, r8, RC8, RR8, b8⟩
    case round =>
      clear r8 RC8 RR8 b8
      obtain ⟨j, hj, rfl, r9, c9, s9, b9⟩ := hrel
      have d6 : wr.cell? ⟨g, 6, none⟩ = some (.int .u8 (bv a6)) := c9.cell rfl
      by_cases hlt : j < 32
      · have hd : decide ((j : Int) < 32) = true := by simp; omega
        have cr := r9.cell (cfg_at6 _ _ _ _ _ _ _ a6 j hlt)
        have fz := r9.free (6 + j)
        have rn := r9.setCell (i := 6 + j) (.int .u8 (bv a6))
        rw [cfg_set6 _ _ _ _ _ _ _ _ _ hlt] at rn
        have RN := Lib.hid rn
        have C9 := Lib.hid c9
        have S9 := Lib.hid s9
        have B9 := Lib.hid b9
        clear rn r9 c9 s9 b9
        go_wp2
        go_roundw
        case rel => exact ⟨j + 1, by omega, by go_num, RN.out, C9.out.apart (by omega) _ _, S9.out.apart (by omega) _ _, B9.out.setCell (by have := HG.out; simp; omega) _⟩
        case measure => simp [intOf]; omega
      · have hd : decide ((j : Int) < 32) = false := by simp; omega
        have hj32 : j = 32 := by omega
        have hms : (List.replicate j a6 ++ List.replicate (32 - j) 0#8).length = 32 := by simp; omega
        obtain ⟨q, hq⟩ : ∃ q : Cfg, q = ⟨bl, sh, fr, cl, li, 1 + (a5 : Int) % 6, 0, List.replicate j a6 ++ List.replicate (32 - j) 0#8⟩ := ⟨_, rfl⟩
        have HQ : Hid (q.ms.length = 32 ∧ (1 ≤ q.bl ∧ q.bl ≤ 20) ∧ (1 ≤ q.sh ∧ q.sh ≤ 2) ∧ (1 ≤ q.cl ∧ q.cl ≤ 3)) := by
          rw [hq]; exact Lib.hid ⟨hms, by show 1 ≤ (bl : Int) ∧ (bl : Int) ≤ 20; omega, hsb, hcb⟩
        rw [← hq] at r9
        clear hq hms
        have HI := Lib.hid (cfg_info q HQ.out.1)
        obtain ⟨cs, hcs⟩ : ∃ cs, cs = q.cells := ⟨_, rfl⟩
        rw [← hcs] at r9 HI
        have H1 : Hid (cs.toArray.all (·.oneCell') = true) := Lib.hid (by rw [hcs]; exact cfg_one q)
        have HL : Hid (cs.length = 39) := Lib.hid (by rw [hcs]; exact cfg_len q HQ.out.1)
        have HCS := Lib.hid hcs
        clear hcs
        go_upto_region 12 with (fail)
        refine wp_region_lit ?_
        refine wpList_load_row rfl 35 (.tmp 3) rfl (g + 2) rfl 35 cs.toArray (0, 0) _ r9 Tryz.underlying35 rfl (by rw [List.size_toArray]; exact HI.out) ?_
        refine Row.store s9 rfl 35 (.tmp 2) (.tmp 82) rfl rfl rfl HI.out (by rw [HL.out]; rfl) H1.out ?_
        rintro wF hwF rF
        have bF : Below w.heap.size w wF := by rw [hwF]; exact b9.grown (grown_setRow _ _ _) b9.size (fun k hk => by cases hk; have := HG.out; omega)
        clear hwF r9 s9 c9 b9
        go_wp2
        refine bodyPost_ret (v := .agg cs.toArray) (results_cell_row Tryz.results22 _ wF (g + 1) 35 _ (0, 0) _ rfl rF Tryz.underlying35 rfl (by rw [List.size_toArray]; exact HI.out)) rfl ⟨q, by rw [HCS.out], HQ.out.1, HQ.out.2.1, HQ.out.2.2.1, HQ.out.2.2.2, bF⟩
  · have hd : ((a4 : Int) % 8 == 0) = false := by simpa using h8
    go_upto_region 8 with (fail)
    have r8 : Row (w7.setCell ⟨g + 2, 4, none⟩ (.int .u64 1000)) (g + 2) 35 (Cfg.cells ⟨bl, sh, fr, cl, 1000, 1 + (a5 : Int) % 6, 0, List.replicate 0 a6 ++ List.replicate (32 - 0) 0#8⟩) := r7.setCell (i := 4) (.int .u64 1000)
    have b8 : Below w.heap.size w (w7.setCell ⟨g + 2, 4, none⟩ (.int .u64 1000)) := b7.setCell (by have := HG.out; simp; omega) _
    have RC8 : Row (w7.setCell ⟨g + 2, 4, none⟩ (.int .u64 1000)) g 26 [.int .u8 a0, .int .u8 a1, .int .u8 a2, .int .u8 a3, .int .u8 a4, .int .u8 a5, .int .u8 (bv a6), .slice A n c] := RC7.apart (g2 := g + 2) (by omega) 4 _
    have RR8 : Row (w7.setCell ⟨g + 2, 4, none⟩ (.int .u64 1000)) (g + 1) 35 zCfg := RR7.apart (g2 := g + 2) (by omega) 4 _
    obtain ⟨w8, hw8⟩ : ∃ w8, w8 = (w7.setCell ⟨g + 2, 4, none⟩ (.int .u64 1000)) := ⟨_, rfl⟩
    rw [← hw8] at r8 b8 RC8 RR8 ⊢
    clear hw8 r7 b7 RC7 RR7 z4 z5 z6 zf hd
    generalize (1000 : Int) = li at r8 ⊢
    go_wp2
    go_loopw [5] (fun i wr => ∃ j : Nat, j ≤ 32 ∧ i = .int .i64 (j : Int) ∧ Row wr (g + 2) 35 (Cfg.cells ⟨bl, sh, fr, cl, li, 1 + (a5 : Int) % 6, 0, List.replicate j a6 ++ List.replicate (32 - j) 0#8⟩) ∧ Row wr g 26 [.int .u8 a0, .int .u8 a1, .int .u8 a2, .int .u8 a3, .int .u8 a4, .int .u8 a5, .int .u8 (bv a6), .slice A n c] ∧ Row wr (g + 1) 35 zCfg ∧ Below w.heap.size w wr) (fun i _ => 32 - (intOf i).toNat)
    case atStart => exact ⟨0, Nat.zero_le _, rfl, r8, RC8, RR8, b8⟩
    case round =>
      clear r8 RC8 RR8 b8
      obtain ⟨j, hj, rfl, r9, c9, s9, b9⟩ := hrel
      have d6 : wr.cell? ⟨g, 6, none⟩ = some (.int .u8 (bv a6)) := c9.cell rfl
      by_cases hlt : j < 32
      · have hd : decide ((j : Int) < 32) = true := by simp; omega
        have cr := r9.cell (cfg_at6 _ _ _ _ _ _ _ a6 j hlt)
        have fz := r9.free (6 + j)
        have rn := r9.setCell (i := 6 + j) (.int .u8 (bv a6))
        rw [cfg_set6 _ _ _ _ _ _ _ _ _ hlt] at rn
        have RN := Lib.hid rn
        have C9 := Lib.hid c9
        have S9 := Lib.hid s9
        have B9 := Lib.hid b9
        clear rn r9 c9 s9 b9
        go_wp2
        go_roundw
        case rel => exact ⟨j + 1, by omega, by go_num, RN.out, C9.out.apart (by omega) _ _, S9.out.apart (by omega) _ _, B9.out.setCell (by have := HG.out; simp; omega) _⟩
        case measure => simp [intOf]; omega
      · have hd : decide ((j : Int) < 32) = false := by simp; omega
        have hj32 : j = 32 := by omega
        have hms : (List.replicate j a6 ++ List.replicate (32 - j) 0#8).length = 32 := by simp; omega
        obtain ⟨q, hq⟩ : ∃ q : Cfg, q = ⟨bl, sh, fr, cl, li, 1 + (a5 : Int) % 6, 0, List.replicate j a6 ++ List.replicate (32 - j) 0#8⟩ := ⟨_, rfl⟩
        have HQ : Hid (q.ms.length = 32 ∧ (1 ≤ q.bl ∧ q.bl ≤ 20) ∧ (1 ≤ q.sh ∧ q.sh ≤ 2) ∧ (1 ≤ q.cl ∧ q.cl ≤ 3)) := by
          rw [hq]; exact Lib.hid ⟨hms, by show 1 ≤ (bl : Int) ∧ (bl : Int) ≤ 20; omega, hsb, hcb⟩
        rw [← hq] at r9
        clear hq hms
        have HI := Lib.hid (cfg_info q HQ.out.1)
        obtain ⟨cs, hcs⟩ : ∃ cs, cs = q.cells := ⟨_, rfl⟩
        rw [← hcs] at r9 HI
        have H1 : Hid (cs.toArray.all (·.oneCell') = true) := Lib.hid (by rw [hcs]; exact cfg_one q)
        have HL : Hid (cs.length = 39) := Lib.hid (by rw [hcs]; exact cfg_len q HQ.out.1)
        have HCS := Lib.hid hcs
        clear hcs
        go_upto_region 12 with (fail)
        refine wp_region_lit ?_
        refine wpList_load_row rfl 35 (.tmp 3) rfl (g + 2) rfl 35 cs.toArray (0, 0) _ r9 Tryz.underlying35 rfl (by rw [List.size_toArray]; exact HI.out) ?_
        refine Row.store s9 rfl 35 (.tmp 2) (.tmp 82) rfl rfl rfl HI.out (by rw [HL.out]; rfl) H1.out ?_
        rintro wF hwF rF
        have bF : Below w.heap.size w wF := by rw [hwF]; exact b9.grown (grown_setRow _ _ _) b9.size (fun k hk => by cases hk; have := HG.out; omega)
        clear hwF r9 s9 c9 b9
        go_wp2
        refine bodyPost_ret (v := .agg cs.toArray) (results_cell_row Tryz.results22 _ wF (g + 1) 35 _ (0, 0) _ rfl rF Tryz.underlying35 rfl (by rw [List.size_toArray]; exact HI.out)) rfl ⟨q, by rw [HCS.out], HQ.out.1, HQ.out.2.1, HQ.out.2.2.1, HQ.out.2.2.2, bF⟩
end Go.Proofs.YtnpnljgjloofkaaGreatDoor
