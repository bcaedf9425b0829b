/- The program's State: Sum. -/
import Derived.Test.YtbkpgmlibiclfaaGreatDoorShK
import Derived.Test.YtbkpgmlibiclfaaGreatDoorSerl
import Derived.Deep.RegionHeld3
namespace Go.Proofs.YtbkpgmlibiclfaaGreatDoor
open Go.RowKit

theorem exec_load_row {P : Program} {o : Oper} {ev : Operand → Value} (ty : TypeId) (x : Operand) (ho : o.op = .load ty x) (g : Nat) (hx : ev x = .pointer (some ⟨g, 0, none⟩)) (t : TypeId) (cs : Array Value) (fr : Nat × Nat) (d : TypeDesc) {w : World}
    (hrow : w.heap[g]? = some (.cells cs t fr)) (hu : P.underlying ty = some d) (hd : d.isRow = true) (hi : (P.info? ty).map (·.size) = some cs.size) : (execOp ev o).run P w = .ok (.value (.agg cs)) w := by
  have h1 := run_loadVar_row (P := P) w g t ty cs fr d hrow hu (by cases d <;> simp_all) hi
  unfold execOp
  simp only [ho, hx, Instr.loadAt, Instr.sureAddr, Sem.run_bind, Sem.run_pure, Result.andThen_ok, h1]
theorem wp_store_whole {P : Program} {w : World} {op : Oper} {a : Act} {K : Act → World → Prop} {Q : Exit → Act → World → Prop} (ty : TypeId) (x y : Operand) (ho : op.op = .store ty x y)
    (g : Nat) (t : TypeId) (L M : List Value) (hx : a.eval x = .pointer (some ⟨g, 0, none⟩)) (hy : a.eval y = .agg M.toArray) (hg : Row w g t L) (hi : (P.info? ty).map (·.size) = some M.length) (hfit : L.length = M.length) (h1 : ∀ v ∈ M, v.oneCell' = true)
    (h : ∀ w', Row w' g t M → w.grownBy w' (some g) → K (a.put op.dst undef) w') : op.wp P a w K Q := by
  have e : splice L 0 M = M := by simp [splice, List.drop_of_length_le (show L.length ≤ M.length by omega)]
  unfold Oper.wp execOp
  simp only [ho, hx, hy, Sem.run_bind, Sem.run_pure, Result.andThen_ok, run_store_row ty g 0 t L M hg hi (by omega) h1, e]
  exact h _ hg.set (grown_setRow _ _ _)
theorem wp_exec {P : Program} {o : Oper} {a : Act} {w w' : World} {v : Value} {K : Act → World → Prop} {Q : Exit → Act → World → Prop} (hr : (execOp a.eval o).run P w = .ok (.value v) w') (h : K (a.put o.dst v) w') : Oper.wp P o a w K Q := by
  unfold Oper.wp
  rw [hr]
  exact h
/-- Two operations may come up. -/
theorem take_two {P : Program} {l : List Oper} {Q : Exit → Act → World → Prop} {md : Region.Mode} {S : World → Prop} (i j : Nat) {oi oj : Oper} {resti restj : List Oper} {fuel : Nat} {listed : Array Bool} {a : Act} {w : World} (hi : l.drop i = oi :: resti) (hj : l.drop j = oj :: restj)
    (hr : Region.ready md l.toArray listed = [i, j]) (hwi : Region.wanted oi (yielded l.toArray a.tmps) = true) (hwj : Region.wanted oj (yielded l.toArray a.tmps) = true)
    (h1 : ∀ K' : Act → World → Prop, Shut (∀ a w, S w → (S w → wpAnyH P md l.toArray Q S fuel (listed.setIfInBounds i true) a w) → K' a w) → Oper.wp P oi a w K' Q)
    (h2 : ∀ K' : Act → World → Prop, Shut (∀ a w, S w → (S w → wpAnyH P md l.toArray Q S fuel (listed.setIfInBounds j true) a w) → K' a w) → Oper.wp P oj a w K' Q) : wpAnyH P md l.toArray Q S (fuel + 1) listed a w :=
  wpAnyH_ready hr (by simp) (AllReadyH.cons (at_drop hi) (fun K hK => by rw [if_pos hwi]; exact h1 K hK) (AllReadyH.cons (at_drop hj) (fun K hK => by rw [if_pos hwj]; exact h2 K hK) AllReadyH.nil))
theorem Sta.one {L : List B8} {cs : List Value} (h : Sta L cs) : ∀ v ∈ cs, v.oneCell' = true := by
  obtain ⟨r, _, _, rfl⟩ := h
  intro v hv
  have := stC_one true (blocksW iv0 (L.length / 64) L) r L.length
  exact Array.all_eq_true_iff_forall_mem.1 this v (by simpa using hv)
theorem st_info {n : Nat} (h : n = 74) : (Tryz.prog.info? 339).map (·.size) = some n := by subst h; kernel_rfl
theorem Sta.inf {L : List B8} {cs : List Value} (h : Sta L cs) : (Tryz.prog.info? 339).map (·.size) = some cs.toArray.size := st_info (by rw [List.size_toArray]; exact h.len)
theorem Sta.many {w : World} {g : Nat} {t : TypeId} {L : List B8} {cs : List Value} (h : Sta L cs) (hr : Row w g t cs) : w.cell? ⟨g, 73, none⟩ = some (.int .u64 (L.length : Int)) := by
  obtain ⟨r, h1, _, rfl⟩ := h; exact stC_cm hr h1

def bytes4 (l : List W) : List B8 := (l.map fun x => beB x.toNat 4).flatten
theorem bytes4_len (l : List W) : (bytes4 l).length = 4 * l.length := by
  induction l with
  | nil => rfl
  | cons x l ih => simp only [bytes4, List.map_cons, List.flatten_cons, List.length_append, List.length_cons, beB_len] at ih ⊢; omega
theorem bytes4_snoc (l : List W) (x : W) : bytes4 (l ++ [x]) = bytes4 l ++ beB x.toNat 4 := by simp [bytes4]
/-- The words' bytes, as far as they are written. -/
def outL (l : List W) (i : Nat) : List B8 := bytes4 (l.take i) ++ List.replicate (32 - 4 * i) 0
theorem outL_zero (l : List W) : outL l 0 = List.replicate 32 0 := rfl
theorem outL_len (l : List W) (i : Nat) (hl : l.length = 8) (hi : i ≤ 8) : (outL l i).length = 32 := by simp [outL, bytes4_len, hl]; omega
theorem outL_all (l : List W) (hl : l.length = 8) : outL l 8 = bytes4 l := by simp [outL, List.take_of_length_le (show l.length ≤ 8 by omega)]
theorem outL_step (l : List W) (i : Nat) (hl : l.length = 8) (hi : i < 8) : splice (outL l i) (4 * i) (beB (l.getD i 0).toNat 4) = outL l (i + 1) := by
  have h1 : (bytes4 (l.take i)).length = 4 * i := by rw [bytes4_len]; simp; omega
  have h2 : l.take (i + 1) = l.take i ++ [l.getD i 0] := by
    rw [List.take_succ_eq_append_getElem (show i < l.length by omega)]
    simp [List.getD, List.getElem?_eq_getElem (show i < l.length by omega)]
  unfold splice
  rw [outL, outL, h2, bytes4_snoc, List.take_append_of_le_length (by omega), List.take_of_length_le (by omega), List.drop_append, List.drop_of_length_le (by omega), beB_len, h1]
  simp only [List.nil_append, List.drop_replicate, List.append_assoc]
  congr 3; omega
theorem cells8_splice (l q : List B8) (a : Nat) : splice (cells8 l) a (cells8 q) = cells8 (splice l a q) := by
  unfold splice
  rw [cells8_app, cells8_app, cells8_len, cells8_drop]
  simp [cells8]
theorem cells8_ones (l : List B8) : ∀ v ∈ cells8 l, v.oneCell' = true := by
  intro v hv; simp only [cells8, List.mem_map] at hv; obtain ⟨_, _, rfl⟩ := hv; rfl

theorem index_8 (l : List W) (hl : l.length = 8) (t : Nat) (h : t < 8) (w : World) :
    (Instr.index 336 (.agg (cells32 l).toArray) (.int .i64 (t : Int))).run Tryz.prog w = .ok (.int .u32 (wv (l.getD t 0))) w := by
  have hu := Tryz.underlying336
  have hs : (sizeOf 101).run Tryz.prog w = .ok 1 w := by kernel_rfl
  have hk : (cells32 l)[t]? = some (.int .u32 (wv (l.getD t 0))) := by
    rw [cells32, List.getElem?_map, List.getElem?_eq_getElem (by omega)]
    simp [List.getD, List.getElem?_eq_getElem (show t < l.length by omega)]
  unfold Instr.index
  simp [asIntOf, run_underlying hu, h, hs, part, hk]
theorem shaF_len (L : List B8) : (shaF L).length = 32 := by
  unfold shaF
  exact bytes4_len _
def zpad (n : Nat) : Nat := (119 - n % 64) % 64
theorem zpad_lt (n : Nat) : zpad n < 64 := by unfold zpad; omega
theorem shaF_eq (L : List B8) : shaF L = bytes4 (blocksW iv0 ((L ++ padB L.length).length / 64) (L ++ padB L.length)).list := by
  unfold shaF bytes4
  rw [List.length_append]
theorem padB_eq (n : Nat) (hn : n < 1000000000) : padB n = 0x80#8 :: (List.replicate (zpad n) 0#8 ++ beB (8 * n) 8) := by
  unfold padB zpad
  rw [show 8 * n % 18446744073709551616 = 8 * n from Nat.mod_eq_of_lt (by omega)]
theorem rep_snoc (L : List B8) (j : Nat) : L ++ 0x80#8 :: List.replicate j 0#8 ++ [0#8] = L ++ 0x80#8 :: List.replicate (j + 1) 0#8 := by
  rw [List.replicate_succ', List.append_assoc]; rfl
def manyOf (w : World) (g : Nat) : Nat := match w.cell? ⟨g, 73, none⟩ with
  | some (.int _ m) => m.toNat
  | _ => 0
theorem many_of {w : World} {g m : Nat} (h : w.cell? ⟨g, 73, none⟩ = some (.int .u64 (m : Int))) : manyOf w g = m := by simp [manyOf, h]
theorem lit8 {w : World} {t : TypeId} (b : B8) (v : Int) (hv : v = bv b) : Rd (w.alloc (.cells #[.int .u8 v] t)) (w.alloc (.cells #[.int .u8 v] t)).heap.size 1 (some ⟨w.heap.size, 0, none⟩) ([b] : List B8).length (cells8 [b]) := by
  subst hv
  exact Rd.lit1 (cs := cells8 [b]) rfl rfl

set_option maxRecDepth 100000 in
set_option maxHeartbeats 4000000 in
theorem sum_any (L : List B8) (cs : List Value) (w : World) (hG : Glob w) (hs : Sta L cs) (hm : L.length < 900000000) :
    Calls Tryz.prog 165 #[.agg cs.toArray] w fun e w' => e = .returned (.agg (cells8 (shaF L)).toArray) ∧ Below w.heap.size w w' := by
  have HM := Lib.hid hm
  have HS := Lib.hid hs
  have HG := Lib.hid hG
  clear hm hG
  go_enter Tryz.func165, Tryz.ntmps165
  go_upto_region 1 with (fail)
  change Code.wp _ _ _ _ ((w.alloc (.cells cs.toArray 339)).alloc (.cells (cells8 (List.replicate 32 0)).toArray 85))
  obtain ⟨wz, hwz⟩ : ∃ wz, wz = ((w.alloc (.cells cs.toArray 339)).alloc (.cells (cells8 (List.replicate 32 0)).toArray 85)) := ⟨_, rfl⟩
  obtain ⟨g1, h1⟩ : ∃ g, g = w.heap.size := ⟨_, rfl⟩
  obtain ⟨g2, h2⟩ : ∃ g, g = w.heap.size + 1 := ⟨_, rfl⟩
  have hb : Below w.heap.size w wz := by rw [hwz]; exact below_alloc2 (Below.refl _ _)
  have r1 : Row wz g1 339 cs := by
    rw [hwz, h1, Row, ((Below.refl _ _).alloc (Nat.le_refl _) _).block w.heap.size (by simp)]; exact heap_alloc_new _ _
  have r2 : Row wz g2 85 (cells8 (outL iv0.list 0)) := by rw [hwz, h2]; exact heap_new_at (by simp)
  have hg1 : w.heap.size ≤ g1 := by omega
  have hg2 : w.heap.size ≤ g2 := by omega
  have hg12 : g2 ≠ g1 := by omega
  rw [← hwz, ← h2, ← h1]
  clear hwz h2 h1
  have c73 := hs.many r1
  have HI := Lib.hid hs.inf
  have HLC := Lib.hid hs.len
  clear hs
  go_upto_region 2 with (fail)
  clear c73
  have HL := Lib.hid (lit8 (w := wz) (t := 5) 0x80#8 128 rfl)
  have hb0 : Below wz.heap.size wz (wz.alloc (.cells #[.int .u8 128] 5)) := (Below.refl _ _).alloc (Nat.le_refl _) _
  go_wp2_with (first
    | (refine wpList_load_row rfl 339 (.tmp 1) rfl g1 rfl 339 cs.toArray (0, 0) _ r1 Tryz.underlying339 rfl HI.out ?_)
    | (go_at_call 164; fail))
  refine (write_any L [0x80#8] cs _ 1 _ (HG.out.step (hb.trans (hb0.mono hb.size))) HS.out HL.out (Nat.le_refl _) (by decide) (by have := HM.out; simp only [List.length_cons, List.length_nil]; omega)).mono ?_
  rintro e w1 ⟨cs1, rfl, hs1, hx⟩
  have hb1 : Below wz.heap.size wz w1 := hb0.trans (hx.mono hb0.size)
  have r11 := r1.step hb1
  have r21 := r2.step hb1
  have b1 := hb.trans (hb1.mono hb.size)
  have HS1 := Lib.hid hs1
  clear hx hb0 HL r1 r2 hb1 hb HI HS hs1
  have HI1 := Lib.hid (show (Tryz.prog.info? 339).map (·.size) = some cs1.length from st_info HS1.out.len)
  have HZ1 := Lib.hid (show cs.length = cs1.length by rw [HLC.out, HS1.out.len])
  have HO1 := Lib.hid (all_oneCell_toArray HS1.out.one)
  go_wp2_with (refine Row.store (g := g1) (t := 339) (L := cs) (M := cs1) r11 rfl 339 (.tmp 1) (.tmp 10) rfl rfl rfl HI1.out HZ1.out HO1.out ?_; rintro w2 hw2 r12; have b2 : Below w.heap.size w w2 := (by rw [hw2]; exact b1.grown (grown_setRow _ _ _) b1.size (fun k hk => by cases hk; exact hg1)); have r22 : Row w2 g2 85 (cells8 (outL iv0.list 0)) := (by rw [hw2]; exact r21.other hg12 _); clear hw2)
  clear r11 b1 r21 HI1 HZ1 HO1
  simp only [Act.put]
  go_loopw [] (fun wr => ∃ (j : Nat) (cs : List Value), j ≤ zpad L.length ∧ Sta (L ++ 0x80#8 :: List.replicate j 0#8) cs ∧ Row wr g1 339 cs ∧ Row wr g2 85 (cells8 (outL iv0.list 0)) ∧ Below w.heap.size w wr) (fun wr => L.length + 1 + zpad L.length - manyOf wr g1)
  case atStart => exact ⟨0, cs1, Nat.zero_le _, HS1.out, r12, r22, b2⟩
  case round =>
    clear r12 r22 b2
    obtain ⟨j, cj, hj, hsj, r1, r2, hb⟩ := hrel
    have hlj : (L ++ 0x80#8 :: List.replicate j 0#8).length = L.length + 1 + j := by simp; omega
    obtain ⟨m, hm⟩ : ∃ m, m = L.length + 1 + j := ⟨_, rfl⟩
    obtain ⟨a, ha⟩ : ∃ a, a = m % 64 := ⟨_, rfl⟩
    have c73 := hsj.many r1
    rw [hlj, ← hm] at c73
    have hma : (m : Int) % 64 = (a : Int) := by omega
    have HMJ := Lib.hid hm
    have HA := Lib.hid ha
    have HLJ := Lib.hid hlj
    have HJ := Lib.hid hj
    have HSJ := Lib.hid hsj
    have HI := Lib.hid hsj.inf
    clear hm ha hlj hj hsj
    by_cases h56 : a = 56
    · subst h56
      rw [show ((56 : Nat) : Int) = 56 from rfl] at hma
      obtain ⟨wq, hwq⟩ : ∃ wq, wq = wr := ⟨_, rfl⟩
      rw [← hwq] at r1 r2 hb c73 ⊢
      clear hwq
      have hjz : j = zpad L.length := by have := HMJ.out; have := HA.out; have h1 := HJ.out; unfold zpad at h1 ⊢; omega
      subst hjz
      go_upto_region 5 with (fail)
      obtain ⟨m8, hm8⟩ : ∃ m, m = 8 * L.length := ⟨_, rfl⟩
      have hw8 : IntKind.u64.wrap (8 * (L.length : Int)) = (m8 : Int) := by rw [IntKind.wrap_u64]; have := HM.out; omega
      have HM8 := Lib.hid hm8
      clear hm8
      go_cut [] from 11 to 22 (fun wx => ∃ c2, Sta (L ++ padB L.length) c2 ∧ Row wx g1 339 c2 ∧ Row wx g2 85 (cells8 (outL iv0.list 0)) ∧ Below w.heap.size w wx)
      case first =>
        refine wp_region_held_drew (S := (fun _ => True)) (by kernel_rfl) trivial (fun hHeld => ?_)
        refine take_run 1 (v := ?_) rfl (by kernel_rfl) (by kernel_rfl) (by kernel_rfl) (fun _ _ _ h => h) rfl ?_ hHeld ?_
        rotate_left
        · intro w hSw; (try dsimp only at hSw); go_simp <;> with_reducible rfl
        try simp only [Act.put, List.setIfInBounds_toArray, List.set_cons_zero, List.set_cons_succ]
        refine take_run 2 (v := ?_) rfl (by kernel_rfl) (by kernel_rfl) (by kernel_rfl) (fun _ _ _ h => h) rfl ?_ hHeld ?_
        rotate_left
        · intro w hSw; (try dsimp only at hSw); go_simp <;> with_reducible rfl
        try simp only [Act.put, List.setIfInBounds_toArray, List.set_cons_zero, List.set_cons_succ]
        refine take_two 0 3 rfl rfl (by kernel_rfl) rfl rfl (fun K hK => ?_) (fun K hK => ?_)
        · refine wp_exec (exec_load_row 339 (.tmp 1) rfl g1 rfl 339 cj.toArray (0, 0) _ (r1) Tryz.underlying339 rfl HI.out) ?_
          try dsimp only
          refine hK.out _ _ trivial (fun hHeld => ?_)
          clear hK K
          try simp only [Act.put, List.setIfInBounds_toArray, List.set_cons_zero, List.set_cons_succ]
          refine take_call 3 rfl (by kernel_rfl) rfl (fun K hK => ?_)
          go_simp
          refine (putD64_any m8 (by have := HM.out; have := HM8.out; omega) _).mono ?_
          rintro e w2 ⟨gp, rfl, hrp, hgp, hbx⟩
          have y2 : Below wq.heap.size wq w2 := below_of_drew hbx
          have hr2 : Rd w2 w2.heap.size 1 (some ⟨gp, 0, none⟩) (beB m8 8).length (cells8 (beB m8 8)) := by
            have h := hrp.rd8 0 (beB m8 8).length (by omega)
            rwa [List.drop_zero, List.take_length] at h
          clear hbx hrp hgp
          try dsimp only
          refine hK.out _ _ trivial (fun hHeld => ?_)
          clear hK K
          try simp only [Act.put, List.setIfInBounds_toArray, List.set_cons_zero, List.set_cons_succ]
          refine take_call 4 rfl (by kernel_rfl) rfl (fun K hK => ?_)
          go_simp
          refine (write_any _ (beB m8 8) cj _ _ _ (HG.out.step (hb.trans (y2.mono hb.size))) HSJ.out hr2 (Nat.le_refl _) (by rw [beB_len]; decide) (by rw [beB_len]; have h1 := HM.out; have := HMJ.out; have := HLJ.out; have h2 := HJ.out; have hz := zpad_lt L.length; simp only [List.length_cons] at *; omega)).mono ?_
          rintro e w3 ⟨c3, rfl, hs3, hbx⟩
          have y3 : Below wq.heap.size wq w3 := below_nx y2 hbx
          clear hbx hr2
          try dsimp only
          refine hK.out _ _ trivial (fun hHeld => ?_)
          clear hK K
          try simp only [Act.put, List.setIfInBounds_toArray, List.set_cons_zero, List.set_cons_succ]
          refine take_call 5 rfl (by kernel_rfl) rfl (fun K hK => ?_)
          have r13 := r1.step y3
          have r23 := r2.step y3
          have b3 := hb.trans (y3.mono hb.size)
          refine wp_store_whole 339 (.tmp 1) (.tmp 22) rfl g1 339 cj c3 rfl rfl r13 (st_info hs3.len) (by rw [HSJ.out.len, hs3.len]) hs3.one ?_
          intro w4 r14 gr4
          have b4 : Below w.heap.size w w4 := b3.grown gr4 b3.size (fun k hk => by cases hk; exact hg1)
          have r24 : Row w4 g2 85 (cells8 (outL iv0.list 0)) := (gr4.block _ r23.lt (fun e => hg12 (by cases e; rfl))).trans r23
          try dsimp only
          refine hK.out _ _ trivial (fun hHeld => ?_)
          clear hK K
          try simp only [Act.put]
          refine wpAnyH_done (by kernel_rfl) ?_ _
          go_step
          go_step
          go_meet
          case rel =>
          refine ⟨c3, ?_, r14, r24, b4⟩
          rw [padB_eq _ (by have := HM.out; omega), ← HM8.out]
          rw [List.append_assoc] at hs3
          exact hs3
        · go_simp
          refine (putD64_any m8 (by have := HM.out; have := HM8.out; omega) _).mono ?_
          rintro e w2 ⟨gp, rfl, hrp, hgp, hbx⟩
          have y2 : Below wq.heap.size wq w2 := below_of_drew hbx
          have hr2 : Rd w2 w2.heap.size 1 (some ⟨gp, 0, none⟩) (beB m8 8).length (cells8 (beB m8 8)) := by
            have h := hrp.rd8 0 (beB m8 8).length (by omega)
            rwa [List.drop_zero, List.take_length] at h
          clear hbx hrp hgp
          try dsimp only
          refine hK.out _ _ trivial (fun hHeld => ?_)
          clear hK K
          try simp only [Act.put, List.setIfInBounds_toArray, List.set_cons_zero, List.set_cons_succ]
          refine take_call 0 rfl (by kernel_rfl) rfl (fun K hK => ?_)
          refine wp_exec (exec_load_row 339 (.tmp 1) rfl g1 rfl 339 cj.toArray (0, 0) _ (r1.step y2) Tryz.underlying339 rfl HI.out) ?_
          try dsimp only
          refine hK.out _ _ trivial (fun hHeld => ?_)
          clear hK K
          try simp only [Act.put, List.setIfInBounds_toArray, List.set_cons_zero, List.set_cons_succ]
          refine take_call 4 rfl (by kernel_rfl) rfl (fun K hK => ?_)
          go_simp
          refine (write_any _ (beB m8 8) cj _ _ _ (HG.out.step (hb.trans (y2.mono hb.size))) HSJ.out hr2 (Nat.le_refl _) (by rw [beB_len]; decide) (by rw [beB_len]; have h1 := HM.out; have := HMJ.out; have := HLJ.out; have h2 := HJ.out; have hz := zpad_lt L.length; simp only [List.length_cons] at *; omega)).mono ?_
          rintro e w3 ⟨c3, rfl, hs3, hbx⟩
          have y3 : Below wq.heap.size wq w3 := below_nx y2 hbx
          clear hbx hr2
          try dsimp only
          refine hK.out _ _ trivial (fun hHeld => ?_)
          clear hK K
          try simp only [Act.put, List.setIfInBounds_toArray, List.set_cons_zero, List.set_cons_succ]
          refine take_call 5 rfl (by kernel_rfl) rfl (fun K hK => ?_)
          have r13 := r1.step y3
          have r23 := r2.step y3
          have b3 := hb.trans (y3.mono hb.size)
          refine wp_store_whole 339 (.tmp 1) (.tmp 22) rfl g1 339 cj c3 rfl rfl r13 (st_info hs3.len) (by rw [HSJ.out.len, hs3.len]) hs3.one ?_
          intro w4 r14 gr4
          have b4 : Below w.heap.size w w4 := b3.grown gr4 b3.size (fun k hk => by cases hk; exact hg1)
          have r24 : Row w4 g2 85 (cells8 (outL iv0.list 0)) := (gr4.block _ r23.lt (fun e => hg12 (by cases e; rfl))).trans r23
          try dsimp only
          refine hK.out _ _ trivial (fun hHeld => ?_)
          clear hK K
          try simp only [Act.put]
          refine wpAnyH_done (by kernel_rfl) ?_ _
          go_step
          go_step
          go_meet
          case rel =>
          refine ⟨c3, ?_, r14, r24, b4⟩
          rw [padB_eq _ (by have := HM.out; omega), ← HM8.out]
          rw [List.append_assoc] at hs3
          exact hs3
      case rest =>
        clear r1 r2 hb c73 hma hw8
        obtain ⟨c2, hs2, r1, r2, hb⟩ := hcut
        obtain ⟨r, hr64, _, rfl⟩ := hs2
        obtain ⟨s, hsd⟩ : ∃ s, s = blocksW iv0 ((L ++ padB L.length).length / 64) (L ++ padB L.length) := ⟨_, rfl⟩
        rw [← hsd] at r1
        have HSD : Hid (shaF L = bytes4 s.list) := by unfold Hid; rw [shaF_eq, hsd]
        have hHs := stC_hs r1
        clear hsd r1 hr64
        go_upto_region 7 with (first
          | (refine wpList_load_mid rfl 336 (.tmp 23) rfl g1 1 rfl s.cells _ hHs Tryz.underlying336 rfl (by kernel_rfl) ?_))
        skip
        clear hHs
        go_loopw [4, 5, 25] (fun _ _ i wr => ∃ k : Nat, k ≤ 8 ∧ i = .int .i64 (k : Int) ∧ Row wr g2 85 (cells8 (outL s.list k)) ∧ Below w.heap.size w wr) (fun _ _ i _ => 8 - (intOf i).toNat)
        case atStart => exact ⟨0, Nat.zero_le _, rfl, r2, hb⟩
        case round =>
          clear r2 hb
          obtain ⟨k, hk, rfl, r2, hb⟩ := hrel
          by_cases hlt : k < 8
          · have hd2 : decide ((k : Int) < 8) = true := by simp; omega
            have hkb : (k : Int) < 8 := by omega
            obtain ⟨x, hx⟩ : ∃ x, x = s.list.getD k 0 := ⟨_, rfl⟩
            have hix := index_8 s.list rfl k hlt
            rw [← hx] at hix
            change ∀ w, (Instr.index 336 (.agg s.cells.toArray) _).run _ w = _ at hix
            have HX := Lib.hid hx
            obtain ⟨q, hq⟩ : ∃ q, q = 4 * k := ⟨_, rfl⟩
            have hw4 : IntKind.i64.wrap (4 * (k : Int)) = (q : Int) := by rw [IntKind.wrap_i64]; omega
            have hq4 : 4 * (k : Int) = (q : Int) := by omega
            have hq32 : (q : Int) ≤ 32 := by omega
            have hq5 : (q : Int) < 32 := by omega
            have hq6 : ¬ 32 = q := by omega
            have hqw : IntKind.i64.wrap (q : Int) = (q : Int) := by rw [IntKind.wrap_i64]; omega
            have hol : Hid ((cells8 (outL s.list k)).length = 32) := by unfold Hid; rw [cells8_len, outL_len _ _ rfl hk]
            have hq0 : (0 : Int) ≤ (q : Int) := by omega
            have HQ := Lib.hid hq
            clear hq hx
            go_upto_region 9 with (fail)
            refine wp_region_held_drew (S := (fun _ => True)) (by kernel_rfl) trivial (fun hHeld => ?_)
            refine take_run 0 (v := ?_) rfl (by kernel_rfl) (by kernel_rfl) (by kernel_rfl) (fun _ _ _ h => h) rfl ?_ hHeld ?_
            rotate_left
            · intro w hSw; (try dsimp only at hSw); go_simp <;> with_reducible rfl
            try simp only [Act.put, List.setIfInBounds_toArray, List.set_cons_zero, List.set_cons_succ]
            refine take_run 1 (v := ?_) rfl (by kernel_rfl) (by kernel_rfl) (by kernel_rfl) (fun _ _ _ h => h) rfl ?_ hHeld ?_
            rotate_left
            · intro w hSw; (try dsimp only at hSw); go_simp <;> with_reducible rfl
            try simp only [Act.put, List.setIfInBounds_toArray, List.set_cons_zero, List.set_cons_succ]
            refine take_run 2 (v := ?_) rfl (by kernel_rfl) (by kernel_rfl) (by kernel_rfl) (fun _ _ _ h => h) rfl ?_ hHeld ?_
            rotate_left
            · intro w hSw; (try dsimp only at hSw); go_simp <;> with_reducible rfl
            try simp only [Act.put, List.setIfInBounds_toArray, List.set_cons_zero, List.set_cons_succ]
            refine take_run 3 (v := ?_) rfl (by kernel_rfl) (by kernel_rfl) (by kernel_rfl) (fun _ _ _ h => h) rfl ?_ hHeld ?_
            rotate_left
            · intro w hSw; (try dsimp only at hSw); go_simp <;> with_reducible rfl
            try simp only [Act.put, List.setIfInBounds_toArray, List.set_cons_zero, List.set_cons_succ]
            refine take_call 4 rfl (by kernel_rfl) rfl (fun K hK => ?_)
            go_simp
            with_reducible refine (putD32_any x _).mono ?_
            rintro e w2 ⟨gp, rfl, hrp, hgp, hbx⟩
            have y2 : Below wr.heap.size wr w2 := below_of_drew hbx
            have r22 := r2.step y2
            have hgpne : gp ≠ g2 := by have := r2.lt; have h : wr.heap.size ≤ gp := hgp; omega
            try dsimp only
            refine hK.out _ _ trivial (fun hHeld => ?_)
            clear hK K
            try simp only [Act.put, List.setIfInBounds_toArray, List.set_cons_zero, List.set_cons_succ]
            refine take_call 5 rfl (by kernel_rfl) rfl (fun K hK => ?_)
            have hl4 := beB_len x.toNat 4
            have hcc := hrp.cells 0
            rw [List.drop_zero] at hcc
            obtain ⟨w3, hr3, r3, gr3⟩ := copy_ex (P := Tryz.prog) (w := w2) 24 24 3 5 1 Tryz.underlying24 (by kernel_rfl) g2 q (32 - q) (32 - q) (beB x.toNat 4).length (beB x.toNat 4).length 4 (some ⟨g2, q, none⟩) (some ⟨gp, 0, none⟩) _ (cells8 (beB x.toNat 4)) 85 r22 (by rw [hl4]; have := HQ.out; exact (Nat.min_eq_left (by omega)).symm) (by rw [cells8_len, hl4]) (fun _ => rfl) (fun _ => ⟨_, rfl, hcc⟩) (by rw [hol.out, cells8_len, hl4]; have := HQ.out; omega) (cells8_ones _)
            rw [cells8_splice, HQ.out, HX.out, outL_step _ _ rfl hlt] at r3
            have b3 : Below w.heap.size w w3 := (hb.trans (y2.mono hb.size)).grown gr3 (hb.trans (y2.mono hb.size)).size (fun k hk => by cases hk; exact hg2)
            refine wp_copy_run (.tmp 31) (.tmp 33) 24 24 rfl _ _ rfl rfl hr3 ?_
            try dsimp only
            refine hK.out _ _ trivial (fun hHeld => ?_)
            clear hK K
            try simp only [Act.put, List.setIfInBounds_toArray, List.set_cons_zero, List.set_cons_succ]
            refine wpAnyH_done (by kernel_rfl) ?_ _
            go_wp2
            go_roundw
            case rel => exact ⟨k + 1, by omega, by go_num, r3, b3⟩
            case measure => simp [intOf]; omega
          · obtain rfl : k = 8 := by omega
            have hd2 : decide ((8 : Int) < 8) = false := by decide
            rw [show ((8 : Nat) : Int) = 8 from rfl]
            rw [outL_all _ rfl, ← HSD.out] at r2
            have hl32 := shaF_len L
            have HI2 := Lib.hid (show (Tryz.prog.info? 85).map (·.size) = some (cells8 (shaF L)).length by rw [cells8_len, hl32]; kernel_rfl)
            have HI3 := Lib.hid (show (Tryz.prog.info? 85).map (·.size) = some (cells8 (shaF L)).toArray.size by rw [List.size_toArray, cells8_len, hl32]; kernel_rfl)
            clear hl32
            go_wp2_with (first
              | (refine wpList_load_row rfl 85 (.tmp 2) rfl g2 rfl 85 (cells8 (shaF L)).toArray (0, 0) _ r2 Tryz.underlying85 rfl HI3.out ?_)
              | (refine Row.store (g := g2) (t := 85) (L := cells8 (shaF L)) (M := cells8 (shaF L)) r2 rfl 85 (.tmp 2) (.tmp 36) rfl rfl rfl HI2.out rfl (cells8_one _) ?_; rintro wF hwF rF; have bF : Below w.heap.size w wF := (by rw [hwF]; exact hb.grown (grown_setRow _ _ _) hb.size (fun k hk => by cases hk; exact hg2)); clear hwF))
            refine bodyPost_ret (v := .agg (cells8 (shaF L)).toArray) (results_cell_row Tryz.results165 _ wF g2 85 _ (0, 0) _ rfl rF Tryz.underlying85 rfl HI3.out) rfl ⟨rfl, bF⟩
    · have hne : ((a : Int) == 56) = false := by simp; omega
      have hne2 : ¬ (a : Int) = 56 := by omega
      have HL := Lib.hid (lit8 (w := wr) (t := 5) 0#8 0 rfl)
      have hb0 : Below wr.heap.size wr (wr.alloc (.cells #[.int .u8 0] 5)) := (Below.refl _ _).alloc (Nat.le_refl _) _
      go_wp2_with (first
        | (refine wpList_load_row rfl 339 (.tmp 1) rfl g1 rfl 339 cj.toArray (0, 0) _ r1 Tryz.underlying339 rfl HI.out ?_)
        | (go_at_call 164; fail))
      refine (write_any _ [0#8] cj _ 1 _ (HG.out.step (hb.trans (hb0.mono hb.size))) HSJ.out HL.out (Nat.le_refl _) (by decide) (by have h1 := HM.out; have := HMJ.out; have := HLJ.out; have h2 := HJ.out; unfold zpad at h2; simp only [List.length_cons, List.length_nil]; omega)).mono ?_
      rintro e w1 ⟨c1, rfl, hs1, hx⟩
      rw [rep_snoc] at hs1
      have hb1 : Below wr.heap.size wr w1 := hb0.trans (hx.mono hb0.size)
      have r11 := r1.step hb1
      have r21 := r2.step hb1
      have b1 := hb.trans (hb1.mono hb.size)
      have HS1 := Lib.hid hs1
      have C73 := Lib.hid (many_of c73)
      clear hx hb0 HL r1 r2 hb1 hb HI hs1 c73
      have HI1 := Lib.hid (show (Tryz.prog.info? 339).map (·.size) = some c1.length from st_info HS1.out.len)
      have HZ1 := Lib.hid (show cj.length = c1.length by rw [HSJ.out.len, HS1.out.len])
      have HO1 := Lib.hid (all_oneCell_toArray HS1.out.one)
      go_wp2_with (refine Row.store (g := g1) (t := 339) (L := cj) (M := c1) r11 rfl 339 (.tmp 1) (.tmp 17) rfl rfl rfl HI1.out HZ1.out HO1.out ?_; rintro w2 hw2 r12; have b2 : Below w.heap.size w w2 := (by rw [hw2]; exact b1.grown (grown_setRow _ _ _) b1.size (fun k hk => by cases hk; exact hg1)); have r22 : Row w2 g2 85 (cells8 (outL iv0.list 0)) := (by rw [hw2]; exact r21.other hg12 _); clear hw2)
      clear r11 b1 r21 HI1 HZ1 HO1
      simp only [Act.put]
      have hj1 : Hid (j + 1 ≤ zpad L.length) := by unfold Hid; have := HMJ.out; have := HA.out; have h1 := HJ.out; unfold zpad at h1 ⊢; omega
      go_roundw
      case rel => exact ⟨j + 1, c1, hj1.out, HS1.out, r12, r22, b2⟩
      case measure =>
        rw [many_of (HS1.out.many r12), C73.out]
        have := HMJ.out; have := hj1.out
        simp only [List.length_append, List.length_cons, List.length_replicate]
        omega
end Go.Proofs.YtbkpgmlibiclfaaGreatDoor
