/- The program's Compress. -/
import Derived.Test.YtbkpgmlibiclfaaGreatDoorShG
namespace Go.Proofs.YtbkpgmlibiclfaaGreatDoor
open Go.RowKit

/-- The program's constants lie where its variable lies. -/
def HasK (w : World) : Prop := ∃ t fr, w.heap[2]? = some (.cells (cells32 kWords).toArray t fr)
theorem HasK.lt {w : World} (h : HasK w) : 2 < w.heap.size := by
  obtain ⟨t, fr, h⟩ := h; exact (Array.getElem?_eq_some_iff.1 h).1
theorem HasK.step {w w' : World} (h : HasK w) (hb : Below w.heap.size w w') : HasK w' := by
  have hl := h.lt
  obtain ⟨t, fr, h⟩ := h
  exact ⟨t, fr, by rw [hb.block 2 hl]; exact h⟩
def roundX (s : S8) (k w : W) : S8 :=
  ⟨(s.h + (rotr s.e 6 ^^^ rotr s.e 11 ^^^ rotr s.e 25) + ((s.e &&& s.f) ^^^ (~~~s.e &&& s.g)) + k + w) + ((rotr s.a 2 ^^^ rotr s.a 13 ^^^ rotr s.a 22) + ((s.a &&& s.b) ^^^ (s.a &&& s.c) ^^^ (s.b &&& s.c))), s.a, s.b, s.c,
   s.d + (s.h + (rotr s.e 6 ^^^ rotr s.e 11 ^^^ rotr s.e 25) + ((s.e &&& s.f) ^^^ (~~~s.e &&& s.g)) + k + w), s.e, s.f, s.g⟩
theorem roundX_eq (s : S8) (k w : W) : roundX s k w = roundW s k w := by
  unfold roundX roundW
  rw [ch_xor, maj_xor]; rfl

def mixC (A B : List W) (k : Nat) : List W := (List.zipWith (· + ·) A B).take k ++ A.drop k
theorem mix_len (A B : List W) (k : Nat) (ha : A.length = 8) (hb : B.length = 8) (hk : k ≤ 8) : (mixC A B k).length = 8 := by simp [mixC, ha, hb]; omega
theorem mix_at (A B : List W) (k : Nat) (ha : A.length = 8) (hb : B.length = 8) (hk : k < 8) : (cells32 (mixC A B k))[k]? = some (.int .u32 (wv (A.getD k 0))) := by
  have h1 : ((List.zipWith (· + ·) A B).take k).length = k := by simp [ha, hb]; omega
  rw [cells32, List.getElem?_map, mixC, List.getElem?_append_right (by omega), h1, Nat.sub_self, List.getElem?_drop, Nat.add_zero, List.getElem?_eq_getElem (by omega)]
  simp [List.getD, List.getElem?_eq_getElem (show k < A.length by omega)]
theorem mix_set (A B : List W) (k : Nat) (ha : A.length = 8) (hb : B.length = 8) (hk : k < 8) : (cells32 (mixC A B k)).set k (.int .u32 (wv (A.getD k 0 + B.getD k 0))) = cells32 (mixC A B (k + 1)) := by
  have h1 : ((List.zipWith (· + ·) A B).take k).length = k := by simp [ha, hb]; omega
  have h2 : k < (List.zipWith (· + ·) A B).length := by simp [ha, hb]; omega
  have h3 : A.getD k 0 + B.getD k 0 = (List.zipWith (· + ·) A B)[k] := by
    simp [List.getD, List.getElem?_eq_getElem (show k < A.length by omega), List.getElem?_eq_getElem (show k < B.length by omega)]
  have h4 : (mixC A B k).set k ((List.zipWith (· + ·) A B)[k]) = mixC A B (k + 1) := by
    rw [mixC, mixC, List.set_append_right _ _ (by omega), h1, Nat.sub_self, List.drop_eq_getElem_cons (show k < A.length by omega), List.set_cons_zero, List.take_succ_eq_append_getElem h2, List.append_assoc]
    rfl
  rw [h3, ← h4, cells32, cells32, List.map_set]

theorem index_k (t : Nat) (h : t < 64) (x : W) (hk : (cells32 kWords)[t]? = some (.int .u32 (wv x))) (w : World) :
    (Instr.index 449 (.agg (cells32 kWords).toArray) (.int .i64 (t : Int))).run Tryz.prog w = .ok (.int .u32 (wv x)) w := by
  have hu := Tryz.underlying449
  have hs : (sizeOf 101).run Tryz.prog w = .ok 1 w := by kernel_rfl
  unfold Instr.index
  simp [asIntOf, run_underlying hu, h, hs, part, hk]

set_option maxRecDepth 100000 in
set_option maxHeartbeats 8000000 in
theorem compress_any (s : S8) (l : List B8) (hl : l.length = 64) (w : World) (hK : HasK w) :
    Calls Tryz.prog 210 #[.agg s.cells.toArray, .agg (cells8 l).toArray] w fun e w' => e = .returned (.agg (compW s l).cells.toArray) ∧ Below w.heap.size w w' := by
  have HL := Lib.hid hl
  have hlen8 : (cells8 l).length = 64 := by rw [cells8_len]; exact hl
  have hlen32 : (cells32 (schedW l 64)).length = 64 := by simp [cells32, schedW_len]
  have HI := Lib.hid (show (Tryz.prog.info? 337).map (·.size) = some (cells8 l).toArray.size by rw [List.size_toArray, hlen8]; kernel_rfl)
  have HJ := Lib.hid (show (Tryz.prog.info? 449).map (·.size) = some (cells32 (schedW l 64)).length by rw [hlen32]; kernel_rfl)
  have HZ := Lib.hid (show (zeros32 64).length = (cells32 (schedW l 64)).length by rw [hlen32]; rfl)
  clear hlen8 hlen32
  go_enter Tryz.func210, Tryz.ntmps210
  go_upto_region 1 with (fail)
  change Code.wp _ _ _ _ (((w.alloc (.cells s.cells.toArray 336)).alloc (.cells (cells8 l).toArray 337)).alloc (.cells (zeros32 8).toArray 336))
  obtain ⟨wz, hwz⟩ : ∃ wz, wz = ((w.alloc (.cells s.cells.toArray 336)).alloc (.cells (cells8 l).toArray 337)).alloc (.cells (zeros32 8).toArray 336) := ⟨_, rfl⟩
  obtain ⟨g2, h2⟩ : ∃ g, g = w.heap.size := ⟨_, rfl⟩
  obtain ⟨g3, h3⟩ : ∃ g, g = w.heap.size + 1 := ⟨_, rfl⟩
  obtain ⟨g4, h4⟩ : ∃ g, g = w.heap.size + 1 + 1 := ⟨_, rfl⟩
  have ba : Below w.heap.size w wz := by rw [hwz]; exact below_alloc1 (below_alloc2 (Below.refl _ _))
  have r2 : Row wz g2 336 s.cells := by
    rw [hwz, h2, Row, ((Below.refl _ _).alloc (Nat.le_refl _) _).block w.heap.size (by simp; omega), ((Below.refl _ _).alloc (Nat.le_refl _) _).block w.heap.size (by simp)]; exact heap_alloc_new _ _
  have r3 : Row wz g3 337 (cells8 l) := by
    rw [hwz, h3, Row, ((Below.refl _ _).alloc (Nat.le_refl _) _).block (w.heap.size + 1) (by simp)]; exact heap_new_at (by simp)
  have r4 : Row wz g4 336 (zeros32 8) := by rw [hwz, h4]; exact heap_new_at (by simp)
  have hg2 : w.heap.size ≤ g2 := by omega
  have hg4 : w.heap.size ≤ g4 := by omega
  have hg24 : g2 ≠ g4 := by omega
  rw [← hwz, ← h4, ← h3, ← h2]
  have hK2 := hK.step ba
  clear hwz h2 h3 h4 hK
  go_wp2_with (first
    | (refine wpList_load_row rfl 337 (.tmp 3) rfl g3 rfl 337 (cells8 l).toArray (0, 0) _ r3 Tryz.underlying337 rfl HI.out ?_)
    | (go_at_call 247; fail))
  refine (schedule_any l HL.out _).mono ?_
  rintro e w1 ⟨rfl, hb1⟩
  replace r2 := r2.step hb1
  replace r4 := r4.step hb1
  replace hK2 := hK2.step hb1
  replace ba := ba.trans (hb1.mono ba.size)
  clear r3 hb1
  obtain ⟨g5, h5⟩ : ∃ g, g = w1.heap.size := ⟨_, rfl⟩
  have H5 := Lib.hid h5
  clear h5
  go_upto_region 2 with (refine Row.store (g := w1.heap.size) (t := 449) (L := zeros32 64) (M := cells32 (schedW l 64)) ?_ rfl 449 (.tmp 5) (.tmp 15) rfl rfl rfl HJ.out HZ.out (cells32_one _) ?_; (exact heap_alloc_new _ _); rintro w2 hw2 r5; have b2 : Below w1.heap.size w1 w2 := (by rw [hw2]; exact ((Below.refl _ _).alloc (Nat.le_refl _) _).grown (grown_setRow _ _ _) (by simp) (fun k hk => by cases hk; exact Nat.le_refl _)); clear hw2)
  rw [← H5.out]
  rw [← H5.out] at r5
  have hg5 : g2 < g5 := by rw [H5.out]; exact r2.lt
  have hg45 : g4 < g5 := by rw [H5.out]; exact r4.lt
  clear H5
  replace r2 := r2.step b2
  replace r4 := r4.step b2
  replace hK2 := hK2.step b2
  replace ba := ba.trans (b2.mono ba.size)
  clear b2
  obtain ⟨g6, h6⟩ : ∃ g, g = w2.heap.size := ⟨_, rfl⟩
  have H6 := Lib.hid h6
  clear h6
  go_upto_region 3 with (first
    | (refine wpList_load_row rfl 336 (.tmp 2) rfl g2 rfl 336 s.cells.toArray (0, 0) _ r2 Tryz.underlying336 rfl (by kernel_rfl) ?_)
    | (refine Row.store (g := w2.heap.size) (t := 336) (L := zeros32 8) (M := s.cells) ?_ rfl 336 (.tmp 6) (.tmp 16) rfl rfl rfl (by kernel_rfl) rfl (cells32_one _) ?_; (exact heap_alloc_new _ _); rintro w3 hw3 r6; have b3 : Below w2.heap.size w2 w3 := (by rw [hw3]; exact ((Below.refl _ _).alloc (Nat.le_refl _) _).grown (grown_setRow _ _ _) (by simp) (fun k hk => by cases hk; exact Nat.le_refl _)); clear hw3))
  rw [← H6.out]
  rw [← H6.out] at r6
  have hg56 : g5 < g6 := by rw [H6.out]; exact r5.lt
  have hg1 : 2 < g6 := by rw [H6.out]; exact hK2.lt
  clear H6
  replace r2 := r2.step b3
  replace r4 := r4.step b3
  replace r5 := r5.step b3
  replace hK2 := hK2.step b3
  replace ba := ba.trans (b3.mono ba.size)
  clear b3
  obtain ⟨L, hL⟩ : ∃ L, L = schedW l 64 := ⟨_, rfl⟩
  have hLl : L.length = 64 := by rw [hL]; exact schedW_len l 64
  rw [← hL] at r5
  rw [← hL]
  have HLL := Lib.hid hL
  clear hL HJ HZ HI
  obtain ⟨tk, frk, hk⟩ := hK2
  go_upto_region 4 with (refine wpList_load_row rfl 449 (.global 2) rfl 2 rfl tk (cells32 kWords).toArray frk _ hk Tryz.underlying449 rfl (by kernel_rfl) ?_)
  go_loopw [7, 8, 9, 10, 11, 12, 18] (fun _ _ _ _ _ _ i wr => ∃ (t : Nat) (st : S8), t ≤ 64 ∧ i = .int .i64 (t : Int) ∧ Hid (st = roundsW L s t) ∧ Row wr g6 336 st.cells ∧ Below g6 w3 wr) (fun _ _ _ _ _ _ i _ => 64 - (intOf i).toNat)
  case atStart => exact ⟨0, s, Nat.zero_le _, rfl, rfl, r6, Below.refl _ _⟩
  case round =>
    obtain ⟨t, st, ht, rfl, hst, hr6, hbr⟩ := hrel
    by_cases hlt : t < 64
    · have hd : decide ((t : Int) < 64) = true := by simp; omega
      have htb : (t : Int) < 64 := by omega
      obtain ⟨xw, hxw⟩ : ∃ x, x = L.getD t 0 := ⟨_, rfl⟩
      obtain ⟨xk, hxk⟩ : ∃ x, x = kW t := ⟨_, rfl⟩
      have k5 := (r5.below hbr hg56).cell (l_cell L t (by omega))
      have hkc := k_cell t hlt
      rw [← hxw] at k5
      rw [← hxk] at hkc
      have hkc2 := index_k t hlt xk hkc
      have hst2 : Hid (roundX st xk xw = roundsW L s (t + 1)) := by unfold Hid; rw [roundX_eq, roundsW, ← hst.out, hxw, hxk]
      clear hxw hxk
      obtain ⟨z0, z1, z2, z3, z4, z5, z6, z7⟩ : (wr.cell? ⟨g6, 0, none⟩ = some (.int .u32 (wv st.a))) ∧ (wr.cell? ⟨g6, 1, none⟩ = some (.int .u32 (wv st.b))) ∧ (wr.cell? ⟨g6, 2, none⟩ = some (.int .u32 (wv st.c))) ∧ (wr.cell? ⟨g6, 3, none⟩ = some (.int .u32 (wv st.d))) ∧ (wr.cell? ⟨g6, 4, none⟩ = some (.int .u32 (wv st.e))) ∧ (wr.cell? ⟨g6, 5, none⟩ = some (.int .u32 (wv st.f))) ∧ (wr.cell? ⟨g6, 6, none⟩ = some (.int .u32 (wv st.g))) ∧ (wr.cell? ⟨g6, 7, none⟩ = some (.int .u32 (wv st.h))) := ⟨hr6.cell rfl, hr6.cell rfl, hr6.cell rfl, hr6.cell rfl, hr6.cell rfl, hr6.cell rfl, hr6.cell rfl, hr6.cell rfl⟩
      have hand := v_and
      have hor := v_or
      have hnot := v_not
      have hnot2 := v_not2
      have hadd := v_add
      have hadd2 := v_add2
      have hxor := v_xor
      go_upto_region 6 with (fail)
      go_quiet (fail)
      go_upto_region 7 with (fail)
      have q0 : Below wr.heap.size wr (wr.drewN nq).drew := below_drewN' (below_drewN' (Below.refl _ _) nq) 1
      refine wp_region_held_drew (S := (fun w' => w'.cell? ⟨g6, 7, none⟩ = some (.int .u32 (wv st.h)) ∧ w'.cell? ⟨g6, 5, none⟩ = some (.int .u32 (wv st.f)) ∧ w'.cell? ⟨g6, 6, none⟩ = some (.int .u32 (wv st.g)) ∧ w'.cell? ⟨g5, t, none⟩ = some (.int .u32 (wv xw)))) (by kernel_rfl) ⟨keep_cl q0 z7, keep_cl q0 z5, keep_cl q0 z6, keep_cl q0 k5⟩ (fun hHeld => ?_)
      refine take_run 0 (v := ?_) rfl (by kernel_rfl) (by kernel_rfl) (by kernel_rfl) (fun _ _ _ h => h) rfl ?_ hHeld ?_
      rotate_left
      · intro w hSw; (try dsimp only at hSw); go_simp <;> with_reducible rfl
      try simp only [Act.put, List.setIfInBounds_toArray, List.set_cons_zero, List.set_cons_succ]
      refine take_run 1 (v := ?_) rfl (by kernel_rfl) (by kernel_rfl) (by kernel_rfl) (fun _ _ _ h => h) rfl ?_ hHeld ?_
      rotate_left
      · intro w hSw; (try dsimp only at hSw); go_simp <;> with_reducible rfl
      try simp only [Act.put, List.setIfInBounds_toArray, List.set_cons_zero, List.set_cons_succ]
      refine take_run 2 (v := ?_) rfl (by kernel_rfl) (by kernel_rfl) (by kernel_rfl) (fun _ _ _ h => h) rfl ?_ hHeld ?_
      rotate_left
      · intro w hSw; (try dsimp only at hSw); go_simp <;> with_reducible rfl
      try simp only [Act.put, List.setIfInBounds_toArray, List.set_cons_zero, List.set_cons_succ]
      refine take_run 4 (v := ?_) rfl (by kernel_rfl) (by kernel_rfl) (by kernel_rfl) (fun _ _ _ h => h) rfl ?_ hHeld ?_
      rotate_left
      · intro w hSw; (try dsimp only at hSw); go_simp <;> with_reducible rfl
      try simp only [Act.put, List.setIfInBounds_toArray, List.set_cons_zero, List.set_cons_succ]
      refine take_run 7 (v := ?_) rfl (by kernel_rfl) (by kernel_rfl) (by kernel_rfl) (fun _ _ _ h => h) rfl ?_ hHeld ?_
      rotate_left
      · intro w hSw; (try dsimp only at hSw); go_simp <;> with_reducible rfl
      try simp only [Act.put, List.setIfInBounds_toArray, List.set_cons_zero, List.set_cons_succ]
      refine take_run 11 (v := ?_) rfl (by kernel_rfl) (by kernel_rfl) (by kernel_rfl) (fun _ _ _ h => h) rfl ?_ hHeld ?_
      rotate_left
      · intro w hSw; (try dsimp only at hSw); go_simp <;> with_reducible rfl
      try simp only [Act.put, List.setIfInBounds_toArray, List.set_cons_zero, List.set_cons_succ]
      refine take_run 12 (v := ?_) rfl (by kernel_rfl) (by kernel_rfl) (by kernel_rfl) (fun _ _ _ h => h) rfl ?_ hHeld ?_
      rotate_left
      · intro w hSw; (try dsimp only at hSw); go_simp <;> with_reducible rfl
      try simp only [Act.put, List.setIfInBounds_toArray, List.set_cons_zero, List.set_cons_succ]
      refine take_run 13 (v := ?_) rfl (by kernel_rfl) (by kernel_rfl) (by kernel_rfl) (fun _ _ _ h => h) rfl ?_ hHeld ?_
      rotate_left
      · intro w hSw; (try dsimp only at hSw); go_simp <;> with_reducible rfl
      try simp only [Act.put, List.setIfInBounds_toArray, List.set_cons_zero, List.set_cons_succ]
      refine take_run 14 (v := ?_) rfl (by kernel_rfl) (by kernel_rfl) (by kernel_rfl) (fun _ _ _ h => h) rfl ?_ hHeld ?_
      rotate_left
      · intro w hSw; (try dsimp only at hSw); go_simp <;> with_reducible rfl
      try simp only [Act.put, List.setIfInBounds_toArray, List.set_cons_zero, List.set_cons_succ]
      refine take_run 15 (v := ?_) rfl (by kernel_rfl) (by kernel_rfl) (by kernel_rfl) (fun _ _ _ h => h) rfl ?_ hHeld ?_
      rotate_left
      · intro w hSw; (try dsimp only at hSw); go_simp <;> with_reducible rfl
      try simp only [Act.put, List.setIfInBounds_toArray, List.set_cons_zero, List.set_cons_succ]
      refine take_run 16 (v := ?_) rfl (by kernel_rfl) (by kernel_rfl) (by kernel_rfl) (fun _ _ _ h => h) rfl ?_ hHeld ?_
      rotate_left
      · intro w hSw; (try dsimp only at hSw); go_simp <;> with_reducible rfl
      try simp only [Act.put, List.setIfInBounds_toArray, List.set_cons_zero, List.set_cons_succ]
      refine take_run 17 (v := ?_) rfl (by kernel_rfl) (by kernel_rfl) (by kernel_rfl) (fun _ _ _ h => h) rfl ?_ hHeld ?_
      rotate_left
      · intro w hSw; (try dsimp only at hSw); go_simp <;> with_reducible rfl
      try simp only [Act.put, List.setIfInBounds_toArray, List.set_cons_zero, List.set_cons_succ]
      refine take_run 18 (v := ?_) rfl (by kernel_rfl) (by kernel_rfl) (by kernel_rfl) (fun _ _ _ h => h) rfl ?_ hHeld ?_
      rotate_left
      · intro w hSw; (try dsimp only at hSw); go_simp <;> with_reducible rfl
      try simp only [Act.put, List.setIfInBounds_toArray, List.set_cons_zero, List.set_cons_succ]
      refine take_run 19 (v := ?_) rfl (by kernel_rfl) (by kernel_rfl) (by kernel_rfl) (fun _ _ _ h => h) rfl ?_ hHeld ?_
      rotate_left
      · intro w hSw; (try dsimp only at hSw); go_simp <;> with_reducible rfl
      try simp only [Act.put, List.setIfInBounds_toArray, List.set_cons_zero, List.set_cons_succ]
      refine take_run 20 (v := ?_) rfl (by kernel_rfl) (by kernel_rfl) (by kernel_rfl) (fun _ _ _ h => h) rfl ?_ hHeld ?_
      rotate_left
      · intro w hSw; (try dsimp only at hSw); go_simp <;> with_reducible rfl
      try simp only [Act.put, List.setIfInBounds_toArray, List.set_cons_zero, List.set_cons_succ]
      refine take_run 22 (v := ?_) rfl (by kernel_rfl) (by kernel_rfl) (by kernel_rfl) (fun _ _ _ h => h) rfl ?_ hHeld ?_
      rotate_left
      · intro w hSw; (try dsimp only at hSw); go_simp <;> with_reducible rfl
      try simp only [Act.put, List.setIfInBounds_toArray, List.set_cons_zero, List.set_cons_succ]
      refine take_run 24 (v := ?_) rfl (by kernel_rfl) (by kernel_rfl) (by kernel_rfl) (fun _ _ _ h => h) rfl ?_ hHeld ?_
      rotate_left
      · intro w hSw; (try dsimp only at hSw); go_simp <;> with_reducible rfl
      try simp only [Act.put, List.setIfInBounds_toArray, List.set_cons_zero, List.set_cons_succ]
      refine take_run 25 (v := ?_) rfl (by kernel_rfl) (by kernel_rfl) (by kernel_rfl) (fun _ _ _ h => h) rfl ?_ hHeld ?_
      rotate_left
      · intro w hSw; (try dsimp only at hSw); go_simp <;> with_reducible rfl
      try simp only [Act.put, List.setIfInBounds_toArray, List.set_cons_zero, List.set_cons_succ]
      refine take_run 26 (v := ?_) rfl (by kernel_rfl) (by kernel_rfl) (by kernel_rfl) (fun _ _ _ h => h) rfl ?_ hHeld ?_
      rotate_left
      · intro w hSw; (try dsimp only at hSw); go_simp <;> with_reducible rfl
      try simp only [Act.put, List.setIfInBounds_toArray, List.set_cons_zero, List.set_cons_succ]
      refine take_call 3 rfl (by kernel_rfl) rfl (fun K hK => ?_)
      go_simp
      refine (dRotr_any st.e 6 (by omega) (by omega) _).mono ?_
      rintro e wA ⟨rfl, hbx⟩
      have hy1 : Below wr.heap.size wr wA := below_nx q0 hbx
      try dsimp only
      refine hK.out _ _ ⟨keep_cl hy1 z7, keep_cl hy1 z5, keep_cl hy1 z6, keep_cl hy1 k5⟩ (fun hHeld => ?_)
      clear hK K
      try simp only [Act.put, List.setIfInBounds_toArray, List.set_cons_zero, List.set_cons_succ]
      refine take_call 5 rfl (by kernel_rfl) rfl (fun K hK => ?_)
      go_simp
      refine (dRotr_any st.e 11 (by omega) (by omega) _).mono ?_
      rintro e wB ⟨rfl, hbx⟩
      have hy2 : Below wr.heap.size wr wB := below_nx hy1 hbx
      try dsimp only
      refine hK.out _ _ ⟨keep_cl hy2 z7, keep_cl hy2 z5, keep_cl hy2 z6, keep_cl hy2 k5⟩ (fun hHeld => ?_)
      clear hK K
      try simp only [Act.put, List.setIfInBounds_toArray, List.set_cons_zero, List.set_cons_succ]
      refine take_run 6 (v := ?_) rfl (by kernel_rfl) (by kernel_rfl) (by kernel_rfl) (fun _ _ _ h => h) rfl ?_ hHeld ?_
      rotate_left
      · intro w hSw; (try dsimp only at hSw); go_simp <;> with_reducible rfl
      try simp only [Act.put, List.setIfInBounds_toArray, List.set_cons_zero, List.set_cons_succ]
      refine take_call 8 rfl (by kernel_rfl) rfl (fun K hK => ?_)
      go_simp
      refine (dRotr_any st.e 25 (by omega) (by omega) _).mono ?_
      rintro e wC ⟨rfl, hbx⟩
      have hy3 : Below wr.heap.size wr wC := below_nx hy2 hbx
      try dsimp only
      refine hK.out _ _ ⟨keep_cl hy3 z7, keep_cl hy3 z5, keep_cl hy3 z6, keep_cl hy3 k5⟩ (fun hHeld => ?_)
      clear hK K
      try simp only [Act.put, List.setIfInBounds_toArray, List.set_cons_zero, List.set_cons_succ]
      refine take_run 9 (v := ?_) rfl (by kernel_rfl) (by kernel_rfl) (by kernel_rfl) (fun _ _ _ h => h) rfl ?_ hHeld ?_
      rotate_left
      · intro w hSw; (try dsimp only at hSw); go_simp <;> with_reducible rfl
      try simp only [Act.put, List.setIfInBounds_toArray, List.set_cons_zero, List.set_cons_succ]
      refine take_run 10 (v := ?_) rfl (by kernel_rfl) (by kernel_rfl) (by kernel_rfl) (fun _ _ _ h => h) rfl ?_ hHeld ?_
      rotate_left
      · intro w hSw; (try dsimp only at hSw); go_simp <;> with_reducible rfl
      try simp only [Act.put, List.setIfInBounds_toArray, List.set_cons_zero, List.set_cons_succ]
      refine take_run 21 (v := ?_) rfl (by kernel_rfl) (by kernel_rfl) (by kernel_rfl) (fun _ _ _ h => h) rfl ?_ hHeld ?_
      rotate_left
      · intro w hSw; (try dsimp only at hSw); go_simp <;> with_reducible rfl
      try simp only [Act.put, List.setIfInBounds_toArray, List.set_cons_zero, List.set_cons_succ]
      refine take_run 23 (v := ?_) rfl (by kernel_rfl) (by kernel_rfl) (by kernel_rfl) (fun _ _ _ h => h) rfl ?_ hHeld ?_
      rotate_left
      · intro w hSw; (try dsimp only at hSw); go_simp <;> with_reducible rfl
      try simp only [Act.put, List.setIfInBounds_toArray, List.set_cons_zero, List.set_cons_succ]
      refine take_run 27 (v := ?_) rfl (by kernel_rfl) (by kernel_rfl) (by kernel_rfl) (fun _ _ _ h => h) rfl ?_ hHeld ?_
      rotate_left
      · intro w hSw; (try dsimp only at hSw); go_simp <;> with_reducible rfl
      try simp only [Act.put, List.setIfInBounds_toArray, List.set_cons_zero, List.set_cons_succ]
      refine take_run 28 (v := ?_) rfl (by kernel_rfl) (by kernel_rfl) (by kernel_rfl) (fun _ _ _ h => h) rfl ?_ hHeld ?_
      rotate_left
      · intro w hSw; (try dsimp only at hSw); go_simp <;> with_reducible rfl
      try simp only [Act.put, List.setIfInBounds_toArray, List.set_cons_zero, List.set_cons_succ]
      refine wpAnyH_done (by kernel_rfl) ?_ _
      go_upto_region 8 with (fail)
      have q1 : Below wr.heap.size wr wC.drew := below_drewN' hy3 1
      clear hHeld
      refine wp_region_held_drew (S := (fun w' => w'.cell? ⟨g6, 1, none⟩ = some (.int .u32 (wv st.b)) ∧ w'.cell? ⟨g6, 2, none⟩ = some (.int .u32 (wv st.c)))) (by kernel_rfl) ⟨keep_cl q1 z1, keep_cl q1 z2⟩ (fun hHeld => ?_)
      refine take_run 0 (v := ?_) rfl (by kernel_rfl) (by kernel_rfl) (by kernel_rfl) (fun _ _ _ h => h) rfl ?_ hHeld ?_
      rotate_left
      · intro w hSw; (try dsimp only at hSw); go_simp <;> with_reducible rfl
      try simp only [Act.put, List.setIfInBounds_toArray, List.set_cons_zero, List.set_cons_succ]
      refine take_run 2 (v := ?_) rfl (by kernel_rfl) (by kernel_rfl) (by kernel_rfl) (fun _ _ _ h => h) rfl ?_ hHeld ?_
      rotate_left
      · intro w hSw; (try dsimp only at hSw); go_simp <;> with_reducible rfl
      try simp only [Act.put, List.setIfInBounds_toArray, List.set_cons_zero, List.set_cons_succ]
      refine take_run 5 (v := ?_) rfl (by kernel_rfl) (by kernel_rfl) (by kernel_rfl) (fun _ _ _ h => h) rfl ?_ hHeld ?_
      rotate_left
      · intro w hSw; (try dsimp only at hSw); go_simp <;> with_reducible rfl
      try simp only [Act.put, List.setIfInBounds_toArray, List.set_cons_zero, List.set_cons_succ]
      refine take_run 8 (v := ?_) rfl (by kernel_rfl) (by kernel_rfl) (by kernel_rfl) (fun _ _ _ h => h) rfl ?_ hHeld ?_
      rotate_left
      · intro w hSw; (try dsimp only at hSw); go_simp <;> with_reducible rfl
      try simp only [Act.put, List.setIfInBounds_toArray, List.set_cons_zero, List.set_cons_succ]
      refine take_run 9 (v := ?_) rfl (by kernel_rfl) (by kernel_rfl) (by kernel_rfl) (fun _ _ _ h => h) rfl ?_ hHeld ?_
      rotate_left
      · intro w hSw; (try dsimp only at hSw); go_simp <;> with_reducible rfl
      try simp only [Act.put, List.setIfInBounds_toArray, List.set_cons_zero, List.set_cons_succ]
      refine take_run 10 (v := ?_) rfl (by kernel_rfl) (by kernel_rfl) (by kernel_rfl) (fun _ _ _ h => h) rfl ?_ hHeld ?_
      rotate_left
      · intro w hSw; (try dsimp only at hSw); go_simp <;> with_reducible rfl
      try simp only [Act.put, List.setIfInBounds_toArray, List.set_cons_zero, List.set_cons_succ]
      refine take_run 11 (v := ?_) rfl (by kernel_rfl) (by kernel_rfl) (by kernel_rfl) (fun _ _ _ h => h) rfl ?_ hHeld ?_
      rotate_left
      · intro w hSw; (try dsimp only at hSw); go_simp <;> with_reducible rfl
      try simp only [Act.put, List.setIfInBounds_toArray, List.set_cons_zero, List.set_cons_succ]
      refine take_run 12 (v := ?_) rfl (by kernel_rfl) (by kernel_rfl) (by kernel_rfl) (fun _ _ _ h => h) rfl ?_ hHeld ?_
      rotate_left
      · intro w hSw; (try dsimp only at hSw); go_simp <;> with_reducible rfl
      try simp only [Act.put, List.setIfInBounds_toArray, List.set_cons_zero, List.set_cons_succ]
      refine take_run 13 (v := ?_) rfl (by kernel_rfl) (by kernel_rfl) (by kernel_rfl) (fun _ _ _ h => h) rfl ?_ hHeld ?_
      rotate_left
      · intro w hSw; (try dsimp only at hSw); go_simp <;> with_reducible rfl
      try simp only [Act.put, List.setIfInBounds_toArray, List.set_cons_zero, List.set_cons_succ]
      refine take_run 14 (v := ?_) rfl (by kernel_rfl) (by kernel_rfl) (by kernel_rfl) (fun _ _ _ h => h) rfl ?_ hHeld ?_
      rotate_left
      · intro w hSw; (try dsimp only at hSw); go_simp <;> with_reducible rfl
      try simp only [Act.put, List.setIfInBounds_toArray, List.set_cons_zero, List.set_cons_succ]
      refine take_run 15 (v := ?_) rfl (by kernel_rfl) (by kernel_rfl) (by kernel_rfl) (fun _ _ _ h => h) rfl ?_ hHeld ?_
      rotate_left
      · intro w hSw; (try dsimp only at hSw); go_simp <;> with_reducible rfl
      try simp only [Act.put, List.setIfInBounds_toArray, List.set_cons_zero, List.set_cons_succ]
      refine take_run 16 (v := ?_) rfl (by kernel_rfl) (by kernel_rfl) (by kernel_rfl) (fun _ _ _ h => h) rfl ?_ hHeld ?_
      rotate_left
      · intro w hSw; (try dsimp only at hSw); go_simp <;> with_reducible rfl
      try simp only [Act.put, List.setIfInBounds_toArray, List.set_cons_zero, List.set_cons_succ]
      refine take_run 17 (v := ?_) rfl (by kernel_rfl) (by kernel_rfl) (by kernel_rfl) (fun _ _ _ h => h) rfl ?_ hHeld ?_
      rotate_left
      · intro w hSw; (try dsimp only at hSw); go_simp <;> with_reducible rfl
      try simp only [Act.put, List.setIfInBounds_toArray, List.set_cons_zero, List.set_cons_succ]
      refine take_run 18 (v := ?_) rfl (by kernel_rfl) (by kernel_rfl) (by kernel_rfl) (fun _ _ _ h => h) rfl ?_ hHeld ?_
      rotate_left
      · intro w hSw; (try dsimp only at hSw); go_simp <;> with_reducible rfl
      try simp only [Act.put, List.setIfInBounds_toArray, List.set_cons_zero, List.set_cons_succ]
      refine take_run 19 (v := ?_) rfl (by kernel_rfl) (by kernel_rfl) (by kernel_rfl) (fun _ _ _ h => h) rfl ?_ hHeld ?_
      rotate_left
      · intro w hSw; (try dsimp only at hSw); go_simp <;> with_reducible rfl
      try simp only [Act.put, List.setIfInBounds_toArray, List.set_cons_zero, List.set_cons_succ]
      refine take_run 20 (v := ?_) rfl (by kernel_rfl) (by kernel_rfl) (by kernel_rfl) (fun _ _ _ h => h) rfl ?_ hHeld ?_
      rotate_left
      · intro w hSw; (try dsimp only at hSw); go_simp <;> with_reducible rfl
      try simp only [Act.put, List.setIfInBounds_toArray, List.set_cons_zero, List.set_cons_succ]
      refine take_run 21 (v := ?_) rfl (by kernel_rfl) (by kernel_rfl) (by kernel_rfl) (fun _ _ _ h => h) rfl ?_ hHeld ?_
      rotate_left
      · intro w hSw; (try dsimp only at hSw); go_simp <;> with_reducible rfl
      try simp only [Act.put, List.setIfInBounds_toArray, List.set_cons_zero, List.set_cons_succ]
      refine take_run 22 (v := ?_) rfl (by kernel_rfl) (by kernel_rfl) (by kernel_rfl) (fun _ _ _ h => h) rfl ?_ hHeld ?_
      rotate_left
      · intro w hSw; (try dsimp only at hSw); go_simp <;> with_reducible rfl
      try simp only [Act.put, List.setIfInBounds_toArray, List.set_cons_zero, List.set_cons_succ]
      refine take_call 1 rfl (by kernel_rfl) rfl (fun K hK => ?_)
      go_simp
      refine (dRotr_any st.a 2 (by omega) (by omega) _).mono ?_
      rintro e wD ⟨rfl, hbx⟩
      have hy4 : Below wr.heap.size wr wD := below_nx q1 hbx
      try dsimp only
      refine hK.out _ _ ⟨keep_cl hy4 z1, keep_cl hy4 z2⟩ (fun hHeld => ?_)
      clear hK K
      try simp only [Act.put, List.setIfInBounds_toArray, List.set_cons_zero, List.set_cons_succ]
      refine take_call 3 rfl (by kernel_rfl) rfl (fun K hK => ?_)
      go_simp
      refine (dRotr_any st.a 13 (by omega) (by omega) _).mono ?_
      rintro e wE ⟨rfl, hbx⟩
      have hy5 : Below wr.heap.size wr wE := below_nx hy4 hbx
      try dsimp only
      refine hK.out _ _ ⟨keep_cl hy5 z1, keep_cl hy5 z2⟩ (fun hHeld => ?_)
      clear hK K
      try simp only [Act.put, List.setIfInBounds_toArray, List.set_cons_zero, List.set_cons_succ]
      refine take_run 4 (v := ?_) rfl (by kernel_rfl) (by kernel_rfl) (by kernel_rfl) (fun _ _ _ h => h) rfl ?_ hHeld ?_
      rotate_left
      · intro w hSw; (try dsimp only at hSw); go_simp <;> with_reducible rfl
      try simp only [Act.put, List.setIfInBounds_toArray, List.set_cons_zero, List.set_cons_succ]
      refine take_call 6 rfl (by kernel_rfl) rfl (fun K hK => ?_)
      go_simp
      refine (dRotr_any st.a 22 (by omega) (by omega) _).mono ?_
      rintro e wF ⟨rfl, hbx⟩
      have hy6 : Below wr.heap.size wr wF := below_nx hy5 hbx
      try dsimp only
      refine hK.out _ _ ⟨keep_cl hy6 z1, keep_cl hy6 z2⟩ (fun hHeld => ?_)
      clear hK K
      try simp only [Act.put, List.setIfInBounds_toArray, List.set_cons_zero, List.set_cons_succ]
      refine take_run 7 (v := ?_) rfl (by kernel_rfl) (by kernel_rfl) (by kernel_rfl) (fun _ _ _ h => h) rfl ?_ hHeld ?_
      rotate_left
      · intro w hSw; (try dsimp only at hSw); go_simp <;> with_reducible rfl
      try simp only [Act.put, List.setIfInBounds_toArray, List.set_cons_zero, List.set_cons_succ]
      refine take_run 23 (v := ?_) rfl (by kernel_rfl) (by kernel_rfl) (by kernel_rfl) (fun _ _ _ h => h) rfl ?_ hHeld ?_
      rotate_left
      · intro w hSw; (try dsimp only at hSw); go_simp <;> with_reducible rfl
      try simp only [Act.put, List.setIfInBounds_toArray, List.set_cons_zero, List.set_cons_succ]
      refine take_run 24 (v := ?_) rfl (by kernel_rfl) (by kernel_rfl) (by kernel_rfl) (fun _ _ _ h => h) rfl ?_ hHeld ?_
      rotate_left
      · intro w hSw; (try dsimp only at hSw); go_simp <;> with_reducible rfl
      try simp only [Act.put, List.setIfInBounds_toArray, List.set_cons_zero, List.set_cons_succ]
      refine wpAnyH_done (by kernel_rfl) ?_ _
      clear hHeld
      have r6F := hr6.step hy6
      obtain ⟨z0, z1, z2, z3, z4, z5, z6, z7⟩ : (wF.cell? ⟨g6, 0, none⟩ = some (.int .u32 (wv st.a))) ∧ (wF.cell? ⟨g6, 1, none⟩ = some (.int .u32 (wv st.b))) ∧ (wF.cell? ⟨g6, 2, none⟩ = some (.int .u32 (wv st.c))) ∧ (wF.cell? ⟨g6, 3, none⟩ = some (.int .u32 (wv st.d))) ∧ (wF.cell? ⟨g6, 4, none⟩ = some (.int .u32 (wv st.e))) ∧ (wF.cell? ⟨g6, 5, none⟩ = some (.int .u32 (wv st.f))) ∧ (wF.cell? ⟨g6, 6, none⟩ = some (.int .u32 (wv st.g))) ∧ (wF.cell? ⟨g6, 7, none⟩ = some (.int .u32 (wv st.h))) := ⟨r6F.cell rfl, r6F.cell rfl, r6F.cell rfl, r6F.cell rfl, r6F.cell rfl, r6F.cell rfl, r6F.cell rfl, r6F.cell rfl⟩
      have bF := hbr.trans (hy6.mono (by have := hr6.lt; omega))
      clear hr6 hbr
      go_wp2_with (refine Row.store (g := g6) (t := 336) (L := st.cells) (M := (roundX st xk xw).cells) r6F rfl 336 (.tmp 6) (.tmp 97) rfl rfl rfl (by kernel_rfl) rfl (cells32_one _) ?_; rintro wG hwG rG; have bG : Below g6 w3 wG := (by rw [hwG]; exact bF.grown (grown_setRow _ _ _) (by have := r6F.lt; omega) (fun k hk => by cases hk; exact Nat.le_refl _)); clear hwG)
      go_roundw
      case rel => exact ⟨t + 1, roundX st xk xw, by omega, by go_num, hst2, rG, bG⟩
      case measure => simp [intOf]; omega
    · obtain rfl : t = 64 := by omega
      have hd : decide ((64 : Int) < 64) = false := by decide
      rw [show ((64 : Nat) : Int) = 64 from rfl]
      have hout : Hid (compW s l = addS s st) := by unfold Hid compW; rw [← HLL.out, ← hst.out]
      have r2w := r2.below hbr (by omega)
      have r4w := r4.below hbr (by omega)
      have bw := ba.trans (hbr.mono (by omega))
      obtain ⟨wq, hwq⟩ : ∃ wq, wq = wr := ⟨_, rfl⟩
      rw [← hwq] at r2w r4w hr6 bw ⊢
      clear hwq r2 r4 r5 r6 hbr ba hk hst HLL
      have hA : s.list.length = 8 := rfl
      have hB : st.list.length = 8 := rfl
      have hAB : Hid (mixC s.list st.list 8 = (addS s st).list) := rfl
      have hg46 : g4 ≠ g6 := by omega
      have hg26 : g6 ≠ g2 := by omega
      obtain ⟨A, hAd⟩ : ∃ A, A = s.list := ⟨_, rfl⟩
      obtain ⟨B, hBd⟩ : ∃ B, B = st.list := ⟨_, rfl⟩
      have r2w' : Row wq g2 336 (cells32 (mixC A B 0)) := by rw [hAd]; exact r2w
      have r6w : Row wq g6 336 (cells32 B) := by rw [hBd]; exact hr6
      rw [← hAd, ← hBd] at hAB
      rw [← hAd] at hA
      rw [← hBd] at hB
      have HA := Lib.hid hA
      have HB := Lib.hid hB
      clear hAd hBd r2w hr6 hA hB
      have hadd := v_add
      have hadd2 := v_add2
      go_wp2
      go_loopw [13, 99] (fun _ i wl => ∃ k : Nat, k ≤ 8 ∧ i = .int .i64 (k : Int) ∧ Row wl g2 336 (cells32 (mixC A B k)) ∧ Row wl g6 336 (cells32 B) ∧ Row wl g4 336 (zeros32 8) ∧ Below w.heap.size w wl) (fun _ i _ => 8 - (intOf i).toNat)
      case atStart => exact ⟨0, Nat.zero_le _, rfl, r2w', r6w, r4w, bw⟩
      case round =>
        clear r2w' r6w r4w bw
        obtain ⟨k, hk, rfl, r2w, r6w, r4w, bw⟩ := hrel
        by_cases hlt2 : k < 8
        · have hd2 : decide ((k : Int) < 8) = true := by simp; omega
          have hkb : (k : Int) < 8 := by omega
          have c2 := r2w.cell (mix_at A B k HA.out HB.out hlt2)
          have f2 := r2w.free k
          have c6 := r6w.cell (l_cell B k (by have := HB.out; omega))
          have hset := mix_set A B k HA.out HB.out hlt2
          obtain ⟨xa, hxa⟩ : ∃ x, x = A.getD k 0 := ⟨_, rfl⟩
          obtain ⟨xb, hxb⟩ : ∃ x, x = B.getD k 0 := ⟨_, rfl⟩
          rw [← hxa] at c2 hset
          rw [← hxb] at c6 hset
          have r2n := r2w.setCell (i := k) (.int .u32 (wv (xa + xb)))
          rw [hset] at r2n
          have HR := Lib.hid r2n
          clear hset r2n hxa hxb
          have r6n : Row (wr.setCell ⟨g2, k, none⟩ (.int .u32 (wv (xa + xb)))) g6 336 (cells32 B) := (heap_setCell_other _ _ _ _ hg26).trans r6w
          have r4n : Row (wr.setCell ⟨g2, k, none⟩ (.int .u32 (wv (xa + xb)))) g4 336 (zeros32 8) := (heap_setCell_other _ _ _ _ hg24.symm).trans r4w
          have HR6 := Lib.hid r6n
          have HR4 := Lib.hid r4n
          clear r6n r4n
          go_upto_region 14 with (fail)
          refine still_tail 8 (by kernel_rfl) (by kernel_rfl) ?_
          simp only [List.take_succ_cons, List.take_zero, List.drop_succ_cons, List.drop_zero]
          repeat still_step
          refine wpStill_nil ?_
          go_wp2
          go_roundw
          case rel => exact ⟨k + 1, by omega, by go_num, HR.out, HR6.out, HR4.out, below_drewN' (bw.setCell hg2 _) 1⟩
          case measure => simp [intOf]; omega
        · obtain rfl : k = 8 := by omega
          have hd2 : decide ((8 : Int) < 8) = false := by decide
          rw [show ((8 : Nat) : Int) = 8 from rfl]
          rw [hAB.out] at r2w
          go_wp2_with (first
            | (refine wpList_load_row rfl 336 (.tmp 2) rfl g2 rfl 336 (addS s st).cells.toArray (0, 0) _ r2w Tryz.underlying336 rfl (by kernel_rfl) ?_)
            | (refine Row.store (g := g4) (t := 336) (L := zeros32 8) (M := (addS s st).cells) r4w rfl 336 (.tmp 4) (.tmp 111) rfl rfl rfl (by kernel_rfl) rfl (cells32_one _) ?_; rintro wF hwF rF; have bF : Below w.heap.size w wF := (by rw [hwF]; exact bw.grown (grown_setRow _ _ _) bw.size (fun k hk => by cases hk; exact hg4)); clear hwF))
          refine bodyPost_ret (v := .agg (addS s st).cells.toArray) (results_cell_row Tryz.results210 _ wF g4 336 _ (0, 0) _ rfl rF Tryz.underlying336 rfl (by kernel_rfl)) rfl ⟨by rw [hout.out], bF⟩
end Go.Proofs.YtbkpgmlibiclfaaGreatDoor
