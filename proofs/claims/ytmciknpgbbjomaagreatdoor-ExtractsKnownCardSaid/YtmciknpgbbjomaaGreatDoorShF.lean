/- The reference's Compress. -/
import Derived.Test.YtmciknpgbbjomaaGreatDoorShE
import Derived.Test.YtmciknpgbbjomaaGreatDoorSerl
namespace Go.Proofs.YtmciknpgbbjomaaGreatDoor
open Go.RowKit

theorem Row.step {w w' : World} {g : Nat} {t : TypeId} {L : List Value} (h : Row w g t L) (hb : Below w.heap.size w w') : Row w' g t L := h.below hb h.lt
theorem keep_cl {w w' : World} {a : Addr} {v : Value} (hb : Below w.heap.size w w') (h : w.cell? a = some v) : w'.cell? a = some v := (hb.cell (lt_of_cell h)).trans h
theorem below_nx {a b c : World} (h : Below a.heap.size a b) (h2 : Below b.heap.size b c) : Below a.heap.size a c := h.trans (h2.mono h.size)

theorem Rd.sub8 {w : World} {B n : Nat} {ad : Addr} {l : List B8} (h : Rd w B 1 (some ad) n (cells8 l)) (k m : Nat) (hk : k + m ≤ n) (hm : 0 < m) : Rd w B 1 (some (ad.add k)) m (cells8 ((l.drop k).take m)) := by
  obtain ⟨bd, e, hl, hc⟩ := h.2 (by omega)
  cases e
  have hlen := h.len8
  refine ⟨by rw [cells8_len, List.length_take, List.length_drop]; omega, fun _ => ⟨_, rfl, by rw [add_block]; exact hl, ?_⟩⟩
  have h2 := (hc.nth k).take m
  rw [cells8_drop] at h2
  rw [cells8, List.map_take]
  exact h2
/-- The cells of the schedule, of which the first t words have been written. -/
def schC (l : List B8) (t : Nat) : List Value := cells32 (schedW l t) ++ zeros32 (64 - t)
theorem schedW_len (l : List B8) (t : Nat) : (schedW l t).length = t := by
  induction t with
  | zero => rfl
  | succ t ih => simp [schedW, ih]
theorem schC_len (l : List B8) (t : Nat) (h : t ≤ 64) : (schC l t).length = 64 := by simp [schC, cells32, zeros32, schedW_len]; omega
theorem schC_new (l : List B8) (t : Nat) (h : t < 64) : (schC l t)[t]? = some (.int .u32 0) := by
  have : (cells32 (schedW l t)).length = t := by simp [cells32, schedW_len]
  rw [schC, List.getElem?_append_right (by omega), this, zeros32, List.getElem?_replicate]; simp; omega
theorem schC_old (l : List B8) (t j : Nat) (h : j < t) : (schC l t)[j]? = some (.int .u32 (wv ((schedW l t).getD j 0))) := by
  have hl : (cells32 (schedW l t)).length = t := by simp [cells32, schedW_len]
  have hj : j < (schedW l t).length := by rw [schedW_len]; exact h
  rw [schC, List.getElem?_append_left (by omega), cells32, List.getElem?_map, List.getElem?_eq_getElem hj]
  simp [List.getD, List.getElem?_eq_getElem hj]
theorem schC_set (l : List B8) (t : Nat) (h : t < 64) (x : W) (hx : (schedW l (t + 1)) = schedW l t ++ [x]) : (schC l t).set t (.int .u32 (wv x)) = schC l (t + 1) := by
  have hl : (cells32 (schedW l t)).length = t := by simp [cells32, schedW_len]
  have e : 64 - t = (64 - (t + 1)) + 1 := by omega
  rw [schC, List.set_append_right _ _ (by omega), hl, Nat.sub_self, zeros32, e, List.replicate_succ, List.set_cons_zero, schC, hx]
  simp [cells32, zeros32]

theorem k_cell (t : Nat) (h : t < 64) : (cells32 kWords)[t]? = some (.int .u32 (wv (kW t))) := by
  have hk : t < kTab.length := by exact h
  rw [cells32, kWords, List.getElem?_map, List.getElem?_map, List.getElem?_eq_getElem hk]
  simp [kW, List.getD, List.getElem?_eq_getElem hk]
theorem l_cell (L : List W) (t : Nat) (h : t < L.length) : (cells32 L)[t]? = some (.int .u32 (wv (L.getD t 0))) := by
  rw [cells32, List.getElem?_map, List.getElem?_eq_getElem h]
  simp [List.getD, List.getElem?_eq_getElem h]

set_option maxRecDepth 100000 in
set_option maxHeartbeats 4000000 in
theorem refCompress_any (s : S8) (A : Option Addr) (c : Nat) (l : List B8) (w : World) (hr : Rd w w.heap.size 1 A 64 (cells8 l)) (hc : 64 ≤ c) :
    Calls Tryz.prog 114 #[.agg s.cells.toArray, .slice A 64 c] w fun e w' => e = .returned (.agg (compW s l).cells.toArray) ∧ Below w.heap.size w w' := by
  go_enter Tryz.func114, Tryz.ntmps114
  go_wp2_with fail
  refine (constants_any _).mono ?_
  rintro e w1 ⟨rfl, hb1⟩
  have r2 : Row w1 w.heap.size 263 s.cells := by
    rw [Row, hb1.block w.heap.size (by simp; omega), ((Below.refl _ _).alloc (Nat.le_refl _) _).block w.heap.size (by simp)]; exact heap_alloc_new _ _
  have r4 : Row w1 (w.heap.size + 1) 263 (zeros32 8) := by
    rw [Row, hb1.block (w.heap.size + 1) (by simp)]; exact heap_new_at (by simp)
  have hb : Below w.heap.size w w1 := below_alloc2 hb1
  have hr := hr.step hb
  clear hb1
  obtain ⟨g2, h2⟩ : ∃ g, g = w.heap.size := ⟨_, rfl⟩
  obtain ⟨g4, h4⟩ : ∃ g, g = w.heap.size + 1 := ⟨_, rfl⟩
  rw [← h4] at r4
  rw [← h2] at r2
  rw [← h4, ← h2]
  have hg4 : w.heap.size ≤ g4 := by omega
  clear h2 h4
  obtain ⟨g5, h5⟩ : ∃ g, g = w1.heap.size := ⟨_, rfl⟩
  obtain ⟨g6, h6⟩ : ∃ g, g = w1.heap.size + 1 := ⟨_, rfl⟩
  have H5 := Lib.hid h5
  have H6 := Lib.hid h6
  clear h5 h6
  go_upto_region 2 with (first
    | (refine Row.store (g := w1.heap.size) (t := 274) (L := zeros32 64) (M := cells32 kWords) ?_ rfl 274 (.tmp 5) (.tmp 28) rfl rfl rfl (by kernel_rfl) rfl (cells32_one _) ?_; (exact (((Below.refl _ _).alloc (Nat.le_refl _) _).block _ (by simp)).trans (heap_alloc_new _ _)); rintro w2 hw2 r5; have r6 : Row w2 (w1.heap.size + 1) 263 (zeros32 8) := (by rw [hw2]; exact Row.other (L := zeros32 8) (heap_new_at (by simp)) (by omega) _); have b2 : Below w1.heap.size w1 w2 := (by rw [hw2]; exact (below_alloc2 (Below.refl _ _)).grown (grown_setRow _ _ _) (by simp; omega) (fun k hk => by cases hk; exact Nat.le_refl _)); clear hw2)
    | (refine Row.store (g := w1.heap.size + 1) (t := 263) (L := zeros32 8) (M := iv0.cells) r6 rfl 263 (.tmp 6) (.tmp 29) rfl rfl rfl (by kernel_rfl) rfl (cells32_one _) ?_; rintro w3 hw3 _; have r5' : Row w3 w1.heap.size 274 (cells32 kWords) := (by rw [hw3]; exact r5.other (by omega) _); have b3 : Below w1.heap.size w1 w3 := (by rw [hw3]; exact b2.grown (grown_setRow _ _ _) b2.size (fun k hk => by cases hk; exact Nat.le_succ _)); clear hw3 r5 r6 b2))
  rw [← H5.out]
  rw [← H5.out] at r5'
  clear H5 H6
  replace r2 := r2.step b3
  replace r4 := r4.step b3
  replace hr := hr.step b3
  replace hb := hb.trans (b3.mono hb.size)
  clear b3
  go_upto_region 3 with (fail)
  change Code.wp _ _ _ _ (w3.alloc (.cells (zeros32 64).toArray 274))
  obtain ⟨wz, hwz⟩ : ∃ wz, wz = w3.alloc (.cells (zeros32 64).toArray 274) := ⟨_, rfl⟩
  obtain ⟨g7, h7⟩ : ∃ g, g = w3.heap.size := ⟨_, rfl⟩
  rw [← hwz, ← h7]
  have r7 : Row wz g7 274 (zeros32 64) := by rw [hwz]; exact heap_new_at h7
  have b7 : Below w3.heap.size w3 wz := by rw [hwz]; exact (Below.refl _ _).alloc (Nat.le_refl _) _
  have hg7 : w3.heap.size ≤ g7 := Nat.le_of_eq h7.symm
  clear hwz h7
  go_wp2
  go_loopw [8, 9, 10, 11, 12] (fun i _ _ _ _ wr => ∃ t : Nat, t ≤ 64 ∧ i = .int .i64 (t : Int) ∧ Row wr g7 274 (schC l t) ∧ Below w3.heap.size w3 wr) (fun i _ _ _ _ _ => 64 - (intOf i).toNat)
  case atStart => exact ⟨0, Nat.zero_le _, rfl, r7, b7⟩
  case round =>
    obtain ⟨t, ht, rfl, hrow, hbr⟩ := hrel
    have rr := hr.step hbr
    by_cases hlt : t < 64
    · have hd : decide ((t : Int) < 64) = true := by simp; omega
      have c0 := hrow.cell (schC_new l t hlt)
      have f0 := hrow.free t
      by_cases h16 : t < 16
      · have hd2 : decide ((t : Int) < 16) = true := by simp; omega
        obtain ⟨ad, rfl, _⟩ := rr.2 (by omega)
        have hsub := rr.sub8 (4 * t) 4 (by omega) (by omega)
        have hs0 : (4 : Int) * (t : Int) + 4 ≤ (c : Int) := by omega
        have hs1 : (0 : Int) ≤ 4 * (t : Int) := by omega
        have hs2 : (4 : Int) * (t : Int) ≤ 4 * (t : Int) + 4 := by omega
        have hs3 : ¬ c = 4 * t := by omega
        have hs4 : (4 : Int) * (t : Int) ≤ (c : Int) := by omega
        have hV : numB ((l.drop (4 * t)).take 4) < 4294967296 := by have := numB_take_lt (l.drop (4 * t)) 4 (Nat.le_refl _); exact this
        have hVb : Hid (wv (be32 l (4 * t)) = (numB ((l.drop (4 * t)).take 4) : Int)) := by unfold Hid wv be32; rw [BitVec.toNat_ofNat]; omega
        obtain ⟨V, hVd⟩ : ∃ V, V = numB ((l.drop (4 * t)).take 4) := ⟨_, rfl⟩
        have hget := fun w => getR4_any (some (ad.add (4 * t))) (c - 4 * t) ((l.drop (4 * t)).take 4) w
        rw [← hVd] at hV hVb hget
        have HG := Lib.hid hget
        clear hget hVd
        go_wp2_with fail
        refine (HG.out _ hsub).mono ?_
        rintro e w4 ⟨rfl, hb2⟩
        have row4 := hrow.step hb2
        have c4 := row4.cell (schC_new l t hlt)
        have f4 := row4.free t
        have b4 := hbr.trans (hb2.mono hbr.size)
        clear hb2 HG hsub c0 f0 hrow hbr
        --R1
        have hsch : schedW l (t + 1) = schedW l t ++ [be32 l (4 * t)] := by rw [schedW, if_pos h16]
        have row5 := row4.setCell (i := t) (.int .u32 (V : Int))
        rw [← hVb.out, schC_set l t hlt _ hsch, hVb.out] at row5
        have HR := Lib.hid row5
        clear row4 row5 hsch
        go_wp2
        go_roundw
        case rel => exact ⟨t + 1, by omega, by go_num, HR.out, b4.setCell hg7 _⟩
        case measure => simp [intOf]; omega
      · have hd2 : decide ((t : Int) < 16) = false := by simp; omega
        obtain ⟨a, hta⟩ : ∃ a, t = a + 16 := ⟨t - 16, by omega⟩
        obtain ⟨j16, e16⟩ : ∃ j : Nat, j = a := ⟨_, rfl⟩
        obtain ⟨j15, e15⟩ : ∃ j : Nat, j = a + 1 := ⟨_, rfl⟩
        obtain ⟨j7, e7⟩ : ∃ j : Nat, j = a + 9 := ⟨_, rfl⟩
        obtain ⟨j2, e2⟩ : ∃ j : Nat, j = a + 14 := ⟨_, rfl⟩
        have i16 : (t : Int) - 16 = (j16 : Int) := by omega
        have i15 : (t : Int) - 15 = (j15 : Int) := by omega
        have i7 : (t : Int) - 7 = (j7 : Int) := by omega
        have i2 : (t : Int) - 2 = (j2 : Int) := by omega
        have k16 := hrow.cell (schC_old l t j16 (by omega))
        have k15 := hrow.cell (schC_old l t j15 (by omega))
        have k7 := hrow.cell (schC_old l t j7 (by omega))
        have k2 := hrow.cell (schC_old l t j2 (by omega))
        have hsch0 : schedW l (t + 1) = schedW l t ++ [(schedW l t).getD j16 0 + (schedW l t).getD j7 0 + ssig0 ((schedW l t).getD j15 0) + ssig1 ((schedW l t).getD j2 0)] := by
          rw [schedW, if_neg h16, show t - 16 = j16 by omega, show t - 7 = j7 by omega, show t - 15 = j15 by omega, show t - 2 = j2 by omega]
        obtain ⟨x16, hx16⟩ : ∃ x, x = (schedW l t).getD j16 0 := ⟨_, rfl⟩
        obtain ⟨x15, hx15⟩ : ∃ x, x = (schedW l t).getD j15 0 := ⟨_, rfl⟩
        obtain ⟨x7, hx7⟩ : ∃ x, x = (schedW l t).getD j7 0 := ⟨_, rfl⟩
        obtain ⟨x2, hx2⟩ : ∃ x, x = (schedW l t).getD j2 0 := ⟨_, rfl⟩
        rw [← hx16, ← hx15, ← hx7, ← hx2] at hsch0
        rw [← hx16] at k16
        rw [← hx15] at k15
        rw [← hx7] at k7
        rw [← hx2] at k2
        have HS := Lib.hid hsch0
        have b16 : (j16 : Int) < 64 := by omega
        have b15 : (j15 : Int) < 64 := by omega
        have b7' : (j7 : Int) < 64 := by omega
        have b2 : (j2 : Int) < 64 := by omega
        clear hx16 hx15 hx7 hx2 hsch0 e16 e15 e7 e2 hta
        go_wp2_with fail
        go_quiet (fail)
        go_upto_region 10 with (fail)
        have hself : Below wr.heap.size wr ((wr.drewN nq).drew) := below_drewN' (below_drewN' (Below.refl _ _) nq) 1
        have hadd := v_add
        have hadd2 := v_add2
        have hxor := v_xor
        have hsh3 := v_shr3
        have hsh10 := v_shr10
        have hsh3a := v_shrA 3
        have hsh10a := v_shrA 10
        have hsh3b := v_shrB 3
        have hsh10b := v_shrB 10
        have v16 : IntKind.i64.wrap (j16 : Int) = (j16 : Int) := by rw [IntKind.wrap_i64]; omega
        have v7 : IntKind.i64.wrap (j7 : Int) = (j7 : Int) := by rw [IntKind.wrap_i64]; omega
        have htb : (t : Int) < 64 := by omega
        have d16 : (⟨g7, t, none⟩ : Addr) ≠ ⟨g7, j16, none⟩ := fun e => by have := congrArg Addr.off e; simp only at this; omega
        have d7 : (⟨g7, t, none⟩ : Addr) ≠ ⟨g7, j7, none⟩ := fun e => by have := congrArg Addr.off e; simp only at this; omega
        refine wp_region_held_drew (S := (fun w' => w'.cell? ⟨g7, j16, none⟩ = some (.int .u32 (wv x16)) ∧ w'.cell? ⟨g7, j7, none⟩ = some (.int .u32 (wv x7)))) (by kernel_rfl) ⟨keep_cl hself k16, keep_cl hself k7⟩ (fun hHeld => ?_)
        refine take_run 0 (v := ?_) rfl (by kernel_rfl) (by kernel_rfl) (by kernel_rfl) (fun _ _ _ h => h) rfl ?_ hHeld ?_
        rotate_left
        · intro w hSw; (try dsimp only at hSw); go_simp <;> with_reducible rfl
        try simp only [Act.put, List.setIfInBounds_toArray, List.set_cons_zero, List.set_cons_succ]
        refine take_run 1 (v := ?_) rfl (by kernel_rfl) (by kernel_rfl) (by kernel_rfl) (fun _ _ _ h => h) rfl ?_ hHeld ?_
        rotate_left
        · intro w hSw; (try dsimp only at hSw); go_simp <;> with_reducible rfl
        try simp only [Act.put, List.setIfInBounds_toArray, List.set_cons_zero, List.set_cons_succ]
        refine take_run 2 (v := ?_) rfl (by kernel_rfl) (by kernel_rfl) (by kernel_rfl) (fun _ _ _ h => h) rfl ?_ hHeld ?_
        rotate_left
        · intro w hSw; (try dsimp only at hSw); go_simp <;> with_reducible rfl
        try simp only [Act.put, List.setIfInBounds_toArray, List.set_cons_zero, List.set_cons_succ]
        refine take_run 3 (v := ?_) rfl (by kernel_rfl) (by kernel_rfl) (by kernel_rfl) (fun _ _ _ h => h) rfl ?_ hHeld ?_
        rotate_left
        · intro w hSw; (try dsimp only at hSw); go_simp <;> with_reducible rfl
        try simp only [Act.put, List.setIfInBounds_toArray, List.set_cons_zero, List.set_cons_succ]
        refine take_run 4 (v := ?_) rfl (by kernel_rfl) (by kernel_rfl) (by kernel_rfl) (fun _ _ _ h => h) rfl ?_ hHeld ?_
        rotate_left
        · intro w hSw; (try dsimp only at hSw); go_simp <;> with_reducible rfl
        try simp only [Act.put, List.setIfInBounds_toArray, List.set_cons_zero, List.set_cons_succ]
        refine take_run 5 (v := ?_) rfl (by kernel_rfl) (by kernel_rfl) (by kernel_rfl) (fun _ _ _ h => h) rfl ?_ hHeld ?_
        rotate_left
        · intro w hSw; (try dsimp only at hSw); go_simp <;> with_reducible rfl
        try simp only [Act.put, List.setIfInBounds_toArray, List.set_cons_zero, List.set_cons_succ]
        refine take_run 6 (v := ?_) rfl (by kernel_rfl) (by kernel_rfl) (by kernel_rfl) (fun _ _ _ h => h) rfl ?_ hHeld ?_
        rotate_left
        · intro w hSw; (try dsimp only at hSw); go_simp <;> with_reducible rfl
        try simp only [Act.put, List.setIfInBounds_toArray, List.set_cons_zero, List.set_cons_succ]
        refine take_run 7 (v := ?_) rfl (by kernel_rfl) (by kernel_rfl) (by kernel_rfl) (fun _ _ _ h => h) rfl ?_ hHeld ?_
        rotate_left
        · intro w hSw; (try dsimp only at hSw); go_simp <;> with_reducible rfl
        try simp only [Act.put, List.setIfInBounds_toArray, List.set_cons_zero, List.set_cons_succ]
        refine take_run 8 (v := ?_) rfl (by kernel_rfl) (by kernel_rfl) (by kernel_rfl) (fun _ _ _ h => h) rfl ?_ hHeld ?_
        rotate_left
        · intro w hSw; (try dsimp only at hSw); go_simp <;> with_reducible rfl
        try simp only [Act.put, List.setIfInBounds_toArray, List.set_cons_zero, List.set_cons_succ]
        refine take_run 9 (v := ?_) rfl (by kernel_rfl) (by kernel_rfl) (by kernel_rfl) (fun _ _ _ h => h) rfl ?_ hHeld ?_
        rotate_left
        · intro w hSw; (try dsimp only at hSw); go_simp <;> with_reducible rfl
        try simp only [Act.put, List.setIfInBounds_toArray, List.set_cons_zero, List.set_cons_succ]
        refine take_run 10 (v := ?_) rfl (by kernel_rfl) (by kernel_rfl) (by kernel_rfl) (fun _ _ _ h => h) rfl ?_ hHeld ?_
        rotate_left
        · intro w hSw; (try dsimp only at hSw); go_simp <;> with_reducible rfl
        try simp only [Act.put, List.setIfInBounds_toArray, List.set_cons_zero, List.set_cons_succ]
        refine take_run 12 (v := ?_) rfl (by kernel_rfl) (by kernel_rfl) (by kernel_rfl) (fun _ _ _ h => h) rfl ?_ hHeld ?_
        rotate_left
        · intro w hSw; (try dsimp only at hSw); go_simp <;> with_reducible rfl
        try simp only [Act.put, List.setIfInBounds_toArray, List.set_cons_zero, List.set_cons_succ]
        refine take_run 15 (v := ?_) rfl (by kernel_rfl) (by kernel_rfl) (by kernel_rfl) (fun _ _ _ h => h) rfl ?_ hHeld ?_
        rotate_left
        · intro w hSw; (try dsimp only at hSw); go_simp <;> with_reducible rfl
        try simp only [Act.put, List.setIfInBounds_toArray, List.set_cons_zero, List.set_cons_succ]
        refine take_run 16 (v := ?_) rfl (by kernel_rfl) (by kernel_rfl) (by kernel_rfl) (fun _ _ _ h => h) rfl ?_ hHeld ?_
        rotate_left
        · intro w hSw; (try dsimp only at hSw); go_simp <;> with_reducible rfl
        try simp only [Act.put, List.setIfInBounds_toArray, List.set_cons_zero, List.set_cons_succ]
        refine take_run 19 (v := ?_) rfl (by kernel_rfl) (by kernel_rfl) (by kernel_rfl) (fun _ _ _ h => h) rfl ?_ hHeld ?_
        rotate_left
        · intro w hSw; (try dsimp only at hSw); go_simp <;> with_reducible rfl
        try simp only [Act.put, List.setIfInBounds_toArray, List.set_cons_zero, List.set_cons_succ]
        refine take_run 21 (v := ?_) rfl (by kernel_rfl) (by kernel_rfl) (by kernel_rfl) (fun _ _ _ h => h) rfl ?_ hHeld ?_
        rotate_left
        · intro w hSw; (try dsimp only at hSw); go_simp <;> with_reducible rfl
        try simp only [Act.put, List.setIfInBounds_toArray, List.set_cons_zero, List.set_cons_succ]
        refine take_run 24 (v := ?_) rfl (by kernel_rfl) (by kernel_rfl) (by kernel_rfl) (fun _ _ _ h => h) rfl ?_ hHeld ?_
        rotate_left
        · intro w hSw; (try dsimp only at hSw); go_simp <;> with_reducible rfl
        try simp only [Act.put, List.setIfInBounds_toArray, List.set_cons_zero, List.set_cons_succ]
        refine take_run 25 (v := ?_) rfl (by kernel_rfl) (by kernel_rfl) (by kernel_rfl) (fun _ _ _ h => h) rfl ?_ hHeld ?_
        rotate_left
        · intro w hSw; (try dsimp only at hSw); go_simp <;> with_reducible rfl
        try simp only [Act.put, List.setIfInBounds_toArray, List.set_cons_zero, List.set_cons_succ]
        refine take_call 11 rfl (by kernel_rfl) rfl (fun K hK => ?_)
        go_simp
        refine (refRotr_any x15 7 (by omega) _).mono ?_
        rintro e wA ⟨rfl, hbx⟩
        have hy1 : Below wr.heap.size wr wA := below_nx hself hbx
        try dsimp only
        refine hK.out _ _ ⟨keep_cl hy1 k16, keep_cl hy1 k7⟩ (fun hHeld => ?_)
        clear hK K
        try simp only [Act.put, List.setIfInBounds_toArray, List.set_cons_zero, List.set_cons_succ]
        refine take_call 13 rfl (by kernel_rfl) rfl (fun K hK => ?_)
        go_simp
        refine (refRotr_any x15 18 (by omega) _).mono ?_
        rintro e wB ⟨rfl, hbx⟩
        have hy2 : Below wr.heap.size wr wB := below_nx hy1 hbx
        try dsimp only
        refine hK.out _ _ ⟨keep_cl hy2 k16, keep_cl hy2 k7⟩ (fun hHeld => ?_)
        clear hK K
        try simp only [Act.put, List.setIfInBounds_toArray, List.set_cons_zero, List.set_cons_succ]
        refine take_run 14 (v := ?_) rfl (by kernel_rfl) (by kernel_rfl) (by kernel_rfl) (fun _ _ _ h => h) rfl ?_ hHeld ?_
        rotate_left
        · intro w hSw; (try dsimp only at hSw); go_simp <;> with_reducible rfl
        try simp only [Act.put, List.setIfInBounds_toArray, List.set_cons_zero, List.set_cons_succ]
        refine take_run 17 (v := ?_) rfl (by kernel_rfl) (by kernel_rfl) (by kernel_rfl) (fun _ _ _ h => h) rfl ?_ hHeld ?_
        rotate_left
        · intro w hSw; (try dsimp only at hSw); go_simp <;> with_reducible rfl
        try simp only [Act.put, List.setIfInBounds_toArray, List.set_cons_zero, List.set_cons_succ]
        refine take_run 18 (v := ?_) rfl (by kernel_rfl) (by kernel_rfl) (by kernel_rfl) (fun _ _ _ h => h) rfl ?_ hHeld ?_
        rotate_left
        · intro w hSw; (try dsimp only at hSw); go_simp <;> with_reducible rfl
        try simp only [Act.put, List.setIfInBounds_toArray, List.set_cons_zero, List.set_cons_succ]
        refine take_call 20 rfl (by kernel_rfl) rfl (fun K hK => ?_)
        go_simp
        refine (refRotr_any x2 17 (by omega) _).mono ?_
        rintro e wC ⟨rfl, hbx⟩
        have hy3 : Below wr.heap.size wr wC := below_nx hy2 hbx
        try dsimp only
        refine hK.out _ _ ⟨keep_cl hy3 k16, keep_cl hy3 k7⟩ (fun hHeld => ?_)
        clear hK K
        try simp only [Act.put, List.setIfInBounds_toArray, List.set_cons_zero, List.set_cons_succ]
        refine take_call 22 rfl (by kernel_rfl) rfl (fun K hK => ?_)
        go_simp
        refine (refRotr_any x2 19 (by omega) _).mono ?_
        rintro e wD ⟨rfl, hbx⟩
        have hy4 : Below wr.heap.size wr wD := below_nx hy3 hbx
        try dsimp only
        refine hK.out _ _ ⟨keep_cl hy4 k16, keep_cl hy4 k7⟩ (fun hHeld => ?_)
        clear hK K
        try simp only [Act.put, List.setIfInBounds_toArray, List.set_cons_zero, List.set_cons_succ]
        refine take_run 23 (v := ?_) rfl (by kernel_rfl) (by kernel_rfl) (by kernel_rfl) (fun _ _ _ h => h) rfl ?_ hHeld ?_
        rotate_left
        · intro w hSw; (try dsimp only at hSw); go_simp <;> with_reducible rfl
        try simp only [Act.put, List.setIfInBounds_toArray, List.set_cons_zero, List.set_cons_succ]
        refine take_run 26 (v := ?_) rfl (by kernel_rfl) (by kernel_rfl) (by kernel_rfl) (fun _ _ _ h => h) rfl ?_ hHeld ?_
        rotate_left
        · intro w hSw; (try dsimp only at hSw); go_simp <;> with_reducible rfl
        try simp only [Act.put, List.setIfInBounds_toArray, List.set_cons_zero, List.set_cons_succ]
        refine take_run 27 (v := ?_) rfl (by kernel_rfl) (by kernel_rfl) (by kernel_rfl) (fun _ _ _ h => h) rfl ?_ hHeld ?_
        rotate_left
        · intro w hSw; (try dsimp only at hSw); go_simp <;> with_reducible rfl
        try simp only [Act.put, List.setIfInBounds_toArray, List.set_cons_zero, List.set_cons_succ]
        refine take_run 28 (v := ?_) rfl (by kernel_rfl) (by kernel_rfl) (by kernel_rfl) (fun _ _ _ h => h) rfl ?_ hHeld ?_
        rotate_left
        · intro w hSw; (try dsimp only at hSw); go_simp <;> with_reducible rfl
        try simp only [Act.put, List.setIfInBounds_toArray, List.set_cons_zero, List.set_cons_succ]
        have row9 := hrow.step hy4
        have c9 := row9.cell (schC_new l t hlt)
        have f9 := row9.free t
        have b9 := hbr.trans (hy4.mono hbr.size)
        have row10 := row9.setCell (i := t) (.int .u32 (wv (((x16 + x7) + (rotr x15 7 ^^^ rotr x15 18 ^^^ (x15 >>> 3))) + (rotr x2 17 ^^^ rotr x2 19 ^^^ (x2 >>> 10)))))
        have hstep := schC_set l t hlt _ HS.out
        have HR := Lib.hid (hstep ▸ row10)
        clear row10 hstep
        refine take_call 29 rfl (by kernel_rfl) rfl (fun K hK => ?_)
        go_simp
        refine hK.out _ _ ⟨(World.cell?_setCell_other _ _ _ _ d16).trans (keep_cl hy4 k16), (World.cell?_setCell_other _ _ _ _ d7).trans (keep_cl hy4 k7)⟩ (fun hHeld => ?_)
        clear hK K
        try simp only [Act.put, List.setIfInBounds_toArray, List.set_cons_zero, List.set_cons_succ]
        refine wpAnyH_done (by kernel_rfl) ?_ _
        go_wp2
        go_roundw
        case rel => exact ⟨t + 1, by omega, by go_num, HR.out, b9.setCell hg7 _⟩
        case measure => simp [intOf]; omega
    · obtain rfl : t = 64 := by omega
      rw [show ((64 : Nat) : Int) = 64 from rfl]
      have hsc : schC l 64 = cells32 (schedW l 64) := by simp [schC, zeros32]
      rw [hsc] at hrow
      have r2' := r2.step hbr
      have r4' := r4.step hbr
      have r5'' := r5'.step hbr
      have hbw : Below w.heap.size w wr := hb.trans (hbr.mono hb.size)
      clear hsc hr rr hbr r2 r5' r7 b7 hb
      obtain ⟨z0, z1, z2, z3, z4, z5, z6, z7⟩ : (wr.cell? ⟨g2, 0, none⟩ = some (.int .u32 (wv s.a))) ∧ (wr.cell? ⟨g2, 1, none⟩ = some (.int .u32 (wv s.b))) ∧ (wr.cell? ⟨g2, 2, none⟩ = some (.int .u32 (wv s.c))) ∧ (wr.cell? ⟨g2, 3, none⟩ = some (.int .u32 (wv s.d))) ∧ (wr.cell? ⟨g2, 4, none⟩ = some (.int .u32 (wv s.e))) ∧ (wr.cell? ⟨g2, 5, none⟩ = some (.int .u32 (wv s.f))) ∧ (wr.cell? ⟨g2, 6, none⟩ = some (.int .u32 (wv s.g))) ∧ (wr.cell? ⟨g2, 7, none⟩ = some (.int .u32 (wv s.h))) :=
        ⟨r2'.cell rfl, r2'.cell rfl, r2'.cell rfl, r2'.cell rfl, r2'.cell rfl, r2'.cell rfl, r2'.cell rfl, r2'.cell rfl⟩
      go_upto_region 11 with (fail)
      go_quiet (fail)
      go_wp2
      obtain ⟨L, hL⟩ : ∃ L, L = schedW l 64 := ⟨_, rfl⟩
      have hLl : L.length = 64 := by rw [hL]; exact schedW_len l 64
      rw [← hL] at hrow
      have HL := Lib.hid hL
      clear hL z0 z1 z2 z3 z4 z5 z6 z7
      obtain ⟨w5, hw5⟩ : ∃ w5, w5 = wr := ⟨_, rfl⟩
      rw [← hw5] at hrow r5'' r2' r4' hbw ⊢
      clear hw5
      go_loopw [13, 14, 15, 16, 17, 18, 19, 20, 21, 22, 23, 24, 25] (fun xa xb xc xd xe xf xg xh i _ _ _ _ wl => ∃ (t : Nat) (st : S8), t ≤ 64 ∧ i = .int .i64 (t : Int) ∧ Hid (st = roundsW L s t) ∧ xa = .int .u32 (wv st.a) ∧ xb = .int .u32 (wv st.b) ∧ xc = .int .u32 (wv st.c) ∧ xd = .int .u32 (wv st.d) ∧ xe = .int .u32 (wv st.e) ∧ xf = .int .u32 (wv st.f) ∧ xg = .int .u32 (wv st.g) ∧ xh = .int .u32 (wv st.h) ∧ Below w5.heap.size w5 wl) (fun _ _ _ _ _ _ _ _ i _ _ _ _ _ => 64 - (intOf i).toNat)
      case atStart => exact ⟨0, s, Nat.zero_le _, rfl, rfl, rfl, rfl, rfl, rfl, rfl, rfl, rfl, rfl, below_drewN' (Below.refl _ _) _⟩
      case round =>
        obtain ⟨t, st, ht2, rfl, hst, rfl, rfl, rfl, rfl, rfl, rfl, rfl, rfl, hbl⟩ := hrel
        have hand := v_and
        have hor := v_or
        have hnot := v_not
        have hnot2 := v_not2
        have hadd := v_add
        have hadd2 := v_add2
        have hxor := v_xor
        by_cases hlt2 : t < 64
        · have hd3 : decide ((t : Int) < 64) = true := by simp; omega
          have htb : (t : Int) < 64 := by omega
          have k5 := (r5''.step hbl).cell (k_cell t hlt2)
          have k7 := (hrow.step hbl).cell (l_cell L t (by omega))
          obtain ⟨xw, hxw⟩ : ∃ x, x = L.getD t 0 := ⟨_, rfl⟩
          obtain ⟨xk, hxk⟩ : ∃ x, x = kW t := ⟨_, rfl⟩
          rw [← hxw] at k7
          rw [← hxk] at k5
          have hst2 : Hid (roundW st xk xw = roundsW L s (t + 1)) := by unfold Hid; rw [roundsW, ← hst.out, hxw, hxk]
          clear hxw hxk
          go_upto_region 17 with (fail)
          have hself : Below wr.heap.size wr wr.drew := below_drewN' (Below.refl _ _) 1
          refine wp_region_held_drew (S := (fun w' => w'.cell? ⟨g5, t, none⟩ = some (.int .u32 (wv xk)) ∧ w'.cell? ⟨g7, t, none⟩ = some (.int .u32 (wv xw)))) (by kernel_rfl) ⟨keep_cl hself k5, keep_cl hself k7⟩ (fun hHeld => ?_)
          refine take_run 0 (v := ?_) rfl (by kernel_rfl) (by kernel_rfl) (by kernel_rfl) (fun _ _ _ h => h) rfl ?_ hHeld ?_
          rotate_left
          · intro w hSw; (try dsimp only at hSw); go_simp <;> with_reducible rfl
          try simp only [Act.put, List.setIfInBounds_toArray, List.set_cons_zero, List.set_cons_succ]
          refine take_run 1 (v := ?_) rfl (by kernel_rfl) (by kernel_rfl) (by kernel_rfl) (fun _ _ _ h => h) rfl ?_ hHeld ?_
          rotate_left
          · intro w hSw; (try dsimp only at hSw); go_simp <;> with_reducible rfl
          try simp only [Act.put, List.setIfInBounds_toArray, List.set_cons_zero, List.set_cons_succ]
          refine take_run 3 (v := ?_) rfl (by kernel_rfl) (by kernel_rfl) (by kernel_rfl) (fun _ _ _ h => h) rfl ?_ hHeld ?_
          rotate_left
          · intro w hSw; (try dsimp only at hSw); go_simp <;> with_reducible rfl
          try simp only [Act.put, List.setIfInBounds_toArray, List.set_cons_zero, List.set_cons_succ]
          refine take_run 6 (v := ?_) rfl (by kernel_rfl) (by kernel_rfl) (by kernel_rfl) (fun _ _ _ h => h) rfl ?_ hHeld ?_
          rotate_left
          · intro w hSw; (try dsimp only at hSw); go_simp <;> with_reducible rfl
          try simp only [Act.put, List.setIfInBounds_toArray, List.set_cons_zero, List.set_cons_succ]
          refine take_run 10 (v := ?_) rfl (by kernel_rfl) (by kernel_rfl) (by kernel_rfl) (fun _ _ _ h => h) rfl ?_ hHeld ?_
          rotate_left
          · intro w hSw; (try dsimp only at hSw); go_simp <;> with_reducible rfl
          try simp only [Act.put, List.setIfInBounds_toArray, List.set_cons_zero, List.set_cons_succ]
          refine take_run 12 (v := ?_) rfl (by kernel_rfl) (by kernel_rfl) (by kernel_rfl) (fun _ _ _ h => h) rfl ?_ hHeld ?_
          rotate_left
          · intro w hSw; (try dsimp only at hSw); go_simp <;> with_reducible rfl
          try simp only [Act.put, List.setIfInBounds_toArray, List.set_cons_zero, List.set_cons_succ]
          refine take_run 13 (v := ?_) rfl (by kernel_rfl) (by kernel_rfl) (by kernel_rfl) (fun _ _ _ h => h) rfl ?_ hHeld ?_
          rotate_left
          · intro w hSw; (try dsimp only at hSw); go_simp <;> with_reducible rfl
          try simp only [Act.put, List.setIfInBounds_toArray, List.set_cons_zero, List.set_cons_succ]
          refine take_run 14 (v := ?_) rfl (by kernel_rfl) (by kernel_rfl) (by kernel_rfl) (fun _ _ _ h => h) rfl ?_ hHeld ?_
          rotate_left
          · intro w hSw; (try dsimp only at hSw); go_simp <;> with_reducible rfl
          try simp only [Act.put, List.setIfInBounds_toArray, List.set_cons_zero, List.set_cons_succ]
          refine take_run 16 (v := ?_) rfl (by kernel_rfl) (by kernel_rfl) (by kernel_rfl) (fun _ _ _ h => h) rfl ?_ hHeld ?_
          rotate_left
          · intro w hSw; (try dsimp only at hSw); go_simp <;> with_reducible rfl
          try simp only [Act.put, List.setIfInBounds_toArray, List.set_cons_zero, List.set_cons_succ]
          refine take_run 17 (v := ?_) rfl (by kernel_rfl) (by kernel_rfl) (by kernel_rfl) (fun _ _ _ h => h) rfl ?_ hHeld ?_
          rotate_left
          · intro w hSw; (try dsimp only at hSw); go_simp <;> with_reducible rfl
          try simp only [Act.put, List.setIfInBounds_toArray, List.set_cons_zero, List.set_cons_succ]
          refine take_run 18 (v := ?_) rfl (by kernel_rfl) (by kernel_rfl) (by kernel_rfl) (fun _ _ _ h => h) rfl ?_ hHeld ?_
          rotate_left
          · intro w hSw; (try dsimp only at hSw); go_simp <;> with_reducible rfl
          try simp only [Act.put, List.setIfInBounds_toArray, List.set_cons_zero, List.set_cons_succ]
          refine take_call 2 rfl (by kernel_rfl) rfl (fun K hK => ?_)
          go_simp
          refine (refRotr_any st.e 6 (by omega) _).mono ?_
          rintro e wA ⟨rfl, hbx⟩
          have hy1 : Below wr.heap.size wr wA := below_nx hself hbx
          try dsimp only
          refine hK.out _ _ ⟨keep_cl hy1 k5, keep_cl hy1 k7⟩ (fun hHeld => ?_)
          clear hK K
          try simp only [Act.put, List.setIfInBounds_toArray, List.set_cons_zero, List.set_cons_succ]
          refine take_call 4 rfl (by kernel_rfl) rfl (fun K hK => ?_)
          go_simp
          refine (refRotr_any st.e 11 (by omega) _).mono ?_
          rintro e wB ⟨rfl, hbx⟩
          have hy2 : Below wr.heap.size wr wB := below_nx hy1 hbx
          try dsimp only
          refine hK.out _ _ ⟨keep_cl hy2 k5, keep_cl hy2 k7⟩ (fun hHeld => ?_)
          clear hK K
          try simp only [Act.put, List.setIfInBounds_toArray, List.set_cons_zero, List.set_cons_succ]
          refine take_run 5 (v := ?_) rfl (by kernel_rfl) (by kernel_rfl) (by kernel_rfl) (fun _ _ _ h => h) rfl ?_ hHeld ?_
          rotate_left
          · intro w hSw; (try dsimp only at hSw); go_simp <;> with_reducible rfl
          try simp only [Act.put, List.setIfInBounds_toArray, List.set_cons_zero, List.set_cons_succ]
          refine take_call 7 rfl (by kernel_rfl) rfl (fun K hK => ?_)
          go_simp
          refine (refRotr_any st.e 25 (by omega) _).mono ?_
          rintro e wC ⟨rfl, hbx⟩
          have hy3 : Below wr.heap.size wr wC := below_nx hy2 hbx
          try dsimp only
          refine hK.out _ _ ⟨keep_cl hy3 k5, keep_cl hy3 k7⟩ (fun hHeld => ?_)
          clear hK K
          try simp only [Act.put, List.setIfInBounds_toArray, List.set_cons_zero, List.set_cons_succ]
          refine take_run 8 (v := ?_) rfl (by kernel_rfl) (by kernel_rfl) (by kernel_rfl) (fun _ _ _ h => h) rfl ?_ hHeld ?_
          rotate_left
          · intro w hSw; (try dsimp only at hSw); go_simp <;> with_reducible rfl
          try simp only [Act.put, List.setIfInBounds_toArray, List.set_cons_zero, List.set_cons_succ]
          refine take_run 9 (v := ?_) rfl (by kernel_rfl) (by kernel_rfl) (by kernel_rfl) (fun _ _ _ h => h) rfl ?_ hHeld ?_
          rotate_left
          · intro w hSw; (try dsimp only at hSw); go_simp <;> with_reducible rfl
          try simp only [Act.put, List.setIfInBounds_toArray, List.set_cons_zero, List.set_cons_succ]
          refine take_run 11 (v := ?_) rfl (by kernel_rfl) (by kernel_rfl) (by kernel_rfl) (fun _ _ _ h => h) rfl ?_ hHeld ?_
          rotate_left
          · intro w hSw; (try dsimp only at hSw); go_simp <;> with_reducible rfl
          try simp only [Act.put, List.setIfInBounds_toArray, List.set_cons_zero, List.set_cons_succ]
          refine take_run 15 (v := ?_) rfl (by kernel_rfl) (by kernel_rfl) (by kernel_rfl) (fun _ _ _ h => h) rfl ?_ hHeld ?_
          rotate_left
          · intro w hSw; (try dsimp only at hSw); go_simp <;> with_reducible rfl
          try simp only [Act.put, List.setIfInBounds_toArray, List.set_cons_zero, List.set_cons_succ]
          refine take_run 19 (v := ?_) rfl (by kernel_rfl) (by kernel_rfl) (by kernel_rfl) (fun _ _ _ h => h) rfl ?_ hHeld ?_
          rotate_left
          · intro w hSw; (try dsimp only at hSw); go_simp <;> with_reducible rfl
          try simp only [Act.put, List.setIfInBounds_toArray, List.set_cons_zero, List.set_cons_succ]
          refine take_run 20 (v := ?_) rfl (by kernel_rfl) (by kernel_rfl) (by kernel_rfl) (fun _ _ _ h => h) rfl ?_ hHeld ?_
          rotate_left
          · intro w hSw; (try dsimp only at hSw); go_simp <;> with_reducible rfl
          try simp only [Act.put, List.setIfInBounds_toArray, List.set_cons_zero, List.set_cons_succ]
          refine wpAnyH_done (by kernel_rfl) ?_ _
          have bwC := hbl.trans (hy3.mono hbl.size)
          clear hHeld hself hy1 hy2 hy3 hbl
          go_wp2_with fail
          refine (refRotr_any st.a 2 (by omega) _).mono ?_
          rintro e wD ⟨rfl, hb2⟩
          have bbwD := bwC.trans (hb2.mono bwC.size)
          have bwD := bbwD
          clear bbwD hb2
          go_wp2_with fail
          refine (refRotr_any st.a 13 (by omega) _).mono ?_
          rintro e wE ⟨rfl, hb2⟩
          have bbwE := bwD.trans (hb2.mono bwD.size)
          have bwE := bbwE
          clear bbwE hb2
          go_wp2_with fail
          refine (refRotr_any st.a 22 (by omega) _).mono ?_
          rintro e wF ⟨rfl, hb2⟩
          have bbwF := bwE.trans (hb2.mono bwE.size)
          have bwF := bbwF
          clear bbwF hb2
          go_wp2
          go_roundw
          case rel => exact ⟨t + 1, roundW st xk xw, by omega, by go_num, hst2, rfl, rfl, rfl, rfl, rfl, rfl, rfl, rfl, bwF⟩
          case measure => simp [intOf]; omega
        · obtain rfl : t = 64 := by omega
          have hd3 : decide ((64 : Int) < 64) = false := by decide
          rw [show ((64 : Nat) : Int) = 64 from rfl]
          have r2w := r2'.step hbl
          have r4w := r4'.step hbl
          have hbw2 := hbw.trans (hbl.mono hbw.size)
          obtain ⟨z0, z1, z2, z3, z4, z5, z6, z7⟩ : (wr.cell? ⟨g2, 0, none⟩ = some (.int .u32 (wv s.a))) ∧ (wr.cell? ⟨g2, 1, none⟩ = some (.int .u32 (wv s.b))) ∧ (wr.cell? ⟨g2, 2, none⟩ = some (.int .u32 (wv s.c))) ∧ (wr.cell? ⟨g2, 3, none⟩ = some (.int .u32 (wv s.d))) ∧ (wr.cell? ⟨g2, 4, none⟩ = some (.int .u32 (wv s.e))) ∧ (wr.cell? ⟨g2, 5, none⟩ = some (.int .u32 (wv s.f))) ∧ (wr.cell? ⟨g2, 6, none⟩ = some (.int .u32 (wv s.g))) ∧ (wr.cell? ⟨g2, 7, none⟩ = some (.int .u32 (wv s.h))) :=
            ⟨r2w.cell rfl, r2w.cell rfl, r2w.cell rfl, r2w.cell rfl, r2w.cell rfl, r2w.cell rfl, r2w.cell rfl, r2w.cell rfl⟩
          have hout : Hid (compW s l = addS s st) := by unfold Hid compW; rw [← HL.out, ← hst.out]
          have hadd3 := v_add
          clear hand hor hnot hnot2 hxor hrow r5'' r2' r4' HL hst r2w
          go_wp2_with (refine Row.store (g := g4) (t := 263) (L := zeros32 8) (M := (addS s st).cells) r4w rfl 263 (.tmp 4) (.tmp 201) rfl rfl rfl (by kernel_rfl) rfl (cells32_one _) ?_; rintro wF hwF rF; have bF : Below w.heap.size w wF := (by rw [hwF]; exact hbw2.grown (grown_setRow _ _ _) hbw2.size (fun k hk => by cases hk; exact hg4)); clear hwF)
          refine bodyPost_ret (v := .agg (addS s st).cells.toArray) (results_cell_row Tryz.results114 _ wF g4 263 _ (0, 0) _ rfl rF Tryz.underlying263 rfl (by kernel_rfl)) rfl ⟨by rw [hout.out], bF⟩
end Go.Proofs.YtmciknpgbbjomaaGreatDoor
