/- The program's schedule. -/
import Derived.Test.YtbkpgmlibiclfaaGreatDoorShF
namespace Go.Proofs.YtbkpgmlibiclfaaGreatDoor
open Go.RowKit

theorem cells8_one (l : List B8) : (cells8 l).toArray.all (·.oneCell') = true := by
  simp [cells8, Value.oneCell']
theorem Row.rd8 {w : World} {g : Nat} {t : TypeId} {l : List B8} (h : Row w g t (cells8 l)) (k m : Nat) (hk : k + m ≤ l.length) : Rd w w.heap.size 1 (some ⟨g, k, none⟩) m (cells8 ((l.drop k).take m)) := by
  refine ⟨by rw [cells8_len, List.length_take, List.length_drop]; omega, fun _ => ⟨_, rfl, h.lt, ?_⟩⟩
  have h2 := (h.cells k).take m
  rw [cells8_drop] at h2
  rw [cells8, List.map_take]
  exact h2
theorem sched_sum (a b c d : W) : d + b + c + a = a + b + c + d := by ac_rfl

set_option maxRecDepth 100000 in
set_option maxHeartbeats 4000000 in
theorem schedule_any (l : List B8) (hl : l.length = 64) (w : World) :
    Calls Tryz.prog 247 #[.agg (cells8 l).toArray] w fun e w' => e = .returned (.agg (cells32 (schedW l 64)).toArray) ∧ Below w.heap.size w w' := by
  have HL := Lib.hid hl
  go_enter Tryz.func247, Tryz.ntmps247
  go_upto_region 1 with (fail)
  change Code.wp _ _ _ _ ((w.alloc (.cells (cells8 l).toArray 337)).alloc (.cells (zeros32 64).toArray 449))
  obtain ⟨wz, hwz⟩ : ∃ wz, wz = (w.alloc (.cells (cells8 l).toArray 337)).alloc (.cells (zeros32 64).toArray 449) := ⟨_, rfl⟩
  have hw0 : wz.heap.size = w.heap.size + 2 := by rw [hwz]; simp
  obtain ⟨g1, h1⟩ : ∃ g, g = w.heap.size := ⟨_, rfl⟩
  obtain ⟨g2, h2⟩ : ∃ g, g = w.heap.size + 1 := ⟨_, rfl⟩
  rw [← hwz]
  have r1 : Row wz g1 337 (cells8 l) := by
    rw [hwz, h1, Row, ((Below.refl _ _).alloc (Nat.le_refl _) _).block w.heap.size (by simp)]; exact heap_alloc_new _ _
  have r2 : Row wz g2 449 (zeros32 64) := by rw [hwz, h2]; exact heap_new_at (by simp)
  have b0 : Below g2 wz wz := Below.refl _ _
  have hb : Below w.heap.size w wz := by rw [hwz]; exact below_alloc2 (Below.refl _ _)
  have hg2 : w.heap.size ≤ g2 := by omega
  have hlt1 : g1 < g2 := by omega
  rw [← h2, ← h1]
  clear hwz h1 h2 hw0
  go_wp2
  go_loopw [3, 9] (fun _ i wr => ∃ t : Nat, t ≤ 16 ∧ i = .int .i64 (t : Int) ∧ Row wr g2 449 (schC l t) ∧ Below g2 wz wr) (fun _ i _ => 16 - (intOf i).toNat)
  case atStart => exact ⟨0, Nat.zero_le _, rfl, r2, b0⟩
  case round =>
    obtain ⟨t, ht, rfl, hrow, hbr⟩ := hrel
    by_cases hlt : t < 16
    · have hd : decide ((t : Int) < 16) = true := by simp; omega
      have hr1 : Row wr g1 337 (cells8 l) := r1.below hbr hlt1
      have hsub := hr1.rd8 (4 * t) 4 (by have := HL.out; omega)
      have hs0 : (4 : Int) * (t : Int) + 4 ≤ 64 := by omega
      have hs1 : (0 : Int) ≤ 4 * (t : Int) := by omega
      have hs2 : (4 : Int) * (t : Int) ≤ 4 * (t : Int) + 4 := by omega
      have hs4 : (4 : Int) * (t : Int) ≤ 64 := by omega
      have hs5 : (t : Int) < 64 := by omega
      have hs6 : ¬ 64 = 4 * t := by omega
      obtain ⟨V, hVd⟩ : ∃ V, V = be32 l (4 * t) := ⟨_, rfl⟩
      have hget := fun c w => getD32_any (some ⟨g1, 4 * t, none⟩) c ((l.drop (4 * t)).take 4) w
      have hVe : BitVec.ofNat 32 (numB ((l.drop (4 * t)).take 4)) = V := by rw [hVd]; rfl
      rw [hVe] at hget
      have HV := Lib.hid hVd
      have HG := Lib.hid hget
      clear hget hVd hVe
      go_wp2_with fail
      refine (HG.out _ _ hsub).mono ?_
      rintro e w4 ⟨rfl, hb2⟩
      have row4 := hrow.step hb2
      have c4 := row4.cell (schC_new l t (by omega))
      have f4 := row4.free t
      have b4 := hbr.trans (hb2.mono (by have := hrow.lt; omega))
      have hsch : schedW l (t + 1) = schedW l t ++ [V] := by rw [schedW, if_pos hlt, HV.out]
      have row5 := row4.setCell (i := t) (.int .u32 (wv V))
      rw [schC_set l t (by omega) _ hsch] at row5
      have HR := Lib.hid row5
      clear hb2 HG hsub hrow hbr row4 row5 hsch hr1
      go_wp2
      go_roundw
      case rel => exact ⟨t + 1, by omega, by go_num, HR.out, b4.setCell (Nat.le_refl _) _⟩
      case measure => simp [intOf]; omega
    · obtain rfl : t = 16 := by omega
      rw [show ((16 : Nat) : Int) = 16 from rfl]
      obtain ⟨wq, hwq⟩ : ∃ wq, wq = wr := ⟨_, rfl⟩
      rw [← hwq] at hrow hbr ⊢
      clear hwq
      go_wp2
      go_loopw [4, 5, 6, 7, 8] (fun i _ _ _ _ wl => ∃ t : Nat, 16 ≤ t ∧ t ≤ 64 ∧ i = .int .i64 (t : Int) ∧ Row wl g2 449 (schC l t) ∧ Below g2 wz wl) (fun i _ _ _ _ _ => 64 - (intOf i).toNat)
      case atStart => exact ⟨16, Nat.le_refl _, by omega, rfl, hrow, hbr⟩
      case round =>
        clear hrow hbr
        obtain ⟨t, h16, ht, rfl, hrow, hbr⟩ := hrel
        by_cases hlt : t < 64
        · have hd : decide ((t : Int) < 64) = true := by simp; omega
          have htb : (t : Int) < 64 := by omega
          obtain ⟨a, hta⟩ : ∃ a, t = a + 16 := ⟨t - 16, by omega⟩
          obtain ⟨j16, e16⟩ : ∃ j : Nat, j = a := ⟨_, rfl⟩
          obtain ⟨j15, e15⟩ : ∃ j : Nat, j = a + 1 := ⟨_, rfl⟩
          obtain ⟨j7, e7⟩ : ∃ j : Nat, j = a + 9 := ⟨_, rfl⟩
          obtain ⟨j2, e2⟩ : ∃ j : Nat, j = a + 14 := ⟨_, rfl⟩
          have i16 : (t : Int) - 16 = (j16 : Int) := by omega
          have i15 : (t : Int) - 15 = (j15 : Int) := by omega
          have i7 : (t : Int) - 7 = (j7 : Int) := by omega
          have i2 : (t : Int) - 2 = (j2 : Int) := by omega
          have k16 := hrow.cell (schC_old l t j16 (by omega))
          have k15 := hrow.cell (schC_old l t j15 (by omega))
          have k7 := hrow.cell (schC_old l t j7 (by omega))
          have k2 := hrow.cell (schC_old l t j2 (by omega))
          have hsch0 : schedW l (t + 1) = schedW l t ++ [ssig1 ((schedW l t).getD j2 0) + (schedW l t).getD j7 0 + ssig0 ((schedW l t).getD j15 0) + (schedW l t).getD j16 0] := by
            rw [schedW, if_neg (show ¬ t < 16 by omega), show t - 16 = j16 by omega, show t - 7 = j7 by omega, show t - 15 = j15 by omega, show t - 2 = j2 by omega, sched_sum]
          obtain ⟨x16, hx16⟩ : ∃ x, x = (schedW l t).getD j16 0 := ⟨_, rfl⟩
          obtain ⟨x15, hx15⟩ : ∃ x, x = (schedW l t).getD j15 0 := ⟨_, rfl⟩
          obtain ⟨x7, hx7⟩ : ∃ x, x = (schedW l t).getD j7 0 := ⟨_, rfl⟩
          obtain ⟨x2, hx2⟩ : ∃ x, x = (schedW l t).getD j2 0 := ⟨_, rfl⟩
          rw [← hx16, ← hx15, ← hx7, ← hx2] at hsch0
          rw [← hx16] at k16
          rw [← hx15] at k15
          rw [← hx7] at k7
          rw [← hx2] at k2
          have HS := Lib.hid hsch0
          have b16 : (j16 : Int) < 64 := by omega
          have b15 : (j15 : Int) < 64 := by omega
          have b7' : (j7 : Int) < 64 := by omega
          have b2 : (j2 : Int) < 64 := by omega
          have d16 : (⟨g2, t, none⟩ : Addr) ≠ ⟨g2, j16, none⟩ := fun e => by have := congrArg Addr.off e; simp only at this; omega
          have d7 : (⟨g2, t, none⟩ : Addr) ≠ ⟨g2, j7, none⟩ := fun e => by have := congrArg Addr.off e; simp only at this; omega
          have v16 : IntKind.i64.wrap (j16 : Int) = (j16 : Int) := by rw [IntKind.wrap_i64]; omega
          have v7 : IntKind.i64.wrap (j7 : Int) = (j7 : Int) := by rw [IntKind.wrap_i64]; omega
          clear hx16 hx15 hx7 hx2 hsch0 e16 e15 e7 e2 hta
          have hadd := v_add
          have hadd2 := v_add2
          have hxor := v_xor
          have hsh3 := v_shr3
          have hsh10 := v_shr10
          have hsh3a := v_shrA 3
          have hsh10a := v_shrA 10
          have hsh3b := v_shrB 3
          have hsh10b := v_shrB 10
          have bw : Below g2 wz wr := hbr
          go_wp2_with fail
          go_quiet (fail)
          have b0q : Below wr.heap.size wr (wr.drewN nq) := below_drewN' (Below.refl _ _) nq
          go_wp2_with fail
          refine (dRotr_any x15 7 (by omega) (by omega) _).mono ?_
          rintro e wA ⟨rfl, hbx⟩
          have hy1 : Below wr.heap.size wr wA := b0q.trans (hbx.mono b0q.size)
          clear hbx
          go_wp2_with fail
          refine (dRotr_any x15 18 (by omega) (by omega) _).mono ?_
          rintro e wB ⟨rfl, hbx⟩
          have hy2 : Below wr.heap.size wr wB := hy1.trans (hbx.mono hy1.size)
          clear hbx
          go_wp2_with fail
          refine (dRotr_any x2 17 (by omega) (by omega) _).mono ?_
          rintro e wC ⟨rfl, hbx⟩
          have hy3 : Below wr.heap.size wr wC := hy2.trans (hbx.mono hy2.size)
          clear hbx
          go_wp2_with fail
          refine (dRotr_any x2 19 (by omega) (by omega) _).mono ?_
          rintro e wD ⟨rfl, hbx⟩
          have hy4 : Below wr.heap.size wr wD := hy3.trans (hbx.mono hy3.size)
          clear hbx
          go_upto_region 12 with (fail)
          have row9 := hrow.step hy4
          have c9 := row9.cell (schC_new l t hlt)
          have f9 := row9.free t
          have b9 := hbr.trans (hy4.mono (by have := hrow.lt; omega))
          have row10 := row9.setCell (i := t) (.int .u32 (wv ((rotr x2 17 ^^^ rotr x2 19 ^^^ (x2 >>> 10)) + x7 + (rotr x15 7 ^^^ rotr x15 18 ^^^ (x15 >>> 3)) + x16)))
          have hstep := schC_set l t hlt _ HS.out
          have HR := Lib.hid (hstep ▸ row10)
          clear row10 hstep
          have hself : Below wr.heap.size wr wD.drew := below_drewN' hy4 1
          refine wp_region_held_drew (S := (fun w' => w'.cell? ⟨g2, j16, none⟩ = some (.int .u32 (wv x16)) ∧ w'.cell? ⟨g2, j7, none⟩ = some (.int .u32 (wv x7)))) (by kernel_rfl) ⟨keep_cl hself k16, keep_cl hself k7⟩ (fun hHeld => ?_)
          refine take_run 0 (v := ?_) rfl (by kernel_rfl) (by kernel_rfl) (by kernel_rfl) (fun _ _ _ h => h) rfl ?_ hHeld ?_
          rotate_left
          · intro w hSw; (try dsimp only at hSw); go_simp <;> with_reducible rfl
          try simp only [Act.put, List.setIfInBounds_toArray, List.set_cons_zero, List.set_cons_succ]
          refine take_run 1 (v := ?_) rfl (by kernel_rfl) (by kernel_rfl) (by kernel_rfl) (fun _ _ _ h => h) rfl ?_ hHeld ?_
          rotate_left
          · intro w hSw; (try dsimp only at hSw); go_simp <;> with_reducible rfl
          try simp only [Act.put, List.setIfInBounds_toArray, List.set_cons_zero, List.set_cons_succ]
          refine take_run 2 (v := ?_) rfl (by kernel_rfl) (by kernel_rfl) (by kernel_rfl) (fun _ _ _ h => h) rfl ?_ hHeld ?_
          rotate_left
          · intro w hSw; (try dsimp only at hSw); go_simp <;> with_reducible rfl
          try simp only [Act.put, List.setIfInBounds_toArray, List.set_cons_zero, List.set_cons_succ]
          refine take_run 3 (v := ?_) rfl (by kernel_rfl) (by kernel_rfl) (by kernel_rfl) (fun _ _ _ h => h) rfl ?_ hHeld ?_
          rotate_left
          · intro w hSw; (try dsimp only at hSw); go_simp <;> with_reducible rfl
          try simp only [Act.put, List.setIfInBounds_toArray, List.set_cons_zero, List.set_cons_succ]
          refine take_run 4 (v := ?_) rfl (by kernel_rfl) (by kernel_rfl) (by kernel_rfl) (fun _ _ _ h => h) rfl ?_ hHeld ?_
          rotate_left
          · intro w hSw; (try dsimp only at hSw); go_simp <;> with_reducible rfl
          try simp only [Act.put, List.setIfInBounds_toArray, List.set_cons_zero, List.set_cons_succ]
          refine take_run 5 (v := ?_) rfl (by kernel_rfl) (by kernel_rfl) (by kernel_rfl) (fun _ _ _ h => h) rfl ?_ hHeld ?_
          rotate_left
          · intro w hSw; (try dsimp only at hSw); go_simp <;> with_reducible rfl
          try simp only [Act.put, List.setIfInBounds_toArray, List.set_cons_zero, List.set_cons_succ]
          refine take_run 6 (v := ?_) rfl (by kernel_rfl) (by kernel_rfl) (by kernel_rfl) (fun _ _ _ h => h) rfl ?_ hHeld ?_
          rotate_left
          · intro w hSw; (try dsimp only at hSw); go_simp <;> with_reducible rfl
          try simp only [Act.put, List.setIfInBounds_toArray, List.set_cons_zero, List.set_cons_succ]
          refine take_run 7 (v := ?_) rfl (by kernel_rfl) (by kernel_rfl) (by kernel_rfl) (fun _ _ _ h => h) rfl ?_ hHeld ?_
          rotate_left
          · intro w hSw; (try dsimp only at hSw); go_simp <;> with_reducible rfl
          try simp only [Act.put, List.setIfInBounds_toArray, List.set_cons_zero, List.set_cons_succ]
          refine take_run 8 (v := ?_) rfl (by kernel_rfl) (by kernel_rfl) (by kernel_rfl) (fun _ _ _ h => h) rfl ?_ hHeld ?_
          rotate_left
          · intro w hSw; (try dsimp only at hSw); go_simp <;> with_reducible rfl
          try simp only [Act.put, List.setIfInBounds_toArray, List.set_cons_zero, List.set_cons_succ]
          refine take_run 9 (v := ?_) rfl (by kernel_rfl) (by kernel_rfl) (by kernel_rfl) (fun _ _ _ h => h) rfl ?_ hHeld ?_
          rotate_left
          · intro w hSw; (try dsimp only at hSw); go_simp <;> with_reducible rfl
          try simp only [Act.put, List.setIfInBounds_toArray, List.set_cons_zero, List.set_cons_succ]
          refine take_run 10 (v := ?_) rfl (by kernel_rfl) (by kernel_rfl) (by kernel_rfl) (fun _ _ _ h => h) rfl ?_ hHeld ?_
          rotate_left
          · intro w hSw; (try dsimp only at hSw); go_simp <;> with_reducible rfl
          try simp only [Act.put, List.setIfInBounds_toArray, List.set_cons_zero, List.set_cons_succ]
          refine take_run 11 (v := ?_) rfl (by kernel_rfl) (by kernel_rfl) (by kernel_rfl) (fun _ _ _ h => h) rfl ?_ hHeld ?_
          rotate_left
          · intro w hSw; (try dsimp only at hSw); go_simp <;> with_reducible rfl
          try simp only [Act.put, List.setIfInBounds_toArray, List.set_cons_zero, List.set_cons_succ]
          refine take_run 12 (v := ?_) rfl (by kernel_rfl) (by kernel_rfl) (by kernel_rfl) (fun _ _ _ h => h) rfl ?_ hHeld ?_
          rotate_left
          · intro w hSw; (try dsimp only at hSw); go_simp <;> with_reducible rfl
          try simp only [Act.put, List.setIfInBounds_toArray, List.set_cons_zero, List.set_cons_succ]
          refine take_run 13 (v := ?_) rfl (by kernel_rfl) (by kernel_rfl) (by kernel_rfl) (fun _ _ _ h => h) rfl ?_ hHeld ?_
          rotate_left
          · intro w hSw; (try dsimp only at hSw); go_simp <;> with_reducible rfl
          try simp only [Act.put, List.setIfInBounds_toArray, List.set_cons_zero, List.set_cons_succ]
          refine take_run 14 (v := ?_) rfl (by kernel_rfl) (by kernel_rfl) (by kernel_rfl) (fun _ _ _ h => h) rfl ?_ hHeld ?_
          rotate_left
          · intro w hSw; (try dsimp only at hSw); go_simp <;> with_reducible rfl
          try simp only [Act.put, List.setIfInBounds_toArray, List.set_cons_zero, List.set_cons_succ]
          refine take_call 15 rfl (by kernel_rfl) rfl (fun K hK => ?_)
          go_simp
          refine hK.out _ _ ⟨(World.cell?_setCell_other _ _ _ _ d16).trans (keep_cl hy4 k16), (World.cell?_setCell_other _ _ _ _ d7).trans (keep_cl hy4 k7)⟩ (fun hHeld => ?_)
          clear hK K
          try simp only [Act.put, List.setIfInBounds_toArray, List.set_cons_zero, List.set_cons_succ]
          refine wpAnyH_done (by kernel_rfl) ?_ _
          go_wp2
          go_roundw
          case rel => exact ⟨t + 1, by omega, by omega, by go_num, HR.out, below_drewN' (b9.setCell (Nat.le_refl _) _) 1⟩
          case measure => simp [intOf]; omega
        · obtain rfl : t = 64 := by omega
          have hd : decide ((64 : Int) < 64) = false := by decide
          rw [show ((64 : Nat) : Int) = 64 from rfl]
          have hsc : schC l 64 = cells32 (schedW l 64) := by simp [schC, zeros32]
          rw [hsc] at hrow
          have hlen : (cells32 (schedW l 64)).length = 64 := by simp [cells32, schedW_len]
          have hb9 : Below w.heap.size w wr := hb.trans (hbr.mono hg2)
          clear hsc
          have hi87 : (Tryz.prog.info? 449).map (·.size) = some (cells32 (schedW l 64)).length := by rw [hlen]; kernel_rfl
          have hi87' : (Tryz.prog.info? 449).map (·.size) = some (cells32 (schedW l 64)).toArray.size := by simpa using hi87
          have HI := Lib.hid hi87
          have HI2 := Lib.hid hi87'
          clear hi87 hi87' hlen
          go_wp2_with (first
            | (refine wpList_load_row rfl 449 (.tmp 2) rfl g2 rfl 449 (cells32 (schedW l 64)).toArray (0, 0) _ hrow Tryz.underlying449 rfl HI2.out ?_)
            | (refine Row.store (g := g2) (t := 449) (L := cells32 (schedW l 64)) (M := cells32 (schedW l 64)) hrow rfl 449 (.tmp 2) (.tmp 71) rfl rfl rfl HI.out rfl (cells32_one _) ?_; rintro wF hwF rF; have bF : Below w.heap.size w wF := (by rw [hwF]; exact hb9.grown (grown_setRow _ _ _) hb9.size (fun k hk => by cases hk; exact hg2)); clear hwF))
          refine bodyPost_ret (v := .agg (cells32 (schedW l 64)).toArray) (results_cell_row Tryz.results247 _ wF g2 449 _ (0, 0) _ rfl rF Tryz.underlying449 rfl HI2.out) rfl ⟨rfl, bF⟩
end Go.Proofs.YtbkpgmlibiclfaaGreatDoor
