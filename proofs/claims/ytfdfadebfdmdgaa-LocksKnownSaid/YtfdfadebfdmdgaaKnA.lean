/- The walk of LocksKnown. -/
import Derived.Test.YtfdfadebfdmdgaaKnP
import Derived.Test.YtfdfadebfdmdgaaWwA
import Derived.Test.YtfdfadebfdmdgaaTwA
namespace Go.Proofs.Ytfdfadebfdmdgaa
open Go.RowKit

theorem oneT_rd {w : World} {B k : Nat} {A : Option Addr} (h : Rd w B 3 A k (cells3 oneT)) : k = 1 := h.len3

set_option maxRecDepth 100000 in
set_option maxHeartbeats 8000000 in
theorem known_law (w : World) :
    Calls Try.prog 7 #[] w fun e w' => e = .returned (.bool true) ∧ Below w.heap.size w w' := by
  have HK1 := Lib.hid known_take
  have HK2 := Lib.hid known_bad1
  have HK3 := Lib.hid known_bad2
  have HK4 := Lib.hid known_self
  go_enter Try.func7, Try.ntmps7
  go_wp2_with fail
  refine (take_any none 0 0 [] 5 1023 15 _ Rd.none_ (by omega)).mono ?_
  rintro e w1 ⟨A1, m1, rfl, h1, hb2⟩
  rw [HK1.out.1]
  rw [HK1.out.2] at h1
  obtain rfl : m1 = 1 := oneT_rd h1
  obtain ⟨g1, hg1⟩ : ∃ g, g = w.heap.size := ⟨_, rfl⟩
  have q10 : w1.cell? ⟨g1, 0, none⟩ = some (.int .i64 5) := by rw [hg1]; exact cs_ hb2 (by simp) (by simp [go_sem])
  have q11 : w1.cell? ⟨g1, 1, none⟩ = some (.int .i64 1023) := by rw [hg1]; exact cs_ hb2 (by simp) (by simp [go_sem])
  rw [← hg1]
  have hb := below_alloc1 hb2
  clear hb2 hg1
  have l1 : g1 < w1.heap.size := lt_of_cell q10
  obtain ⟨g2, hg2⟩ : ∃ g, g = w1.heap.size := ⟨_, rfl⟩
  go_wp2_with fail
  refine (take_any A1 1 1 oneT 5 1024 15 _ (h1.step ((Below.refl _ _).alloc (Nat.le_refl _) _)) (by omega)).mono ?_
  rintro e w2 ⟨A2, m2, rfl, h2, hb2⟩
  rw [HK2.out.1]
  have q20 : w2.cell? ⟨w1.heap.size, 0, none⟩ = some (.slice A1 1 1) := cs_ hb2 (lt_alloc _ _) (cell_newest _ _ _ 0 rfl)
  rw [← hg2] at q20 ⊢
  have hx := below_alloc1 hb2
  replace q10 := keep_cl hx q10
  replace q11 := keep_cl hx q11
  replace h1 := h1.step hx
  replace hb := hb.trans (hx.mono hb.size)
  clear hb2 hg2 h2 hx l1
  have l1 : g1 < w2.heap.size := lt_of_cell q10
  have l2 : g2 < w2.heap.size := lt_of_cell q20
  go_wp2_with fail
  refine (take_any A1 1 1 oneT 5 1023 16 _ (h1.step ((Below.refl _ _).alloc (Nat.le_refl _) _)) (by omega)).mono ?_
  rintro e w3 ⟨A3, m3, rfl, h3, hb2⟩
  rw [HK3.out.1]
  have hx := below_alloc1 hb2
  replace q10 := keep_cl hx q10
  replace q11 := keep_cl hx q11
  replace q20 := keep_cl hx q20
  replace h1 := h1.step hx
  replace hb := hb.trans (hx.mono hb.size)
  clear hb2 h3 hx l1 l2
  have l1 : g1 < w3.heap.size := lt_of_cell q10
  have l2 : g2 < w3.heap.size := lt_of_cell q20
  go_wp2_with fail
  refine (cycle_any A1 _ 1 1 1 1 oneT [⟨15, 5, 1023⟩] _ (h1.step (al2 (Below.refl _ _) (Nat.le_refl _))) (Rd.lit1 (cs := [.int .i64 15, .int .i64 5, .int .i64 1023]) (by simp) rfl) (by omega) (by omega) (by omega)).mono ?_
  rintro e w4 ⟨A4, m4, rfl, h4, hb2⟩
  rw [HK4.out] at h4
  obtain rfl : m4 = 1 := h4.len1
  have hx := below_alloc2 hb2
  replace hb := hb.trans (hx.mono hb.size)
  clear hb2 hx l1 l2 q10 q11 q20 h1 HK1 HK2 HK3 HK4
  go_wp2_with fail
  refine (ints_any A4 _ 1 1 1 1 [15] [15] _ (h4.step ((Below.refl _ _).alloc (Nat.le_refl _) _)) (Rd.lit1 (cs := [.int .i64 15]) rfl rfl) (by omega) (by omega) (by omega)).mono ?_
  rintro e w5 ⟨rfl, hb2⟩
  rw [ints_one]
  have hx := below_alloc1 hb2
  replace hb := hb.trans (hx.mono hb.size)
  clear hb2 hx h4
  obtain ⟨i0, hi, hz0, hz1, hz2⟩ := info_parts info_wait
  obtain ⟨j0, hj, hy0, hy1, hy2⟩ := info_parts info_int
  obtain ⟨g8, hg8⟩ : ∃ g, g = w5.heap.size := ⟨_, rfl⟩
  have hst8 : (w5.alloc (.cells #[.slice none 0 0] 29)).heap[g8]? = some (.cells #[.slice none 0 0] 29 (0, 0)) := heap_new_at hg8
  have hbs : Below g8 w5 (w5.alloc (.cells #[.slice none 0 0] 29)) := (Below.refl _ _).alloc (Nat.le_of_eq hg8) _
  go_wp2_with fail
  rw [← hg8]
  replace hb : Below w.heap.size w w5 ∧ w.heap.size ≤ g8 := ⟨hb, by rw [hg8]; exact hb.size⟩
  clear hg8
  go_loopw [3, 9, 10, 11] (fun _ v1 v2 i wr => ∃ (k : Nat) (iv : Int) (Ar : Option Addr), k ≤ 16 ∧ i = .int .i64 iv ∧ Hid (iv = 15 - (k : Int)) ∧ Below g8 w5 wr ∧ wr.heap[g8]? = some (.cells #[.slice Ar k k] 29 (0, 0)) ∧ wr.ownsRow (g8 + 1) 67 3 (.slice Ar k k) k (cells3 (ringF k)) ∧ wr.ownsRow (g8 + 1) 45 3 v1 k (cellsW (allF k)) ∧ wr.ownsRow (g8 + 1) 3 1 v2 k (cells1 (wantF k))) (fun _ _ _ i _ => (intOf i + 1).toNat)
  case atStart => exact ⟨0, 15, none, Nat.zero_le _, rfl, rfl, hbs, hst8, World.ownsRow_nil _ _ _ _, World.ownsRow_nil _ _ _ _, World.ownsRow_nil _ _ _ _⟩
  case round =>
    obtain ⟨k, iv, Ar, hk, rfl, hiv, hbr, hc8, hring, hall, hwant⟩ := hrel
    have hs8 : g8 < wr.heap.size := lt_of_block hc8
    have q8 := cell_of_one hc8
    have f8 := free_of_one hc8
    by_cases hlt : k < 16
    · have hge0 : 0 ≤ iv := by have := hiv.out; omega
      have hge1 : iv ≤ 15 := by have := hiv.out; omega
      have hge : decide (iv ≥ 0) = true := by simpa using hge0
      have hrk := ring_ready ⟨k, hlt⟩
      simp only [] at hrk
      rw [← hiv.out] at hrk
      have HR := Lib.hid hrk
      clear hrk
      have HG : Hid (insF (posF 0 iv (ringF k)) ⟨0, iv, iv⟩ (ringF k) = ringF (k + 1)) := by unfold Hid; rw [ringF, ← hiv.out]
      go_wp2_with fail
      refine (take_own Ar k k (ringF k) 0 iv iv _ (Rd.of_own hring) (by omega) HR.out.1 HR.out.2).mono ?_
      rintro e w6 ⟨A6, m6, rfl, h6, hb2⟩
      rw [HG.out] at h6
      obtain rfl : m6 = k + 1 := by have h7 := h6.1; rw [cells3_len, ringF_len] at h7; omega
      have a6 := own_below hall hb2 (Nat.le_refl _)
      have t6 := own_below hwant hb2 (Nat.le_refl _)
      have h6' := own_mono h6 hs8
      have c6 : w6.heap[g8]? = some (.cells #[.slice Ar k k] 29 (0, 0)) := by rw [hb2.block _ hs8]; exact hc8
      have b6 : Below g8 w5 w6 := hbr.trans (hb2.mono (by omega))
      clear h6 hring hall hwant hbr hc8 q8 f8 hb2 hs8
      have hs8 : g8 < w6.heap.size := lt_of_block c6
      have q8 := cell_of_one c6
      have f8 := free_of_one c6
      have hne : ∀ {v : Value} {e s n : Nat} {xs : List Value}, w6.ownsRow (g8 + 1) e s v n xs → v.ownBlock ≠ some g8 := fun h e2 => by have := (h.lt _ e2).1; omega
      have r7 := (ownsRow_setCell_other h6' (a := ⟨g8, 0, none⟩) (hne h6') (.slice A6 (k + 1) (k + 1)))
      have a7 := (ownsRow_setCell_other a6 (a := ⟨g8, 0, none⟩) (hne a6) (.slice A6 (k + 1) (k + 1)))
      have t7 := (ownsRow_setCell_other t6 (a := ⟨g8, 0, none⟩) (hne t6) (.slice A6 (k + 1) (k + 1)))
      have c7 := one_setCell (u := .slice A6 (k + 1) (k + 1)) c6
      have b7 : Below g8 w5 (w6.setCell ⟨g8, 0, none⟩ (.slice A6 (k + 1) (k + 1))) := b6.setCell (Nat.le_refl _) _
      have HA : Hid (cellsW (allF (k + 1)) = cellsW (allF k) ++ [.int .i64 iv, .int .i64 0, .int .i64 ((iv + 1) % 16)]) := by
        unfold Hid
        rw [allF, cellsW_app, ← hiv.out, show (16 - (k : Int)) = iv + 1 by have := hiv.out; omega]; rfl
      have HWT : Hid (cells1 (wantF (k + 1)) = cells1 (wantF k) ++ [.int .i64 (15 - iv)]) := by
        unfold Hid
        rw [wantF, show (15 - iv) = (k : Int) by have := hiv.out; omega]; simp [cells1]
      have HIV : Hid (iv - 1 = 15 - ((k + 1 : Nat) : Int)) := by unfold Hid; have := hiv.out; omega
      obtain ⟨w7, hw7⟩ : ∃ w7, w7 = w6.setCell ⟨g8, 0, none⟩ (.slice A6 (k + 1) (k + 1)) := ⟨_, rfl⟩
      rw [← hw7] at r7 a7 t7 c7 b7
      go_upto_region 16 with (fail)
      rw [← hw7]
      clear hw7 hne q8 f8 c6 b6 h6' a6 t6 hs8 HR HG hiv
      have s7 : g8 < w7.heap.size := lt_of_block c7
      go_wp2_with (at_builtin; refine wpList_append_rd _ rfl (.tmp 68) (.tmp 75) _ rfl (g8 + 1) 45 i0 _ 3 24 Try.underlying31 hi hz0 hz1 hz2 rfl (by decide) _ _ _ rfl (a7.alloc _) _ _ 1 _ [.int .i64 iv, .int .i64 0, .int .i64 ((iv + 1) % 16)] rfl (Rd.lit1 ?c0 rfl) ?c1 ?c2 ?c3 ?c4 ?_)
      case c0 => first | rfl | simp
      case c1 => intro u hu; simp at hu; rcases hu with rfl | rfl | rfl <;> rfl
      case c2 => unfold maxLen; omega
      case c3 => omega
      case c4 => simp; omega
      intro v8 w8 a8 hgrow _
      have B8 := below_grown (Below.refl (g8 + 1) _) hgrow (by simp; omega) (a7.alloc _)
      have r8 := own_kept (r7.alloc _) hgrow (own_apart r7 a7 (by decide))
      have t8 := own_kept (t7.alloc _) hgrow (own_apart t7 a7 (by decide))
      have c8 : w8.heap[g8]? = some (.cells #[.slice A6 (k + 1) (k + 1)] 29 (0, 0)) := by
        rw [B8.block g8 (by omega), ((Below.refl _ w7).alloc (Nat.le_refl _) _).block g8 s7]; exact c7
      have b8 := (b7.alloc (by omega) _).trans (B8.mono (Nat.le_succ _))
      rw [← HA.out] at a8
      clear hgrow B8 r7 a7 t7 c7 b7 s7 HA
      have s8 : g8 < w8.heap.size := lt_of_block c8
      go_upto_region 17 with (fail)
      go_wp2_with (at_builtin; refine wpList_append_rd _ rfl (.tmp 77) (.tmp 80) _ rfl (g8 + 1) 3 j0 _ 1 8 Try.underlying33 hj hy0 hy1 hy2 rfl (by decide) _ _ _ rfl (t8.alloc _) _ _ 1 _ [.int .i64 (15 - iv)] rfl (Rd.lit1 ?c0 rfl) ?c1 ?c2 ?c3 ?c4 ?_)
      case c0 => first | rfl | simp
      case c1 => intro u hu; simp at hu; rcases hu with rfl; rfl
      case c2 => unfold maxLen; omega
      case c3 => omega
      case c4 => simp; omega
      intro v9 w9 t9 hgrow _
      have B9 := below_grown (Below.refl (g8 + 1) _) hgrow (by simp; omega) (t8.alloc _)
      have r9 := own_kept (r8.alloc _) hgrow (own_apart r8 t8 (by decide))
      have a9 := own_kept (a8.alloc _) hgrow (own_apart a8 t8 (by decide))
      have c9 : w9.heap[g8]? = some (.cells #[.slice A6 (k + 1) (k + 1)] 29 (0, 0)) := by
        rw [B9.block g8 (by omega), ((Below.refl _ w8).alloc (Nat.le_refl _) _).block g8 s8]; exact c8
      have b9 := (b8.alloc (by omega) _).trans (B9.mono (Nat.le_succ _))
      rw [← HWT.out] at t9
      clear hgrow B9 r8 a8 t8 c8 b8 s8 HWT
      go_wp2
      go_roundw
      case rel => exact ⟨k + 1, iv - 1, A6, by omega, by go_num, HIV, b9, c9, r9, a9, t9⟩
      case measure => simp [intOf]; omega
    · obtain rfl : k = 16 := by omega
      have hge : decide (iv ≥ 0) = false := by have := hiv.out; simp; omega
      have hrt := Rd.of_own hring
      obtain ⟨Aa, ca, rfl, hca, hra⟩ := own_slice hall
      obtain ⟨Av, cv, rfl, hcv, hrv⟩ := own_slice hwant
      obtain ⟨ad, rfl, _⟩ := hra.2 (by omega)
      have q8 := cell_of_one hc8
      have hbw : Below w.heap.size w wr := hb.1.trans (hbr.mono hb.2)
      have hra1 := hra.dropW 1 15 rfl (by omega)
      have HK5 := Lib.hid known_ring
      have hck : ¬ ca = 1 := by omega
      have hck2 : (1 : Int) ≤ (ca : Int) := by omega
      clear hring hall hwant hc8 hbr hb hst8 hbs f8
      go_upto_region 18 with (fail)
      have hself : Below wr.heap.size wr wr.drew := below_drewN' (Below.refl _ _) 1
      refine wp_region_held_drew (S := (fun w' => w'.cell? ⟨g8, 0, none⟩ = some (.slice Ar 16 16))) (by kernel_rfl) (keep_cl hself q8) (fun hHeld => ?_)
      refine take_run 0 (v := ?_) rfl (by kernel_rfl) (by kernel_rfl) (by kernel_rfl) (fun _ _ _ h => h) rfl ?_ hHeld ?_
      rotate_left
      · intro w hSw; (try dsimp only at hSw); go_simp <;> with_reducible rfl
      try simp only [Act.put, List.setIfInBounds_toArray, List.set_cons_zero, List.set_cons_succ]
      refine take_run 1 (v := ?_) rfl (by kernel_rfl) (by kernel_rfl) (by kernel_rfl) (fun _ _ _ h => h) rfl ?_ hHeld ?_
      rotate_left
      · intro w hSw; (try dsimp only at hSw); go_simp <;> with_reducible rfl
      try simp only [Act.put, List.setIfInBounds_toArray, List.set_cons_zero, List.set_cons_succ]
      refine take_run 3 (v := ?_) rfl (by kernel_rfl) (by kernel_rfl) (by kernel_rfl) (fun _ _ _ h => h) rfl ?_ hHeld ?_
      rotate_left
      · intro w hSw; (try dsimp only at hSw); go_simp <;> with_reducible rfl
      try simp only [Act.put, List.setIfInBounds_toArray, List.set_cons_zero, List.set_cons_succ]
      refine take_call 2 rfl (by kernel_rfl) rfl (fun K hK => ?_)
      go_simp
      refine (cycle_any Ar _ 16 16 16 ca (ringF 16) (allF 16) _ (hrt.step hself) (hra.step hself) (by omega) (by omega) hca).mono ?_
      rintro e w10 ⟨A10, m10, rfl, h10, hbx⟩
      rw [HK5.out.1] at h10
      obtain rfl : m10 = 16 := h10.len1
      have hy10 : Below wr.heap.size wr w10 := below_nx hself hbx
      try dsimp only
      refine hK.out _ _ (keep_cl hy10 q8) (fun hHeld => ?_)
      clear hK K
      try simp only [Act.put, List.setIfInBounds_toArray, List.set_cons_zero, List.set_cons_succ]
      refine take_call 4 rfl (by kernel_rfl) rfl (fun K hK => ?_)
      go_simp
      refine (ints_any A10 Av 16 16 16 cv _ _ _ h10 (hrv.step hy10) (by omega) (by omega) (by omega)).mono ?_
      rintro e w11 ⟨rfl, hbx⟩
      rw [ints_one]
      have hy11 : Below wr.heap.size wr w11 := below_nx hy10 hbx
      try dsimp only
      refine hK.out _ _ (keep_cl hy11 q8) (fun hHeld => ?_)
      clear hK K
      try simp only [Act.put, List.setIfInBounds_toArray, List.set_cons_zero, List.set_cons_succ]
      refine take_run 5 (v := ?_) rfl (by kernel_rfl) (by kernel_rfl) (by kernel_rfl) (fun _ _ _ h => h) rfl ?_ hHeld ?_
      rotate_left
      · intro w hSw; (try dsimp only at hSw); go_simp <;> with_reducible rfl
      try simp only [Act.put, List.setIfInBounds_toArray, List.set_cons_zero, List.set_cons_succ]
      refine take_run 6 (v := ?_) rfl (by kernel_rfl) (by kernel_rfl) (by kernel_rfl) (fun _ _ _ h => h) rfl ?_ hHeld ?_
      rotate_left
      · intro w hSw; (try dsimp only at hSw); go_simp <;> with_reducible rfl
      try simp only [Act.put, List.setIfInBounds_toArray, List.set_cons_zero, List.set_cons_succ]
      refine take_run 7 (v := ?_) rfl (by kernel_rfl) (by kernel_rfl) (by kernel_rfl) (fun _ _ _ h => h) rfl ?_ hHeld ?_
      rotate_left
      · intro w hSw; (try dsimp only at hSw); go_simp <;> with_reducible rfl
      try simp only [Act.put, List.setIfInBounds_toArray, List.set_cons_zero, List.set_cons_succ]
      refine take_run 8 (v := ?_) rfl (by kernel_rfl) (by kernel_rfl) (by kernel_rfl) (fun _ _ _ h => h) rfl ?_ hHeld ?_
      rotate_left
      · intro w hSw; (try dsimp only at hSw); go_simp <;> with_reducible rfl
      try simp only [Act.put, List.setIfInBounds_toArray, List.set_cons_zero, List.set_cons_succ]
      refine take_run 9 (v := ?_) rfl (by kernel_rfl) (by kernel_rfl) (by kernel_rfl) (fun _ _ _ h => h) rfl ?_ hHeld ?_
      rotate_left
      · intro w hSw; (try dsimp only at hSw); go_simp <;> with_reducible rfl
      try simp only [Act.put, List.setIfInBounds_toArray, List.set_cons_zero, List.set_cons_succ]
      refine take_call 10 rfl (by kernel_rfl) rfl (fun K hK => ?_)
      go_simp
      refine (cycle_any Ar _ 16 16 15 _ (ringF 16) ((allF 16).drop 1) _ (hrt.step hy11) (hra1.step hy11) (by omega) (by omega) (by omega)).mono ?_
      rintro e w12 ⟨A12, m12, rfl, h12, hbx⟩
      rw [HK5.out.2.1] at h12
      obtain rfl : m12 = 0 := h12.len1
      have hy12 : Below wr.heap.size wr w12 := below_nx hy11 hbx
      try dsimp only
      refine hK.out _ _ (keep_cl hy12 q8) (fun hHeld => ?_)
      clear hK K
      try simp only [Act.put, List.setIfInBounds_toArray, List.set_cons_zero, List.set_cons_succ]
      refine take_run 11 (v := ?_) rfl (by kernel_rfl) (by kernel_rfl) (by kernel_rfl) (fun _ _ _ h => h) rfl ?_ hHeld ?_
      rotate_left
      · intro w hSw; (try dsimp only at hSw); go_simp <;> with_reducible rfl
      try simp only [Act.put, List.setIfInBounds_toArray, List.set_cons_zero, List.set_cons_succ]
      refine take_run 12 (v := ?_) rfl (by kernel_rfl) (by kernel_rfl) (by kernel_rfl) (fun _ _ _ h => h) rfl ?_ hHeld ?_
      rotate_left
      · intro w hSw; (try dsimp only at hSw); go_simp <;> with_reducible rfl
      try simp only [Act.put, List.setIfInBounds_toArray, List.set_cons_zero, List.set_cons_succ]
      refine take_run 13 (v := ?_) rfl (by kernel_rfl) (by kernel_rfl) (by kernel_rfl) (fun _ _ _ h => h) rfl ?_ hHeld ?_
      rotate_left
      · intro w hSw; (try dsimp only at hSw); go_simp <;> with_reducible rfl
      try simp only [Act.put, List.setIfInBounds_toArray, List.set_cons_zero, List.set_cons_succ]
      refine take_run 14 (v := ?_) rfl (by kernel_rfl) (by kernel_rfl) (by kernel_rfl) (fun _ _ _ h => h) rfl ?_ hHeld ?_
      rotate_left
      · intro w hSw; (try dsimp only at hSw); go_simp <;> with_reducible rfl
      try simp only [Act.put, List.setIfInBounds_toArray, List.set_cons_zero, List.set_cons_succ]
      refine take_run 15 (v := ?_) rfl (by kernel_rfl) (by kernel_rfl) (by kernel_rfl) (fun _ _ _ h => h) rfl ?_ hHeld ?_
      rotate_left
      · intro w hSw; (try dsimp only at hSw); go_simp <;> with_reducible rfl
      try simp only [Act.put, List.setIfInBounds_toArray, List.set_cons_zero, List.set_cons_succ]
      refine take_run 16 (v := ?_) rfl (by kernel_rfl) (by kernel_rfl) (by kernel_rfl) (fun _ _ _ h => h) rfl ?_ hHeld ?_
      rotate_left
      · intro w hSw; (try dsimp only at hSw); go_simp <;> with_reducible rfl
      try simp only [Act.put, List.setIfInBounds_toArray, List.set_cons_zero, List.set_cons_succ]
      refine take_call 17 rfl (by kernel_rfl) rfl (fun K hK => ?_)
      go_simp
      refine (upward_any Ar _ 16 16 16 ca (ringF 16) (allF 16) _ (hrt.step hy12) (hra.step hy12) (by omega) (by omega) hca).mono ?_
      rintro e w13 ⟨rfl, hbx⟩
      rw [HK5.out.2.2]
      have hy13 : Below wr.heap.size wr w13 := below_nx hy12 hbx
      try dsimp only
      refine hK.out _ _ (keep_cl hy13 q8) (fun hHeld => ?_)
      clear hK K
      try simp only [Act.put, List.setIfInBounds_toArray, List.set_cons_zero, List.set_cons_succ]
      refine take_run 18 (v := ?_) rfl (by kernel_rfl) (by kernel_rfl) (by kernel_rfl) (fun _ _ _ h => h) rfl ?_ hHeld ?_
      rotate_left
      · intro w hSw; (try dsimp only at hSw); go_simp <;> with_reducible rfl
      try simp only [Act.put, List.setIfInBounds_toArray, List.set_cons_zero, List.set_cons_succ]
      refine wpAnyH_done (by kernel_rfl) ?_ _
      replace hbw := hbw.trans (hy13.mono hbw.size)
      replace q8 := keep_cl hy13 q8
      replace hrt := hrt.step hy13
      clear hHeld hself hy10 hy11 hy12 hy13 hbx h10 h12 hra hra1 hrv HK5 hck hck2
      have HK6 := Lib.hid known_two
      obtain ⟨wv, hwv⟩ : ∃ wv, wv = w13.alloc (.cells #[.int .i64 3, .int .i64 0, .int .i64 2, .int .i64 2, .int .i64 0, .int .i64 3, .int .i64 5, .int .i64 0, .int .i64 2, .int .i64 9, .int .i64 0, .int .i64 0, .int .i64 0, .int .i64 0, .int .i64 9] 45) := ⟨_, rfl⟩
      obtain ⟨g12, hg12⟩ : ∃ g, g = w13.heap.size := ⟨_, rfl⟩
      go_upto_region 21 with (fail)
      rw [← hwv, ← hg12]
      have hx : Below w13.heap.size w13 wv := by rw [hwv]; exact (Below.refl _ _).alloc (Nat.le_refl _) _
      have htwo : Rd wv wv.heap.size 3 (some ⟨g12, 0, none⟩) 5 (cellsW twoW) := by rw [hwv]; exact Rd.lit1 (cs := [.int .i64 3, .int .i64 0, .int .i64 2, .int .i64 2, .int .i64 0, .int .i64 3, .int .i64 5, .int .i64 0, .int .i64 2, .int .i64 9, .int .i64 0, .int .i64 0, .int .i64 0, .int .i64 0, .int .i64 9]) hg12 rfl
      replace q8 := keep_cl hx q8
      replace hrt := hrt.step hx
      replace hbw := hbw.trans (hx.mono hbw.size)
      clear hx hwv hg12
      have hself : Below wv.heap.size wv wv.drew := below_drewN' (Below.refl _ _) 1
      have htwo4 : Rd wv wv.heap.size 3 (some ⟨g12, 0, none⟩) 4 (cellsW (twoW.take 4)) := htwo.takeW (by omega)
      go_cut [126] (fun s wx => s = .bool false ∧ Below wv.heap.size wv wx)
      case first =>
        refine wp_region_held_drew (S := (fun w' => w'.cell? ⟨g8, 0, none⟩ = some (.slice Ar 16 16))) (by kernel_rfl) (keep_cl hself q8) (fun hHeld => ?_)
        refine take_run 0 (v := ?_) rfl (by kernel_rfl) (by kernel_rfl) (by kernel_rfl) (fun _ _ _ h => h) rfl ?_ hHeld ?_
        rotate_left
        · intro w hSw; (try dsimp only at hSw); go_simp <;> with_reducible rfl
        try simp only [Act.put, List.setIfInBounds_toArray, List.set_cons_zero, List.set_cons_succ]
        refine take_run 1 (v := ?_) rfl (by kernel_rfl) (by kernel_rfl) (by kernel_rfl) (fun _ _ _ h => h) rfl ?_ hHeld ?_
        rotate_left
        · intro w hSw; (try dsimp only at hSw); go_simp <;> with_reducible rfl
        try simp only [Act.put, List.setIfInBounds_toArray, List.set_cons_zero, List.set_cons_succ]
        refine take_two 2 3 rfl rfl (by kernel_rfl) rfl rfl (fun K hK => ?_) (fun K hK => ?_)
        · go_simp
          refine (cycle_any Ar _ 16 16 5 5 (ringF 16) twoW _ (hrt.step hself) (htwo.step hself) (by omega) (by omega) (by omega)).mono ?_
          rintro e wcx ⟨A14, m14, rfl, h14, hbx⟩
          rw [HK6.out.1] at h14
          obtain rfl : m14 = 2 := h14.len1
          have hywcx : Below wv.heap.size wv wcx := below_nx hself hbx
          try dsimp only
          refine hK.out _ _ (keep_cl hywcx q8) (fun hHeld => ?_)
          clear hK K
          try simp only [Act.put, List.setIfInBounds_toArray, List.set_cons_zero, List.set_cons_succ]
          refine take_call 3 rfl (by kernel_rfl) rfl (fun K hK => ?_)
          go_simp
          refine hK.out _ _ (keep_cl (hywcx.alloc hywcx.size (.cells #[.int .i64 0, .int .i64 9] 3)) q8) (fun hHeld => ?_)
          clear hK K
          try simp only [Act.put, List.setIfInBounds_toArray, List.set_cons_zero, List.set_cons_succ]
          refine take_call 4 rfl (by kernel_rfl) rfl (fun K hK => ?_)
          go_simp
          refine (ints_any A14 _ 2 2 2 2 [0, 9] [0, 9] _ (h14.step ((Below.refl _ _).alloc (Nat.le_refl _) _)) (Rd.lit1 (cs := [.int .i64 0, .int .i64 9]) rfl rfl) (by omega) (by omega) (by omega)).mono ?_
          rintro e wix ⟨rfl, hbx⟩
          rw [ints_one]
          have hywix : Below wv.heap.size wv wix := hywcx.trans ((below_alloc1 hbx).mono hywcx.size)
          try dsimp only
          refine hK.out _ _ (keep_cl hywix q8) (fun hHeld => ?_)
          clear hK K
          try simp only [Act.put, List.setIfInBounds_toArray, List.set_cons_zero, List.set_cons_succ]
          refine take_run 5 (v := ?_) rfl (by kernel_rfl) (by kernel_rfl) (by kernel_rfl) (fun _ _ _ h => h) rfl ?_ hHeld ?_
          rotate_left
          · intro w hSw; (try dsimp only at hSw); go_simp <;> with_reducible rfl
          try simp only [Act.put, List.setIfInBounds_toArray, List.set_cons_zero, List.set_cons_succ]
          refine take_run 6 (v := ?_) rfl (by kernel_rfl) (by kernel_rfl) (by kernel_rfl) (fun _ _ _ h => h) rfl ?_ hHeld ?_
          rotate_left
          · intro w hSw; (try dsimp only at hSw); go_simp <;> with_reducible rfl
          try simp only [Act.put, List.setIfInBounds_toArray, List.set_cons_zero, List.set_cons_succ]
          refine take_run 7 (v := ?_) rfl (by kernel_rfl) (by kernel_rfl) (by kernel_rfl) (fun _ _ _ h => h) rfl ?_ hHeld ?_
          rotate_left
          · intro w hSw; (try dsimp only at hSw); go_simp <;> with_reducible rfl
          try simp only [Act.put, List.setIfInBounds_toArray, List.set_cons_zero, List.set_cons_succ]
          refine take_run 8 (v := ?_) rfl (by kernel_rfl) (by kernel_rfl) (by kernel_rfl) (fun _ _ _ h => h) rfl ?_ hHeld ?_
          rotate_left
          · intro w hSw; (try dsimp only at hSw); go_simp <;> with_reducible rfl
          try simp only [Act.put, List.setIfInBounds_toArray, List.set_cons_zero, List.set_cons_succ]
          refine take_run 9 (v := ?_) rfl (by kernel_rfl) (by kernel_rfl) (by kernel_rfl) (fun _ _ _ h => h) rfl ?_ hHeld ?_
          rotate_left
          · intro w hSw; (try dsimp only at hSw); go_simp <;> with_reducible rfl
          try simp only [Act.put, List.setIfInBounds_toArray, List.set_cons_zero, List.set_cons_succ]
          clear h14 hbx
          refine take_two 10 11 rfl rfl (by kernel_rfl) rfl rfl (fun K hK => ?_) (fun K hK => ?_)
          · go_simp
            refine (cycle_any Ar _ 16 16 4 5 (ringF 16) (twoW.take 4) _ (hrt.step hywix) (htwo4.step hywix) (by omega) (by omega) (by omega)).mono ?_
            rintro e wcy ⟨A14, m14, rfl, h14, hbx⟩
            rw [HK6.out.2] at h14
            obtain rfl : m14 = 2 := h14.len1
            have hywcy : Below wv.heap.size wv wcy := below_nx hywix hbx
            try dsimp only
            refine hK.out _ _ (keep_cl hywcy q8) (fun hHeld => ?_)
            clear hK K
            try simp only [Act.put, List.setIfInBounds_toArray, List.set_cons_zero, List.set_cons_succ]
            refine take_call 11 rfl (by kernel_rfl) rfl (fun K hK => ?_)
            go_simp
            refine hK.out _ _ (keep_cl (hywcy.alloc hywcy.size (.cells #[.int .i64 2, .int .i64 3] 3)) q8) (fun hHeld => ?_)
            clear hK K
            try simp only [Act.put, List.setIfInBounds_toArray, List.set_cons_zero, List.set_cons_succ]
            refine take_call 12 rfl (by kernel_rfl) rfl (fun K hK => ?_)
            go_simp
            refine (ints_any A14 _ 2 2 2 2 [2, 3] [2, 3] _ (h14.step ((Below.refl _ _).alloc (Nat.le_refl _) _)) (Rd.lit1 (cs := [.int .i64 2, .int .i64 3]) rfl rfl) (by omega) (by omega) (by omega)).mono ?_
            rintro e wiy ⟨rfl, hbx⟩
            rw [ints_one]
            have hywiy : Below wv.heap.size wv wiy := hywcy.trans ((below_alloc1 hbx).mono hywcy.size)
            try dsimp only
            refine hK.out _ _ (keep_cl hywiy q8) (fun hHeld => ?_)
            clear hK K
            try simp only [Act.put, List.setIfInBounds_toArray, List.set_cons_zero, List.set_cons_succ]
            refine take_run 13 (v := ?_) rfl (by kernel_rfl) (by kernel_rfl) (by kernel_rfl) (fun _ _ _ h => h) rfl ?_ hHeld ?_
            rotate_left
            · intro w hSw; (try dsimp only at hSw); go_simp <;> with_reducible rfl
            try simp only [Act.put, List.setIfInBounds_toArray, List.set_cons_zero, List.set_cons_succ]
            refine take_run 14 (v := ?_) rfl (by kernel_rfl) (by kernel_rfl) (by kernel_rfl) (fun _ _ _ h => h) rfl ?_ hHeld ?_
            rotate_left
            · intro w hSw; (try dsimp only at hSw); go_simp <;> with_reducible rfl
            try simp only [Act.put, List.setIfInBounds_toArray, List.set_cons_zero, List.set_cons_succ]
            refine wpAnyH_done (by kernel_rfl) ?_ _
            go_wp2
            go_meet
            case rel => exact ⟨rfl, hywiy⟩
          · have hBy : Below wv.heap.size wv (wix.alloc (.cells #[.int .i64 2, .int .i64 3] 3)) := hywix.alloc hywix.size _
            go_simp
            refine hK.out _ _ (keep_cl hBy q8) (fun hHeld => ?_)
            clear hK K
            try simp only [Act.put, List.setIfInBounds_toArray, List.set_cons_zero, List.set_cons_succ]
            refine take_call 10 rfl (by kernel_rfl) rfl (fun K hK => ?_)
            go_simp
            refine (cycle_any Ar _ 16 16 4 5 (ringF 16) (twoW.take 4) _ (hrt.step hBy) (htwo4.step hBy) (by omega) (by omega) (by omega)).mono ?_
            rintro e wcy ⟨A14, m14, rfl, h14, hbx⟩
            rw [HK6.out.2] at h14
            obtain rfl : m14 = 2 := h14.len1
            have hlit := Rd.step (w := (wix.alloc (.cells #[.int .i64 2, .int .i64 3] 3))) (size := 1) (A := some ⟨wix.heap.size, 0, none⟩) (n := 2) (xs := [.int .i64 2, .int .i64 3]) (Rd.lit1 rfl rfl) hbx
            have hywcy : Below wv.heap.size wv wcy := below_nx hBy hbx
            try dsimp only
            refine hK.out _ _ (keep_cl hywcy q8) (fun hHeld => ?_)
            clear hK K
            try simp only [Act.put, List.setIfInBounds_toArray, List.set_cons_zero, List.set_cons_succ]
            refine take_call 12 rfl (by kernel_rfl) rfl (fun K hK => ?_)
            go_simp
            refine (ints_any A14 _ 2 2 2 2 [2, 3] [2, 3] _ h14 hlit (by omega) (by omega) (by omega)).mono ?_
            rintro e wiy ⟨rfl, hbx⟩
            rw [ints_one]
            have hywiy : Below wv.heap.size wv wiy := below_nx hywcy hbx
            try dsimp only
            refine hK.out _ _ (keep_cl hywiy q8) (fun hHeld => ?_)
            clear hK K
            try simp only [Act.put, List.setIfInBounds_toArray, List.set_cons_zero, List.set_cons_succ]
            refine take_run 13 (v := ?_) rfl (by kernel_rfl) (by kernel_rfl) (by kernel_rfl) (fun _ _ _ h => h) rfl ?_ hHeld ?_
            rotate_left
            · intro w hSw; (try dsimp only at hSw); go_simp <;> with_reducible rfl
            try simp only [Act.put, List.setIfInBounds_toArray, List.set_cons_zero, List.set_cons_succ]
            refine take_run 14 (v := ?_) rfl (by kernel_rfl) (by kernel_rfl) (by kernel_rfl) (fun _ _ _ h => h) rfl ?_ hHeld ?_
            rotate_left
            · intro w hSw; (try dsimp only at hSw); go_simp <;> with_reducible rfl
            try simp only [Act.put, List.setIfInBounds_toArray, List.set_cons_zero, List.set_cons_succ]
            refine wpAnyH_done (by kernel_rfl) ?_ _
            go_wp2
            go_meet
            case rel => exact ⟨rfl, hywiy⟩
        · have hBx : Below wv.heap.size wv (wv.alloc (.cells #[.int .i64 0, .int .i64 9] 3)).drew := below_drewN' ((Below.refl _ wv).alloc (Nat.le_refl _) _) 1
          go_simp
          refine hK.out _ _ (keep_cl hBx q8) (fun hHeld => ?_)
          clear hK K
          try simp only [Act.put, List.setIfInBounds_toArray, List.set_cons_zero, List.set_cons_succ]
          refine take_call 2 rfl (by kernel_rfl) rfl (fun K hK => ?_)
          go_simp
          refine (cycle_any Ar _ 16 16 5 5 (ringF 16) twoW _ (hrt.step hBx) (htwo.step hBx) (by omega) (by omega) (by omega)).mono ?_
          rintro e wcx ⟨A14, m14, rfl, h14, hbx⟩
          rw [HK6.out.1] at h14
          obtain rfl : m14 = 2 := h14.len1
          have hlit := Rd.step (w := (wv.alloc (.cells #[.int .i64 0, .int .i64 9] 3)).drew) (size := 1) (A := some ⟨wv.heap.size, 0, none⟩) (n := 2) (xs := [.int .i64 0, .int .i64 9]) (Rd.lit1 rfl rfl) hbx
          have hywcx : Below wv.heap.size wv wcx := below_nx hBx hbx
          try dsimp only
          refine hK.out _ _ (keep_cl hywcx q8) (fun hHeld => ?_)
          clear hK K
          try simp only [Act.put, List.setIfInBounds_toArray, List.set_cons_zero, List.set_cons_succ]
          refine take_call 4 rfl (by kernel_rfl) rfl (fun K hK => ?_)
          go_simp
          refine (ints_any A14 _ 2 2 2 2 [0, 9] [0, 9] _ h14 hlit (by omega) (by omega) (by omega)).mono ?_
          rintro e wix ⟨rfl, hbx⟩
          rw [ints_one]
          have hywix : Below wv.heap.size wv wix := below_nx hywcx hbx
          try dsimp only
          refine hK.out _ _ (keep_cl hywix q8) (fun hHeld => ?_)
          clear hK K
          try simp only [Act.put, List.setIfInBounds_toArray, List.set_cons_zero, List.set_cons_succ]
          refine take_run 5 (v := ?_) rfl (by kernel_rfl) (by kernel_rfl) (by kernel_rfl) (fun _ _ _ h => h) rfl ?_ hHeld ?_
          rotate_left
          · intro w hSw; (try dsimp only at hSw); go_simp <;> with_reducible rfl
          try simp only [Act.put, List.setIfInBounds_toArray, List.set_cons_zero, List.set_cons_succ]
          refine take_run 6 (v := ?_) rfl (by kernel_rfl) (by kernel_rfl) (by kernel_rfl) (fun _ _ _ h => h) rfl ?_ hHeld ?_
          rotate_left
          · intro w hSw; (try dsimp only at hSw); go_simp <;> with_reducible rfl
          try simp only [Act.put, List.setIfInBounds_toArray, List.set_cons_zero, List.set_cons_succ]
          refine take_run 7 (v := ?_) rfl (by kernel_rfl) (by kernel_rfl) (by kernel_rfl) (fun _ _ _ h => h) rfl ?_ hHeld ?_
          rotate_left
          · intro w hSw; (try dsimp only at hSw); go_simp <;> with_reducible rfl
          try simp only [Act.put, List.setIfInBounds_toArray, List.set_cons_zero, List.set_cons_succ]
          refine take_run 8 (v := ?_) rfl (by kernel_rfl) (by kernel_rfl) (by kernel_rfl) (fun _ _ _ h => h) rfl ?_ hHeld ?_
          rotate_left
          · intro w hSw; (try dsimp only at hSw); go_simp <;> with_reducible rfl
          try simp only [Act.put, List.setIfInBounds_toArray, List.set_cons_zero, List.set_cons_succ]
          refine take_run 9 (v := ?_) rfl (by kernel_rfl) (by kernel_rfl) (by kernel_rfl) (fun _ _ _ h => h) rfl ?_ hHeld ?_
          rotate_left
          · intro w hSw; (try dsimp only at hSw); go_simp <;> with_reducible rfl
          try simp only [Act.put, List.setIfInBounds_toArray, List.set_cons_zero, List.set_cons_succ]
          clear h14 hbx hlit
          refine take_two 10 11 rfl rfl (by kernel_rfl) rfl rfl (fun K hK => ?_) (fun K hK => ?_)
          · go_simp
            refine (cycle_any Ar _ 16 16 4 5 (ringF 16) (twoW.take 4) _ (hrt.step hywix) (htwo4.step hywix) (by omega) (by omega) (by omega)).mono ?_
            rintro e wcy ⟨A14, m14, rfl, h14, hbx⟩
            rw [HK6.out.2] at h14
            obtain rfl : m14 = 2 := h14.len1
            have hywcy : Below wv.heap.size wv wcy := below_nx hywix hbx
            try dsimp only
            refine hK.out _ _ (keep_cl hywcy q8) (fun hHeld => ?_)
            clear hK K
            try simp only [Act.put, List.setIfInBounds_toArray, List.set_cons_zero, List.set_cons_succ]
            refine take_call 11 rfl (by kernel_rfl) rfl (fun K hK => ?_)
            go_simp
            refine hK.out _ _ (keep_cl (hywcy.alloc hywcy.size (.cells #[.int .i64 2, .int .i64 3] 3)) q8) (fun hHeld => ?_)
            clear hK K
            try simp only [Act.put, List.setIfInBounds_toArray, List.set_cons_zero, List.set_cons_succ]
            refine take_call 12 rfl (by kernel_rfl) rfl (fun K hK => ?_)
            go_simp
            refine (ints_any A14 _ 2 2 2 2 [2, 3] [2, 3] _ (h14.step ((Below.refl _ _).alloc (Nat.le_refl _) _)) (Rd.lit1 (cs := [.int .i64 2, .int .i64 3]) rfl rfl) (by omega) (by omega) (by omega)).mono ?_
            rintro e wiy ⟨rfl, hbx⟩
            rw [ints_one]
            have hywiy : Below wv.heap.size wv wiy := hywcy.trans ((below_alloc1 hbx).mono hywcy.size)
            try dsimp only
            refine hK.out _ _ (keep_cl hywiy q8) (fun hHeld => ?_)
            clear hK K
            try simp only [Act.put, List.setIfInBounds_toArray, List.set_cons_zero, List.set_cons_succ]
            refine take_run 13 (v := ?_) rfl (by kernel_rfl) (by kernel_rfl) (by kernel_rfl) (fun _ _ _ h => h) rfl ?_ hHeld ?_
            rotate_left
            · intro w hSw; (try dsimp only at hSw); go_simp <;> with_reducible rfl
            try simp only [Act.put, List.setIfInBounds_toArray, List.set_cons_zero, List.set_cons_succ]
            refine take_run 14 (v := ?_) rfl (by kernel_rfl) (by kernel_rfl) (by kernel_rfl) (fun _ _ _ h => h) rfl ?_ hHeld ?_
            rotate_left
            · intro w hSw; (try dsimp only at hSw); go_simp <;> with_reducible rfl
            try simp only [Act.put, List.setIfInBounds_toArray, List.set_cons_zero, List.set_cons_succ]
            refine wpAnyH_done (by kernel_rfl) ?_ _
            go_wp2
            go_meet
            case rel => exact ⟨rfl, hywiy⟩
          · have hBy : Below wv.heap.size wv (wix.alloc (.cells #[.int .i64 2, .int .i64 3] 3)) := hywix.alloc hywix.size _
            go_simp
            refine hK.out _ _ (keep_cl hBy q8) (fun hHeld => ?_)
            clear hK K
            try simp only [Act.put, List.setIfInBounds_toArray, List.set_cons_zero, List.set_cons_succ]
            refine take_call 10 rfl (by kernel_rfl) rfl (fun K hK => ?_)
            go_simp
            refine (cycle_any Ar _ 16 16 4 5 (ringF 16) (twoW.take 4) _ (hrt.step hBy) (htwo4.step hBy) (by omega) (by omega) (by omega)).mono ?_
            rintro e wcy ⟨A14, m14, rfl, h14, hbx⟩
            rw [HK6.out.2] at h14
            obtain rfl : m14 = 2 := h14.len1
            have hlit := Rd.step (w := (wix.alloc (.cells #[.int .i64 2, .int .i64 3] 3))) (size := 1) (A := some ⟨wix.heap.size, 0, none⟩) (n := 2) (xs := [.int .i64 2, .int .i64 3]) (Rd.lit1 rfl rfl) hbx
            have hywcy : Below wv.heap.size wv wcy := below_nx hBy hbx
            try dsimp only
            refine hK.out _ _ (keep_cl hywcy q8) (fun hHeld => ?_)
            clear hK K
            try simp only [Act.put, List.setIfInBounds_toArray, List.set_cons_zero, List.set_cons_succ]
            refine take_call 12 rfl (by kernel_rfl) rfl (fun K hK => ?_)
            go_simp
            refine (ints_any A14 _ 2 2 2 2 [2, 3] [2, 3] _ h14 hlit (by omega) (by omega) (by omega)).mono ?_
            rintro e wiy ⟨rfl, hbx⟩
            rw [ints_one]
            have hywiy : Below wv.heap.size wv wiy := below_nx hywcy hbx
            try dsimp only
            refine hK.out _ _ (keep_cl hywiy q8) (fun hHeld => ?_)
            clear hK K
            try simp only [Act.put, List.setIfInBounds_toArray, List.set_cons_zero, List.set_cons_succ]
            refine take_run 13 (v := ?_) rfl (by kernel_rfl) (by kernel_rfl) (by kernel_rfl) (fun _ _ _ h => h) rfl ?_ hHeld ?_
            rotate_left
            · intro w hSw; (try dsimp only at hSw); go_simp <;> with_reducible rfl
            try simp only [Act.put, List.setIfInBounds_toArray, List.set_cons_zero, List.set_cons_succ]
            refine take_run 14 (v := ?_) rfl (by kernel_rfl) (by kernel_rfl) (by kernel_rfl) (fun _ _ _ h => h) rfl ?_ hHeld ?_
            rotate_left
            · intro w hSw; (try dsimp only at hSw); go_simp <;> with_reducible rfl
            try simp only [Act.put, List.setIfInBounds_toArray, List.set_cons_zero, List.set_cons_succ]
            refine wpAnyH_done (by kernel_rfl) ?_ _
            go_wp2
            go_meet
            case rel => exact ⟨rfl, hywiy⟩
      case rest =>
        obtain ⟨rfl, hx⟩ := hcut
        replace hbw := hbw.trans (hx.mono hbw.size)
        clear hx htwo htwo4 q8 hrt hself HK6
        have h8 := by8_wrap
        go_wp2
        go_loopw [13] (fun i wl => ∃ k : Nat, k ≤ 200 ∧ i = .int .i64 k ∧ Below wc.heap.size wc wl) (fun i _ => 200 - (intOf i).toNat)
        case atStart => exact ⟨0, Nat.zero_le _, rfl, Below.refl _ _⟩
        case round =>
          obtain ⟨k, hk, rfl, hbl⟩ := hrel
          by_cases hlt : k < 200
          · have hd : decide ((k : Int) < 200) = true := by simp; omega
            obtain ⟨l4, hl4⟩ : ∃ l4 : List U3, cellsU l4 = [.int .u8 (by8 (k : Int)), .int .u8 (by8 ((k : Int) * 3)), .int .u8 (by8 (k : Int)), .int .u8 (by8 ((k : Int) + 1)), .int .u8 1, .int .u8 (by8 ((k : Int) * 5)), .int .u8 (by8 ((k : Int) * 7)), .int .u8 2, .int .u8 3, .int .u8 3, .int .u8 (by8 (k : Int)), .int .u8 4] := ⟨[⟨by8 (k : Int), by8 ((k : Int) * 3), by8 (k : Int), by8_lt _, by8_lt _, by8_lt _⟩, ⟨by8 ((k : Int) + 1), 1, by8 ((k : Int) * 5), by8_lt _, by decide, by8_lt _⟩, ⟨by8 ((k : Int) * 7), 2, 3, by8_lt _, by decide, by decide⟩, ⟨3, by8 (k : Int), 4, by decide, by8_lt _, by decide⟩], rfl⟩
            obtain ⟨ua, hua⟩ : ∃ u : U3, (Value.agg #[.int .u8 u.a, .int .u8 u.b, .int .u8 u.c]) = .agg #[.int .u8 (by8 (k : Int)), .int .u8 1, .int .u8 2] := ⟨⟨by8 (k : Int), 1, 2, by8_lt _, by decide, by decide⟩, rfl⟩
            obtain ⟨ub, hub⟩ : ∃ u : U3, (Value.agg #[.int .u8 u.a, .int .u8 u.b, .int .u8 u.c]) = .agg #[.int .u8 3, .int .u8 (by8 ((k : Int) % 5)), .int .u8 (by8 (k : Int))] := ⟨⟨3, by8 ((k : Int) % 5), by8 (k : Int), by decide, by8_lt _, by8_lt _⟩, rfl⟩
            obtain ⟨l3, hl3⟩ : ∃ l3 : List U2, cellsV l3 = [.int .u8 (by8 (k : Int)), .int .u8 0, .int .u8 3, .int .u8 1, .int .u8 4, .int .u8 (by8 (k : Int))] := ⟨[⟨by8 (k : Int), 0, by8_lt _, by decide⟩, ⟨3, 1, by decide, by decide⟩, ⟨4, by8 (k : Int), by decide, by8_lt _⟩], rfl⟩
            have hrd : Rd (wr.alloc (.cells (List.toArray [.int .u8 (by8 (k : Int)), .int .u8 (by8 ((k : Int) * 3)), .int .u8 (by8 (k : Int)), .int .u8 (by8 ((k : Int) + 1)), .int .u8 1, .int .u8 (by8 ((k : Int) * 5)), .int .u8 (by8 ((k : Int) * 7)), .int .u8 2, .int .u8 3, .int .u8 3, .int .u8 (by8 (k : Int)), .int .u8 4]) 47)) (wr.alloc (.cells (List.toArray [.int .u8 (by8 (k : Int)), .int .u8 (by8 ((k : Int) * 3)), .int .u8 (by8 (k : Int)), .int .u8 (by8 ((k : Int) + 1)), .int .u8 1, .int .u8 (by8 ((k : Int) * 5)), .int .u8 (by8 ((k : Int) * 7)), .int .u8 2, .int .u8 3, .int .u8 3, .int .u8 (by8 (k : Int)), .int .u8 4]) 47)).heap.size 3 (some ⟨wr.heap.size, 0, none⟩) 4 (cellsU l4) := by rw [hl4]; exact Rd.lit1 rfl rfl
            have hrd2 := hrd.step (w' := (wr.alloc (.cells (List.toArray [.int .u8 (by8 (k : Int)), .int .u8 (by8 ((k : Int) * 3)), .int .u8 (by8 (k : Int)), .int .u8 (by8 ((k : Int) + 1)), .int .u8 1, .int .u8 (by8 ((k : Int) * 5)), .int .u8 (by8 ((k : Int) * 7)), .int .u8 2, .int .u8 3, .int .u8 3, .int .u8 (by8 (k : Int)), .int .u8 4]) 47)).alloc (.cells #[.slice (some ⟨wr.heap.size, 0, none⟩) 4 4] 24)) ((Below.refl _ _).alloc (Nat.le_refl _) _)
            have hT := takelaw_any (some ⟨wr.heap.size, 0, none⟩) 4 4 l4 ua ub _ hrd2
            rw [hua, hub] at hT
            have HT := Lib.hid hT
            have HR2 := Lib.hid hrd2
            clear hT hua hub hl4 hrd hrd2
            go_wp2_with fail
            refine HT.out.mono ?_
            rintro e wT ⟨rfl, hb2⟩
            clear HT
            have hrT := HR2.out.step hb2
            clear HR2
            have q14 : wT.cell? ⟨wr.heap.size + 1, 0, none⟩ = some (.slice (some ⟨wr.heap.size, 0, none⟩) 4 4) := cs_ hb2 (by simp) (by simp [go_sem])
            have l14 : wr.heap.size + 1 < wT.heap.size := lt_of_cell q14
            have hbT := hbl.trans ((below_alloc2 hb2).mono hbl.size)
            have hlV : Rd (wT.alloc (.cells (List.toArray [.int .u8 (by8 (k : Int)), .int .u8 0, .int .u8 3, .int .u8 1, .int .u8 4, .int .u8 (by8 (k : Int))]) 56)) (wT.alloc (.cells (List.toArray [.int .u8 (by8 (k : Int)), .int .u8 0, .int .u8 3, .int .u8 1, .int .u8 4, .int .u8 (by8 (k : Int))]) 56)).heap.size 2 (some ⟨wT.heap.size, 0, none⟩) 3 (cellsV l3) := by rw [hl3]; exact Rd.lit1 rfl rfl
            have HW := Lib.hid (waitslaw_law (some ⟨wr.heap.size, 0, none⟩) 4 4 l4 (some ⟨wT.heap.size, 0, none⟩) 3 3 l3 _ (hrT.step ((Below.refl _ _).alloc (Nat.le_refl _) _)) hlV)
            clear hb2 hrT hlV hl3 hbl
            go_wp2_with fail
            refine HW.out.mono ?_
            rintro e wU ⟨rfl, hb2⟩
            have hbU := hbT.trans ((below_alloc1 hb2).mono hbT.size)
            clear HW hb2 q14 l14
            go_wp2
            go_roundw
            case rel => first | exact ⟨k + 1, by omega, by go_num, hbU⟩ | exact ⟨k + 1, by omega, by omega⟩
            case measure => simp [intOf]; omega
          · have hd : decide ((k : Int) < 200) = false := by simp; omega
            go_wp2_with fail
            refine (lives_any _).mono ?_
            rintro e wL ⟨rfl, hb2⟩
            have hx := hbl.trans (hb2.mono hbl.size)
            go_wp2
            go_ret
            exact ⟨rfl, hbw.trans (hx.mono hbw.size)⟩
end Go.Proofs.Ytfdfadebfdmdgaa
