/- The walk of LocksCheck: the lock is held by the thread. -/
import Derived.Test.YtfdfadebfdmdgaaLwC
namespace Go.Proofs.Ytfdfadebfdmdgaa
open Go.RowKit

set_option maxRecDepth 100000 in
set_option maxHeartbeats 8000000 in
theorem check_mine (A : Option Addr) (n c : Nat) (hs : List H3) (lv ix th : Int) (w : World) (hn6 : n ≤ 60) (H0p : Hid (checkF hs = 0)) (HV0p : Hid (validB lv ix th = true)) (HHp : Hid (heldB lv ix hs = true)) (HOp : Hid (ownerF lv ix hs = th)) (hr : Rd w w.heap.size 3 A n (cells3 hs)) :
    Calls Try.prog 8 #[.agg #[.slice A n c], .agg #[.int .i64 lv, .int .i64 ix], .int .i64 th] w fun e w' => e = .returned (.bool true) ∧ Below w.heap.size w w' := by
  have hd1 : decide ((n : Int) > 60) = false := by simp; omega
  have hn : (n : Int) ≤ 1000000 := by omega
  have hn9 : (n : Int) ≤ 999999 := by omega
  have hl6 : hs.length ≤ 60 := by have := hr.len3; omega
  obtain ⟨b, hbd⟩ : ∃ b, b = w.heap.size := ⟨_, rfl⟩
  go_enter Try.func8, Try.ntmps8
  go_wp2_with fail
  refine (refCheck_any _ _ _ hs _ ?_ hn).mono ?_
  · exact hr.step (((Below.refl _ _).alloc (Nat.le_refl _) _).alloc (by simp) _)
  rintro e w1 ⟨rfl, hb2⟩
  have f : Box3 b A n c lv ix w1 := by
    rw [hbd]
    refine ⟨cs_ hb2 (by simp; omega) (by simp [go_sem]), cs_ hb2 (by simp) (by simp [go_sem]), cs_ hb2 (by simp) (by simp [go_sem])⟩
  have hb := below_alloc2 hb2
  have hr := hr.step hb
  obtain ⟨q0, q1, q2⟩ := f
  have f : Box3 b A n c lv ix w1 := ⟨q0, q1, q2⟩
  rw [← hbd]
  clear hb2 hbd
  have hself : Below w1.heap.size w1 w1.drew := below_drewN' (Below.refl _ _) 1
  go_upto_region 4 with (fail)
  go_cut [40] (fun s wx => s = .bool false ∧ Below w1.heap.size w1 wx)
  case first =>
    have hdc : (checkF hs != checkF hs) = false := by simp
    have hF6 : ∀ {w : World} {B k : Nat} {A : Option Addr}, Rd w B 3 A k (cells3 (withoutTh th hs)) → (k : Int) ≤ 1000000 := fun h => by
      have h1 := h.len3
      have h2 : (withoutTh th hs).length ≤ hs.length := List.length_filter_le _ _
      omega
    have hV6 : ∀ {w : World} {B k : Nat} {A : Option Addr}, Rd w B 3 A k (cells3 (withoutF (-2) 0 th hs)) → (k : Int) ≤ 1000000 := fun h => by
      have h1 := h.len3
      have h2 : (withoutF (-2) 0 th hs).length ≤ hs.length := List.length_filter_le _ _
      omega
    by_cases he : withoutTh th hs = withoutF (-2) 0 th hs
    · have HE := Lib.hid he
      clear he
      refine wp_region_held_drew (S := (fun w' => w'.cell? ⟨b, 0, none⟩ = some (.slice A n c))) (by kernel_rfl) (keep_cell hself q0) (fun hHeld => ?_)
      refine take_run 0 (v := ?_) rfl (by kernel_rfl) (by kernel_rfl) (by kernel_rfl) (fun _ _ _ h => h) rfl ?_ hHeld ?_
      rotate_left
      · intro w hSw; (try dsimp only at hSw); go_simp <;> with_reducible rfl
      try simp only [Act.put, List.setIfInBounds_toArray, List.set_cons_zero, List.set_cons_succ]
      refine take_run 2 (v := ?_) rfl (by kernel_rfl) (by kernel_rfl) (by kernel_rfl) (fun _ _ _ h => h) rfl ?_ hHeld ?_
      rotate_left
      · intro w hSw; (try dsimp only at hSw); go_simp <;> with_reducible rfl
      try simp only [Act.put, List.setIfInBounds_toArray, List.set_cons_zero, List.set_cons_succ]
      refine take_call 1 rfl (by kernel_rfl) rfl (fun K hK => ?_)
      go_simp
      refine (check_any A n c hs _ (hr.step hself) hn).mono ?_
      rintro e w21 ⟨rfl, hbx⟩
      have hy1 : Below w1.heap.size w1 w21 := below_next hself hbx
      try dsimp only
      refine hK.out _ _ (keep_cell hy1 q0) (fun hHeld => ?_)
      clear hK K
      try simp only [Act.put, List.setIfInBounds_toArray, List.set_cons_zero, List.set_cons_succ]
      refine take_run 3 (v := ?_) rfl (by kernel_rfl) (by kernel_rfl) (by kernel_rfl) (fun _ _ _ h => h) rfl ?_ hHeld ?_
      rotate_left
      · intro w hSw; (try dsimp only at hSw); go_simp <;> with_reducible rfl
      try simp only [Act.put, List.setIfInBounds_toArray, List.set_cons_zero, List.set_cons_succ]
      refine take_run 4 (v := ?_) rfl (by kernel_rfl) (by kernel_rfl) (by kernel_rfl) (fun _ _ _ h => h) rfl ?_ hHeld ?_
      rotate_left
      · intro w hSw; (try dsimp only at hSw); go_simp <;> with_reducible rfl
      try simp only [Act.put, List.setIfInBounds_toArray, List.set_cons_zero, List.set_cons_succ]
      refine take_run 5 (v := ?_) rfl (by kernel_rfl) (by kernel_rfl) (by kernel_rfl) (fun _ _ _ h => h) rfl ?_ hHeld ?_
      rotate_left
      · intro w hSw; (try dsimp only at hSw); go_simp <;> with_reducible rfl
      try simp only [Act.put, List.setIfInBounds_toArray, List.set_cons_zero, List.set_cons_succ]
      refine take_run 6 (v := ?_) rfl (by kernel_rfl) (by kernel_rfl) (by kernel_rfl) (fun _ _ _ h => h) rfl ?_ hHeld ?_
      rotate_left
      · intro w hSw; (try dsimp only at hSw); go_simp <;> with_reducible rfl
      try simp only [Act.put, List.setIfInBounds_toArray, List.set_cons_zero, List.set_cons_succ]
      refine take_run 8 (v := ?_) rfl (by kernel_rfl) (by kernel_rfl) (by kernel_rfl) (fun _ _ _ h => h) rfl ?_ hHeld ?_
      rotate_left
      · intro w hSw; (try dsimp only at hSw); go_simp <;> with_reducible rfl
      try simp only [Act.put, List.setIfInBounds_toArray, List.set_cons_zero, List.set_cons_succ]
      refine take_run 10 (v := ?_) rfl (by kernel_rfl) (by kernel_rfl) (by kernel_rfl) (fun _ _ _ h => h) rfl ?_ hHeld ?_
      rotate_left
      · intro w hSw; (try dsimp only at hSw); go_simp <;> with_reducible rfl
      try simp only [Act.put, List.setIfInBounds_toArray, List.set_cons_zero, List.set_cons_succ]
      refine take_call 7 rfl (by kernel_rfl) rfl (fun K hK => ?_)
      go_simp
      refine (freeAll_any A n c th hs _ (hr.step hy1) hn).mono ?_
      rintro e w22 ⟨A1, m1, rfl, hF, hbx⟩
      have hy2 : Below w1.heap.size w1 w22 := below_next hy1 hbx
      try dsimp only
      refine hK.out _ _ (keep_cell hy2 q0) (fun hHeld => ?_)
      clear hK K
      try simp only [Act.put, List.setIfInBounds_toArray, List.set_cons_zero, List.set_cons_succ]
      refine take_call 9 rfl (by kernel_rfl) rfl (fun K hK => ?_)
      go_simp
      refine (nowhere_any _).mono ?_
      rintro e w23 ⟨rfl, hbx⟩
      have hy3 : Below w1.heap.size w1 w23 := below_next hy2 hbx
      have hF := hF.step hbx
      try dsimp only
      refine hK.out _ _ (keep_cell hy3 q0) (fun hHeld => ?_)
      clear hK K
      try simp only [Act.put, List.setIfInBounds_toArray, List.set_cons_zero, List.set_cons_succ]
      refine take_call 11 rfl (by kernel_rfl) rfl (fun K hK => ?_)
      go_simp
      refine (refWithout_any A n c hs (-2) 0 th _ (hr.step hy3) hn).mono ?_
      rintro e w24 ⟨A2, m2, c2, rfl, hV, hbx⟩
      have hy4 : Below w1.heap.size w1 w24 := below_next hy3 hbx
      have hF := hF.step hbx
      try dsimp only
      refine hK.out _ _ (keep_cell hy4 q0) (fun hHeld => ?_)
      clear hK K
      try simp only [Act.put, List.setIfInBounds_toArray, List.set_cons_zero, List.set_cons_succ]
      refine take_call 12 rfl (by kernel_rfl) rfl (fun K hK => ?_)
      go_simp
      refine (same_any A1 A2 m1 m1 m2 c2 _ _ _ hF hV (hF6 hF) (hV6 hV)).mono ?_
      rintro e w25 ⟨rfl, hbx⟩
      rw [same_yes HE.out]
      have hy5 : Below w1.heap.size w1 w25 := below_next hy4 hbx
      try dsimp only
      refine hK.out _ _ (keep_cell hy5 q0) (fun hHeld => ?_)
      clear hK K
      try simp only [Act.put, List.setIfInBounds_toArray, List.set_cons_zero, List.set_cons_succ]
      refine take_run 13 (v := ?_) rfl (by kernel_rfl) (by kernel_rfl) (by kernel_rfl) (fun _ _ _ h => h) rfl ?_ hHeld ?_
      rotate_left
      · intro w hSw; (try dsimp only at hSw); go_simp <;> with_reducible rfl
      try simp only [Act.put, List.setIfInBounds_toArray, List.set_cons_zero, List.set_cons_succ]
      refine take_run 14 (v := ?_) rfl (by kernel_rfl) (by kernel_rfl) (by kernel_rfl) (fun _ _ _ h => h) rfl ?_ hHeld ?_
      rotate_left
      · intro w hSw; (try dsimp only at hSw); go_simp <;> with_reducible rfl
      try simp only [Act.put, List.setIfInBounds_toArray, List.set_cons_zero, List.set_cons_succ]
      refine take_skip 15 rfl (by kernel_rfl) (by kernel_rfl) (by kernel_rfl) (fun _ _ _ h => h) rfl hHeld ?_
      simp only [Act.put, List.setIfInBounds_toArray, List.set_cons_zero, List.set_cons_succ]
      refine take_skip 16 rfl (by kernel_rfl) (by kernel_rfl) (by kernel_rfl) (fun _ _ _ h => h) rfl hHeld ?_
      simp only [Act.put, List.setIfInBounds_toArray, List.set_cons_zero, List.set_cons_succ]
      refine take_skip 17 rfl (by kernel_rfl) (by kernel_rfl) (by kernel_rfl) (fun _ _ _ h => h) rfl hHeld ?_
      simp only [Act.put, List.setIfInBounds_toArray, List.set_cons_zero, List.set_cons_succ]
      refine take_run 18 (v := ?_) rfl (by kernel_rfl) (by kernel_rfl) (by kernel_rfl) (fun _ _ _ h => h) rfl ?_ hHeld ?_
      rotate_left
      · intro w hSw; (try dsimp only at hSw); go_simp <;> with_reducible rfl
      try simp only [Act.put, List.setIfInBounds_toArray, List.set_cons_zero, List.set_cons_succ]
      refine take_run 19 (v := ?_) rfl (by kernel_rfl) (by kernel_rfl) (by kernel_rfl) (fun _ _ _ h => h) rfl ?_ hHeld ?_
      rotate_left
      · intro w hSw; (try dsimp only at hSw); go_simp <;> with_reducible rfl
      try simp only [Act.put, List.setIfInBounds_toArray, List.set_cons_zero, List.set_cons_succ]
      refine wpAnyH_done (by kernel_rfl) ?_ _
      go_wp2
      go_meet
      case rel => exact ⟨rfl, hy5⟩
    · have HE := Lib.hid he
      have hh2 : heldB (-2) 0 hs = true := by
        cases h : heldB (-2) 0 hs
        · exact absurd (freeAll_without th hs h) he
        · rfl
      have HH2 := Lib.hid hh2
      have hz : (1 - b2i true : Int) = 0 := by decide
      clear he hh2
      refine wp_region_held_drew (S := (fun w' => w'.cell? ⟨b, 0, none⟩ = some (.slice A n c))) (by kernel_rfl) (keep_cell hself q0) (fun hHeld => ?_)
      refine take_run 0 (v := ?_) rfl (by kernel_rfl) (by kernel_rfl) (by kernel_rfl) (fun _ _ _ h => h) rfl ?_ hHeld ?_
      rotate_left
      · intro w hSw; (try dsimp only at hSw); go_simp <;> with_reducible rfl
      try simp only [Act.put, List.setIfInBounds_toArray, List.set_cons_zero, List.set_cons_succ]
      refine take_run 2 (v := ?_) rfl (by kernel_rfl) (by kernel_rfl) (by kernel_rfl) (fun _ _ _ h => h) rfl ?_ hHeld ?_
      rotate_left
      · intro w hSw; (try dsimp only at hSw); go_simp <;> with_reducible rfl
      try simp only [Act.put, List.setIfInBounds_toArray, List.set_cons_zero, List.set_cons_succ]
      refine take_call 1 rfl (by kernel_rfl) rfl (fun K hK => ?_)
      go_simp
      refine (check_any A n c hs _ (hr.step hself) hn).mono ?_
      rintro e w21 ⟨rfl, hbx⟩
      have hy1 : Below w1.heap.size w1 w21 := below_next hself hbx
      try dsimp only
      refine hK.out _ _ (keep_cell hy1 q0) (fun hHeld => ?_)
      clear hK K
      try simp only [Act.put, List.setIfInBounds_toArray, List.set_cons_zero, List.set_cons_succ]
      refine take_run 3 (v := ?_) rfl (by kernel_rfl) (by kernel_rfl) (by kernel_rfl) (fun _ _ _ h => h) rfl ?_ hHeld ?_
      rotate_left
      · intro w hSw; (try dsimp only at hSw); go_simp <;> with_reducible rfl
      try simp only [Act.put, List.setIfInBounds_toArray, List.set_cons_zero, List.set_cons_succ]
      refine take_run 4 (v := ?_) rfl (by kernel_rfl) (by kernel_rfl) (by kernel_rfl) (fun _ _ _ h => h) rfl ?_ hHeld ?_
      rotate_left
      · intro w hSw; (try dsimp only at hSw); go_simp <;> with_reducible rfl
      try simp only [Act.put, List.setIfInBounds_toArray, List.set_cons_zero, List.set_cons_succ]
      refine take_run 5 (v := ?_) rfl (by kernel_rfl) (by kernel_rfl) (by kernel_rfl) (fun _ _ _ h => h) rfl ?_ hHeld ?_
      rotate_left
      · intro w hSw; (try dsimp only at hSw); go_simp <;> with_reducible rfl
      try simp only [Act.put, List.setIfInBounds_toArray, List.set_cons_zero, List.set_cons_succ]
      refine take_run 6 (v := ?_) rfl (by kernel_rfl) (by kernel_rfl) (by kernel_rfl) (fun _ _ _ h => h) rfl ?_ hHeld ?_
      rotate_left
      · intro w hSw; (try dsimp only at hSw); go_simp <;> with_reducible rfl
      try simp only [Act.put, List.setIfInBounds_toArray, List.set_cons_zero, List.set_cons_succ]
      refine take_run 8 (v := ?_) rfl (by kernel_rfl) (by kernel_rfl) (by kernel_rfl) (fun _ _ _ h => h) rfl ?_ hHeld ?_
      rotate_left
      · intro w hSw; (try dsimp only at hSw); go_simp <;> with_reducible rfl
      try simp only [Act.put, List.setIfInBounds_toArray, List.set_cons_zero, List.set_cons_succ]
      refine take_run 10 (v := ?_) rfl (by kernel_rfl) (by kernel_rfl) (by kernel_rfl) (fun _ _ _ h => h) rfl ?_ hHeld ?_
      rotate_left
      · intro w hSw; (try dsimp only at hSw); go_simp <;> with_reducible rfl
      try simp only [Act.put, List.setIfInBounds_toArray, List.set_cons_zero, List.set_cons_succ]
      refine take_call 7 rfl (by kernel_rfl) rfl (fun K hK => ?_)
      go_simp
      refine (freeAll_any A n c th hs _ (hr.step hy1) hn).mono ?_
      rintro e w22 ⟨A1, m1, rfl, hF, hbx⟩
      have hy2 : Below w1.heap.size w1 w22 := below_next hy1 hbx
      try dsimp only
      refine hK.out _ _ (keep_cell hy2 q0) (fun hHeld => ?_)
      clear hK K
      try simp only [Act.put, List.setIfInBounds_toArray, List.set_cons_zero, List.set_cons_succ]
      refine take_call 9 rfl (by kernel_rfl) rfl (fun K hK => ?_)
      go_simp
      refine (nowhere_any _).mono ?_
      rintro e w23 ⟨rfl, hbx⟩
      have hy3 : Below w1.heap.size w1 w23 := below_next hy2 hbx
      have hF := hF.step hbx
      try dsimp only
      refine hK.out _ _ (keep_cell hy3 q0) (fun hHeld => ?_)
      clear hK K
      try simp only [Act.put, List.setIfInBounds_toArray, List.set_cons_zero, List.set_cons_succ]
      refine take_call 11 rfl (by kernel_rfl) rfl (fun K hK => ?_)
      go_simp
      refine (refWithout_any A n c hs (-2) 0 th _ (hr.step hy3) hn).mono ?_
      rintro e w24 ⟨A2, m2, c2, rfl, hV, hbx⟩
      have hy4 : Below w1.heap.size w1 w24 := below_next hy3 hbx
      have hF := hF.step hbx
      try dsimp only
      refine hK.out _ _ (keep_cell hy4 q0) (fun hHeld => ?_)
      clear hK K
      try simp only [Act.put, List.setIfInBounds_toArray, List.set_cons_zero, List.set_cons_succ]
      refine take_call 12 rfl (by kernel_rfl) rfl (fun K hK => ?_)
      go_simp
      refine (same_any A1 A2 m1 m1 m2 c2 _ _ _ hF hV (hF6 hF) (hV6 hV)).mono ?_
      rintro e w25 ⟨rfl, hbx⟩
      rw [same_no HE.out]
      have hy5 : Below w1.heap.size w1 w25 := below_next hy4 hbx
      try dsimp only
      refine hK.out _ _ (keep_cell hy5 q0) (fun hHeld => ?_)
      clear hK K
      try simp only [Act.put, List.setIfInBounds_toArray, List.set_cons_zero, List.set_cons_succ]
      refine take_run 13 (v := ?_) rfl (by kernel_rfl) (by kernel_rfl) (by kernel_rfl) (fun _ _ _ h => h) rfl ?_ hHeld ?_
      rotate_left
      · intro w hSw; (try dsimp only at hSw); go_simp <;> with_reducible rfl
      try simp only [Act.put, List.setIfInBounds_toArray, List.set_cons_zero, List.set_cons_succ]
      refine take_run 14 (v := ?_) rfl (by kernel_rfl) (by kernel_rfl) (by kernel_rfl) (fun _ _ _ h => h) rfl ?_ hHeld ?_
      rotate_left
      · intro w hSw; (try dsimp only at hSw); go_simp <;> with_reducible rfl
      try simp only [Act.put, List.setIfInBounds_toArray, List.set_cons_zero, List.set_cons_succ]
      refine take_run 15 (v := ?_) rfl (by kernel_rfl) (by kernel_rfl) (by kernel_rfl) (fun _ _ _ h => h) rfl ?_ hHeld ?_
      rotate_left
      · intro w hSw; (try dsimp only at hSw); go_simp <;> with_reducible rfl
      try simp only [Act.put, List.setIfInBounds_toArray, List.set_cons_zero, List.set_cons_succ]
      refine take_call 16 rfl (by kernel_rfl) rfl (fun K hK => ?_)
      go_simp
      refine (without_any A n c hs _ (hr.step hy5) hn).mono ?_
      rintro e w26 ⟨rfl, hbx⟩
      rw [HH2.out, hz]
      have hy6 : Below w1.heap.size w1 w26 := below_next hy5 hbx
      try dsimp only
      refine hK.out _ _ (keep_cell hy6 q0) (fun hHeld => ?_)
      clear hK K
      try simp only [Act.put, List.setIfInBounds_toArray, List.set_cons_zero, List.set_cons_succ]
      refine take_run 17 (v := ?_) rfl (by kernel_rfl) (by kernel_rfl) (by kernel_rfl) (fun _ _ _ h => h) rfl ?_ hHeld ?_
      rotate_left
      · intro w hSw; (try dsimp only at hSw); go_simp <;> with_reducible rfl
      try simp only [Act.put, List.setIfInBounds_toArray, List.set_cons_zero, List.set_cons_succ]
      refine take_run 18 (v := ?_) rfl (by kernel_rfl) (by kernel_rfl) (by kernel_rfl) (fun _ _ _ h => h) rfl ?_ hHeld ?_
      rotate_left
      · intro w hSw; (try dsimp only at hSw); go_simp <;> with_reducible rfl
      try simp only [Act.put, List.setIfInBounds_toArray, List.set_cons_zero, List.set_cons_succ]
      refine take_run 19 (v := ?_) rfl (by kernel_rfl) (by kernel_rfl) (by kernel_rfl) (fun _ _ _ h => h) rfl ?_ hHeld ?_
      rotate_left
      · intro w hSw; (try dsimp only at hSw); go_simp <;> with_reducible rfl
      try simp only [Act.put, List.setIfInBounds_toArray, List.set_cons_zero, List.set_cons_succ]
      refine wpAnyH_done (by kernel_rfl) ?_ _
      go_wp2
      go_meet
      case rel => exact ⟨rfl, hy6⟩
  case rest =>
    obtain ⟨rfl, hx⟩ := hcut
    have f1 := f.step hx
    have hr1 := hr.step hx
    have hb1 := hb.trans (hx.mono hb.size)
    clear hx f hr hb q0 q1 q2 hself
    obtain ⟨q0, q1, q2⟩ := f1
    have f : Box3 b A n c lv ix wc := ⟨q0, q1, q2⟩
    have hr := hr1
    have hb := hb1
    clear hr1 hb1
    obtain ⟨w2, hw2⟩ : ∃ w2, w2 = wc := ⟨_, rfl⟩
    rw [← hw2] at f hr hb q0 q1 q2 ⊢
    clear hw2

    have h0 := H0p.out
    have hv0 := HV0p.out
    have hh := HHp.out
    clear H0p HV0p HHp
    · have hwho : who lv ix hs = ownerF lv ix hs := by unfold who; rw [hh]; rfl
      have HH := Lib.hid hh
      have HW := Lib.hid hwho
      clear hh hwho
      go_wp2_with fail
      refine (owner_any _ _ _ hs _ _ _ hr hn).mono ?_
      rintro e w3 ⟨rfl, hb2⟩
      rw [HW.out, HH.out]
      have hx : Below w2.heap.size w2 w3 := hb2
      have f1 := f.step hx
      have hr1 := hr.step hx
      have hb1 := hb.trans (hx.mono hb.size)
      clear f hr hb q0 q1 q2
      obtain ⟨q0, q1, q2⟩ := f1
      have f : Box3 b A n c lv ix w3 := ⟨q0, q1, q2⟩
      have hr := hr1
      have hb := hb1
      clear hr1 hb1
      clear hb2 hx
      go_wp2_with fail
      refine (has_any _ _ _ hs _ _ _ hr hn).mono ?_
      rintro e w4 ⟨rfl, hb2⟩
      rw [HH.out, show b2i true = 1 from rfl]
      have hx : Below w3.heap.size w3 w4 := hb2
      have f1 := f.step hx
      have hr1 := hr.step hx
      have hb1 := hb.trans (hx.mono hb.size)
      clear f hr hb q0 q1 q2
      obtain ⟨q0, q1, q2⟩ := f1
      have f : Box3 b A n c lv ix w4 := ⟨q0, q1, q2⟩
      have hr := hr1
      have hb := hb1
      clear hr1 hb1
      clear hb2 hx
      go_wp2_with fail
      refine (refOwner_any _ _ _ hs _ _ _ hr hn).mono ?_
      rintro e w5 ⟨rfl, hb2⟩
      have hx : Below w4.heap.size w4 w5 := hb2
      have f1 := f.step hx
      have hr1 := hr.step hx
      have hb1 := hb.trans (hx.mono hb.size)
      clear f hr hb q0 q1 q2
      obtain ⟨q0, q1, q2⟩ := f1
      have f : Box3 b A n c lv ix w5 := ⟨q0, q1, q2⟩
      have hr := hr1
      have hb := hb1
      clear hr1 hb1
      clear hb2 hx
      have ho := HOp.out
      clear HOp
      have hrd : readyF hs lv ix th = 0 := by unfold readyF; rw [if_pos h0, hv0]; rfl
      have HT : Hid (takeE hs lv ix th = 14) := by unfold Hid takeE; rw [if_pos hrd, HH.out]; rfl
      have HG : Hid (takeG hs lv ix th = []) := by unfold Hid takeG; rw [if_pos hrd, HH.out]; rfl
      have hok : freeOk hs lv ix th = true := by unfold freeOk; rw [HH.out, HW.out, ho]; simp
      have HF : Hid (freeE hs lv ix th = 0) := by unfold Hid freeE; rw [if_pos hrd, hok]; rfl
      have HV : Hid (freeG hs lv ix th = withoutF lv ix (-1) hs) := by unfold Hid freeG; rw [if_pos hrd, hok]; exact checked_free h0 HH.out
      have hdo : (ownerF lv ix hs != th) = false := by rw [ho]; simp
      have HV0 := Lib.hid hv0
      have H0 := Lib.hid h0
      clear hv0 hok hrd ho
      go_wp2_with fail
      refine (refValid_any _ _ _ _).mono ?_
      rintro e w6 ⟨rfl, hb2⟩
      rw [HV0.out, show b2i true = 1 from rfl]
      have hx : Below w5.heap.size w5 w6 := hb2
      have f1 := f.step hx
      have hr1 := hr.step hx
      have hb1 := hb.trans (hx.mono hb.size)
      clear f hr hb q0 q1 q2
      obtain ⟨q0, q1, q2⟩ := f1
      have f : Box3 b A n c lv ix w6 := ⟨q0, q1, q2⟩
      have hr := hr1
      have hb := hb1
      clear hr1 hb1
      clear hb2 hx
      go_wp2_with fail
      refine (take_any _ _ _ hs lv ix th _ hr hn9).mono ?_
      rintro e w7 ⟨A1, m1, rfl, hu, hb2⟩
      rw [HT.out]
      rw [HG.out] at hu
      have hx : Below w6.heap.size w6 w7 := hb2
      have f1 := f.step hx
      have hr1 := hr.step hx
      have hb1 := hb.trans (hx.mono hb.size)
      clear f hr hb q0 q1 q2
      obtain ⟨q0, q1, q2⟩ := f1
      have f : Box3 b A n c lv ix w7 := ⟨q0, q1, q2⟩
      have hr := hr1
      have hb := hb1
      clear hr1 hb1
      clear hb2 hx
      have l0 : b < w7.heap.size := lt_of_cell q0
      have l1 : b + 1 < w7.heap.size := lt_of_cell q1
      go_wp2_with fail
      refine (free_any _ _ _ hs lv ix th _ (hr.step ((Below.refl _ _).alloc (Nat.le_refl _) _)) hn).mono ?_
      rintro e w8 ⟨A2, m2, rfl, hv, hb2⟩
      rw [HF.out]
      rw [HV.out] at hv
      have c10 : w8.cell? ⟨w7.heap.size, 0, none⟩ = some (.slice A1 m1 m1) := cs_ hb2 (lt_alloc _ _) (cell_newest _ _ _ 0 rfl)
      have l10 : w7.heap.size < w8.heap.size := lt_of_cell c10
      have hx : Below w7.heap.size w7 w8 := below_alloc1 hb2
      have f1 := f.step hx
      have hr1 := hr.step hx
      have hb1 := hb.trans (hx.mono hb.size)
      clear f hr hb q0 q1 q2
      obtain ⟨q0, q1, q2⟩ := f1
      have f : Box3 b A n c lv ix w8 := ⟨q0, q1, q2⟩
      have hr := hr1
      have hb := hb1
      clear hr1 hb1
      have hu := hu.step hx
      clear hb2 hx l0 l1
      have l0 : b < w8.heap.size := lt_of_cell q0
      have l1 : b + 1 < w8.heap.size := lt_of_cell q1
      obtain rfl : m1 = 0 := hu.len3
      obtain ⟨wz, hwz⟩ : ∃ wz, wz = w8.alloc (.cells #[.slice A2 m2 m2] 29) := ⟨_, rfl⟩
      obtain ⟨g12, hg12⟩ : ∃ g, g = w8.heap.size := ⟨_, rfl⟩
      obtain ⟨g10, hg10⟩ : ∃ g, g = w7.heap.size := ⟨_, rfl⟩
      go_upto_region 15 with (fail)
      rw [← hwz, ← hg12, ← hg10]
      have hx : Below w8.heap.size w8 wz := by rw [hwz]; exact (Below.refl _ _).alloc (Nat.le_refl _) _
      have c12 : wz.cell? ⟨g12, 0, none⟩ = some (.slice A2 m2 m2) := by rw [hwz, hg12]; exact cell_newest _ _ _ 0 rfl
      have c10z : wz.cell? ⟨g10, 0, none⟩ = some (.slice A1 0 0) := by rw [hg10]; exact keep_cell hx c10
      have f1 := f.step hx
      have hr1 := hr.step hx
      have hb1 := hb.trans (hx.mono hb.size)
      have hu1 := hu.step hx
      have hv1 := hv.step hx
      clear f hr hb q0 q1 q2 c10 hx hwz hg12 hg10 l0 l1 l10 hu hv
      obtain ⟨q0, q1, q2⟩ := f1
      have hself : Below wz.heap.size wz wz.drew := below_drewN' (Below.refl _ _) 1
      go_cut [145] (fun s wx => s = .bool false ∧ Below wz.heap.size wz wx)
      case first =>
        go_quiet (fail)
        go_wp2
        go_meet
        case rel => exact ⟨rfl, below_drewN' (Below.refl _ _) _⟩
      case rest =>
        obtain ⟨rfl, hx⟩ := hcut
        have c12c := keep_cell hx c12
        have q0c := keep_cell hx q0
        have q1c := keep_cell hx q1
        have q2c := keep_cell hx q2
        have hr2 := hr1.step hx
        have hv2 := hv1.step hx
        have hb := hb1.trans (hx.mono hb1.size)
        have hself2 : Below wc.heap.size wc wc.drew := below_drewN' (Below.refl _ _) 1
        have hm2 : (m2 : Int) ≤ 1000000 := by have hl1 := hv2.len3; have hl2 : (withoutF lv ix (-1) hs).length ≤ hs.length := List.length_filter_le _ _; omega
        clear hself hx q0 q1 q2 c12 c10z
        go_wp2_with fail
        refine wp_region_held_drew (S := (fun w' => w'.cell? ⟨b, 0, none⟩ = some (.slice A n c) ∧ w'.cell? ⟨b + 1, 0, none⟩ = some (.int .i64 lv) ∧ w'.cell? ⟨b + 1, 1, none⟩ = some (.int .i64 ix) ∧ w'.cell? ⟨g12, 0, none⟩ = some (.slice A2 m2 m2))) (by kernel_rfl) ⟨keep_cell hself2 q0c, keep_cell hself2 q1c, keep_cell hself2 q2c, keep_cell hself2 c12c⟩ (fun hHeld => ?_)
        refine take_run 0 (v := ?_) rfl (by kernel_rfl) (by kernel_rfl) (by kernel_rfl) (fun _ _ _ h => h) rfl ?_ hHeld ?_
        rotate_left
        · intro w hSw; (try dsimp only at hSw); go_simp <;> with_reducible rfl
        try simp only [Act.put, List.setIfInBounds_toArray, List.set_cons_zero, List.set_cons_succ]
        refine take_run 1 (v := ?_) rfl (by kernel_rfl) (by kernel_rfl) (by kernel_rfl) (fun _ _ _ h => h) rfl ?_ hHeld ?_
        rotate_left
        · intro w hSw; (try dsimp only at hSw); go_simp <;> with_reducible rfl
        try simp only [Act.put, List.setIfInBounds_toArray, List.set_cons_zero, List.set_cons_succ]
        refine take_run 2 (v := ?_) rfl (by kernel_rfl) (by kernel_rfl) (by kernel_rfl) (fun _ _ _ h => h) rfl ?_ hHeld ?_
        rotate_left
        · intro w hSw; (try dsimp only at hSw); go_simp <;> with_reducible rfl
        try simp only [Act.put, List.setIfInBounds_toArray, List.set_cons_zero, List.set_cons_succ]
        refine take_run 3 (v := ?_) rfl (by kernel_rfl) (by kernel_rfl) (by kernel_rfl) (fun _ _ _ h => h) rfl ?_ hHeld ?_
        rotate_left
        · intro w hSw; (try dsimp only at hSw); go_simp <;> with_reducible rfl
        try simp only [Act.put, List.setIfInBounds_toArray, List.set_cons_zero, List.set_cons_succ]
        refine take_run 4 (v := ?_) rfl (by kernel_rfl) (by kernel_rfl) (by kernel_rfl) (fun _ _ _ h => h) rfl ?_ hHeld ?_
        rotate_left
        · intro w hSw; (try dsimp only at hSw); go_simp <;> with_reducible rfl
        try simp only [Act.put, List.setIfInBounds_toArray, List.set_cons_zero, List.set_cons_succ]
        refine take_run 5 (v := ?_) rfl (by kernel_rfl) (by kernel_rfl) (by kernel_rfl) (fun _ _ _ h => h) rfl ?_ hHeld ?_
        rotate_left
        · intro w hSw; (try dsimp only at hSw); go_simp <;> with_reducible rfl
        try simp only [Act.put, List.setIfInBounds_toArray, List.set_cons_zero, List.set_cons_succ]
        refine take_call 6 rfl (by kernel_rfl) rfl (fun K hK => ?_)
        go_simp
        refine (refWithout_any A n c hs lv ix (-1) _ (hr2.step hself2) hn).mono ?_
        rintro e w21 ⟨A3, m3, c3, rfl, hT3, hbx⟩
        have hy1 : Below wc.heap.size wc w21 := below_next hself2 hbx
        try dsimp only
        refine hK.out _ _ ⟨keep_cell hy1 q0c, keep_cell hy1 q1c, keep_cell hy1 q2c, keep_cell hy1 c12c⟩ (fun hHeld => ?_)
        clear hK K
        try simp only [Act.put, List.setIfInBounds_toArray, List.set_cons_zero, List.set_cons_succ]
        refine take_call 7 rfl (by kernel_rfl) rfl (fun K hK => ?_)
        go_simp
        refine (same_any A2 A3 m2 m2 m3 c3 _ _ w21 (hv2.step hy1) hT3 hm2 (without_small hT3 hl6)).mono ?_
        rintro e w22 ⟨rfl, hbx⟩
        rw [same_yes rfl]
        have hy2 : Below wc.heap.size wc w22 := below_next hy1 hbx
        try dsimp only
        refine hK.out _ _ ⟨keep_cell hy2 q0c, keep_cell hy2 q1c, keep_cell hy2 q2c, keep_cell hy2 c12c⟩ (fun hHeld => ?_)
        clear hK K
        try simp only [Act.put, List.setIfInBounds_toArray, List.set_cons_zero, List.set_cons_succ]
        refine take_run 8 (v := ?_) rfl (by kernel_rfl) (by kernel_rfl) (by kernel_rfl) (fun _ _ _ h => h) rfl ?_ hHeld ?_
        rotate_left
        · intro w hSw; (try dsimp only at hSw); go_simp <;> with_reducible rfl
        try simp only [Act.put, List.setIfInBounds_toArray, List.set_cons_zero, List.set_cons_succ]
        refine take_run 9 (v := ?_) rfl (by kernel_rfl) (by kernel_rfl) (by kernel_rfl) (fun _ _ _ h => h) rfl ?_ hHeld ?_
        rotate_left
        · intro w hSw; (try dsimp only at hSw); go_simp <;> with_reducible rfl
        try simp only [Act.put, List.setIfInBounds_toArray, List.set_cons_zero, List.set_cons_succ]
        refine take_run 10 (v := ?_) rfl (by kernel_rfl) (by kernel_rfl) (by kernel_rfl) (fun _ _ _ h => h) rfl ?_ hHeld ?_
        rotate_left
        · intro w hSw; (try dsimp only at hSw); go_simp <;> with_reducible rfl
        try simp only [Act.put, List.setIfInBounds_toArray, List.set_cons_zero, List.set_cons_succ]
        refine take_call 11 rfl (by kernel_rfl) rfl (fun K hK => ?_)
        go_simp
        refine (lives_any _).mono ?_
        rintro e w23 ⟨rfl, hbx⟩
        have hy3 : Below wc.heap.size wc w23 := below_next hy2 hbx
        try dsimp only
        refine hK.out _ _ ⟨keep_cell hy3 q0c, keep_cell hy3 q1c, keep_cell hy3 q2c, keep_cell hy3 c12c⟩ (fun hHeld => ?_)
        clear hK K
        try simp only [Act.put, List.setIfInBounds_toArray, List.set_cons_zero, List.set_cons_succ]
        refine take_run 12 (v := ?_) rfl (by kernel_rfl) (by kernel_rfl) (by kernel_rfl) (fun _ _ _ h => h) rfl ?_ hHeld ?_
        rotate_left
        · intro w hSw; (try dsimp only at hSw); go_simp <;> with_reducible rfl
        try simp only [Act.put, List.setIfInBounds_toArray, List.set_cons_zero, List.set_cons_succ]
        refine take_run 13 (v := ?_) rfl (by kernel_rfl) (by kernel_rfl) (by kernel_rfl) (fun _ _ _ h => h) rfl ?_ hHeld ?_
        rotate_left
        · intro w hSw; (try dsimp only at hSw); go_simp <;> with_reducible rfl
        try simp only [Act.put, List.setIfInBounds_toArray, List.set_cons_zero, List.set_cons_succ]
        refine wpAnyH_done (by kernel_rfl) ?_ _
        go_wp2
        go_ret
        exact ⟨rfl, hb.trans (hy3.mono hb.size)⟩
end Go.Proofs.Ytfdfadebfdmdgaa
