/- The walk of LocksErrors. -/
import Derived.Test.YtfdfadebfdmdgaaLvA
namespace Go.Proofs.Ytfdfadebfdmdgaa
open Go.RowKit

theorem refWalk_len (f : Int → Int) (s : Int) : ∀ (n : Nat) (cur : Int) (way r : List Int), refWalk f s n cur way = some r → r.length ≤ way.length + n := by
  intro n
  induction n with
  | zero => intro cur way r h; cases h
  | succ n ih =>
    intro cur way r h
    rw [refWalk] at h
    split at h
    · cases h; omega
    · split at h
      · cases h
      · have := ih _ _ _ h
        simp at this; omega
theorem refFrom_len (f : Int → Int) : ∀ (k : Nat) (s : Int), (refFrom f k s).length ≤ 17 := by
  intro k
  induction k with
  | zero => intro s; simp [refFrom]
  | succ k ih =>
    intro s
    rw [refFrom]
    split
    · rename_i way h
      have := refWalk_len f s 16 s [s] way h
      simpa using this
    · exact ih _
theorem refCyc_len (f : Int → Int) : (refCyc f).length ≤ 17 := refFrom_len f 16 0

theorem ints_one (n : Nat) (a : List Int) : b2i (decide (n = n) && decide (a = a)) = 1 := by simp [b2i]

theorem errors_lives (A B : Option Addr) (n c m d : Nat) (w : World) (h : n > 60 ∨ m > 30) :
    Calls Try.prog 5 #[.agg #[.slice A n c], .slice B m d] w fun e w' => e = .returned (.bool true) ∧ Below w.heap.size w w' := by
  by_cases hn : n > 60
  · have hd : decide ((n : Int) > 60) = true := by simp; omega
    go_enter Try.func5, Try.ntmps5
    go_wp2_with (go_at_call 9; refine (lives_any _).mono ?_; rintro e w1 ⟨rfl, hb⟩)
    go_ret
    exact ⟨rfl, below_alloc1 hb⟩
  · have hd : decide ((n : Int) > 60) = false := by simp; omega
    have hd2 : decide ((m : Int) > 30) = true := by simp; omega
    go_enter Try.func5, Try.ntmps5
    go_wp2_with (go_at_call 9; refine (lives_any _).mono ?_; rintro e w1 ⟨rfl, hb⟩)
    go_ret
    exact ⟨rfl, below_alloc1 hb⟩

set_option maxRecDepth 100000 in
set_option maxHeartbeats 4000000 in
theorem errors_any (A B : Option Addr) (n c m d : Nat) (hs : List H3) (ws : List W3) (w : World) (hr : Rd w w.heap.size 3 A n (cells3 hs)) (hw : Rd w w.heap.size 3 B m (cellsW ws)) (hmd : m ≤ d) :
    Calls Try.prog 5 #[.agg #[.slice A n c], .slice B m d] w fun e w' => e = .returned (.bool true) ∧ Below w.heap.size w w' := by
  by_cases hbig : n > 60 ∨ m > 30
  · exact errors_lives A B n c m d w hbig
  have hn6 : n ≤ 60 := by omega
  have hm6 : m ≤ 30 := by omega
  have hd1 : decide ((n : Int) > 60) = false := by simp; omega
  have hd2 : decide ((m : Int) > 30) = false := by simp; omega
  have hn : (n : Int) ≤ 1000000 := by omega
  have hm : (m : Int) ≤ 1000000 := by omega
  clear hbig
  have hb0 : Below w.heap.size w (w.alloc (.cells #[.slice A n c] 29)) := (Below.refl _ _).alloc (Nat.le_refl _) _
  go_enter Try.func5, Try.ntmps5
  go_wp2_with fail
  refine (refCheckWaits_any _ _ _ _ _ _ hs ws _ (hr.step hb0) (hw.step hb0) hn hm).mono ?_
  rintro e w1 ⟨rfl, hb1'⟩
  have hb1 := below_alloc1 hb1'
  have q1 : w1.cell? ⟨w.heap.size, 0, none⟩ = some (.slice A n c) := cs_ hb1' (by simp) (by simp [go_sem])
  have hr := hr.step hb1
  have hw := hw.step hb1
  clear hb1'
  go_wp2_with fail
  refine (checkWaits_any _ _ _ _ _ _ hs ws _ hr hw hn hm hmd).mono ?_
  rintro e w2 ⟨rfl, hb2⟩
  have hb := hb1.trans (hb2.mono hb1.size)
  have q2 := keep_cell hb2 q1
  have hr := hr.step hb2
  have hw := hw.step hb2
  clear hb2 q1 hb1
  by_cases h0 : cwF hs ws = 0
  · have HC := Lib.hid h0
    have HCY : Hid (cycF hs ws = refCyc fun th => forF hs th ws) := by unfold Hid cycF; rw [if_pos h0]
    have hl := refCyc_len fun th => forF hs th ws
    rw [h0]
    clear h0
    have hcl : ∀ {w : World} {B : Nat} {A : Option Addr} {k : Nat}, Rd w B 1 A k (cells1 (refCyc fun th => forF hs th ws)) → (k : Int) ≤ 1000000 := fun h => by have := h.len1; omega
    have hcl9 : ∀ {w : World} {B : Nat} {A : Option Addr} {k : Nat}, Rd w B 1 A k (cells1 (refCyc fun th => forF hs th ws)) → (k : Int) ≤ 9223372036854775807 := fun h => by have := h.len1; omega
    have hR1 : Rd w2.drew w2.drew.heap.size 3 A n (cells3 hs) := hr
    have hW1 : Rd w2.drew w2.drew.heap.size 3 B m (cellsW ws) := hw
    have hbd : Below w2.heap.size w2 w2.drew := below_drewN' (Below.refl _ _) 1
    go_wp2_with fail
    go_region_held3 (fun w' => w'.cell? ⟨w.heap.size, 0, none⟩ = some (.slice A n c)) (go_keep) (first
      | (go_at_call 12; refine (cycle_any A B n c m d hs ws w2.drew hR1 hW1 hn hm hmd).mono ?_; rintro e w3 ⟨A1, m1, rfl, hc1, hb3⟩; have hb4 : Below w2.heap.size w2 w3 := below_of_drew hb3; have q3 := keep_cell hb4 q2; have hR2 := hr.step hb4; have hW2 := hw.step hb4; rw [HCY.out] at hc1)
      | (go_at_call 16; refine (refCycle_any A B n c m d hs ws w3 hR2 hW2 hn hm).mono ?_; rintro e w4 ⟨A2, m2, c2, rfl, hmc, hc2, hb5⟩; have hb6 : Below w2.heap.size w2 w4 := hb4.trans (hb5.mono hb4.size); have q4 := keep_cell hb6 q2; have hc3 := hc1.step hb5)
      | (go_at_call 16; refine (refCycle_any A B n c m d hs ws w2.drew hR1 hW1 hn hm).mono ?_; rintro e w3 ⟨A2, m2, c2, rfl, hmc, hc2', hb3⟩; have hb4 : Below w2.heap.size w2 w3 := below_of_drew hb3; have q3 := keep_cell hb4 q2; have hR3 := hr.step hb4; have hW3 := hw.step hb4)
      | (go_at_call 12; refine (cycle_any A B n c m d hs ws w3 hR3 hW3 hn hm hmd).mono ?_; rintro e w4 ⟨A1, m1, rfl, hc3, hb5⟩; have hb6 : Below w2.heap.size w2 w4 := hb4.trans (hb5.mono hb4.size); have q4 := keep_cell hb6 q2; rw [HCY.out] at hc3; have hc2 := hc2'.step hb5)
      | (go_at_call 15; refine (ints_any A1 A2 m1 m1 m2 c2 _ _ w4 hc3 hc2 (hcl hc3) (hcl hc2) (hcl9 hc3)).mono ?_; rintro e w5 ⟨rfl, hb7⟩; rw [ints_one]; have hb8 : Below w2.heap.size w2 w5 := hb6.trans (hb7.mono hb6.size); have q5 := keep_cell hb8 q2)
      | (go_at_call 9; refine (lives_any w5).mono ?_; rintro e w6 ⟨rfl, hb9⟩; have hb10 : Below w2.heap.size w2 w6 := hb8.trans (hb9.mono hb8.size); have q6 := keep_cell hb10 q2))
    all_goals
      go_wp2
      go_ret
      exact ⟨rfl, hb.trans (hb10.mono hb.size)⟩
  · have hd : (cwF hs ws != 0) = true := by simpa using h0
    have HU : Hid (upwardB hs ws = false) := by unfold Hid upwardB; rw [if_neg h0]
    have HCY : Hid (cycF hs ws = []) := by unfold Hid cycF; rw [if_neg h0]
    go_wp2_with fail
    refine (cycle_any _ _ _ _ _ _ hs ws _ hr hw hn hm hmd).mono ?_
    rintro e w3 ⟨A1, m1, rfl, hc1, hb3⟩
    rw [HCY.out] at hc1
    obtain rfl : m1 = 0 := hc1.len1
    have hb4 := hb.trans (hb3.mono hb.size)
    have q3 := keep_cell hb3 q2
    have hr3 := hr.step hb3
    have hw3 := hw.step hb3
    go_wp2_with fail
    refine (upward_any _ _ _ _ _ _ hs ws _ hr3 hw3 hn hm hmd).mono ?_
    rintro e w4 ⟨rfl, hb5⟩
    rw [HU.out]
    have hb6 := hb4.trans (hb5.mono hb4.size)
    go_wp2_with fail
    refine (lives_any _).mono ?_
    rintro e w5 ⟨rfl, hb7⟩
    go_wp2
    go_ret
    exact ⟨rfl, hb6.trans (hb7.mono hb6.size)⟩
end Go.Proofs.Ytfdfadebfdmdgaa
