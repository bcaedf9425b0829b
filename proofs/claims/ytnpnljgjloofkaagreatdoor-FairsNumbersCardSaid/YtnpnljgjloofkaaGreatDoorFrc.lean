/- The reference's heights, sectors and T. -/
import Derived.Test.YtnpnljgjloofkaaGreatDoorFrb
namespace Go.Proofs.YtnpnljgjloofkaaGreatDoor
open Go.RowKit

theorem vint {k : IntKind} {a b : Int} (h : a = b) : Value.int k a = Value.int k b := by rw [h]
theorem cntAt_pos {n : Nat} (h : 1 ≤ n) : ∀ k, 1 ≤ cntAt n k
  | 0 => by show 1 ≤ (n + 3) / 4; omega
  | k + 1 => by have := cntAt_pos h k; show 1 ≤ (cntAt n k + 3) / 4; omega
theorem cntAt_le2 {n : Nat} (hn : n ≤ 4096) : ∀ k, cntAt n k ≤ 1024
  | 0 => by show (n + 3) / 4 ≤ 1024; omega
  | k + 1 => by have := cntAt_le2 hn k; show (cntAt n k + 3) / 4 ≤ 1024; omega
/-- the height is where the counts come down to one -/
theorem cnt_one {n : Nat} (h1 : 1 ≤ n) (hn : n ≤ 4096) (k : Nat) (hk : k ≤ hgtN n) : cntAt n k ≤ 1 ↔ k = hgtN n := by
  have h5 : hgtN n ≤ 5 := by unfold hgtN; (repeat' split) <;> omega
  have : k = 0 ∨ k = 1 ∨ k = 2 ∨ k = 3 ∨ k = 4 ∨ k = 5 := by omega
  unfold hgtN at hk ⊢
  rcases this with rfl | rfl | rfl | rfl | rfl | rfl <;> simp only [cntAt] <;> (repeat' split at hk) <;> (repeat' split) <;> omega
set_option maxRecDepth 100000 in
set_option maxHeartbeats 1000000 in
theorem h39_any (n : Nat) (h1 : 1 ≤ n) (hn : n ≤ 4096) (w : World) :
    Calls Tryz.prog 14 #[.int .i64 n] w fun e w' => e = .returned (.int .i64 (hgtN n : Nat)) ∧ w' = w := by
  have e0 : IntKind.i64.wrap ((n : Int) + 3) = (n : Int) + 3 := IntWalk.i64_in _ (by omega)
  go_enter Tryz.func14, Tryz.ntmps14
  go_wp2
  go_loop [3, 4] (fun h i => ∃ k : Nat, k ≤ hgtN n ∧ h = .int .i64 k ∧ i = .int .i64 (cntAt n k : Nat)) (fun h _ => hgtN n - (intOf h).toNat)
  case atStart => exact ⟨0, Nat.zero_le _, rfl, vint (by show _ = (((n + 3) / 4 : Nat) : Int); omega)⟩
  case round =>
    obtain ⟨k, hk, rfl, rfl⟩ := hrel
    have c1 := cnt_one h1 hn k hk
    have b1 := cntAt_pos h1 k
    have b2 := cntAt_le2 hn k
    have h5 : hgtN n ≤ 5 := by unfold hgtN; (repeat' split) <;> omega
    have e1 : IntKind.i64.wrap (((cntAt n k : Nat) : Int) + 3) = ((cntAt n k : Nat) : Int) + 3 := IntWalk.i64_in _ (by omega)
    by_cases hl : cntAt n k ≤ 1
    · have hd : decide (((cntAt n k : Nat) : Int) > 1) = false := by simp; omega
      go_wp2
      go_ret
      exact ⟨ret_int (by rw [c1.1 hl]), rfl⟩
    · have hd : decide (((cntAt n k : Nat) : Int) > 1) = true := by simp; omega
      go_wp2
      have hne : k ≠ hgtN n := fun e => hl (c1.2 e)
      exact ⟨⟨k + 1, by omega, vint (by omega), vint (by show _ = (((cntAt n k + 3) / 4 : Nat) : Int); omega)⟩, by simp [intOf]; omega⟩
set_option maxRecDepth 100000 in
set_option maxHeartbeats 1000000 in
theorem t39_any (n : Nat) (h1 : 1 ≤ n) (hn : n ≤ 4096) (s z : Int) (hs : 0 ≤ s ∧ s ≤ 8) (hz : 0 ≤ z ∧ z ≤ 512) (w : World) :
    Calls Tryz.prog 8 #[.int .i64 n, .int .i64 s, .int .i64 z] w fun e w' => e = .returned (.int .i64 (tNum n s z)) ∧ w' = w := by
  have HH := fun W => h39_any n h1 hn W
  have hB := tNum_le (bl := (n : Int)) (sh := s) (z := z) hs.1 hs.2 hz.1 hz.2
  have hh := htH_le (n : Int)
  have hx : htH (n : Int) = (hgtN n : Nat) := by unfold htH; rw [if_pos (by omega)]; rfl
  unfold tNum
  rw [hx] at hB hh ⊢
  generalize ((hgtN n : Nat) : Int) = x at HH hB hh ⊢
  have e1 : IntKind.i64.wrap (6 * x) = 6 * x := IntWalk.i64_in _ (by omega)
  have e2 : IntKind.i64.wrap (6 * x + s) = 6 * x + s := IntWalk.i64_in _ (by omega)
  have e3 : IntKind.i64.wrap (6 * x + s + 17) = 6 * x + s + 17 := IntWalk.i64_in _ (by omega)
  have e4 : IntKind.i64.wrap (z * (6 * x + s + 17)) = z * (6 * x + s + 17) := IntWalk.i64_in _ (by omega)
  have e5 : IntKind.i64.wrap (12 * z) = 12 * z := IntWalk.i64_in _ (by omega)
  have e6 : IntKind.i64.wrap (12 * z * z) = 12 * z * z := IntWalk.i64_in _ (by omega)
  have e7 : IntKind.i64.wrap (z * (6 * x + s + 17) + 12 * z * z) = z * (6 * x + s + 17) + 12 * z * z := IntWalk.i64_in _ (by omega)
  clear hB hh hs hz hx
  go_enter Tryz.func8, Tryz.ntmps8
  go_wp2_with (go_at_call 14; refine (HH _).mono ?_; rintro e w2 ⟨rfl, rfl⟩)
  go_ret
  exact ⟨rfl, rfl⟩
/-- the sum before a level -/
def secTo (n : Nat) : Nat → Nat
  | 0 => 2 * n
  | k + 1 => secTo n k + 2 * cntAt n k
theorem secTo_le {n : Nat} (hn : n ≤ 4096) : ∀ k, secTo n k ≤ 8192 + 2048 * k
  | 0 => by show 2 * n ≤ _; omega
  | k + 1 => by have h1 := secTo_le hn k; have h2 := cntAt_le2 hn k; show secTo n k + 2 * cntAt n k ≤ _; omega
set_option maxRecDepth 100000 in
set_option maxHeartbeats 1000000 in
theorem s34_any (n : Nat) (h1 : 1 ≤ n) (hn : n ≤ 4096) (w : World) :
    Calls Tryz.prog 24 #[.int .i64 n] w fun e w' => e = .returned (.int .i64 (secTo n (hgtN n + 1) : Nat)) ∧ w' = w := by
  have e0 : IntKind.i64.wrap ((n : Int) + 3) = (n : Int) + 3 := IntWalk.i64_in _ (by omega)
  have e9 : IntKind.i64.wrap (2 * (n : Int)) = 2 * (n : Int) := IntWalk.i64_in _ (by omega)
  go_enter Tryz.func24, Tryz.ntmps24
  go_wp2
  go_loop [3, 4] (fun t i => ∃ k : Nat, k ≤ hgtN n ∧ t = .int .i64 (secTo n k : Nat) ∧ i = .int .i64 (cntAt n k : Nat)) (fun _ i => (intOf i).toNat)
  case atStart => exact ⟨0, Nat.zero_le _, vint (by show _ = ((2 * n : Nat) : Int); omega), vint (by show _ = (((n + 3) / 4 : Nat) : Int); omega)⟩
  case round =>
    obtain ⟨k, hk, rfl, rfl⟩ := hrel
    have c1 := cnt_one h1 hn k hk
    have b1 := cntAt_pos h1 k
    have b2 := cntAt_le2 hn k
    have b3 := secTo_le hn k
    have h5 : hgtN n ≤ 5 := by unfold hgtN; (repeat' split) <;> omega
    have e1 : IntKind.i64.wrap (((cntAt n k : Nat) : Int) + 3) = ((cntAt n k : Nat) : Int) + 3 := IntWalk.i64_in _ (by omega)
    have e2 : IntKind.i64.wrap (2 * ((cntAt n k : Nat) : Int)) = 2 * ((cntAt n k : Nat) : Int) := IntWalk.i64_in _ (by omega)
    have e3 : IntKind.i64.wrap (((secTo n k : Nat) : Int) + 2 * ((cntAt n k : Nat) : Int)) = ((secTo n k : Nat) : Int) + 2 * ((cntAt n k : Nat) : Int) := IntWalk.i64_in _ (by omega)
    by_cases hl : cntAt n k ≤ 1
    · have hd : (((cntAt n k : Nat) : Int) == 1) = true := by simp; omega
      have HK := Lib.hid (c1.1 hl)
      clear c1
      go_wp2
      go_ret
      have hke := HK.out
      exact ⟨ret_int (by rw [← hke]; show _ = ((secTo n k + 2 * cntAt n k : Nat) : Int); first | omega | (unfold wrap64; omega)), rfl⟩
    · have hd : (((cntAt n k : Nat) : Int) == 1) = false := by simp; omega
      have hne : k ≠ hgtN n := fun e => hl (c1.2 e)
      go_wp2
      exact ⟨⟨k + 1, by omega, vint (by show _ = ((secTo n k + 2 * cntAt n k : Nat) : Int); first | omega | (unfold wrap64; omega)), vint (by show _ = (((cntAt n k + 3) / 4 : Nat) : Int); omega)⟩, by simp [intOf]; omega⟩
end Go.Proofs.YtnpnljgjloofkaaGreatDoor
