/- The reference's heights by counts (layer 12). -/
import Derived.Test.YtnpnljgjloofkaaGreatDoorFrc
namespace Go.Proofs.YtnpnljgjloofkaaGreatDoor
open Go.RowKit

/-- the count before a level -/
def cntB (n : Nat) : Nat → Nat
  | 0 => n
  | k + 1 => cntAt n k
theorem cntB_step (n k : Nat) : cntAt n k = (cntB n k + 3) / 4 := by cases k <;> rfl
theorem cntB_le {n : Nat} (hn : n ≤ 4096) (k : Nat) : cntB n k ≤ 4096 := by
  cases k with
  | zero => exact hn
  | succ k => have := cntAt_le2 hn k; show cntAt n k ≤ 4096; omega
theorem hgtN_le5 (n : Nat) : hgtN n ≤ 5 := by unfold hgtN; (repeat' split) <;> omega
set_option maxRecDepth 100000 in
set_option maxHeartbeats 1000000 in
theorem c12_any (n L : Nat) (h1 : 1 ≤ n) (hn : n ≤ 4096) (hL : L ≤ hgtN n) (w : World) :
    Calls Tryz.prog 63 #[.int .i64 n, .int .i64 L] w fun e w' => e = .returned (.int .i64 (cntAt n L : Nat)) ∧ w' = w := by
  have h5 := hgtN_le5 n
  go_enter Tryz.func63, Tryz.ntmps63
  go_wp2
  go_loop [5, 6] (fun c i => ∃ k : Nat, k ≤ L + 1 ∧ c = .int .i64 (cntB n k : Nat) ∧ i = .int .i64 k) (fun _ i => L + 1 - (intOf i).toNat)
  case atStart => exact ⟨0, Nat.zero_le _, rfl, rfl⟩
  case round =>
    obtain ⟨k, hk, rfl, rfl⟩ := hrel
    have b2 := cntB_le hn k
    have st := cntB_step n k
    have e1 : IntKind.i64.wrap (((cntB n k : Nat) : Int) + 3) = ((cntB n k : Nat) : Int) + 3 := IntWalk.i64_in _ (by omega)
    by_cases hl : k ≤ L
    · have hd : decide ((k : Int) ≤ (L : Int)) = true := by simp; omega
      by_cases h0 : k = 0
      · subst h0
        go_wp2
        exact ⟨⟨0 + 1, by omega, vint (by show _ = ((cntAt n 0 : Nat) : Int); omega), vint (by omega)⟩, by simp [intOf]⟩
      · have hd4 : decide (0 < k) = true := by simp; omega
        have hd2 : decide ((k : Int) > 0) = true := by simp; omega
        have hne : ((cntB n k : Nat) : Int) ≠ 1 := by
          obtain ⟨j, rfl⟩ : ∃ j, k = j + 1 := ⟨k - 1, by omega⟩
          show ((cntAt n j : Nat) : Int) ≠ 1
          have hj := cnt_one h1 hn j (by omega)
          have hp := cntAt_pos h1 j
          intro he
          have := hj.1 (by omega)
          omega
        have hd3 : (((cntB n k : Nat) : Int) == 1) = false := by simpa using hne
        clear h0 hne
        go_wp2
        exact ⟨⟨k + 1, by omega, vint (by show _ = ((cntAt n k : Nat) : Int); omega), vint (by omega)⟩, by simp [intOf]; omega⟩
    · have hd : decide ((k : Int) ≤ (L : Int)) = false := by simp; omega
      have hkl : k = L + 1 := by omega
      have HK := Lib.hid hkl
      clear hkl
      go_wp2
      go_ret
      exact ⟨ret_int (by rw [HK.out]; rfl), rfl⟩
set_option maxRecDepth 100000 in
set_option maxHeartbeats 1000000 in
theorem h12_any (n : Nat) (h1 : 1 ≤ n) (hn : n ≤ 4096) (w : World) :
    Calls Tryz.prog 38 #[.int .i64 n] w fun e w' => e = .returned (.int .i64 (hgtN n : Nat)) ∧ w' = w := by
  have h5 := hgtN_le5 n
  have HC := fun (L : Nat) (hL : L ≤ hgtN n) (W : World) => c12_any n L h1 hn hL W
  go_enter Tryz.func38, Tryz.ntmps38
  go_wp2
  go_loopw [3] (fun h wr => ∃ k : Nat, k ≤ hgtN n ∧ h = .int .i64 k ∧ Hid (wr = w)) (fun h _ => hgtN n - (intOf h).toNat)
  case atStart => exact ⟨0, Nat.zero_le _, rfl, rfl⟩
  case round =>
    obtain ⟨k, hk, rfl, hW⟩ := hrel
    have hwr := hW.out
    rw [hwr]
    clear hW hwr
    have c1 := cnt_one h1 hn k hk
    have b1 := cntAt_pos h1 k
    have HCk := HC k hk
    by_cases hl : cntAt n k ≤ 1
    · have hd : (((cntAt n k : Nat) : Int) != 1) = false := by simp; omega
      have HK := Lib.hid (c1.1 hl)
      clear c1
      go_wp2_with (go_at_call 63; refine (HCk _).mono ?_; rintro e w2 ⟨rfl, rfl⟩)
      go_ret
      exact ⟨ret_int (by rw [HK.out]), rfl⟩
    · have hd : (((cntAt n k : Nat) : Int) != 1) = true := by simp; omega
      have hne : k ≠ hgtN n := fun e => hl (c1.2 e)
      go_wp2_with (go_at_call 63; refine (HCk _).mono ?_; rintro e w2 ⟨rfl, rfl⟩)
      go_roundw
      case rel => exact ⟨k + 1, by omega, vint (by omega), by first | rfl | (unfold Hid; trivial)⟩
      case measure => simp [intOf]; omega
end Go.Proofs.YtnpnljgjloofkaaGreatDoor
