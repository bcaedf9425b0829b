/- shapes.Sectors, for whatever number. -/
import Derived.Test.YtjknpcllmmalkaaGreatDoorCfg
namespace Go.Proofs.YtjknpcllmmalkaaGreatDoor
open Go.RowKit

/-- twice the blocks, and twice the counts of the lowest levels -/
def sumTo (n : Nat) : Nat → Nat
  | 0 => 2 * n
  | k + 1 => sumTo n k + 2 * cntAt n k
theorem cntAt_le {n : Nat} (hn : n ≤ 4096) : ∀ k, cntAt n k ≤ 1024
  | 0 => by show (n + 3) / 4 ≤ 1024; omega
  | k + 1 => by have := cntAt_le hn k; show (cntAt n k + 3) / 4 ≤ 1024; omega
theorem sumTo_le {n : Nat} (hn : n ≤ 4096) : ∀ k, sumTo n k ≤ 8192 + 2048 * k
  | 0 => by show 2 * n ≤ _; omega
  | k + 1 => by
    have h1 := sumTo_le hn k
    have h2 := cntAt_le hn k
    show sumTo n k + 2 * cntAt n k ≤ _
    omega
theorem cntL_get (n r k : Nat) (hk : k < r) : (cntL n r)[k]? = some (.int .i64 (cntAt n k : Nat)) := by
  rw [cntL, List.getElem?_append_left (by simpa using hk)]
  simp [hk]
set_option maxRecDepth 100000 in
set_option maxHeartbeats 1000000 in
theorem base_any (g n r : Nat) (hr : 1 ≤ r) (hr6 : r ≤ 6) (hn : n ≤ 4096) (w : World) (row : Row w g 217 (cntL n r)) :
    Calls Tryz.prog 34 #[.agg #[.int .i64 n, .slice (some ⟨g, 0, none⟩) r 6], .int .i64 r] w fun e w' => e = .returned (.int .i64 (sumTo n r : Nat)) ∧ Below w.heap.size w w' := by
  have HR := Lib.hid row
  have h0 : IntKind.i64.wrap (2 * (n : Int)) = ((sumTo n 0 : Nat) : Int) := by rw [IntWalk.i64_in _ (by omega)]; show _ = ((2 * n : Nat) : Int); omega
  clear row
  go_enter Tryz.func34, Tryz.ntmps34
  go_wp2
  go_loopw [5, 16] (fun o i wr => ∃ k : Nat, k ≤ r ∧ i = .int .i64 k ∧ o = .int .i64 (sumTo n k : Nat) ∧ Below w.heap.size w wr) (fun _ i _ => r - (intOf i).toNat)
  case atStart => exact ⟨0, Nat.zero_le _, rfl, rfl, (Below.refl _ _).alloc (Nat.le_refl _) _⟩
  case round =>
    obtain ⟨k, hk, rfl, rfl, hb⟩ := hrel
    by_cases hlt : k < r
    · have hrow := HR.out.below hb (Array.getElem?_eq_some_iff.1 HR.out).1
      have hc := hrow.cell (cntL_get n r k hlt)
      have b1 := cntAt_le hn k
      have b2 := sumTo_le hn k
      have h2 : IntKind.i64.wrap (2 * ((cntAt n k : Nat) : Int)) = 2 * ((cntAt n k : Nat) : Int) := IntWalk.i64_in _ (by omega)
      have h3 : IntKind.i64.wrap (((sumTo n k : Nat) : Int) + 2 * ((cntAt n k : Nat) : Int)) = ((sumTo n (k + 1) : Nat) : Int) := by
        rw [IntWalk.i64_in _ (by omega)]; show _ = ((sumTo n k + 2 * cntAt n k : Nat) : Int); omega
      clear hrow
      go_wp2
      go_roundw
      case rel => exact ⟨k + 1, by omega, by go_num, rfl, hb⟩
      case measure => simp [intOf]; omega
    · obtain rfl : k = r := by omega
      go_wp2
      go_ret
      exact ⟨rfl, hb⟩
/-- what shapes.Sectors tells -/
def secH (n : Int) : Int := if 1 ≤ n ∧ n ≤ 4096 then (sumTo n.toNat (hgtN n.toNat + 1) : Nat) else 0
theorem hgtN_le (n : Nat) : hgtN n ≤ 5 := by unfold hgtN; (repeat' split) <;> omega
set_option maxRecDepth 100000 in
set_option maxHeartbeats 1000000 in
theorem sectors_any (n : Int) (w : World) :
    Calls Tryz.prog 15 #[.int .i64 n] w fun e w' => e = .returned (.tuple #[.int .i64 (secH n), .int .i64 (htE n)]) ∧ Below w.heap.size w w' := by
  by_cases hn : 1 ≤ n ∧ n ≤ 4096
  · obtain ⟨m, rfl⟩ : ∃ m : Nat, n = m := ⟨n.toNat, by omega⟩
    have hk := of_good m (by omega) (by omega)
    have hH : secH (m : Int) = (sumTo m (hgtN m + 1) : Nat) := by unfold secH; rw [if_pos hn]; rfl
    have hE : htE (m : Int) = 0 := by unfold htE; rw [if_pos hn]
    rw [hH, hE]
    have hbase := fun (g : Nat) (w : World) (row : Row w g 217 (cntL m (hgtN m + 1))) => base_any g m (hgtN m + 1) (by omega) (by have := hgtN_le m; omega) (by omega) w row
    simp only [show ((hgtN m + 1 : Nat) : Int) = (hgtN m : Int) + 1 from by omega] at hbase
    go_enter Tryz.func15, Tryz.ntmps15
    go_wp2_with (first | (go_at_call 33; refine (hk _).mono ?_; rintro e w2 ⟨⟨g, rfl, hrow, hge⟩, hb2⟩; have HR := Lib.hid hrow; clear hrow) | (go_at_call 34; refine (hbase _ _ (show Row _ g 217 _ from (heap_alloc_old _ _ (Array.getElem?_eq_some_iff.1 HR.out).1).trans HR.out)).mono ?_; rintro e w3 ⟨rfl, hb3⟩))
    go_ret2
    exact ⟨rfl, (Below.alloc hb2 hb2.size _).trans (hb3.mono (by have := hb2.size; simp; omega))⟩
  · have hk := of_bad n hn
    have hH : secH n = 0 := by unfold secH; rw [if_neg hn]
    have hE : htE n = 1 := by unfold htE; rw [if_neg hn]
    rw [hH, hE]
    go_enter Tryz.func15, Tryz.ntmps15
    go_wp2_with (go_at_call 33; refine (hk _).mono ?_; rintro e w2 ⟨rfl, hb2⟩)
    go_ret2
    exact ⟨rfl, by repeat (first | exact hb2 | refine Below.alloc ?_ hb2.size _ | refine Below.setCell ?_ hb2.size _)⟩
end Go.Proofs.YtjknpcllmmalkaaGreatDoor
