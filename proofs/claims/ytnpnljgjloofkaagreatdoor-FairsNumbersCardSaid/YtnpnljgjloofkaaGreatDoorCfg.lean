/- A configuration is checked: shapes.Height and worlds.Check, for whatever configuration. -/
import Derived.Test.YtnpnljgjloofkaaGreatDoorShC
namespace Go.Proofs.YtnpnljgjloofkaaGreatDoor
open Go.RowKit

theorem above_any (n : Nat) (hn : n ≤ 4096) (w : World) :
    Calls Tryz.prog 64 #[.int .i64 n] w fun e w' => e = .returned (.int .i64 (((n + 3) / 4 : Nat) : Int)) ∧ w' = w := by
  have h1 : IntKind.i64.wrap ((n : Int) + 4) = (n : Int) + 4 := IntWalk.i64_in _ (by omega)
  have h2 : IntKind.i64.wrap ((n : Int) + 4 - 1) = (n : Int) + 3 := by rw [IntWalk.i64_in _ (by omega)]; omega
  go_enter Tryz.func64, Tryz.ntmps64
  go_wp2
  go_ret
  exact ⟨ret_int (by omega), rfl⟩

theorem shCheck_any (n : Int) (w : World) :
    Calls Tryz.prog 40 #[.int .i64 n] w fun e w' => e = .returned (.int .i64 (if 1 ≤ n ∧ n ≤ 4096 then 0 else 1)) ∧ w' = w := by
  go_enter Tryz.func40, Tryz.ntmps40
  go_wp2
  all_goals
    go_ret
    refine ⟨ret_int ?_, rfl⟩
    simp at *
    try omega

theorem Row.apart {w : World} {g g2 : Nat} {t : TypeId} {L : List Value} (h : Row w g t L) (hne : g2 ≠ g) (i : Nat) (v : Value) : Row (w.setCell ⟨g2, i, none⟩ v) g t L := by
  show (w.heap.modify g2 _)[g]? = _
  rw [Array.getElem?_modify, if_neg hne]; exact h
theorem retB {a b : Bool} (h : a = b) : Ending.returned (.bool a) = .returned (.bool b) := by rw [h]
theorem retT {a b c d : Int} (h : a = b) (h2 : c = d) : Ending.returned (.tuple #[.int .i64 a, .int .i64 c]) = .returned (.tuple #[.int .i64 b, .int .i64 d]) := by rw [h, h2]
/-- the height of a number of blocks -/
def hgtN (n : Nat) : Nat := if n ≤ 4 then 0 else if n ≤ 16 then 1 else if n ≤ 64 then 2 else if n ≤ 256 then 3 else if n ≤ 1024 then 4 else 5
/-- the counts of the levels -/
def cntAt (n : Nat) : Nat → Nat
  | 0 => (n + 3) / 4
  | k + 1 => (cntAt n k + 3) / 4
/-- the row of counts -/
def cntL (n r : Nat) : List Value := (List.range r).map (fun k => .int .i64 (cntAt n k : Nat)) ++ List.replicate (6 - r) (.int .i64 0)
set_option maxRecDepth 100000 in
set_option maxHeartbeats 1000000 in
theorem counts1 (n : Nat) (h1 : 0 < n) (hn : n ≤ 4) (w : World) :
    Calls Tryz.prog 41 #[.int .i64 n] w fun e w' => e = .returned (.slice (some ⟨w.heap.size, 0, none⟩) 1 6) ∧ Row w' w.heap.size 175 (cntL n 1) ∧ Below w.heap.size w w' := by
  have ha0 := above_any n (by omega)
  obtain ⟨c0, hc0⟩ : ∃ c, c = (n + 3) / 4 := ⟨_, rfl⟩
  rw [← hc0] at ha0
  have e0 : c0 = 1 := by omega
  have q0 : cntAt n 0 = c0 := by rw [cntAt]; exact hc0.symm
  have HQ := Lib.hid (show cntL n 1 = [.int .i64 1, .int .i64 0, .int .i64 0, .int .i64 0, .int .i64 0, .int .i64 0] by simp only [cntL, List.range, List.range.loop, List.map_cons, List.map_nil, q0, e0]; rfl)
  rw [e0] at ha0
  clear q0 hc0 h1 hn
  go_enter Tryz.func41, Tryz.ntmps41
  go_wp2_with (go_at_call 64; first | (refine (ha0 _).mono ?_; rintro e w2 ⟨rfl, rfl⟩))
  refine wp_loop_rounds 1 ?_
  rw [rounds_succ]
  go_wp2_with (go_at_call 64; first | (refine (ha0 _).mono ?_; rintro e w2 ⟨rfl, rfl⟩))
  go_ret
  rw [HQ.out]
  exact ⟨rfl, (Below.block (B := w.heap.size + 1) (w := w.alloc (.cells #[.int .i64 1, .int .i64 0, .int .i64 0, .int .i64 0, .int .i64 0, .int .i64 0] 175)) (by repeat (first | exact Below.refl _ _ | refine Below.alloc ?_ (by first | (simp; done) | (simp; omega)) _)) _ (Nat.lt_succ_self _)).trans (heap_alloc_new _ _), by repeat (first | exact Below.refl _ _ | refine Below.alloc ?_ (by first | (simp; done) | (simp; omega)) _)⟩
set_option maxRecDepth 100000 in
set_option maxHeartbeats 1000000 in
theorem counts2 (n : Nat) (h1 : 4 < n) (hn : n ≤ 16) (w : World) :
    Calls Tryz.prog 41 #[.int .i64 n] w fun e w' => e = .returned (.slice (some ⟨w.heap.size, 0, none⟩) 2 6) ∧ Row w' w.heap.size 175 (cntL n 2) ∧ Below w.heap.size w w' := by
  have ha0 := above_any n (by omega)
  obtain ⟨c0, hc0⟩ : ∃ c, c = (n + 3) / 4 := ⟨_, rfl⟩
  rw [← hc0] at ha0
  have ha1 := above_any c0 (by omega)
  obtain ⟨c1, hc1⟩ : ∃ c, c = (c0 + 3) / 4 := ⟨_, rfl⟩
  rw [← hc1] at ha1
  have e1 : c1 = 1 := by omega
  have e0 : ((c0 : Int) == 1) = false := by simp; omega
  have q0 : cntAt n 0 = c0 := by rw [cntAt]; exact hc0.symm
  have q1 : cntAt n 1 = c1 := by rw [cntAt, q0]; exact hc1.symm
  have HQ := Lib.hid (show cntL n 2 = [.int .i64 (c0 : Nat), .int .i64 1, .int .i64 0, .int .i64 0, .int .i64 0, .int .i64 0] by simp only [cntL, List.range, List.range.loop, List.map_cons, List.map_nil, q0, q1, e1]; rfl)
  rw [e1] at ha1
  clear q1 q0 hc1 hc0 h1 hn
  go_enter Tryz.func41, Tryz.ntmps41
  go_wp2_with (go_at_call 64; first | (refine (ha0 _).mono ?_; rintro e w2 ⟨rfl, rfl⟩) | (refine (ha1 _).mono ?_; rintro e w2 ⟨rfl, rfl⟩))
  refine wp_loop_rounds 2 ?_
  rw [rounds_succ]
  go_wp2_with (go_at_call 64; first | (refine (ha0 _).mono ?_; rintro e w2 ⟨rfl, rfl⟩) | (refine (ha1 _).mono ?_; rintro e w2 ⟨rfl, rfl⟩))
  rw [rounds_succ]
  go_wp2_with (go_at_call 64; first | (refine (ha0 _).mono ?_; rintro e w2 ⟨rfl, rfl⟩) | (refine (ha1 _).mono ?_; rintro e w2 ⟨rfl, rfl⟩))
  go_ret
  rw [HQ.out]
  exact ⟨rfl, (Below.block (B := w.heap.size + 1) (w := w.alloc (.cells #[.int .i64 (c0 : Nat), .int .i64 1, .int .i64 0, .int .i64 0, .int .i64 0, .int .i64 0] 175)) (by repeat (first | exact Below.refl _ _ | refine Below.alloc ?_ (by first | (simp; done) | (simp; omega)) _)) _ (Nat.lt_succ_self _)).trans (heap_alloc_new _ _), by repeat (first | exact Below.refl _ _ | refine Below.alloc ?_ (by first | (simp; done) | (simp; omega)) _)⟩
set_option maxRecDepth 100000 in
set_option maxHeartbeats 1000000 in
theorem counts3 (n : Nat) (h1 : 16 < n) (hn : n ≤ 64) (w : World) :
    Calls Tryz.prog 41 #[.int .i64 n] w fun e w' => e = .returned (.slice (some ⟨w.heap.size, 0, none⟩) 3 6) ∧ Row w' w.heap.size 175 (cntL n 3) ∧ Below w.heap.size w w' := by
  have ha0 := above_any n (by omega)
  obtain ⟨c0, hc0⟩ : ∃ c, c = (n + 3) / 4 := ⟨_, rfl⟩
  rw [← hc0] at ha0
  have ha1 := above_any c0 (by omega)
  obtain ⟨c1, hc1⟩ : ∃ c, c = (c0 + 3) / 4 := ⟨_, rfl⟩
  rw [← hc1] at ha1
  have ha2 := above_any c1 (by omega)
  obtain ⟨c2, hc2⟩ : ∃ c, c = (c1 + 3) / 4 := ⟨_, rfl⟩
  rw [← hc2] at ha2
  have e2 : c2 = 1 := by omega
  have e0 : ((c0 : Int) == 1) = false := by simp; omega
  have e1 : ((c1 : Int) == 1) = false := by simp; omega
  have q0 : cntAt n 0 = c0 := by rw [cntAt]; exact hc0.symm
  have q1 : cntAt n 1 = c1 := by rw [cntAt, q0]; exact hc1.symm
  have q2 : cntAt n 2 = c2 := by rw [cntAt, q1]; exact hc2.symm
  have HQ := Lib.hid (show cntL n 3 = [.int .i64 (c0 : Nat), .int .i64 (c1 : Nat), .int .i64 1, .int .i64 0, .int .i64 0, .int .i64 0] by simp only [cntL, List.range, List.range.loop, List.map_cons, List.map_nil, q0, q1, q2, e2]; rfl)
  rw [e2] at ha2
  clear q2 q1 q0 hc2 hc1 hc0 h1 hn
  go_enter Tryz.func41, Tryz.ntmps41
  go_wp2_with (go_at_call 64; first | (refine (ha0 _).mono ?_; rintro e w2 ⟨rfl, rfl⟩) | (refine (ha1 _).mono ?_; rintro e w2 ⟨rfl, rfl⟩) | (refine (ha2 _).mono ?_; rintro e w2 ⟨rfl, rfl⟩))
  refine wp_loop_rounds 3 ?_
  rw [rounds_succ]
  go_wp2_with (go_at_call 64; first | (refine (ha0 _).mono ?_; rintro e w2 ⟨rfl, rfl⟩) | (refine (ha1 _).mono ?_; rintro e w2 ⟨rfl, rfl⟩) | (refine (ha2 _).mono ?_; rintro e w2 ⟨rfl, rfl⟩))
  rw [rounds_succ]
  go_wp2_with (go_at_call 64; first | (refine (ha0 _).mono ?_; rintro e w2 ⟨rfl, rfl⟩) | (refine (ha1 _).mono ?_; rintro e w2 ⟨rfl, rfl⟩) | (refine (ha2 _).mono ?_; rintro e w2 ⟨rfl, rfl⟩))
  rw [rounds_succ]
  go_wp2_with (go_at_call 64; first | (refine (ha0 _).mono ?_; rintro e w2 ⟨rfl, rfl⟩) | (refine (ha1 _).mono ?_; rintro e w2 ⟨rfl, rfl⟩) | (refine (ha2 _).mono ?_; rintro e w2 ⟨rfl, rfl⟩))
  go_ret
  rw [HQ.out]
  exact ⟨rfl, (Below.block (B := w.heap.size + 1) (w := w.alloc (.cells #[.int .i64 (c0 : Nat), .int .i64 (c1 : Nat), .int .i64 1, .int .i64 0, .int .i64 0, .int .i64 0] 175)) (by repeat (first | exact Below.refl _ _ | refine Below.alloc ?_ (by first | (simp; done) | (simp; omega)) _)) _ (Nat.lt_succ_self _)).trans (heap_alloc_new _ _), by repeat (first | exact Below.refl _ _ | refine Below.alloc ?_ (by first | (simp; done) | (simp; omega)) _)⟩
set_option maxRecDepth 100000 in
set_option maxHeartbeats 1000000 in
theorem counts4 (n : Nat) (h1 : 64 < n) (hn : n ≤ 256) (w : World) :
    Calls Tryz.prog 41 #[.int .i64 n] w fun e w' => e = .returned (.slice (some ⟨w.heap.size, 0, none⟩) 4 6) ∧ Row w' w.heap.size 175 (cntL n 4) ∧ Below w.heap.size w w' := by
  have ha0 := above_any n (by omega)
  obtain ⟨c0, hc0⟩ : ∃ c, c = (n + 3) / 4 := ⟨_, rfl⟩
  rw [← hc0] at ha0
  have ha1 := above_any c0 (by omega)
  obtain ⟨c1, hc1⟩ : ∃ c, c = (c0 + 3) / 4 := ⟨_, rfl⟩
  rw [← hc1] at ha1
  have ha2 := above_any c1 (by omega)
  obtain ⟨c2, hc2⟩ : ∃ c, c = (c1 + 3) / 4 := ⟨_, rfl⟩
  rw [← hc2] at ha2
  have ha3 := above_any c2 (by omega)
  obtain ⟨c3, hc3⟩ : ∃ c, c = (c2 + 3) / 4 := ⟨_, rfl⟩
  rw [← hc3] at ha3
  have e3 : c3 = 1 := by omega
  have e0 : ((c0 : Int) == 1) = false := by simp; omega
  have e1 : ((c1 : Int) == 1) = false := by simp; omega
  have e2 : ((c2 : Int) == 1) = false := by simp; omega
  have q0 : cntAt n 0 = c0 := by rw [cntAt]; exact hc0.symm
  have q1 : cntAt n 1 = c1 := by rw [cntAt, q0]; exact hc1.symm
  have q2 : cntAt n 2 = c2 := by rw [cntAt, q1]; exact hc2.symm
  have q3 : cntAt n 3 = c3 := by rw [cntAt, q2]; exact hc3.symm
  have HQ := Lib.hid (show cntL n 4 = [.int .i64 (c0 : Nat), .int .i64 (c1 : Nat), .int .i64 (c2 : Nat), .int .i64 1, .int .i64 0, .int .i64 0] by simp only [cntL, List.range, List.range.loop, List.map_cons, List.map_nil, q0, q1, q2, q3, e3]; rfl)
  rw [e3] at ha3
  clear q3 q2 q1 q0 hc3 hc2 hc1 hc0 h1 hn
  go_enter Tryz.func41, Tryz.ntmps41
  go_wp2_with (go_at_call 64; first | (refine (ha0 _).mono ?_; rintro e w2 ⟨rfl, rfl⟩) | (refine (ha1 _).mono ?_; rintro e w2 ⟨rfl, rfl⟩) | (refine (ha2 _).mono ?_; rintro e w2 ⟨rfl, rfl⟩) | (refine (ha3 _).mono ?_; rintro e w2 ⟨rfl, rfl⟩))
  refine wp_loop_rounds 4 ?_
  rw [rounds_succ]
  go_wp2_with (go_at_call 64; first | (refine (ha0 _).mono ?_; rintro e w2 ⟨rfl, rfl⟩) | (refine (ha1 _).mono ?_; rintro e w2 ⟨rfl, rfl⟩) | (refine (ha2 _).mono ?_; rintro e w2 ⟨rfl, rfl⟩) | (refine (ha3 _).mono ?_; rintro e w2 ⟨rfl, rfl⟩))
  rw [rounds_succ]
  go_wp2_with (go_at_call 64; first | (refine (ha0 _).mono ?_; rintro e w2 ⟨rfl, rfl⟩) | (refine (ha1 _).mono ?_; rintro e w2 ⟨rfl, rfl⟩) | (refine (ha2 _).mono ?_; rintro e w2 ⟨rfl, rfl⟩) | (refine (ha3 _).mono ?_; rintro e w2 ⟨rfl, rfl⟩))
  rw [rounds_succ]
  go_wp2_with (go_at_call 64; first | (refine (ha0 _).mono ?_; rintro e w2 ⟨rfl, rfl⟩) | (refine (ha1 _).mono ?_; rintro e w2 ⟨rfl, rfl⟩) | (refine (ha2 _).mono ?_; rintro e w2 ⟨rfl, rfl⟩) | (refine (ha3 _).mono ?_; rintro e w2 ⟨rfl, rfl⟩))
  rw [rounds_succ]
  go_wp2_with (go_at_call 64; first | (refine (ha0 _).mono ?_; rintro e w2 ⟨rfl, rfl⟩) | (refine (ha1 _).mono ?_; rintro e w2 ⟨rfl, rfl⟩) | (refine (ha2 _).mono ?_; rintro e w2 ⟨rfl, rfl⟩) | (refine (ha3 _).mono ?_; rintro e w2 ⟨rfl, rfl⟩))
  go_ret
  rw [HQ.out]
  exact ⟨rfl, (Below.block (B := w.heap.size + 1) (w := w.alloc (.cells #[.int .i64 (c0 : Nat), .int .i64 (c1 : Nat), .int .i64 (c2 : Nat), .int .i64 1, .int .i64 0, .int .i64 0] 175)) (by repeat (first | exact Below.refl _ _ | refine Below.alloc ?_ (by first | (simp; done) | (simp; omega)) _)) _ (Nat.lt_succ_self _)).trans (heap_alloc_new _ _), by repeat (first | exact Below.refl _ _ | refine Below.alloc ?_ (by first | (simp; done) | (simp; omega)) _)⟩
set_option maxRecDepth 100000 in
set_option maxHeartbeats 1000000 in
theorem counts5 (n : Nat) (h1 : 256 < n) (hn : n ≤ 1024) (w : World) :
    Calls Tryz.prog 41 #[.int .i64 n] w fun e w' => e = .returned (.slice (some ⟨w.heap.size, 0, none⟩) 5 6) ∧ Row w' w.heap.size 175 (cntL n 5) ∧ Below w.heap.size w w' := by
  have ha0 := above_any n (by omega)
  obtain ⟨c0, hc0⟩ : ∃ c, c = (n + 3) / 4 := ⟨_, rfl⟩
  rw [← hc0] at ha0
  have ha1 := above_any c0 (by omega)
  obtain ⟨c1, hc1⟩ : ∃ c, c = (c0 + 3) / 4 := ⟨_, rfl⟩
  rw [← hc1] at ha1
  have ha2 := above_any c1 (by omega)
  obtain ⟨c2, hc2⟩ : ∃ c, c = (c1 + 3) / 4 := ⟨_, rfl⟩
  rw [← hc2] at ha2
  have ha3 := above_any c2 (by omega)
  obtain ⟨c3, hc3⟩ : ∃ c, c = (c2 + 3) / 4 := ⟨_, rfl⟩
  rw [← hc3] at ha3
  have ha4 := above_any c3 (by omega)
  obtain ⟨c4, hc4⟩ : ∃ c, c = (c3 + 3) / 4 := ⟨_, rfl⟩
  rw [← hc4] at ha4
  have e4 : c4 = 1 := by omega
  have e0 : ((c0 : Int) == 1) = false := by simp; omega
  have e1 : ((c1 : Int) == 1) = false := by simp; omega
  have e2 : ((c2 : Int) == 1) = false := by simp; omega
  have e3 : ((c3 : Int) == 1) = false := by simp; omega
  have q0 : cntAt n 0 = c0 := by rw [cntAt]; exact hc0.symm
  have q1 : cntAt n 1 = c1 := by rw [cntAt, q0]; exact hc1.symm
  have q2 : cntAt n 2 = c2 := by rw [cntAt, q1]; exact hc2.symm
  have q3 : cntAt n 3 = c3 := by rw [cntAt, q2]; exact hc3.symm
  have q4 : cntAt n 4 = c4 := by rw [cntAt, q3]; exact hc4.symm
  have HQ := Lib.hid (show cntL n 5 = [.int .i64 (c0 : Nat), .int .i64 (c1 : Nat), .int .i64 (c2 : Nat), .int .i64 (c3 : Nat), .int .i64 1, .int .i64 0] by simp only [cntL, List.range, List.range.loop, List.map_cons, List.map_nil, q0, q1, q2, q3, q4, e4]; rfl)
  rw [e4] at ha4
  clear q4 q3 q2 q1 q0 hc4 hc3 hc2 hc1 hc0 h1 hn
  go_enter Tryz.func41, Tryz.ntmps41
  go_wp2_with (go_at_call 64; first | (refine (ha0 _).mono ?_; rintro e w2 ⟨rfl, rfl⟩) | (refine (ha1 _).mono ?_; rintro e w2 ⟨rfl, rfl⟩) | (refine (ha2 _).mono ?_; rintro e w2 ⟨rfl, rfl⟩) | (refine (ha3 _).mono ?_; rintro e w2 ⟨rfl, rfl⟩) | (refine (ha4 _).mono ?_; rintro e w2 ⟨rfl, rfl⟩))
  refine wp_loop_rounds 5 ?_
  rw [rounds_succ]
  go_wp2_with (go_at_call 64; first | (refine (ha0 _).mono ?_; rintro e w2 ⟨rfl, rfl⟩) | (refine (ha1 _).mono ?_; rintro e w2 ⟨rfl, rfl⟩) | (refine (ha2 _).mono ?_; rintro e w2 ⟨rfl, rfl⟩) | (refine (ha3 _).mono ?_; rintro e w2 ⟨rfl, rfl⟩) | (refine (ha4 _).mono ?_; rintro e w2 ⟨rfl, rfl⟩))
  rw [rounds_succ]
  go_wp2_with (go_at_call 64; first | (refine (ha0 _).mono ?_; rintro e w2 ⟨rfl, rfl⟩) | (refine (ha1 _).mono ?_; rintro e w2 ⟨rfl, rfl⟩) | (refine (ha2 _).mono ?_; rintro e w2 ⟨rfl, rfl⟩) | (refine (ha3 _).mono ?_; rintro e w2 ⟨rfl, rfl⟩) | (refine (ha4 _).mono ?_; rintro e w2 ⟨rfl, rfl⟩))
  rw [rounds_succ]
  go_wp2_with (go_at_call 64; first | (refine (ha0 _).mono ?_; rintro e w2 ⟨rfl, rfl⟩) | (refine (ha1 _).mono ?_; rintro e w2 ⟨rfl, rfl⟩) | (refine (ha2 _).mono ?_; rintro e w2 ⟨rfl, rfl⟩) | (refine (ha3 _).mono ?_; rintro e w2 ⟨rfl, rfl⟩) | (refine (ha4 _).mono ?_; rintro e w2 ⟨rfl, rfl⟩))
  rw [rounds_succ]
  go_wp2_with (go_at_call 64; first | (refine (ha0 _).mono ?_; rintro e w2 ⟨rfl, rfl⟩) | (refine (ha1 _).mono ?_; rintro e w2 ⟨rfl, rfl⟩) | (refine (ha2 _).mono ?_; rintro e w2 ⟨rfl, rfl⟩) | (refine (ha3 _).mono ?_; rintro e w2 ⟨rfl, rfl⟩) | (refine (ha4 _).mono ?_; rintro e w2 ⟨rfl, rfl⟩))
  rw [rounds_succ]
  go_wp2_with (go_at_call 64; first | (refine (ha0 _).mono ?_; rintro e w2 ⟨rfl, rfl⟩) | (refine (ha1 _).mono ?_; rintro e w2 ⟨rfl, rfl⟩) | (refine (ha2 _).mono ?_; rintro e w2 ⟨rfl, rfl⟩) | (refine (ha3 _).mono ?_; rintro e w2 ⟨rfl, rfl⟩) | (refine (ha4 _).mono ?_; rintro e w2 ⟨rfl, rfl⟩))
  go_ret
  rw [HQ.out]
  exact ⟨rfl, (Below.block (B := w.heap.size + 1) (w := w.alloc (.cells #[.int .i64 (c0 : Nat), .int .i64 (c1 : Nat), .int .i64 (c2 : Nat), .int .i64 (c3 : Nat), .int .i64 1, .int .i64 0] 175)) (by repeat (first | exact Below.refl _ _ | refine Below.alloc ?_ (by first | (simp; done) | (simp; omega)) _)) _ (Nat.lt_succ_self _)).trans (heap_alloc_new _ _), by repeat (first | exact Below.refl _ _ | refine Below.alloc ?_ (by first | (simp; done) | (simp; omega)) _)⟩
set_option maxRecDepth 100000 in
set_option maxHeartbeats 1000000 in
theorem counts6 (n : Nat) (h1 : 1024 < n) (hn : n ≤ 4096) (w : World) :
    Calls Tryz.prog 41 #[.int .i64 n] w fun e w' => e = .returned (.slice (some ⟨w.heap.size, 0, none⟩) 6 6) ∧ Row w' w.heap.size 175 (cntL n 6) ∧ Below w.heap.size w w' := by
  have ha0 := above_any n (by omega)
  obtain ⟨c0, hc0⟩ : ∃ c, c = (n + 3) / 4 := ⟨_, rfl⟩
  rw [← hc0] at ha0
  have ha1 := above_any c0 (by omega)
  obtain ⟨c1, hc1⟩ : ∃ c, c = (c0 + 3) / 4 := ⟨_, rfl⟩
  rw [← hc1] at ha1
  have ha2 := above_any c1 (by omega)
  obtain ⟨c2, hc2⟩ : ∃ c, c = (c1 + 3) / 4 := ⟨_, rfl⟩
  rw [← hc2] at ha2
  have ha3 := above_any c2 (by omega)
  obtain ⟨c3, hc3⟩ : ∃ c, c = (c2 + 3) / 4 := ⟨_, rfl⟩
  rw [← hc3] at ha3
  have ha4 := above_any c3 (by omega)
  obtain ⟨c4, hc4⟩ : ∃ c, c = (c3 + 3) / 4 := ⟨_, rfl⟩
  rw [← hc4] at ha4
  have ha5 := above_any c4 (by omega)
  obtain ⟨c5, hc5⟩ : ∃ c, c = (c4 + 3) / 4 := ⟨_, rfl⟩
  rw [← hc5] at ha5
  have e5 : c5 = 1 := by omega
  have e0 : ((c0 : Int) == 1) = false := by simp; omega
  have e1 : ((c1 : Int) == 1) = false := by simp; omega
  have e2 : ((c2 : Int) == 1) = false := by simp; omega
  have e3 : ((c3 : Int) == 1) = false := by simp; omega
  have e4 : ((c4 : Int) == 1) = false := by simp; omega
  have q0 : cntAt n 0 = c0 := by rw [cntAt]; exact hc0.symm
  have q1 : cntAt n 1 = c1 := by rw [cntAt, q0]; exact hc1.symm
  have q2 : cntAt n 2 = c2 := by rw [cntAt, q1]; exact hc2.symm
  have q3 : cntAt n 3 = c3 := by rw [cntAt, q2]; exact hc3.symm
  have q4 : cntAt n 4 = c4 := by rw [cntAt, q3]; exact hc4.symm
  have q5 : cntAt n 5 = c5 := by rw [cntAt, q4]; exact hc5.symm
  have HQ := Lib.hid (show cntL n 6 = [.int .i64 (c0 : Nat), .int .i64 (c1 : Nat), .int .i64 (c2 : Nat), .int .i64 (c3 : Nat), .int .i64 (c4 : Nat), .int .i64 1] by simp only [cntL, List.range, List.range.loop, List.map_cons, List.map_nil, q0, q1, q2, q3, q4, q5, e5]; rfl)
  rw [e5] at ha5
  clear q5 q4 q3 q2 q1 q0 hc5 hc4 hc3 hc2 hc1 hc0 h1 hn
  go_enter Tryz.func41, Tryz.ntmps41
  go_wp2_with (go_at_call 64; first | (refine (ha0 _).mono ?_; rintro e w2 ⟨rfl, rfl⟩) | (refine (ha1 _).mono ?_; rintro e w2 ⟨rfl, rfl⟩) | (refine (ha2 _).mono ?_; rintro e w2 ⟨rfl, rfl⟩) | (refine (ha3 _).mono ?_; rintro e w2 ⟨rfl, rfl⟩) | (refine (ha4 _).mono ?_; rintro e w2 ⟨rfl, rfl⟩) | (refine (ha5 _).mono ?_; rintro e w2 ⟨rfl, rfl⟩))
  refine wp_loop_rounds 6 ?_
  rw [rounds_succ]
  go_wp2_with (go_at_call 64; first | (refine (ha0 _).mono ?_; rintro e w2 ⟨rfl, rfl⟩) | (refine (ha1 _).mono ?_; rintro e w2 ⟨rfl, rfl⟩) | (refine (ha2 _).mono ?_; rintro e w2 ⟨rfl, rfl⟩) | (refine (ha3 _).mono ?_; rintro e w2 ⟨rfl, rfl⟩) | (refine (ha4 _).mono ?_; rintro e w2 ⟨rfl, rfl⟩) | (refine (ha5 _).mono ?_; rintro e w2 ⟨rfl, rfl⟩))
  rw [rounds_succ]
  go_wp2_with (go_at_call 64; first | (refine (ha0 _).mono ?_; rintro e w2 ⟨rfl, rfl⟩) | (refine (ha1 _).mono ?_; rintro e w2 ⟨rfl, rfl⟩) | (refine (ha2 _).mono ?_; rintro e w2 ⟨rfl, rfl⟩) | (refine (ha3 _).mono ?_; rintro e w2 ⟨rfl, rfl⟩) | (refine (ha4 _).mono ?_; rintro e w2 ⟨rfl, rfl⟩) | (refine (ha5 _).mono ?_; rintro e w2 ⟨rfl, rfl⟩))
  rw [rounds_succ]
  go_wp2_with (go_at_call 64; first | (refine (ha0 _).mono ?_; rintro e w2 ⟨rfl, rfl⟩) | (refine (ha1 _).mono ?_; rintro e w2 ⟨rfl, rfl⟩) | (refine (ha2 _).mono ?_; rintro e w2 ⟨rfl, rfl⟩) | (refine (ha3 _).mono ?_; rintro e w2 ⟨rfl, rfl⟩) | (refine (ha4 _).mono ?_; rintro e w2 ⟨rfl, rfl⟩) | (refine (ha5 _).mono ?_; rintro e w2 ⟨rfl, rfl⟩))
  rw [rounds_succ]
  go_wp2_with (go_at_call 64; first | (refine (ha0 _).mono ?_; rintro e w2 ⟨rfl, rfl⟩) | (refine (ha1 _).mono ?_; rintro e w2 ⟨rfl, rfl⟩) | (refine (ha2 _).mono ?_; rintro e w2 ⟨rfl, rfl⟩) | (refine (ha3 _).mono ?_; rintro e w2 ⟨rfl, rfl⟩) | (refine (ha4 _).mono ?_; rintro e w2 ⟨rfl, rfl⟩) | (refine (ha5 _).mono ?_; rintro e w2 ⟨rfl, rfl⟩))
  rw [rounds_succ]
  go_wp2_with (go_at_call 64; first | (refine (ha0 _).mono ?_; rintro e w2 ⟨rfl, rfl⟩) | (refine (ha1 _).mono ?_; rintro e w2 ⟨rfl, rfl⟩) | (refine (ha2 _).mono ?_; rintro e w2 ⟨rfl, rfl⟩) | (refine (ha3 _).mono ?_; rintro e w2 ⟨rfl, rfl⟩) | (refine (ha4 _).mono ?_; rintro e w2 ⟨rfl, rfl⟩) | (refine (ha5 _).mono ?_; rintro e w2 ⟨rfl, rfl⟩))
  rw [rounds_succ]
  go_wp2_with (go_at_call 64; first | (refine (ha0 _).mono ?_; rintro e w2 ⟨rfl, rfl⟩) | (refine (ha1 _).mono ?_; rintro e w2 ⟨rfl, rfl⟩) | (refine (ha2 _).mono ?_; rintro e w2 ⟨rfl, rfl⟩) | (refine (ha3 _).mono ?_; rintro e w2 ⟨rfl, rfl⟩) | (refine (ha4 _).mono ?_; rintro e w2 ⟨rfl, rfl⟩) | (refine (ha5 _).mono ?_; rintro e w2 ⟨rfl, rfl⟩))
  go_ret
  rw [HQ.out]
  exact ⟨rfl, (Below.block (B := w.heap.size + 1) (w := w.alloc (.cells #[.int .i64 (c0 : Nat), .int .i64 (c1 : Nat), .int .i64 (c2 : Nat), .int .i64 (c3 : Nat), .int .i64 (c4 : Nat), .int .i64 1] 175)) (by repeat (first | exact Below.refl _ _ | refine Below.alloc ?_ (by first | (simp; done) | (simp; omega)) _)) _ (Nat.lt_succ_self _)).trans (heap_alloc_new _ _), by repeat (first | exact Below.refl _ _ | refine Below.alloc ?_ (by first | (simp; done) | (simp; omega)) _)⟩
theorem counts_any (n : Nat) (h1 : 1 ≤ n) (hn : n ≤ 4096) (w : World) :
    Calls Tryz.prog 41 #[.int .i64 n] w fun e w' => e = .returned (.slice (some ⟨w.heap.size, 0, none⟩) (hgtN n + 1) 6) ∧ Row w' w.heap.size 175 (cntL n (hgtN n + 1)) ∧ Below w.heap.size w w' := by
  unfold hgtN
  by_cases h4 : n ≤ 4
  · rw [if_pos h4]; exact counts1 n h1 h4 w
  rw [if_neg h4]
  by_cases h5 : n ≤ 16
  · rw [if_pos h5]; exact counts2 n (by omega) h5 w
  rw [if_neg h5]
  by_cases h6 : n ≤ 64
  · rw [if_pos h6]; exact counts3 n (by omega) h6 w
  rw [if_neg h6]
  by_cases h7 : n ≤ 256
  · rw [if_pos h7]; exact counts4 n (by omega) h7 w
  rw [if_neg h7]
  by_cases h8 : n ≤ 1024
  · rw [if_pos h8]; exact counts5 n (by omega) h8 w
  rw [if_neg h8]
  exact counts6 n (by omega) hn w

set_option maxHeartbeats 1000000 in
theorem of_bad (n : Int) (hn : ¬ (1 ≤ n ∧ n ≤ 4096)) (w : World) :
    Calls Tryz.prog 25 #[.int .i64 n] w fun e w' => e = .returned (.tuple #[.agg #[.int .i64 0, .slice none 0 0], .int .i64 1]) ∧ Below w.heap.size w w' := by
  have hc := shCheck_any n
  rw [if_neg hn] at hc
  go_enter Tryz.func25, Tryz.ntmps25
  go_wp2_with (go_at_call 40; refine (hc _).mono ?_; rintro e w2 ⟨rfl, rfl⟩)
  refine bodyPost_ret (v := .tuple #[.agg #[.int .i64 0, .slice none 0 0], .int .i64 1]) (by simp [results, Tryz.results25, go_sem]) rfl ⟨rfl, ?_⟩
  exact (Below.refl _ _).alloc (Nat.le_refl _) _
set_option maxHeartbeats 1000000 in
theorem of_good (n : Nat) (h1 : 1 ≤ n) (hn : n ≤ 4096) (w : World) :
    Calls Tryz.prog 25 #[.int .i64 n] w fun e w' => (∃ g, e = .returned (.tuple #[.agg #[.int .i64 n, .slice (some ⟨g, 0, none⟩) (hgtN n + 1) 6], .int .i64 0]) ∧ Row w' g 175 (cntL n (hgtN n + 1)) ∧ w.heap.size ≤ g) ∧ Below w.heap.size w w' := by
  have hc := shCheck_any (n : Int)
  rw [if_pos (by omega)] at hc
  have hk := counts_any n h1 hn
  go_enter Tryz.func25, Tryz.ntmps25
  go_wp2_with (first | (go_at_call 40; refine (hc _).mono ?_; rintro e w2 ⟨rfl, rfl⟩) | (go_at_call 41; refine (hk _).mono ?_; rintro e w2 ⟨rfl, hrow, hb2⟩; have HR := Lib.hid hrow; clear hrow; have r2 : Row w2 w.heap.size 81 [.int .i64 0, .slice none 0 0] := (hb2.block _ (by simp)).trans (heap_alloc_new _ _); have c0 := r2.cell (i := 0) rfl; have c1 := r2.cell (i := 1) rfl; have f0 := r2.free 0; have f1 := r2.free 1))
  have r3 := r2.setCell (i := 0) (.int .i64 n)
  have d0 := r3.cell (i := 0) rfl
  have r4 := r3.setCell (i := 1) (.slice (some ⟨w.heap.size + 1, 0, none⟩) (hgtN n + 1) 6)
  have d1 := r4.cell (i := 1) rfl
  refine bodyPost_ret (v := .tuple #[.agg #[.int .i64 n, .slice (some ⟨w.heap.size + 1, 0, none⟩) (hgtN n + 1) 6], .int .i64 0]) (by simp [results, Tryz.results25, go_sem, d0, d1]) rfl ⟨⟨_, rfl, ?_, by omega⟩, ?_⟩
  · have h5 : Row w2 (w.heap.size + 1) 175 (cntL n (hgtN n + 1)) := by simpa using HR.out
    exact (h5.apart (by omega) 0 _).apart (by omega) 1 _
  exact ((((Below.refl _ _).alloc (Nat.le_refl _) _).trans (hb2.mono (by simp))).setCell (Nat.le_refl _) _).setCell (Nat.le_refl _) _
/-- what shapes.Height tells -/
def htH (n : Int) : Int := if 1 ≤ n ∧ n ≤ 4096 then (hgtN n.toNat : Int) else 0
def htE (n : Int) : Int := if 1 ≤ n ∧ n ≤ 4096 then 0 else 1
set_option maxHeartbeats 1000000 in
theorem height_any (n : Int) (w : World) :
    Calls Tryz.prog 12 #[.int .i64 n] w fun e w' => e = .returned (.tuple #[.int .i64 (htH n), .int .i64 (htE n)]) ∧ Below w.heap.size w w' := by
  by_cases hn : 1 ≤ n ∧ n ≤ 4096
  · obtain ⟨m, rfl⟩ : ∃ m : Nat, n = m := ⟨n.toNat, by omega⟩
    have hk := of_good m (by omega) (by omega)
    have hH : htH (m : Int) = hgtN m := by unfold htH; rw [if_pos hn]; rfl
    have hE : htE (m : Int) = 0 := by unfold htE; rw [if_pos hn]
    have hw : IntKind.i64.wrap (hgtN m : Int) = hgtN m := by
      have : hgtN m ≤ 5 := by unfold hgtN; (repeat' split) <;> omega
      exact IntWalk.i64_in _ (by omega)
    rw [hH, hE]
    go_enter Tryz.func12, Tryz.ntmps12
    go_wp2_with (go_at_call 25; refine (hk _).mono ?_; rintro e w2 ⟨⟨g, rfl, hrow, hge⟩, hb2⟩)
    go_ret2
    exact ⟨retT (by rw [← hw]) rfl, by repeat (first | exact hb2 | refine Below.alloc ?_ hb2.size _ | refine Below.setCell ?_ hb2.size _)⟩
  · have hk := of_bad n hn
    have hH : htH n = 0 := by unfold htH; rw [if_neg hn]
    have hE : htE n = 1 := by unfold htE; rw [if_neg hn]
    rw [hH, hE]
    go_enter Tryz.func12, Tryz.ntmps12
    go_wp2_with (go_at_call 25; refine (hk _).mono ?_; rintro e w2 ⟨rfl, hb2⟩)
    go_ret2
    exact ⟨rfl, by repeat (first | exact hb2 | refine Below.alloc ?_ hb2.size _ | refine Below.setCell ?_ hb2.size _)⟩
theorem within_any (n a b : Int) (w : World) :
    Calls Tryz.prog 13 #[.int .i64 n, .int .i64 a, .int .i64 b] w fun e w' => e = .returned (.bool (decide (a ≤ n) && decide (n ≤ b))) ∧ w' = w := by
  go_enter Tryz.func13, Tryz.ntmps13
  by_cases h : a ≤ n
  · have hd : decide (n ≥ a) = true := by simpa using h
    go_wp2
    go_ret
    exact ⟨retB (by simp [h]), rfl⟩
  · have hd : decide (n ≥ a) = false := by simpa using h
    go_wp2
    go_ret
    exact ⟨retB (by simp), rfl⟩
/-- a configuration -/
structure Cfg where
  bl : Int
  sh : Int
  fr : Int
  cl : Int
  li : Int
  re : Int
  fl : Int
  ms : List B8
def Cfg.cells (c : Cfg) : List Value := [.int .i64 c.bl, .int .i64 c.sh, .int .i64 c.fr, .int .i64 c.cl, .int .u64 c.li, .int .u64 c.re] ++ (cells8 c.ms ++ [.int .u8 c.fl])
/-- is it one that worlds.Check accepts? -/
def Cfg.good (c : Cfg) : Prop := htE c.bl = 0 ∧ 1 ≤ c.sh ∧ c.sh ≤ 8 ∧ c.sh ≤ c.bl ∧ 1 ≤ c.cl ∧ c.cl ≤ 8 ∧ wrap64 (c.cl + 1) ≤ c.fr ∧ c.fr ≤ 64 ∧ wrap64 (wrap64 (wrap64 (2 * c.cl) + htH c.bl) + 1) ≤ wrap64 (c.sh * c.fr) ∧
  1 ≤ c.re ∧ c.re ≤ 4294967296 ∧ c.re ≤ c.li ∧ c.fl ≤ 5
open Classical in
noncomputable def Cfg.err (c : Cfg) : Int := if c.good then 0 else 7
set_option maxRecDepth 100000 in
set_option maxHeartbeats 4000000 in
theorem wCheck_any (c : Cfg) (hl : c.ms.length = 32) (w : World) :
    Calls Tryz.prog 7 #[.agg c.cells.toArray] w fun e w' => e = .returned (.int .i64 c.err) ∧ Below w.heap.size w w' := by
  obtain ⟨cs, hcs⟩ : ∃ cs, cs = c.cells := ⟨_, rfl⟩
  have k0 : cs[0]? = some (.int .i64 c.bl) := by rw [hcs]; rfl
  have k1 : cs[1]? = some (.int .i64 c.sh) := by rw [hcs]; rfl
  have k2 : cs[2]? = some (.int .i64 c.fr) := by rw [hcs]; rfl
  have k3 : cs[3]? = some (.int .i64 c.cl) := by rw [hcs]; rfl
  have k4 : cs[4]? = some (.int .u64 c.li) := by rw [hcs]; rfl
  have k5 : cs[5]? = some (.int .u64 c.re) := by rw [hcs]; rfl
  have k6 : cs[38]? = some (.int .u8 c.fl) := by
    have h1 : (cells8 c.ms).length = 32 := by rw [cells8_len, hl]
    rw [hcs]; simp [Cfg.cells, h1]
  have hH := height_any c.bl
  rw [← hcs]
  obtain ⟨w1, hw1⟩ : ∃ w1, w1 = w.alloc (.cells cs.toArray 35) := ⟨_, rfl⟩
  have r1 : Row w1 w.heap.size 35 cs := by rw [hw1]; exact heap_alloc_new _ _
  have b1 : Below w.heap.size w w1 := by rw [hw1]; exact (Below.refl _ _).alloc (Nat.le_refl _) _
  have c0 := r1.cell k0
  rw [hw1] at c0
  have HC := Lib.hid hcs
  clear hcs r1 b1 hw1
  have b0 : Below w.heap.size w (w.alloc (.cells cs.toArray 35)) := (Below.refl _ _).alloc (Nat.le_refl _) _
  go_enter Tryz.func7, Tryz.ntmps7
  go_wp2_with (first | (go_at_call 13; refine (within_any _ _ _ _).mono ?_; rintro e w3 ⟨rfl, rfl⟩) | (go_at_call 12; refine (hH _).mono ?_; rintro e w2 ⟨rfl, hb2⟩; have r2 : Row w2 w.heap.size 35 cs := (hb2.block _ (by simp)).trans (heap_alloc_new _ _); have d0 := r2.cell k0; have d1 := r2.cell k1; have d2 := r2.cell k2; have d3 := r2.cell k3; have d4 := r2.cell k4; have d5 := r2.cell k5; have d6 := r2.cell k6; clear r2))
  all_goals
    go_ret
    refine ⟨ret_int ?_, (b0.trans (hb2.mono (by simp)))⟩
    unfold Cfg.err
    first
    | exact (if_pos (by unfold Cfg.good; simp at *; omega)).symm
    | exact (if_neg (by unfold Cfg.good; simp at *; omega)).symm
end Go.Proofs.YtnpnljgjloofkaaGreatDoor
