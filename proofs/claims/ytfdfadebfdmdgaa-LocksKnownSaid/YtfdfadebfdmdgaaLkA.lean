/- The small functions of the locks: what each call returns, with nothing below the heap's size changed. -/
import Derived.Test.YtfdfadebfdmdgaaBase
namespace Go.Proofs.Ytfdfadebfdmdgaa
open Go.RowKit

def validB (lv ix th : Int) : Bool := decide (-1 ≤ lv) && decide (lv ≤ 5) && decide (0 ≤ ix) && decide (ix < 1024) && decide (0 ≤ th) && decide (th < 16)

set_option maxHeartbeats 400000 in
theorem valid_any (lv ix th : Int) (w : World) :
    Calls Try.prog 43 #[.agg #[.int .i64 lv, .int .i64 ix], .int .i64 th] w fun e w' => e = .returned (.bool (validB lv ix th)) ∧ Below w.heap.size w w' := by
  go_enter Try.func43, Try.ntmps43
  go_wp2
  all_goals
    go_ret
    refine ⟨ret_bool ?_, (Below.refl _ _).alloc (Nat.le_refl _) _⟩
    simp [validB]
    try omega

def b2i (b : Bool) : Int := if b then 1 else 0

set_option maxHeartbeats 400000 in
theorem refValid_any (lv ix th : Int) (w : World) :
    Calls Try.prog 36 #[.agg #[.int .i64 lv, .int .i64 ix], .int .i64 th] w fun e w' => e = .returned (.int .i64 (b2i (validB lv ix th))) ∧ Below w.heap.size w w' := by
  go_enter Try.func36, Try.ntmps36
  go_wp2
  all_goals
    go_ret
    refine ⟨ret_int ?_, (Below.refl _ _).alloc (Nat.le_refl _) _⟩
    simp [validB, b2i]
    try omega

def lessB (a b c d : Int) : Bool := decide (a < c) || (decide (a = c) && decide (b < d))

set_option maxHeartbeats 400000 in
theorem refLess_any (a b c d : Int) (w : World) :
    Calls Try.prog 56 #[.agg #[.int .i64 a, .int .i64 b], .agg #[.int .i64 c, .int .i64 d]] w fun e w' => e = .returned (.int .i64 (b2i (lessB a b c d))) ∧ Below w.heap.size w w' := by
  go_enter Try.func56, Try.ntmps56
  go_wp2
  all_goals
    go_ret
    refine ⟨ret_int ?_, ((Below.refl _ _).alloc (Nat.le_refl _) _).alloc (by simp) _⟩
    simp [lessB, b2i]
    try omega

def cmpI (a b : Int) : Int := if a < b then -1 else if b < a then 1 else 0

set_option maxHeartbeats 400000 in
theorem isNaN_any (a : Int) (w : World) :
    Calls Try.prog 68 #[.int .i64 a] w fun e w' => e = .returned (.bool false) ∧ w = w' := by
  go_enter Try.func68, Try.ntmps68
  go_wp2
  go_ret
  exact ⟨rfl, rfl⟩

set_option maxHeartbeats 400000 in
theorem cmpCompare_any (a b : Int) (w : World) :
    Calls Try.prog 63 #[.int .i64 a, .int .i64 b] w fun e w' => e = .returned (.int .i64 (cmpI a b)) ∧ w = w' := by
  go_enter Try.func63, Try.ntmps63
  go_wp2_with (go_at_call 68; refine (isNaN_any _ _).mono ?_; rintro e w' ⟨rfl, rfl⟩)
  all_goals
    go_ret
    refine ⟨ret_int ?_, rfl⟩
    unfold cmpI
    repeat (first | rw [if_pos (by omega)] | rw [if_neg (by omega)])

set_option maxHeartbeats 400000 in
theorem lawLock_any (a b : Int) (ha : 0 ≤ a) (ha' : a ≤ 255) (hb : 0 ≤ b) (hb' : b ≤ 255) (w : World) :
    Calls Try.prog 21 #[.int .u8 a, .int .u8 b] w fun e w' => e = .returned (.agg #[.int .i64 (a % 7 - 1), .int .i64 b]) ∧ Below w.heap.size w w' := by
  go_enter Try.func21, Try.ntmps21
  go_wp2
  refine bodyPost_ret (v := .agg #[.int .i64 (a % 7 - 1), .int .i64 b]) (by simp [results, Try.results21, go_sem]) rfl ⟨rfl, ?_⟩
  exact (Below.refl _ _).alloc (Nat.le_refl _) _

set_option maxHeartbeats 400000 in
theorem nowhere_any (w : World) :
    Calls Try.prog 33 #[] w fun e w' => e = .returned (.agg #[.int .i64 (-2), .int .i64 0]) ∧ Below w.heap.size w w' := by
  go_enter Try.func33, Try.ntmps33
  go_wp2
  refine bodyPost_ret (v := .agg #[.int .i64 (-2), .int .i64 0]) (by simp [results, Try.results33, go_sem]) rfl ⟨rfl, ?_⟩
  exact (Below.refl _ _).alloc (Nat.le_refl _) _

def orI (x y : Int) : Int := if x = 0 then y else x

set_option maxHeartbeats 400000 in
theorem cmpOr2_any (g : Nat) (x y : Int) (w : World) (h0 : w.cell? ⟨g, 0, none⟩ = some (.int .i64 x)) (h1 : w.cell? ⟨g, 1, none⟩ = some (.int .i64 y)) :
    Calls Try.prog 62 #[.slice (some ⟨g, 0, none⟩) 2 2] w fun e w' => e = .returned (.int .i64 (orI x y)) ∧ w = w' := by
  by_cases hx : x = 0
  · have hx0 : (x != 0) = false := by simp [hx]
    by_cases hy : y = 0
    · have hy0 : (y != 0) = false := by simp [hy]
      have HX := Lib.hid hx; have HY := Lib.hid hy
      clear hx hy
      go_enter Try.func62, Try.ntmps62
      go_wp2
      go_rounds 3
      go_ret
      exact ⟨ret_int (by rw [orI, if_pos HX.out, HY.out]), rfl⟩
    · have hy0 : (y != 0) = true := by simp [hy]
      have HX := Lib.hid hx
      clear hx hy
      go_enter Try.func62, Try.ntmps62
      go_wp2
      go_rounds 3
      go_ret
      exact ⟨ret_int (by rw [orI, if_pos HX.out]), rfl⟩
  · have hx0 : (x != 0) = true := by simp [hx]
    have HX := Lib.hid hx
    clear hx
    go_enter Try.func62, Try.ntmps62
    go_wp2
    go_rounds 3
    go_ret
    exact ⟨ret_int (by rw [orI, if_neg HX.out]), rfl⟩

def cmpL (a b c d : Int) : Int := orI (cmpI a c) (cmpI b d)

set_option maxHeartbeats 800000 in
theorem compare_any (a b c d th : Int) (w : World) :
    Calls Try.prog 47 #[.agg #[.int .i64 a, .int .i64 b], .agg #[.int .i64 c, .int .i64 d, .int .i64 th]] w fun e w' => e = .returned (.int .i64 (cmpL a b c d)) ∧ Below w.heap.size w w' := by
  go_enter Try.func47, Try.ntmps47
  go_wp2_with fail
  go_region_held3 (fun w' => w'.cell? ⟨w.heap.size, 0, none⟩ = some (.int .i64 a) ∧ w'.cell? ⟨w.heap.size, 1, none⟩ = some (.int .i64 b) ∧ w'.cell? ⟨w.heap.size + 1, 0, none⟩ = some (.int .i64 c) ∧ w'.cell? ⟨w.heap.size + 1, 1, none⟩ = some (.int .i64 d)) (go_keep)
    (first
      | (go_at_call 63; refine (cmpCompare_any _ _ _).mono ?_; rintro e w' ⟨rfl, rfl⟩)
      | (go_at_call 62; refine (cmpOr2_any _ (cmpI a c) (cmpI b d) _ ?_ ?_).mono ?_; exact cell_new (by simp) rfl; exact cell_new (by simp) rfl; rintro e w' ⟨rfl, rfl⟩))
  go_wp2
  go_ret
  refine ⟨ret_int rfl, ?_⟩
  go_grown

end Go.Proofs.Ytfdfadebfdmdgaa
