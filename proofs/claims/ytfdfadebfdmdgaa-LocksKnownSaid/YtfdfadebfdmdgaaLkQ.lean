/- Looking for an element by a function: of waits, of locks, of whole numbers, of elements of a table; the closures that are handed in. -/
import Derived.Test.YtfdfadebfdmdgaaLkI
import Derived.Test.YtfdfadebfdmdgaaLkG
namespace Go.Proofs.Ytfdfadebfdmdgaa
open Go.RowKit

/-- The place of the first element that a test accepts, or -1. -/
def fIdx {α : Type} (p : α → Bool) : Nat → List α → Int
  | _, [] => -1
  | k, x :: t => if p x then (k : Int) else fIdx p (k + 1) t
theorem fIdx_hit {α : Type} (p : α → Bool) (hs : List α) (k : Nat) (hk : k < hs.length) (h : p hs[k] = true) : fIdx p k (hs.drop k) = k := by
  rw [List.drop_eq_getElem_cons hk, fIdx, if_pos h]
theorem fIdx_miss {α : Type} (p : α → Bool) (hs : List α) (k : Nat) (hk : k < hs.length) (h : p hs[k] = false) : fIdx p k (hs.drop k) = fIdx p (k + 1) (hs.drop (k + 1)) := by
  rw [List.drop_eq_getElem_cons hk, fIdx, if_neg (by simp [h])]
theorem fIdx_cases {α : Type} (p : α → Bool) : ∀ (hs : List α) (k : Nat), fIdx p k hs = -1 ∧ (∀ h ∈ hs, p h = false) ∨ ∃ j, ∃ hj : j < hs.length, fIdx p k hs = ((k + j : Nat) : Int) ∧ p hs[j] = true ∧ ∀ h ∈ hs.take j, p h = false := by
  intro hs
  induction hs with
  | nil => intro k; left; simp [fIdx]
  | cons h t ih =>
    intro k
    cases hp : p h
    · rcases ih (k + 1) with ⟨h1, h2⟩ | ⟨j, hj, h1, h2, h3⟩
      · left
        refine ⟨by rw [fIdx, if_neg (by simp [hp]), h1], ?_⟩
        intro x hx
        rcases List.mem_cons.1 hx with rfl | hx
        · exact hp
        · exact h2 x hx
      · right
        refine ⟨j + 1, by simp; omega, by rw [fIdx, if_neg (by simp [hp]), h1]; omega, by simpa using h2, ?_⟩
        intro x hx
        rw [List.take_succ_cons] at hx
        rcases List.mem_cons.1 hx with rfl | hx
        · exact hp
        · exact h3 x hx
    · right
      exact ⟨0, by simp, by simp [fIdx, hp], by simpa using hp, by simp⟩
theorem fIdx_ge {α : Type} (p : α → Bool) (hs : List α) (k : Nat) : decide (fIdx p k hs ≥ 0) = hs.any p := by
  rcases fIdx_cases p hs k with ⟨h1, h2⟩ | ⟨j, hj, h1, h2, _⟩
  · rw [h1]
    symm
    simpa using h2
  · rw [h1]
    have : hs.any p = true := List.any_eq_true.2 ⟨_, List.getElem_mem hj, h2⟩
    rw [this]; simp; omega

/-! ### Waits, by their thread -/
set_option maxHeartbeats 400000 in
theorem checkWaits1_any (g : Nat) (th : Int) (x : W3) (w : World) (hc : w.cell? ⟨g, 0, none⟩ = some (.int .i64 th)) :
    Calls Try.prog 45 #[.agg #[.int .i64 x.th, .int .i64 x.lv, .int .i64 x.ix], .pointer (some ⟨g, 0, none⟩)] w fun e w' => e = .returned (.bool (x.th == th)) ∧ Below w.heap.size w w' := by
  have hg : g < w.heap.size := lt_of_cell hc
  go_enter Try.func45, Try.ntmps45
  go_wp2
  go_ret
  exact ⟨rfl, (Below.refl _ _).alloc (Nat.le_refl _) _⟩

set_option maxHeartbeats 400000 in
theorem indexW_any (A : Option Addr) (n c g : Nat) (hs : List W3) (th : Int) (w : World) (hr : Rd w w.heap.size 3 A n (cellsW hs)) (hn : (n : Int) ≤ 1000000) (hc : w.cell? ⟨g, 0, none⟩ = some (.int .i64 th)) (hg : g < w.heap.size) :
    Calls Try.prog 61 #[.slice A n c, .func (.func 45) #[] #[.pointer (some ⟨g, 0, none⟩)]] w fun e w' => e = .returned (.int .i64 (fIdx (fun x : W3 => x.th == th) 0 hs)) ∧ Below w.heap.size w w' := by
  have HL := Lib.hid hr.lenW
  go_enter Try.func61, Try.ntmps61
  go_wp2
  go_loopw [8] (fun i wr => ∃ k : Nat, k ≤ n ∧ i = .int .i64 k ∧ Hid (fIdx (fun x : W3 => x.th == th) k (hs.drop k) = fIdx (fun x : W3 => x.th == th) 0 hs) ∧ Below w.heap.size w wr) (fun i _ => n - (intOf i).toNat)
  case atStart => exact ⟨0, Nat.zero_le _, rfl, rfl, Below.refl _ _⟩
  case round =>
    obtain ⟨k, hk, rfl, hF, hb⟩ := hrel
    have hcr := cs_ hb hg hc
    clear hc
    by_cases hlt : k < n
    · obtain ⟨ad, rfl, had, c0, c1, c2⟩ := (hr.below hb (Nat.le_refl _)).atW (k := k) (by have := HL.out; omega)
      cases hv : hs[k].th == th
      · go_wp2_with (go_at_call 45; refine (checkWaits1_any _ _ hs[k] _ hcr).mono ?_; rintro e w2 ⟨rfl, hb3⟩)
        go_roundw
        case rel => exact ⟨k + 1, by omega, by go_num, (fIdx_miss _ _ _ _ hv).symm.trans hF.out, hb.trans (hb3.mono hb.size)⟩
        case measure => simp [intOf]; omega
      · go_wp2_with (go_at_call 45; refine (checkWaits1_any _ _ hs[k] _ hcr).mono ?_; rintro e w2 ⟨rfl, hb3⟩)
        go_ret
        exact ⟨ret_int (by rw [← hF.out, fIdx_hit _ _ _ _ hv]), hb.trans (hb3.mono hb.size)⟩
    · go_wp2
      go_ret
      refine ⟨ret_int ?_, hb⟩
      have : k = hs.length := by have := HL.out; omega
      rw [← hF.out, this, List.drop_length]; rfl

theorem containsW_any (A : Option Addr) (n c g : Nat) (hs : List W3) (th : Int) (w : World) (hr : Rd w w.heap.size 3 A n (cellsW hs)) (hn : (n : Int) ≤ 1000000) (hc : w.cell? ⟨g, 0, none⟩ = some (.int .i64 th)) (hg : g < w.heap.size) :
    Calls Try.prog 44 #[.slice A n c, .func (.func 45) #[] #[.pointer (some ⟨g, 0, none⟩)]] w fun e w' => e = .returned (.bool (hs.any fun x => x.th == th)) ∧ Below w.heap.size w w' := by
  go_enter Try.func44, Try.ntmps44
  go_wp2_with fail
  refine (indexW_any _ _ _ _ hs th _ hr hn hc hg).mono ?_
  rintro e w2 ⟨rfl, hb⟩
  go_wp2
  go_ret
  exact ⟨ret_bool (fIdx_ge _ _ _), hb⟩

/-! ### Locks, by their level -/
set_option maxHeartbeats 400000 in
theorem upward1_any (g : Nat) (lv a b : Int) (w : World) (hc : w.cell? ⟨g, 1, none⟩ = some (.int .i64 lv)) :
    Calls Try.prog 42 #[.agg #[.int .i64 a, .int .i64 b], .pointer (some ⟨g, 0, none⟩)] w fun e w' => e = .returned (.bool (decide (a ≥ lv))) ∧ Below w.heap.size w w' := by
  have hg : g < w.heap.size := lt_of_cell hc
  go_enter Try.func42, Try.ntmps42
  go_wp2
  go_ret
  exact ⟨rfl, (Below.refl _ _).alloc (Nat.le_refl _) _⟩

set_option maxHeartbeats 400000 in
theorem indexL_any (A : Option Addr) (n c g : Nat) (hs : List (Int × Int)) (lv : Int) (w : World) (hr : Rd w w.heap.size 2 A n (cells2 hs)) (hn : (n : Int) ≤ 1000000) (hc : w.cell? ⟨g, 1, none⟩ = some (.int .i64 lv)) (hg : g < w.heap.size) :
    Calls Try.prog 60 #[.slice A n c, .func (.func 42) #[] #[.pointer (some ⟨g, 0, none⟩)]] w fun e w' => e = .returned (.int .i64 (fIdx (fun x : Int × Int => decide (x.1 ≥ lv)) 0 hs)) ∧ Below w.heap.size w w' := by
  have HL := Lib.hid hr.len2
  go_enter Try.func60, Try.ntmps60
  go_wp2
  go_loopw [8] (fun i wr => ∃ k : Nat, k ≤ n ∧ i = .int .i64 k ∧ Hid (fIdx (fun x : Int × Int => decide (x.1 ≥ lv)) k (hs.drop k) = fIdx (fun x : Int × Int => decide (x.1 ≥ lv)) 0 hs) ∧ Below w.heap.size w wr) (fun i _ => n - (intOf i).toNat)
  case atStart => exact ⟨0, Nat.zero_le _, rfl, rfl, Below.refl _ _⟩
  case round =>
    obtain ⟨k, hk, rfl, hF, hb⟩ := hrel
    have hcr : wr.cell? ⟨g, 1, none⟩ = some (.int .i64 lv) := cs_ hb hg hc
    clear hc
    by_cases hlt : k < n
    · obtain ⟨ad, rfl, had, c0, c1⟩ := (hr.below hb (Nat.le_refl _)).at2 (k := k) (by have := HL.out; omega)
      cases hv : decide (hs[k].1 ≥ lv)
      · go_wp2_with (go_at_call 42; refine (upward1_any _ lv hs[k].1 hs[k].2 _ hcr).mono ?_; rintro e w2 ⟨rfl, hb3⟩)
        go_roundw
        case rel => exact ⟨k + 1, by omega, by go_num, (fIdx_miss _ _ _ _ hv).symm.trans hF.out, hb.trans (hb3.mono hb.size)⟩
        case measure => simp [intOf]; omega
      · go_wp2_with (go_at_call 42; refine (upward1_any _ lv hs[k].1 hs[k].2 _ hcr).mono ?_; rintro e w2 ⟨rfl, hb3⟩)
        go_ret
        exact ⟨ret_int (by rw [← hF.out, fIdx_hit _ _ _ _ hv]), hb.trans (hb3.mono hb.size)⟩
    · go_wp2
      go_ret
      refine ⟨ret_int ?_, hb⟩
      have : k = hs.length := by have := HL.out; omega
      rw [← hF.out, this, List.drop_length]; rfl

theorem containsL_any (A : Option Addr) (n c g : Nat) (hs : List (Int × Int)) (lv : Int) (w : World) (hr : Rd w w.heap.size 2 A n (cells2 hs)) (hn : (n : Int) ≤ 1000000) (hc : w.cell? ⟨g, 1, none⟩ = some (.int .i64 lv)) (hg : g < w.heap.size) :
    Calls Try.prog 41 #[.slice A n c, .func (.func 42) #[] #[.pointer (some ⟨g, 0, none⟩)]] w fun e w' => e = .returned (.bool (hs.any fun x => decide (x.1 ≥ lv))) ∧ Below w.heap.size w w' := by
  go_enter Try.func41, Try.ntmps41
  go_wp2_with fail
  refine (indexL_any _ _ _ _ hs lv _ hr hn hc hg).mono ?_
  rintro e w2 ⟨rfl, hb⟩
  go_wp2
  go_ret
  exact ⟨ret_bool (fIdx_ge _ _ _), hb⟩

/-! ### Whole numbers -/
set_option maxHeartbeats 400000 in
theorem indexI_any (A : Option Addr) (n c : Nat) (hs : List Int) (x : Int) (w : World) (hr : Rd w w.heap.size 1 A n (cells1 hs)) (hn : (n : Int) ≤ 1000000) :
    Calls Try.prog 59 #[.slice A n c, .int .i64 x] w fun e w' => e = .returned (.int .i64 (fIdx (fun y : Int => x == y) 0 hs)) ∧ w' = w := by
  have HL := Lib.hid hr.len1
  go_enter Try.func59, Try.ntmps59
  go_wp2
  go_loopw [8] (fun i wr => ∃ k : Nat, k ≤ n ∧ i = .int .i64 k ∧ Hid (fIdx (fun y : Int => x == y) k (hs.drop k) = fIdx (fun y : Int => x == y) 0 hs) ∧ wr = w) (fun i _ => n - (intOf i).toNat)
  case atStart => exact ⟨0, Nat.zero_le _, rfl, rfl, rfl⟩
  case round =>
    obtain ⟨k, hk, rfl, hF, rfl⟩ := hrel
    by_cases hlt : k < n
    · obtain ⟨ad, rfl, had, c0⟩ := hr.at1 (k := k) (by have := HL.out; omega)
      cases hv : x == hs[k]
      · go_wp2
        go_roundw
        case rel => exact ⟨k + 1, by omega, by go_num, (fIdx_miss _ _ _ _ hv).symm.trans hF.out, trivial⟩
        case measure => simp [intOf]; omega
      · go_wp2
        go_ret
        exact ⟨ret_int (by rw [← hF.out, fIdx_hit _ _ _ _ hv]), rfl⟩
    · go_wp2
      go_ret
      refine ⟨ret_int ?_, rfl⟩
      have : k = hs.length := by have := HL.out; omega
      rw [← hF.out, this, List.drop_length]; rfl

theorem containsI_any (A : Option Addr) (n c : Nat) (hs : List Int) (x : Int) (w : World) (hr : Rd w w.heap.size 1 A n (cells1 hs)) (hn : (n : Int) ≤ 1000000) :
    Calls Try.prog 40 #[.slice A n c, .int .i64 x] w fun e w' => e = .returned (.bool (hs.any fun y => x == y)) ∧ w' = w := by
  go_enter Try.func40, Try.ntmps40
  go_wp2_with fail
  refine (indexI_any _ _ _ hs x _ hr hn).mono ?_
  rintro e w2 ⟨rfl, rfl⟩
  go_wp2
  go_ret
  exact ⟨ret_bool (fIdx_ge _ _ _), rfl⟩

theorem clipInts_any (A : Option Addr) (n c : Nat) (hnc : n ≤ c) (w : World) :
    Calls Try.prog 39 #[.slice A n c] w fun e w' => e = .returned (.slice A n n) ∧ w = w' := by
  go_enter Try.func39, Try.ntmps39
  go_wp2
  go_ret
  exact ⟨rfl, rfl⟩

/-! ### Elements of a table, by their thread -/
set_option maxHeartbeats 400000 in
theorem freeAll1_any (g : Nat) (th : Int) (h : H3) (w : World) (hc : w.cell? ⟨g, 0, none⟩ = some (.int .i64 th)) :
    Calls Try.prog 58 #[.agg #[.int .i64 h.lv, .int .i64 h.ix, .int .i64 h.th], .pointer (some ⟨g, 0, none⟩)] w fun e w' => e = .returned (.bool (h.th == th)) ∧ Below w.heap.size w w' := by
  have hg : g < w.heap.size := lt_of_cell hc
  go_enter Try.func58, Try.ntmps58
  go_wp2
  go_ret
  exact ⟨rfl, (Below.refl _ _).alloc (Nat.le_refl _) _⟩

set_option maxHeartbeats 400000 in
theorem indexH_any (A : Option Addr) (n c g : Nat) (hs : List H3) (th : Int) (w : World) (hr : Rd w w.heap.size 3 A n (cells3 hs)) (hn : (n : Int) ≤ 1000000) (hc : w.cell? ⟨g, 0, none⟩ = some (.int .i64 th)) (hg : g < w.heap.size) :
    Calls Try.prog 66 #[.slice A n c, .func (.func 58) #[] #[.pointer (some ⟨g, 0, none⟩)]] w fun e w' => e = .returned (.int .i64 (fIdx (fun x : H3 => x.th == th) 0 hs)) ∧ Below w.heap.size w w' := by
  have HL := Lib.hid hr.len3
  go_enter Try.func66, Try.ntmps66
  go_wp2
  go_loopw [8] (fun i wr => ∃ k : Nat, k ≤ n ∧ i = .int .i64 k ∧ Hid (fIdx (fun x : H3 => x.th == th) k (hs.drop k) = fIdx (fun x : H3 => x.th == th) 0 hs) ∧ Below w.heap.size w wr) (fun i _ => n - (intOf i).toNat)
  case atStart => exact ⟨0, Nat.zero_le _, rfl, rfl, Below.refl _ _⟩
  case round =>
    obtain ⟨k, hk, rfl, hF, hb⟩ := hrel
    have hcr := cs_ hb hg hc
    clear hc
    by_cases hlt : k < n
    · obtain ⟨ad, rfl, had, c0, c1, c2⟩ := (hr.below hb (Nat.le_refl _)).at3 (k := k) (by have := HL.out; omega)
      cases hv : hs[k].th == th
      · go_wp2_with (go_at_call 58; refine (freeAll1_any _ _ hs[k] _ hcr).mono ?_; rintro e w2 ⟨rfl, hb3⟩)
        go_roundw
        case rel => exact ⟨k + 1, by omega, by go_num, (fIdx_miss _ _ _ _ hv).symm.trans hF.out, hb.trans (hb3.mono hb.size)⟩
        case measure => simp [intOf]; omega
      · go_wp2_with (go_at_call 58; refine (freeAll1_any _ _ hs[k] _ hcr).mono ?_; rintro e w2 ⟨rfl, hb3⟩)
        go_ret
        exact ⟨ret_int (by rw [← hF.out, fIdx_hit _ _ _ _ hv]), hb.trans (hb3.mono hb.size)⟩
    · go_wp2
      go_ret
      refine ⟨ret_int ?_, hb⟩
      have : k = hs.length := by have := HL.out; omega
      rw [← hF.out, this, List.drop_length]; rfl
end Go.Proofs.Ytfdfadebfdmdgaa
