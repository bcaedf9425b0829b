/- locks.first, locks.Owner. -/
import Derived.Test.YtfdfadebfdmdgaaLkD
namespace Go.Proofs.Ytfdfadebfdmdgaa
open Go.RowKit

theorem lkB_comm (a b c d : Int) : lkB a b c d = lkB c d a b := by
  unfold lkB; rw [Bool.eq_iff_iff]; simp; omega

/-- The function value 'l.compare'. -/
def cmpFn (lv ix : Int) : Value := .func (.func 47) #[.agg #[.int .i64 lv, .int .i64 ix]] #[]

def idxFrom (lv ix : Int) : Nat → List H3 → Int
  | _, [] => -1
  | k, h :: t => if h.is lv ix then (k : Int) else idxFrom lv ix (k + 1) t
def idxF (lv ix : Int) (hs : List H3) : Int := idxFrom lv ix 0 hs

theorem idx_hit (lv ix : Int) (hs : List H3) (k : Nat) (hk : k < hs.length) (h : hs[k].is lv ix = true) : idxFrom lv ix k (hs.drop k) = k := by
  rw [List.drop_eq_getElem_cons hk, idxFrom, if_pos h]
theorem idx_miss (lv ix : Int) (hs : List H3) (k : Nat) (hk : k < hs.length) (h : hs[k].is lv ix = false) : idxFrom lv ix k (hs.drop k) = idxFrom lv ix (k + 1) (hs.drop (k + 1)) := by
  rw [List.drop_eq_getElem_cons hk, idxFrom, if_neg (by simp [h])]

set_option maxHeartbeats 400000 in
theorem first1_any (g : Nat) (lv ix : Int) (h : H3) (w : World) (hc : w.cell? ⟨g, 0, none⟩ = some (cmpFn lv ix)) :
    Calls Try.prog 67 #[.agg #[.int .i64 h.lv, .int .i64 h.ix, .int .i64 h.th], .pointer (some ⟨g, 0, none⟩)] w fun e w' => e = .returned (.bool (h.is lv ix)) ∧ Below w.heap.size w w' := by
  have hq : (cmpL lv ix h.lv h.ix == 0) = h.is lv ix := (cmpL_eq _ _ _ _).trans (lkB_comm _ _ _ _)
  unfold cmpFn at hc
  have hg : g < w.heap.size := lt_of_cell hc
  go_enter Try.func67, Try.ntmps67
  go_wp2_with (go_at_call 47; refine (compare_any _ _ _ _ _ _).mono ?_; rintro e w2 ⟨rfl, hb3⟩)
  go_ret
  exact ⟨ret_bool rfl, below_alloc1 hb3⟩

set_option maxHeartbeats 400000 in
theorem indexFunc_any (A : Option Addr) (n c g : Nat) (hs : List H3) (lv ix : Int) (w : World) (hr : Rd w w.heap.size 3 A n (cells3 hs)) (hn : (n : Int) ≤ 1000000) (hc : w.cell? ⟨g, 0, none⟩ = some (cmpFn lv ix)) (hg : g < w.heap.size) :
    Calls Try.prog 66 #[.slice A n c, .func (.func 67) #[] #[.pointer (some ⟨g, 0, none⟩)]] w fun e w' => e = .returned (.int .i64 (idxF lv ix hs)) ∧ Below w.heap.size w w' := by
  have HL := Lib.hid hr.len3
  go_enter Try.func66, Try.ntmps66
  go_wp2
  go_loopw [8] (fun i wr => ∃ k : Nat, k ≤ n ∧ i = .int .i64 k ∧ Hid (idxFrom lv ix k (hs.drop k) = idxF lv ix hs) ∧ Below w.heap.size w wr) (fun i _ => n - (intOf i).toNat)
  case atStart => exact ⟨0, Nat.zero_le _, rfl, rfl, Below.refl _ _⟩
  case round =>
    obtain ⟨k, hk, rfl, hF, hb⟩ := hrel
    have hcr := cs_ hb hg hc
    clear hc
    by_cases hlt : k < n
    · obtain ⟨ad, rfl, had, c0, c1, c2⟩ := (hr.below hb (Nat.le_refl _)).at3 (k := k) (by have := HL.out; omega)
      cases hv : hs[k].is lv ix
      · go_wp2_with (go_at_call 67; refine (first1_any _ _ _ hs[k] _ hcr).mono ?_; rintro e w2 ⟨rfl, hb3⟩)
        go_roundw
        case rel => exact ⟨k + 1, by omega, by go_num, (idx_miss _ _ _ _ _ hv).symm.trans hF.out, hb.trans (hb3.mono hb.size)⟩
        case measure => simp [intOf]; omega
      · go_wp2_with (go_at_call 67; refine (first1_any _ _ _ hs[k] _ hcr).mono ?_; rintro e w2 ⟨rfl, hb3⟩)
        go_ret
        exact ⟨ret_int (by rw [← hF.out, idx_hit _ _ _ _ _ hv]), hb.trans (hb3.mono hb.size)⟩
    · go_wp2
      go_ret
      refine ⟨ret_int ?_, hb⟩
      have : k = hs.length := by have := HL.out; omega
      rw [← hF.out, this, List.drop_length]; rfl

set_option maxHeartbeats 400000 in
theorem first_any (A : Option Addr) (n c : Nat) (hs : List H3) (lv ix : Int) (w : World) (hr : Rd w w.heap.size 3 A n (cells3 hs)) (hn : (n : Int) ≤ 1000000) :
    Calls Try.prog 51 #[.agg #[.slice A n c], cmpFn lv ix] w fun e w' => e = .returned (.int .i64 (idxF lv ix hs)) ∧ Below w.heap.size w w' := by
  go_enter Try.func51, Try.ntmps51
  go_wp2_with fail
  refine (indexFunc_any _ _ _ _ hs lv ix _ ?_ hn ?_ ?_).mono ?_
  · exact hr.step (((Below.refl _ _).alloc (Nat.le_refl _) _).alloc (by simp) _)
  · simp [cmpFn, go_sem]
  · simp
  rintro e w2 ⟨rfl, hb3⟩
  go_wp2
  go_ret
  exact ⟨rfl, below_alloc2 hb3⟩

theorem idxFrom_pos (lv ix : Int) : ∀ (hs : List H3) (k : Nat), idxFrom lv ix k hs = -1 ∧ (∀ h ∈ hs, h.is lv ix = false) ∨ ∃ j, ∃ hj : j < hs.length, idxFrom lv ix k hs = ((k + j : Nat) : Int) ∧ hs[j].is lv ix = true ∧ ownerF lv ix hs = hs[j].th := by
  intro hs
  induction hs with
  | nil => intro k; left; simp [idxFrom]
  | cons h t ih =>
    intro k
    cases hh : h.is lv ix
    · rcases ih (k + 1) with ⟨h1, h2⟩ | ⟨j, hj, h1, h2, h3⟩
      · left; simp [idxFrom, hh, h1]; exact h2
      · right; exact ⟨j + 1, by simpa using hj, by simp [idxFrom, hh, h1]; omega, by simpa using h2, by simp [ownerF, hh, h3]⟩
    · right; exact ⟨0, by simp, by simp [idxFrom, hh], by simpa using hh, by simp [ownerF, hh]⟩
/-- Has a lock's thread; -1 tells that it is free where no element has a thread below 0. -/
def heldB (lv ix : Int) (hs : List H3) : Bool := hs.any (·.is lv ix)
/-- What Owner returns. -/
def who (lv ix : Int) (hs : List H3) : Int := if heldB lv ix hs then ownerF lv ix hs else 0

theorem idx_none {lv ix : Int} {hs : List H3} (h : heldB lv ix hs = false) : idxF lv ix hs = -1 := by
  rcases idxFrom_pos lv ix hs 0 with ⟨h1, _⟩ | ⟨j, hj, _, h2, _⟩
  · exact h1
  · exfalso; have : heldB lv ix hs = true := List.any_eq_true.2 ⟨_, List.getElem_mem hj, h2⟩; rw [h] at this; cases this
theorem idx_some {lv ix : Int} {hs : List H3} (h : heldB lv ix hs = true) : ∃ j, ∃ hj : j < hs.length, idxF lv ix hs = (j : Int) ∧ hs[j].is lv ix = true ∧ ownerF lv ix hs = hs[j].th := by
  rcases idxFrom_pos lv ix hs 0 with ⟨_, h1⟩ | ⟨j, hj, h1, h2, h3⟩
  · exfalso; obtain ⟨x, hx, hx2⟩ := List.any_eq_true.1 h; rw [h1 x hx] at hx2; cases hx2
  · exact ⟨j, hj, by unfold idxF; simpa using h1, h2, h3⟩

set_option maxHeartbeats 400000 in
theorem owner_any (A : Option Addr) (n c : Nat) (hs : List H3) (lv ix : Int) (w : World) (hr : Rd w w.heap.size 3 A n (cells3 hs)) (hn : (n : Int) ≤ 1000000) :
    Calls Try.prog 35 #[.agg #[.slice A n c], .agg #[.int .i64 lv, .int .i64 ix]] w fun e w' => e = .returned (.tuple #[.int .i64 (who lv ix hs), .bool (heldB lv ix hs)]) ∧ Below w.heap.size w w' := by
  have HL := Lib.hid hr.len3
  cases hh : heldB lv ix hs
  · have HI := Lib.hid (idx_none hh)
    go_enter Try.func35, Try.ntmps35
    go_wp2_with fail
    refine (first_any _ _ _ hs lv ix _ ?_ hn).mono ?_
    · exact hr.step (((Below.refl _ _).alloc (Nat.le_refl _) _).alloc (by simp) _)
    rintro e w2 ⟨rfl, hb3⟩
    rw [HI.out]
    go_wp2
    go_ret2
    exact ⟨by simp [who, hh], below_alloc2 hb3⟩
  · obtain ⟨j, hj, h1, h2, h3⟩ := idx_some hh
    have HI := Lib.hid h1
    have HO := Lib.hid h3
    clear h1 h3
    obtain ⟨ad, rfl, had, c0, c1, c2⟩ := hr.at3 hj
    go_enter Try.func35, Try.ntmps35
    go_wp2_with fail
    refine (first_any _ _ _ hs lv ix _ ?_ hn).mono ?_
    · exact hr.step (((Below.refl _ _).alloc (Nat.le_refl _) _).alloc (by simp) _)
    rintro e w2 ⟨rfl, hb3⟩
    rw [HI.out]
    obtain ⟨d0, d1, d2⟩ := (hr.below (below_alloc2 hb3) (Nat.le_refl _)).at3s hj
    obtain ⟨hc1, hf1⟩ := bcell hb3
    have hjn : j < n := by have := HL.out; omega
    go_wp2
    go_ret2
    exact ⟨by simp [who, hh, HO.out], below_alloc2 hb3⟩

def readyF (hs : List H3) (lv ix th : Int) : Int := if checkF hs = 0 then (if validB lv ix th then 0 else 1) else checkF hs

set_option maxHeartbeats 400000 in
theorem ready_any (A : Option Addr) (n c : Nat) (hs : List H3) (lv ix th : Int) (w : World) (hr : Rd w w.heap.size 3 A n (cells3 hs)) (hn : (n : Int) ≤ 1000000) :
    Calls Try.prog 46 #[.agg #[.slice A n c], .agg #[.int .i64 lv, .int .i64 ix], .int .i64 th] w fun e w' => e = .returned (.int .i64 (readyF hs lv ix th)) ∧ Below w.heap.size w w' := by
  go_enter Try.func46, Try.ntmps46
  go_wp2_with fail
  refine (check_any _ _ _ hs _ ?_ hn).mono ?_
  · exact hr.step (((Below.refl _ _).alloc (Nat.le_refl _) _).alloc (by simp) _)
  rintro e w2 ⟨rfl, hb3⟩
  obtain ⟨hc1, hf1⟩ := bcell hb3
  go_wp2_with (go_at_call 43; refine (valid_any _ _ _ _).mono ?_; rintro e w3 ⟨rfl, hb4⟩)
  · have h1 : ¬ checkF hs = 0 := by simpa using (show (checkF hs != 0) = true by assumption)
    go_ret
    exact ⟨ret_int (by rw [readyF, if_neg h1]), below_alloc2 hb3⟩
  · have h1 : checkF hs = 0 := by simpa using (show (checkF hs != 0) = false by assumption)
    have h2 : validB lv ix th = false := by simpa using (show (!validB lv ix th) = true by assumption)
    go_ret
    exact ⟨ret_int (by rw [readyF, if_pos h1, h2]; rfl), (below_alloc2 hb3).trans (hb4.mono (below_alloc2 hb3).size)⟩
  · have h1 : checkF hs = 0 := by simpa using (show (checkF hs != 0) = false by assumption)
    have h2 : validB lv ix th = true := by simpa using (show (!validB lv ix th) = false by assumption)
    go_ret
    exact ⟨ret_int (by rw [readyF, if_pos h1, h2]; rfl), (below_alloc2 hb3).trans (hb4.mono (below_alloc2 hb3).size)⟩
end Go.Proofs.Ytfdfadebfdmdgaa
