/- A table's elements in memory; the reference's Owner and Check. -/
import Derived.Test.YtfdfadebfdmdgaaLkA
namespace Go.Proofs.Ytfdfadebfdmdgaa
open Go.RowKit

/-- An element of a table: a lock's level and index, and the thread that has it. -/
structure H3 where
  lv : Int
  ix : Int
  th : Int

def H3.cells (h : H3) : List Value := [.int .i64 h.lv, .int .i64 h.ix, .int .i64 h.th]
def cells3 (hs : List H3) : List Value := hs.flatMap H3.cells

theorem cells3_len (hs : List H3) : (cells3 hs).length = hs.length * 3 := by
  induction hs with
  | nil => rfl
  | cons h t ih => simp only [cells3, List.flatMap_cons, List.length_append, List.length_cons] at ih ⊢; rw [ih]; simp [H3.cells]; omega
theorem cells3_drop (hs : List H3) (k : Nat) : (cells3 hs).drop (k * 3) = cells3 (hs.drop k) := by
  induction k generalizing hs with
  | zero => simp
  | succ k ih =>
    cases hs with
    | nil => simp [cells3]
    | cons h t =>
      have e : (k + 1) * 3 = 3 + k * 3 := by omega
      rw [e, ← List.drop_drop]
      exact ih t
theorem Rd.at3 {w : World} {B n : Nat} {A : Option Addr} {hs : List H3} (h : Rd w B 3 A n (cells3 hs)) {k : Nat} (hk : k < hs.length) :
    ∃ ad, A = some ad ∧ ad.block < B ∧ w.cell? (ad.add (k * 3)) = some (.int .i64 hs[k].lv) ∧ w.cell? ⟨(ad.add (k * 3)).block, (ad.add (k * 3)).off + 1, none⟩ = some (.int .i64 hs[k].ix) ∧
      w.cell? ⟨(ad.add (k * 3)).block, (ad.add (k * 3)).off + 2, none⟩ = some (.int .i64 hs[k].th) := by
  have hn : n = hs.length := by have := h.1; rw [cells3_len] at this; omega
  obtain ⟨ad, e, hl, hc⟩ := h.at_ (k := k) (by omega)
  rw [cells3_drop, List.drop_eq_getElem_cons hk] at hc
  exact ⟨ad, e, hl, hc.c0, hc.c1, hc.c2⟩
theorem Rd.at3s {w : World} {B n : Nat} {ad : Addr} {hs : List H3} (h : Rd w B 3 (some ad) n (cells3 hs)) {k : Nat} (hk : k < hs.length) :
    w.cell? (ad.add (k * 3)) = some (.int .i64 hs[k].lv) ∧ w.cell? ⟨(ad.add (k * 3)).block, (ad.add (k * 3)).off + 1, none⟩ = some (.int .i64 hs[k].ix) ∧
      w.cell? ⟨(ad.add (k * 3)).block, (ad.add (k * 3)).off + 2, none⟩ = some (.int .i64 hs[k].th) := by
  obtain ⟨ad', e, _, h1⟩ := h.at3 hk
  cases e
  exact h1
theorem Rd.len3 {w : World} {B n : Nat} {A : Option Addr} {hs : List H3} (h : Rd w B 3 A n (cells3 hs)) : n = hs.length := by
  have := h.1; rw [cells3_len] at this; omega

def lkB (a b c d : Int) : Bool := a == c && b == d
def H3.is (h : H3) (lv ix : Int) : Bool := lkB h.lv h.ix lv ix
/-- The thread that has a lock; -1 if it is free. -/
def ownerF (lv ix : Int) : List H3 → Int
  | [] => -1
  | h :: t => if h.is lv ix then h.th else ownerF lv ix t

theorem ownerF_hit (lv ix : Int) (hs : List H3) (k : Nat) (hk : k < hs.length) (h : hs[k].is lv ix = true) : ownerF lv ix (hs.drop k) = hs[k].th := by
  rw [List.drop_eq_getElem_cons hk, ownerF, if_pos h]
theorem ownerF_miss (lv ix : Int) (hs : List H3) (k : Nat) (hk : k < hs.length) (h : ¬ hs[k].is lv ix = true) : ownerF lv ix (hs.drop k) = ownerF lv ix (hs.drop (k + 1)) := by
  rw [List.drop_eq_getElem_cons hk, ownerF, if_neg h]

theorem lock_eql (a b c d : Int) (w : World) : (binOp .eql 43 (.agg #[.int .i64 a, .int .i64 b]) (.agg #[.int .i64 c, .int .i64 d])).run Try.prog w = .ok (.bool (lkB a b c d)) w := by
  by_cases h : a = c
  · subst h; by_cases h2 : b = d <;> simp [h2, lkB, go_sem]
  · have h1 : (a == c) = false := by simpa using h
    simp [h1, lkB, go_sem]
theorem lock_neq (a b c d : Int) (w : World) : (binOp .neq 43 (.agg #[.int .i64 a, .int .i64 b]) (.agg #[.int .i64 c, .int .i64 d])).run Try.prog w = .ok (.bool (!(lkB a b c d))) w := by
  by_cases h : a = c
  · subst h; by_cases h2 : b = d <;> simp [h2, lkB, go_sem]
  · have h1 : (a == c) = false := by simpa using h
    simp [h1, lkB, go_sem]

set_option maxHeartbeats 400000 in
theorem refOwner_any (A : Option Addr) (n c : Nat) (hs : List H3) (lv ix : Int) (w : World) (hr : Rd w w.heap.size 3 A n (cells3 hs)) (hn : (n : Int) ≤ 1000000) :
    Calls Try.prog 19 #[.agg #[.slice A n c], .agg #[.int .i64 lv, .int .i64 ix]] w fun e w' => e = .returned (.int .i64 (ownerF lv ix hs)) ∧ Below w.heap.size w w' := by
  have hl := hr.len3
  have HL := Lib.hid hl
  clear hl
  have hq := lock_eql
  go_enter Try.func19, Try.ntmps19
  go_wp2
  go_loopw [5] (fun i wr => ∃ k : Nat, k ≤ n ∧ i = .int .i64 k ∧ Hid (ownerF lv ix (hs.drop k) = ownerF lv ix hs) ∧ Below w.heap.size w wr ∧ wr.cell? ⟨w.heap.size, 0, none⟩ = some (.slice A n c) ∧ wr.cell? ⟨w.heap.size + 1, 0, none⟩ = some (.int .i64 lv) ∧ wr.cell? ⟨w.heap.size + 1, 1, none⟩ = some (.int .i64 ix)) (fun i _ => n - (intOf i).toNat)
  case atStart => exact ⟨0, Nat.zero_le _, rfl, rfl, by go_grown, by simp [go_sem], by simp [go_sem], by simp [go_sem]⟩
  case round =>
    obtain ⟨k, hk, rfl, hF, hb, h0, h1, h2⟩ := hrel
    by_cases hlt : k < n
    · obtain ⟨ad, rfl, had, c0, c1, c2⟩ := (hr.below hb (Nat.le_refl _)).at3 (k := k) (by have := HL.out; omega)
      go_wp2
      go_quiet (fail)
      go_wp2
      · have hh : hs[k].is lv ix = true := by unfold H3.is; assumption
        go_ret
        refine ⟨ret_int ?_, below_drewN' hb _⟩
        rw [← hF.out, ownerF_hit _ _ _ _ _ hh]
      · have hh : ¬ hs[k].is lv ix = true := by unfold H3.is; simpa using (by assumption)
        go_roundw
        case rel => exact ⟨k + 1, by omega, by go_num, (ownerF_miss _ _ _ _ _ hh).symm.trans hF.out, below_drewN' hb _, h0, h1, h2⟩
        case measure => simp [intOf]; omega
    · go_wp2
      go_ret
      refine ⟨ret_int ?_, hb⟩
      have : k = hs.length := by have := HL.out; omega
      rw [← hF.out, this, List.drop_length]; rfl
end Go.Proofs.Ytfdfadebfdmdgaa
