/- Equality of tables. -/
import Derived.Test.YtfdfadebfdmdgaaLkG
namespace Go.Proofs.Ytfdfadebfdmdgaa
open Go.RowKit

theorem H3.eq_iff (a b : H3) : a = b ↔ a.lv = b.lv ∧ a.ix = b.ix ∧ a.th = b.th := by
  constructor
  · rintro rfl; exact ⟨rfl, rfl, rfl⟩
  · intro ⟨h1, h2, h3⟩; cases a; cases b; simp_all
instance : DecidableEq H3 := fun a b => decidable_of_iff _ (H3.eq_iff a b).symm

def heldEq (a b : H3) : Bool := decide (a = b)
theorem held_neq (a b : H3) (w : World) : (binOp .neq 67 (.agg #[.int .i64 a.lv, .int .i64 a.ix, .int .i64 a.th]) (.agg #[.int .i64 b.lv, .int .i64 b.ix, .int .i64 b.th])).run Try.prog w = .ok (.bool (!(heldEq a b))) w := by
  unfold heldEq
  simp only [H3.eq_iff]
  by_cases h : a.lv = b.lv
  · by_cases h2 : a.ix = b.ix
    · by_cases h3 : a.th = b.th <;> simp [h, h2, h3, go_sem]
    · have h1 : (a.ix == b.ix) = false := by simpa using h2
      simp [h, h2, h1, go_sem]
  · have h1 : (a.lv == b.lv) = false := by simpa using h
    simp [h, h1, go_sem]

theorem drop_eq_iff3 (a b : List H3) (k : Nat) (ha : k < a.length) (hb : k < b.length) : (a.drop k = b.drop k) = (a[k] = b[k] ∧ a.drop (k + 1) = b.drop (k + 1)) := by
  rw [List.drop_eq_getElem_cons ha, List.drop_eq_getElem_cons hb, List.cons.injEq]

set_option maxHeartbeats 1000000 in
theorem equal_any (A B : Option Addr) (n c m d : Nat) (a b : List H3) (w : World) (ha : Rd w w.heap.size 3 A n (cells3 a)) (hb : Rd w w.heap.size 3 B m (cells3 b)) (hn : (n : Int) ≤ 1000000) (hm : (m : Int) ≤ 1000000) :
    Calls Try.prog 55 #[.slice A n c, .slice B m d] w fun e w' => e = .returned (.bool (decide (a = b))) ∧ Below w.heap.size w w' := by
  have HLa := Lib.hid ha.len3
  have HLb := Lib.hid hb.len3
  have hq := held_neq
  by_cases hnm : n = m
  · subst hnm
    go_enter Try.func55, Try.ntmps55
    go_wp2
    go_loopw [13] (fun i wr => ∃ k : Nat, k ≤ n ∧ i = .int .i64 k ∧ Hid ((a.drop k = b.drop k) = (a = b)) ∧ Below w.heap.size w wr) (fun i _ => n - (intOf i).toNat)
    case atStart => exact ⟨0, Nat.zero_le _, rfl, rfl, Below.refl _ _⟩
    case round =>
      obtain ⟨k, hk, rfl, hF, hbw⟩ := hrel
      by_cases hlt : k < n
      · have hka : k < a.length := by have := HLa.out; omega
        have hkb : k < b.length := by have := HLb.out; omega
        obtain ⟨ad, rfl, had, c0, c1, c2⟩ := (ha.below hbw (Nat.le_refl _)).at3 hka
        obtain ⟨bd, rfl, hbd, d0, d1, d2⟩ := (hb.below hbw (Nat.le_refl _)).at3 hkb
        cases he : heldEq a[k] b[k]
        · go_wp2
          go_quiet (fail)
          go_wp2
          go_ret
          have hne : a ≠ b := by intro h; subst h; simp [heldEq] at he
          exact ⟨ret_bool (by simp [hne]), below_drewN' hbw _⟩
        · go_wp2
          go_quiet (fail)
          go_wp2
          go_roundw
          case rel => exact ⟨k + 1, by omega, by go_num, by unfold Hid; rw [← hF.out, drop_eq_iff3 a b k hka hkb]; simp [heldEq] at he; simp [he], below_drewN' hbw _⟩
          case measure => simp [intOf]; omega
      · go_wp2
        go_ret
        have h1 : k = a.length := by have := HLa.out; omega
        have h2 : k = b.length := by have := HLb.out; omega
        have hab : a = b := by rw [← hF.out]; rw [h1, List.drop_length, ← h1, h2, List.drop_length]
        exact ⟨ret_bool (by simp [hab]), hbw⟩
  · have hnm' : ((n : Int) != (m : Int)) = true := by simp; omega
    go_enter Try.func55, Try.ntmps55
    go_wp2
    go_ret
    have hne : a ≠ b := by intro h; subst h; exact hnm (HLa.out.trans HLb.out.symm)
    exact ⟨ret_bool (by simp [hne]), Below.refl _ _⟩

set_option maxHeartbeats 400000 in
theorem lsame_any (A B : Option Addr) (n c m d : Nat) (a b : List H3) (w : World) (ha : Rd w w.heap.size 3 A n (cells3 a)) (hb : Rd w w.heap.size 3 B m (cells3 b)) (hn : (n : Int) ≤ 1000000) (hm : (m : Int) ≤ 1000000) :
    Calls Try.prog 28 #[.agg #[.slice A n c], .agg #[.slice B m d]] w fun e w' => e = .returned (.bool (decide (a = b))) ∧ Below w.heap.size w w' := by
  have hb0 : Below w.heap.size w ((w.alloc (.cells #[.slice A n c] 29)).alloc (.cells #[.slice B m d] 29)) := ((Below.refl _ _).alloc (Nat.le_refl _) _).alloc (by simp) _
  go_enter Try.func28, Try.ntmps28
  go_wp2_with fail
  refine (equal_any _ _ _ _ _ _ a b _ (ha.step hb0) (hb.step hb0) hn hm).mono ?_
  rintro e w1 ⟨rfl, hb1⟩
  go_wp2
  go_ret
  exact ⟨rfl, below_alloc2 hb1⟩

set_option maxHeartbeats 1000000 in
theorem refSame_any (A B : Option Addr) (n c m d : Nat) (a b : List H3) (w : World) (ha : Rd w w.heap.size 3 A n (cells3 a)) (hb : Rd w w.heap.size 3 B m (cells3 b)) (hn : (n : Int) ≤ 1000000) (hm : (m : Int) ≤ 1000000) :
    Calls Try.prog 53 #[.agg #[.slice A n c], .agg #[.slice B m d]] w fun e w' => e = .returned (.int .i64 (b2i (decide (a = b)))) ∧ Below w.heap.size w w' := by
  have HLa := Lib.hid ha.len3
  have HLb := Lib.hid hb.len3
  have hq := held_neq
  by_cases hnm : n = m
  · subst hnm
    go_enter Try.func53, Try.ntmps53
    go_wp2
    go_loopw [5] (fun i wr => ∃ k : Nat, k ≤ n ∧ i = .int .i64 k ∧ Hid ((a.drop k = b.drop k) = (a = b)) ∧ Below (w.heap.size + 2) ((w.alloc (.cells #[.slice A n c] 29)).alloc (.cells #[.slice B n d] 29)) wr) (fun i _ => n - (intOf i).toNat)
    case atStart => exact ⟨0, Nat.zero_le _, rfl, rfl, Below.refl _ _⟩
    case round =>
      obtain ⟨k, hk, rfl, hF, hbo⟩ := hrel
      have h0 : wr.cell? ⟨w.heap.size, 0, none⟩ = some (.slice A n c) := cs_ hbo (by omega) (by simp [go_sem])
      have h1 : wr.cell? ⟨w.heap.size + 1, 0, none⟩ = some (.slice B n d) := cs_ hbo (by omega) (by simp [go_sem])
      have hbw : Below w.heap.size w wr := below_alloc2 (by simpa using hbo)
      by_cases hlt : k < n
      · have hka : k < a.length := by have := HLa.out; omega
        have hkb : k < b.length := by have := HLb.out; omega
        obtain ⟨ad, rfl, had, c0, c1, c2⟩ := (ha.below hbw (Nat.le_refl _)).at3 hka
        obtain ⟨bd, rfl, hbd, d0, d1, d2⟩ := (hb.below hbw (Nat.le_refl _)).at3 hkb
        cases he : heldEq a[k] b[k]
        · go_wp2
          go_quiet (fail)
          go_wp2
          go_ret
          have hne : a ≠ b := by intro h; subst h; simp [heldEq] at he
          exact ⟨ret_int (by simp [hne, b2i]), below_drewN' hbw _⟩
        · go_wp2
          go_quiet (fail)
          go_wp2
          go_roundw
          case rel => exact ⟨k + 1, by omega, by go_num, by unfold Hid; rw [← hF.out, drop_eq_iff3 a b k hka hkb]; simp [heldEq] at he; simp [he], below_drewN' hbo _⟩
          case measure => simp [intOf]; omega
      · go_wp2
        go_ret
        have h1 : k = a.length := by have := HLa.out; omega
        have h2 : k = b.length := by have := HLb.out; omega
        have hab : a = b := by rw [← hF.out]; rw [h1, List.drop_length, ← h1, h2, List.drop_length]
        exact ⟨ret_int (by simp [hab, b2i]), hbw⟩
  · have hnm' : ((n : Int) != (m : Int)) = true := by simp; omega
    go_enter Try.func53, Try.ntmps53
    go_wp2
    go_ret
    have hne : a ≠ b := by intro h; subst h; exact hnm (HLa.out.trans HLb.out.symm)
    exact ⟨ret_int (by simp [hne, b2i]), ((Below.refl _ _).alloc (Nat.le_refl _) _).alloc (by simp) _⟩

set_option maxHeartbeats 400000 in
theorem same_any (A B : Option Addr) (n c m d : Nat) (a b : List H3) (w : World) (ha : Rd w w.heap.size 3 A n (cells3 a)) (hb : Rd w w.heap.size 3 B m (cells3 b)) (hn : (n : Int) ≤ 1000000) (hm : (m : Int) ≤ 1000000) :
    Calls Try.prog 25 #[.agg #[.slice A n c], .agg #[.slice B m d]] w fun e w' => e = .returned (.int .i64 (b2i (decide (c = n) && decide (a = b)))) ∧ Below w.heap.size w w' := by
  have hb0 : Below w.heap.size w ((w.alloc (.cells #[.slice A n c] 29)).alloc (.cells #[.slice B m d] 29)) := ((Below.refl _ _).alloc (Nat.le_refl _) _).alloc (by simp) _
  by_cases hc : c = n
  · have hc' : ((c : Int) != (n : Int)) = false := by simp [hc]
    have HC := Lib.hid hc
    clear hc
    go_enter Try.func25, Try.ntmps25
    go_wp2_with fail
    refine (refSame_any _ _ _ _ _ _ a b _ (ha.step hb0) (hb.step hb0) hn hm).mono ?_
    rintro e w1 ⟨rfl, hb1⟩
    go_wp2
    go_ret
    exact ⟨ret_int (by simp [HC.out]), below_alloc2 hb1⟩
  · have hc' : ((c : Int) != (n : Int)) = true := by simp; omega
    go_enter Try.func25, Try.ntmps25
    go_wp2_with fail
    go_ret
    exact ⟨ret_int (by simp [hc, b2i]), hb0⟩

set_option maxHeartbeats 400000 in
theorem sample_any (w : World) :
    Calls Try.prog 38 #[] w fun e w' => ∃ A, e = .returned (.agg #[.slice A 3 3]) ∧ Rd w' w'.heap.size 3 A 3 (cells3 [⟨-1, 0, 1⟩, ⟨0, 3, 4⟩, ⟨1, 2, 1⟩]) ∧ Below w.heap.size w w' := by
  go_enter Try.func38, Try.ntmps38
  go_wp2_with fail
  refine bodyPost_ret (v := .agg #[.slice (some ⟨w.heap.size + 1, 0, none⟩) 3 3]) (by simp [results, Try.results38, go_sem]) rfl ⟨_, rfl, ?_, ?_⟩
  · exact Rd.lit1 (by simp) rfl
  · exact ((Below.refl _ _).alloc (Nat.le_refl _) _).alloc (by simp) _
end Go.Proofs.Ytfdfadebfdmdgaa
