/- Small readers: has, without, Same, ints, Equal. -/
import Derived.Test.YtfdfadebfdmdgaaLkF
namespace Go.Proofs.Ytfdfadebfdmdgaa
open Go.RowKit

theorem heldB_hit (lv ix : Int) (hs : List H3) (k : Nat) (hk : k < hs.length) (h : hs[k].is lv ix = true) : heldB lv ix (hs.drop k) = true := by
  rw [List.drop_eq_getElem_cons hk]; simp only [heldB, List.any_cons, h, Bool.true_or]
theorem heldB_miss (lv ix : Int) (hs : List H3) (k : Nat) (hk : k < hs.length) (h : hs[k].is lv ix = false) : heldB lv ix (hs.drop k) = heldB lv ix (hs.drop (k + 1)) := by
  rw [List.drop_eq_getElem_cons hk]; simp only [heldB, List.any_cons, h, Bool.false_or]

set_option maxHeartbeats 400000 in
theorem has_any (A : Option Addr) (n c : Nat) (hs : List H3) (lv ix : Int) (w : World) (hr : Rd w w.heap.size 3 A n (cells3 hs)) (hn : (n : Int) ≤ 1000000) :
    Calls Try.prog 23 #[.agg #[.slice A n c], .agg #[.int .i64 lv, .int .i64 ix]] w fun e w' => e = .returned (.int .i64 (b2i (heldB lv ix hs))) ∧ Below w.heap.size w w' := by
  have HL := Lib.hid hr.len3
  have hq := lock_eql
  go_enter Try.func23, Try.ntmps23
  go_wp2
  go_loopw [5] (fun i wr => ∃ k : Nat, k ≤ n ∧ i = .int .i64 k ∧ Hid (heldB lv ix (hs.drop k) = heldB lv ix hs) ∧ Below (w.heap.size + 2) ((w.alloc (.cells #[.slice A n c] 29)).alloc (.cells #[.int .i64 lv, .int .i64 ix] 43)) wr) (fun i _ => n - (intOf i).toNat)
  case atStart => exact ⟨0, Nat.zero_le _, rfl, rfl, Below.refl _ _⟩
  case round =>
    obtain ⟨k, hk, rfl, hF, hb⟩ := hrel
    have h0 : wr.cell? ⟨w.heap.size, 0, none⟩ = some (.slice A n c) := cs_ hb (by omega) (by simp [go_sem])
    have h1 : wr.cell? ⟨w.heap.size + 1, 0, none⟩ = some (.int .i64 lv) := cs_ hb (by omega) (by simp [go_sem])
    have h2 : wr.cell? ⟨w.heap.size + 1, 1, none⟩ = some (.int .i64 ix) := cs_ hb (by omega) (by simp [go_sem])
    have hbw : Below w.heap.size w wr := below_alloc2 (by simpa using hb)
    by_cases hlt : k < n
    · obtain ⟨ad, rfl, had, c0, c1, c2⟩ := (hr.below hbw (Nat.le_refl _)).at3 (k := k) (by have := HL.out; omega)
      go_wp2
      go_quiet (fail)
      go_wp2
      · have hh : hs[k].is lv ix = true := by unfold H3.is; assumption
        go_ret
        exact ⟨ret_int (by rw [← hF.out, heldB_hit _ _ _ _ _ hh]; rfl), below_drewN' hbw _⟩
      · have hh : hs[k].is lv ix = false := by unfold H3.is; assumption
        go_roundw
        case rel => exact ⟨k + 1, by omega, by go_num, (heldB_miss _ _ _ _ _ hh).symm.trans hF.out, below_drewN' hb _⟩
        case measure => simp [intOf]; omega
    · go_wp2
      go_ret
      have : k = hs.length := by have := HL.out; omega
      exact ⟨ret_int (by rw [← hF.out, this, List.drop_length]; rfl), hbw⟩

set_option maxHeartbeats 400000 in
theorem without_any (A : Option Addr) (n c : Nat) (hs : List H3) (w : World) (hr : Rd w w.heap.size 3 A n (cells3 hs)) (hn : (n : Int) ≤ 1000000) :
    Calls Try.prog 34 #[.agg #[.slice A n c]] w fun e w' => e = .returned (.int .i64 (1 - b2i (heldB (-2) 0 hs))) ∧ Below w.heap.size w w' := by
  go_enter Try.func34, Try.ntmps34
  go_wp2_with fail
  go_region_held3 (fun w' => w'.cell? ⟨w.heap.size, 0, none⟩ = some (.slice A n c)) (first | exact cs_ hb2 (by have := hb1.size; simp at this; omega) (cs_ hb1 (by simp) (by simp [go_sem])) | exact cs_ hb1 (by simp) (by simp [go_sem]) | go_keep)
    (first
      | (go_at_call 33; refine (nowhere_any _).mono ?_; rintro e w1 ⟨rfl, hb1⟩)
      | (go_at_call 23; refine (has_any _ _ _ hs _ _ _ ((hr.step ((Below.refl _ _).alloc (Nat.le_refl _) _)).step (below_of_drew hb1)) hn).mono ?_; rintro e w2 ⟨rfl, hb2⟩))
  have hbw : Below w.heap.size w w2 := (below_alloc1 (below_of_drew hb1)).trans (hb2.mono (below_alloc1 (below_of_drew hb1)).size)
  go_wp2
  go_ret
  exact ⟨ret_int (IntWalk.i64_in _ (by cases heldB (-2) 0 hs <;> decide)), hbw⟩

def cells1 (l : List Int) : List Value := l.map (Value.int .i64)
theorem cells1_drop (l : List Int) (k : Nat) : (cells1 l).drop (k * 1) = cells1 (l.drop k) := by simp [cells1]
theorem Rd.len1 {w : World} {B n : Nat} {A : Option Addr} {l : List Int} (h : Rd w B 1 A n (cells1 l)) : n = l.length := by
  have := h.1; simp [cells1] at this; omega
theorem Rd.at1 {w : World} {B n : Nat} {A : Option Addr} {l : List Int} (h : Rd w B 1 A n (cells1 l)) {k : Nat} (hk : k < l.length) :
    ∃ ad, A = some ad ∧ ad.block < B ∧ w.cell? (ad.add k) = some (.int .i64 l[k]) := by
  have hn := h.len1
  obtain ⟨ad, e, hl, hc⟩ := h.at_ (k := k) (by omega)
  rw [cells1_drop, List.drop_eq_getElem_cons hk, Nat.mul_one] at hc
  exact ⟨ad, e, hl, hc.c0⟩

theorem drop_eq_iff (a b : List Int) (k : Nat) (ha : k < a.length) (hb : k < b.length) : (a.drop k = b.drop k) = (a[k] = b[k] ∧ a.drop (k + 1) = b.drop (k + 1)) := by
  rw [List.drop_eq_getElem_cons ha, List.drop_eq_getElem_cons hb, List.cons.injEq]

set_option maxHeartbeats 1000000 in
theorem ints_any (A B : Option Addr) (n c m d : Nat) (a b : List Int) (w : World) (ha : Rd w w.heap.size 1 A n (cells1 a)) (hb : Rd w w.heap.size 1 B m (cells1 b)) (hn : (n : Int) ≤ 1000000) (hm : (m : Int) ≤ 1000000) (hc : (c : Int) ≤ 9223372036854775807) :
    Calls Try.prog 15 #[.slice A n c, .slice B m d] w fun e w' => e = .returned (.int .i64 (b2i (decide (c = n) && decide (a = b)))) ∧ Below w.heap.size w w' := by
  have HLa := Lib.hid ha.len1
  have HLb := Lib.hid hb.len1
  by_cases hnm : n = m
  · subst hnm
    by_cases hcn : c = n
    · subst hcn
      go_enter Try.func15, Try.ntmps15
      go_wp2
      go_loopw [5] (fun i wr => ∃ k : Nat, k ≤ c ∧ i = .int .i64 k ∧ Hid ((a.drop k = b.drop k) = (a = b)) ∧ Below w.heap.size w wr) (fun i _ => c - (intOf i).toNat)
      case atStart => exact ⟨0, Nat.zero_le _, rfl, rfl, Below.refl _ _⟩
      case round =>
        obtain ⟨k, hk, rfl, hF, hbw⟩ := hrel
        by_cases hlt : k < c
        · have hka : k < a.length := by have := HLa.out; omega
          have hkb : k < b.length := by have := HLb.out; omega
          obtain ⟨ad, rfl, had, c0⟩ := (ha.below hbw (Nat.le_refl _)).at1 hka
          obtain ⟨bd, rfl, hbd, d0⟩ := (hb.below hbw (Nat.le_refl _)).at1 hkb
          cases he : a[k] != b[k]
          · go_wp2
            go_quiet (fail)
            go_wp2
            go_roundw
            case rel => exact ⟨k + 1, by omega, by go_num, by unfold Hid; rw [← hF.out, drop_eq_iff a b k hka hkb]; simp at he; simp [he], below_drewN' hbw _⟩
            case measure => simp [intOf]; omega
          · go_wp2
            go_quiet (fail)
            go_wp2
            go_ret
            have hne : a ≠ b := by intro h; subst h; simp at he
            exact ⟨ret_int (by simp [hne, b2i]), below_drewN' hbw _⟩
        · go_wp2
          go_ret
          have h1 : k = a.length := by have := HLa.out; omega
          have h2 : k = b.length := by have := HLb.out; omega
          have hab : a = b := by rw [← hF.out]; rw [h1, List.drop_length, ← h1, h2, List.drop_length]
          exact ⟨ret_int (by simp [hab, b2i]), hbw⟩
    · have hcn' : ((c : Int) != (n : Int)) = true := by simp; omega
      have hcn2 : ((n : Int) != (n : Int)) = false := by simp
      go_enter Try.func15, Try.ntmps15
      go_wp2
      go_ret
      exact ⟨ret_int (by simp [hcn, b2i]), Below.refl _ _⟩
  · have hnm' : ((n : Int) != (m : Int)) = true := by simp; omega
    go_enter Try.func15, Try.ntmps15
    go_wp2
    go_ret
    have hne : a ≠ b := by intro h; subst h; exact hnm (HLa.out.trans HLb.out.symm)
    exact ⟨ret_int (by simp [hne, b2i]), Below.refl _ _⟩
end Go.Proofs.Ytfdfadebfdmdgaa
