/- The locks of a thread. -/
import Derived.Test.YtfdfadebfdmdgaaLkE
import Derived.Test.YtfdfadebfdmdgaaBas2
namespace Go.Proofs.Ytfdfadebfdmdgaa
open Go.RowKit

def cells2 (ls : List (Int × Int)) : List Value := ls.flatMap fun l => [.int .i64 l.1, .int .i64 l.2]
theorem cells2_len (hs : List (Int × Int)) : (cells2 hs).length = hs.length * 2 := by
  induction hs with
  | nil => rfl
  | cons h t ih => simp only [cells2, List.flatMap_cons, List.length_append, List.length_cons, List.length_nil] at ih ⊢; rw [ih]; omega
theorem cells2_app (a b : List (Int × Int)) : cells2 (a ++ b) = cells2 a ++ cells2 b := by simp [cells2]
theorem cells2_drop (hs : List (Int × Int)) (k : Nat) : (cells2 hs).drop (k * 2) = cells2 (hs.drop k) := by
  induction k generalizing hs with
  | zero => simp
  | succ k ih =>
    cases hs with
    | nil => simp [cells2]
    | cons h t =>
      have e : (k + 1) * 2 = 2 + k * 2 := by omega
      rw [e, ← List.drop_drop]
      exact ih t
theorem Rd.len2 {w : World} {B n : Nat} {A : Option Addr} {hs : List (Int × Int)} (h : Rd w B 2 A n (cells2 hs)) : n = hs.length := by
  have := h.1; rw [cells2_len] at this; omega
theorem Rd.at2 {w : World} {B n : Nat} {A : Option Addr} {hs : List (Int × Int)} (h : Rd w B 2 A n (cells2 hs)) {k : Nat} (hk : k < hs.length) :
    ∃ ad, A = some ad ∧ ad.block < B ∧ w.cell? (ad.add (k * 2)) = some (.int .i64 hs[k].1) ∧ w.cell? ⟨(ad.add (k * 2)).block, (ad.add (k * 2)).off + 1, none⟩ = some (.int .i64 hs[k].2) := by
  have hn := h.len2
  obtain ⟨ad, e, hl, hc⟩ := h.at_ (k := k) (by omega)
  rw [cells2_drop, List.drop_eq_getElem_cons hk] at hc
  exact ⟨ad, e, hl, hc.c0, hc.c1⟩

def ofF (th : Int) (hs : List H3) : List (Int × Int) := (hs.filter (·.th == th)).map fun h => (h.lv, h.ix)
theorem ofF_len (th : Int) (hs : List H3) : (ofF th hs).length ≤ hs.length := by simp [ofF]; exact List.length_filter_le _ _
theorem ofF_take_len (th : Int) (hs : List H3) (k : Nat) : (ofF th (hs.take k)).length ≤ k := Nat.le_trans (ofF_len _ _) (by simp; omega)
theorem take_snoc {α : Type} (hs : List α) (k : Nat) (hk : k < hs.length) : hs.take (k + 1) = hs.take k ++ [hs[k]] := by
  rw [List.take_succ_eq_append_getElem hk]
theorem ofF_hit (th : Int) (hs : List H3) (k : Nat) (hk : k < hs.length) (h : (hs[k].th == th) = true) : ofF th (hs.take (k + 1)) = ofF th (hs.take k) ++ [(hs[k].lv, hs[k].ix)] := by
  rw [take_snoc _ _ hk]; simp only [ofF, List.filter_append, List.map_append, List.filter_cons, h, if_true, List.filter_nil, List.map_cons, List.map_nil]
theorem ofF_miss (th : Int) (hs : List H3) (k : Nat) (hk : k < hs.length) (h : (hs[k].th == th) = false) : ofF th (hs.take (k + 1)) = ofF th (hs.take k) := by
  rw [take_snoc _ _ hk]; simp only [ofF, List.filter_append, List.map_append, List.filter_cons, h]; simp

theorem info_lock : (Try.prog.info? 43).map (fun i => (i.zero, i.size, i.bytes)) = some (some (.agg #[.int .i64 0, .int .i64 0]), 2, 16) := by kernel_rfl
theorem info_held : (Try.prog.info? 67).map (fun i => (i.zero, i.size, i.bytes)) = some (some (.agg #[.int .i64 0, .int .i64 0, .int .i64 0]), 3, 24) := by kernel_rfl
theorem info_int : (Try.prog.info? 3).map (fun i => (i.zero, i.size, i.bytes)) = some (some (.int .i64 0), 1, 8) := by kernel_rfl

theorem clipLocks_any (A : Option Addr) (n c : Nat) (hnc : n ≤ c) (w : World) :
    Calls Try.prog 54 #[.slice A n c] w fun e w' => e = .returned (.slice A n n) ∧ w = w' := by
  go_enter Try.func54, Try.ntmps54
  go_wp2
  go_ret
  exact ⟨rfl, rfl⟩

set_option maxRecDepth 100000 in
set_option maxHeartbeats 1000000 in
theorem refOf_any (A : Option Addr) (n c : Nat) (hs : List H3) (th : Int) (w : World) (hr : Rd w w.heap.size 3 A n (cells3 hs)) (hn : (n : Int) ≤ 1000000) :
    Calls Try.prog 27 #[.agg #[.slice A n c], .int .i64 th] w fun e w' => ∃ A' m c', e = .returned (.slice A' m c') ∧ Rd w' w'.heap.size 2 A' m (cells2 (ofF th hs)) ∧ Below w.heap.size w w' := by
  have HL := Lib.hid hr.len3
  obtain ⟨i0, hi, hz0, hz1, hz2⟩ := info_parts info_lock
  go_enter Try.func27, Try.ntmps27
  go_wp2
  go_loopw [5, 6] (fun v i wr => ∃ k : Nat, k ≤ n ∧ i = .int .i64 k ∧ wr.ownsRow (w.heap.size + 1) 43 2 v (ofF th (hs.take k)).length (cells2 (ofF th (hs.take k))) ∧ Below (w.heap.size + 1) (w.alloc (.cells #[.slice A n c] 29)) wr) (fun _ i _ => n - (intOf i).toNat)
  case atStart => exact ⟨0, Nat.zero_le _, rfl, World.ownsRow_nil _ _ _ _, Below.refl _ _⟩
  case round =>
    obtain ⟨k, hk, rfl, hown, hb⟩ := hrel
    have h0 : wr.cell? ⟨w.heap.size, 0, none⟩ = some (.slice A n c) := cs_ hb (by omega) (by simp [go_sem])
    by_cases hlt : k < n
    · obtain ⟨ad, rfl, had, c0, c1, c2⟩ := (hr.below (below_alloc1 (by simpa using hb)) (Nat.le_refl _)).at3 (k := k) (by have := HL.out; omega)
      have hm := ofF_take_len th hs k
      cases hh : hs[k].th == th
      · go_wp2
        go_roundw
        case rel => exact ⟨k + 1, by omega, by go_num, by rw [ofF_miss _ _ _ _ hh]; exact hown, hb⟩
        case measure => simp [intOf]; omega
      · go_wp2_with (at_builtin; refine wpList_append_rd _ rfl (.tmp 22) (.tmp 29) _ rfl (w.heap.size + 1) 43 i0 _ 2 16 Try.underlying52 hi hz0 hz1 hz2 rfl (by decide) _ _ _ rfl (hown.alloc _) _ _ 1 _ [.int .i64 hs[k].lv, .int .i64 hs[k].ix] rfl (Rd.lit1 ?c0 rfl) ?c1 ?c2 ?c3 ?c4 ?_)
        case c0 => first | rfl | simp
        case c1 => intro u hu; simp at hu; rcases hu with rfl | rfl <;> rfl
        case c2 => unfold maxLen; omega
        case c3 => omega
        case c4 => have := hb.size; simp at this ⊢; omega
        intro v' w1 hown' hgrow hat
        have hb' := below_grown (hb.alloc (by simpa using hb.size) _) hgrow (by have := hb.size; simp at this ⊢; omega) (hown.alloc _)
        clear hown hgrow hat hb h0
        go_wp2
        go_roundw
        case rel => exact ⟨k + 1, by omega, by go_num, by rw [ofF_hit _ _ _ _ hh, cells2_app, List.length_append]; exact hown', hb'⟩
        case measure => simp [intOf]; omega
    · go_wp2
      go_ret
      have : k = hs.length := by have := HL.out; omega
      rw [this, List.take_length] at hown
      obtain ⟨A', c', rfl, _, hrd⟩ := own_slice hown
      exact ⟨_, _, _, rfl, hrd, below_alloc1 (by simpa using hb)⟩

set_option maxRecDepth 100000 in
set_option maxHeartbeats 1000000 in
theorem of_any (A : Option Addr) (n c : Nat) (hs : List H3) (th : Int) (w : World) (hr : Rd w w.heap.size 3 A n (cells3 hs)) (hn : (n : Int) ≤ 1000000) :
    Calls Try.prog 26 #[.agg #[.slice A n c], .int .i64 th] w fun e w' => ∃ A' m, e = .returned (.slice A' m m) ∧ Rd w' w'.heap.size 2 A' m (cells2 (ofF th hs)) ∧ Below w.heap.size w w' := by
  have HL := Lib.hid hr.len3
  obtain ⟨i0, hi, hz0, hz1, hz2⟩ := info_parts info_lock
  go_enter Try.func26, Try.ntmps26
  go_wp2
  go_loopw [5, 11] (fun v i wr => ∃ k : Nat, k ≤ n ∧ i = .int .i64 k ∧ wr.ownsRow (w.heap.size + 1) 43 2 v (ofF th (hs.take k)).length (cells2 (ofF th (hs.take k))) ∧ Below (w.heap.size + 1) (w.alloc (.cells #[.slice A n c] 29)) wr) (fun _ i _ => n - (intOf i).toNat)
  case atStart => exact ⟨0, Nat.zero_le _, rfl, World.ownsRow_nil _ _ _ _, Below.refl _ _⟩
  case round =>
    obtain ⟨k, hk, rfl, hown, hb⟩ := hrel
    have h0 : wr.cell? ⟨w.heap.size, 0, none⟩ = some (.slice A n c) := cs_ hb (by omega) (by simp [go_sem])
    by_cases hlt : k < n
    · obtain ⟨ad, rfl, had, c0, c1, c2⟩ := (hr.below (below_alloc1 (by simpa using hb)) (Nat.le_refl _)).at3 (k := k) (by have := HL.out; omega)
      have hm := ofF_take_len th hs k
      cases hh : hs[k].th == th
      · go_wp2
        go_roundw
        case rel => exact ⟨k + 1, by omega, by go_num, by rw [ofF_miss _ _ _ _ hh]; exact hown.alloc _, hb.alloc (by simpa using hb.size) _⟩
        case measure => simp [intOf]; omega
      · go_wp2_with (at_builtin; refine wpList_append_rd _ rfl (.tmp 19) (.tmp 22) _ rfl (w.heap.size + 1) 43 i0 _ 2 16 Try.underlying52 hi hz0 hz1 hz2 rfl (by decide) _ _ _ rfl ((hown.alloc _).alloc _) _ _ 1 _ [.int .i64 hs[k].lv, .int .i64 hs[k].ix] rfl (Rd.lit1 ?c0 rfl) ?c1 ?c2 ?c3 ?c4 ?_)
        case c0 => first | rfl | simp
        case c1 => intro u hu; simp at hu; rcases hu with rfl | rfl <;> rfl
        case c2 => unfold maxLen; omega
        case c3 => omega
        case c4 => have := hb.size; simp at this ⊢; omega
        intro v' w1 hown' hgrow hat
        have hb' := below_grown ((hb.alloc (by simpa using hb.size) _).alloc (by have := hb.size; simp at this ⊢; omega) _) hgrow (by have := hb.size; simp at this ⊢; omega) ((hown.alloc _).alloc _)
        clear hown hgrow hat hb h0
        go_wp2
        go_roundw
        case rel => exact ⟨k + 1, by omega, by go_num, by rw [ofF_hit _ _ _ _ hh, cells2_app, List.length_append]; exact hown', hb'⟩
        case measure => simp [intOf]; omega
    · have hkl : k = hs.length := by have := HL.out; omega
      rw [hkl, List.take_length] at hown
      have HK := Lib.hid hkl
      clear hkl
      obtain ⟨A', c', rfl, hcc, hrd⟩ := own_slice hown
      go_wp2_with (go_at_call 54; refine (clipLocks_any _ _ _ hcc _).mono ?_; rintro e w' ⟨rfl, rfl⟩)
      go_ret
      exact ⟨_, _, rfl, hrd, below_alloc1 (by simpa using hb)⟩
end Go.Proofs.Ytfdfadebfdmdgaa
