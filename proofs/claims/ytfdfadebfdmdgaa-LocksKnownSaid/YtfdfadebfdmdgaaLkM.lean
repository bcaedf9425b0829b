/- slices.Delete of one element of a row of the call's own. -/
import Derived.Test.YtfdfadebfdmdgaaLkL
namespace Go.Proofs.Ytfdfadebfdmdgaa
open Go.RowKit

def delF (i : Nat) (hs : List H3) : List H3 := hs.take i ++ hs.drop (i + 1)

theorem cells3_take (hs : List H3) (k : Nat) : (cells3 hs).take (k * 3) = cells3 (hs.take k) := by
  induction k generalizing hs with
  | zero => simp [cells3]
  | succ k ih =>
    cases hs with
    | nil => simp [cells3]
    | cons h t =>
      have e : (k + 1) * 3 = 3 + k * 3 := by omega
      rw [e]
      show List.take (3 + k * 3) (H3.cells h ++ cells3 t) = H3.cells h ++ cells3 (t.take k)
      rw [← ih t, List.take_append]
      have h3 : (H3.cells h).length = 3 := rfl
      rw [h3, List.take_of_length_le (by rw [h3]; omega), show 3 + k * 3 - 3 = k * 3 by omega]

set_option maxRecDepth 100000 in
set_option maxHeartbeats 1000000 in
theorem delete_any (B n c g i : Nat) (hs : List H3) (w : World) (hown : w.ownsRow B 67 3 (.slice (some ⟨g, 0, none⟩) n c) n (cells3 hs)) (hn : (n : Int) ≤ 1000000) (hc : (c : Int) ≤ 9223372036854775807) (hi : i < n) :
    Calls Try.prog 52 #[.slice (some ⟨g, 0, none⟩) n c, .int .i64 i, .int .i64 ((i : Int) + 1)] w fun e w' => e = .returned (.slice (some ⟨g, 0, none⟩) (n - 1) c) ∧ w'.ownsRow B 67 3 (.slice (some ⟨g, 0, none⟩) (n - 1) c) (n - 1) (cells3 (delF i hs)) ∧ w.grownBy w' (some g) := by
  rcases own_row hown with ⟨h, _⟩ | ⟨g', L, hg', hB, hrow, hnc, hcm, hLl, hLt⟩
  · cases h
  obtain rfl : g = g' := by simpa using hg'
  have hlen : n = hs.length := by have := hown.1; rw [cells3_len] at this; omega
  have HL := Lib.hid hlen
  clear hlen
  obtain ⟨i0, hi0, hz0, hz1, hz2⟩ := info_parts info_held
  have hnews : (cells3 (hs.drop (i + 1))).length = (n - (i + 1)) * 3 := by rw [cells3_len, List.length_drop, ← HL.out]
  have hsrcc : Cells w ⟨g, (i + 1) * 3, none⟩ (cells3 (hs.drop (i + 1))) := by
    have h1 := (hrow.cells 0).take (n * 3)
    simp only [List.drop_zero, hLt] at h1
    have h2 := h1.nth ((i + 1) * 3)
    rw [cells3_drop] at h2
    simpa [Addr.add] using h2
  have hfit : i * 3 + (cells3 (hs.drop (i + 1))).length ≤ L.length := by rw [hnews, hLl]; omega
  have hrowd : Row w.drew g 67 L := hrow
  obtain ⟨W2, hW2⟩ : ∃ W2, W2 = w.drew.setRow g (splice L (i * 3) (cells3 (hs.drop (i + 1)))).toArray := ⟨_, rfl⟩
  have hrow2 : Row W2 g 67 (splice L (i * 3) (cells3 (hs.drop (i + 1)))) := by rw [hW2]; exact hrowd.set
  have hg2 : w.grownBy W2 (some g) := by rw [hW2]; exact ⟨rfl, rfl, rfl, (grown_setRow w.drew g _).size, fun k hk hne => (grown_setRow w.drew g _).block k hk hne⟩
  have hap : Hid (∀ sp c', (∃ ad, sp = some ad ∧ Cells w ad (cells3 (hs.drop (i + 1)))) → (Builtin.append_ #[27, 27] 27 #[.slice (some ⟨g, 0, none⟩) i c, .slice sp (n - (i + 1)) c']).run Try.prog w.drew = .ok (.slice (some ⟨g, 0, none⟩) (n - 1) c) W2) := by
    intro sp c' h
    rw [hW2, show n - 1 = i + (n - (i + 1)) by omega]
    exact run_room_any _ _ _ i0 3 Try.underlying27 hi0 hz1 g i c _ c' sp L _ hrowd hnews h (cells3_one _) (by omega) hfit
  clear hW2
  have hlen2 : (splice L (i * 3) (cells3 (hs.drop (i + 1)))).length = c * 3 := by rw [splice_len _ _ _ hfit, hLl]
  have hzz : (Value.agg #[.int .i64 0, .int .i64 0, .int .i64 0]).cells.size = 3 := rfl
  have hfit2 : (n - 1) * 3 + 1 * (Value.agg #[.int .i64 0, .int .i64 0, .int .i64 0]).cells.size ≤ (splice L (i * 3) (cells3 (hs.drop (i + 1)))).length := by rw [hlen2, hzz]; omega
  obtain ⟨W3, hW3⟩ : ∃ W3, W3 = W2.setRow g (splice (splice L (i * 3) (cells3 (hs.drop (i + 1)))) ((n - 1) * 3) (Builtin.zeroCells (Value.agg #[.int .i64 0, .int .i64 0, .int .i64 0]).cells 1).toList).toArray := ⟨_, rfl⟩
  have hrow3 : Row W3 g 67 (splice (splice L (i * 3) (cells3 (hs.drop (i + 1)))) ((n - 1) * 3) (Builtin.zeroCells (Value.agg #[.int .i64 0, .int .i64 0, .int .i64 0]).cells 1).toList) := by rw [hW3]; exact hrow2.set
  have hg3 : w.grownBy W3 (some g) := by rw [hW3]; exact hg2.trans (grown_setRow W2 g _)
  have hcl : Hid (∀ c' ty, (Builtin.clear_ #[27] ty #[.slice (some ⟨g, (n - 1) * 3, none⟩) (n - (n - 1)) c']).run Try.prog W2 = .ok (.tuple #[]) W3) := by
    intro c' ty
    rw [hW3, show n - (n - 1) = 1 by omega]
    exact run_clear_any _ _ _ i0 _ Try.underlying27 hi0 hz0 held_zero g _ 1 c' _ _ _ hrow2 (fun _ => rfl) hfit2
  clear hW3
  have hfin : Hid (W3.ownsRow B 67 3 (.slice (some ⟨g, 0, none⟩) (n - 1) c) (n - 1) (cells3 (delF i hs))) := by
    have hzl : (Builtin.zeroCells (Value.agg #[.int .i64 0, .int .i64 0, .int .i64 0]).cells 1).toList.length = 3 := by simp [size_zeroCells, hzz]
    refine row_own hB hrow3 (by omega) hcm (by rw [splice_len _ _ _ (by rw [hzl, hlen2]; omega), hlen2]) ?_
    rw [splice_take _ _ _ _ (Nat.le_refl _) (by rw [hlen2]; omega)]
    have e2 : (n - 1) * 3 = i * 3 + (cells3 (hs.drop (i + 1))).length := by rw [hnews]; omega
    rw [e2, splice_take_end _ _ _ (by rw [hLl]; omega)]
    have e3 : L.take (i * 3) = cells3 (hs.take i) := by
      rw [← cells3_take, ← hLt, List.take_take]; congr 1; omega
    rw [e3, ← cells3_app]; rfl
  have hhx : Hid (∃ ad, (if c = i + 1 then some (⟨g, 0, none⟩ : Addr) else some ⟨g, (i + 1) * 3, none⟩) = some ad ∧ Cells w ad (cells3 (hs.drop (i + 1)))) := by
    unfold Hid
    by_cases h : c = i + 1
    · have h0 : cells3 (hs.drop (i + 1)) = [] := List.eq_nil_of_length_eq_zero (by rw [hnews]; omega)
      rw [if_pos h, h0]
      exact ⟨_, rfl, fun j v hv => by simp at hv⟩
    · rw [if_neg h]
      exact ⟨_, rfl, hsrcc⟩
  have hne1 : ((i : Int) == (i : Int) + 1) = false := by simp; omega
  have hsrcd := hsrcc
  clear hrow hrowd hrow2 hrow3 hLt hown hfit hfit2 hlen2 hg2
  have HS := Lib.hid hsrcc
  have HLL := Lib.hid hLl
  have HNW := Lib.hid hnews
  clear hsrcc hsrcd hLl hnews hzz hcm hB
  go_enter Try.func52, Try.ntmps52
  have hic : i ≤ c := by omega
  have hic' : ((i : Int) ≤ (c : Int)) := by omega
  have hin : i + 1 ≤ n := by omega
  have h01 : (0 : Int) ≤ (i : Int) + 1 := by omega
  have hin' : ((i : Int) + 1 ≤ (n : Int)) := by omega
  go_wp2_with fail
  refine still_tail 6 (by kernel_rfl) (by kernel_rfl) ?_
  simp only [List.take_succ_cons, List.take_zero, List.drop_succ_cons, List.drop_zero]
  repeat still_step
  refine wpStill_nil ?_
  have hn1 : ¬ c = n - 1 := by omega
  have hn2 : n - 1 ≤ n := by omega
  have hcl' := hcl.out
  clear hcl
  go_wp2_with (at_builtin; refine Lib.wpList_append_run _ rfl (.tmp 22) (.tmp 25) _ _ rfl _ _ rfl rfl _ _ (hap.out _ _ hhx.out) ?_)
  all_goals
    go_ret
    first
      | exact ⟨rfl, hfin.out, hg3⟩
      | have h : c = i + 1 := (by assumption)
        have hf := hfin.out
        rw [h] at hf
        exact ⟨rfl, hf, hg3⟩
end Go.Proofs.Ytfdfadebfdmdgaa
