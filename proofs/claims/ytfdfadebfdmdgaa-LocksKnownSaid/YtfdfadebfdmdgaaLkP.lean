/- Take whole; Free. -/
import Derived.Test.YtfdfadebfdmdgaaLkO
import Derived.Test.YtfdfadebfdmdgaaLkM
namespace Go.Proofs.Ytfdfadebfdmdgaa
open Go.RowKit

theorem take_any (A : Option Addr) (n c : Nat) (hs : List H3) (lv ix th : Int) (w : World) (hr : Rd w w.heap.size 3 A n (cells3 hs)) (hn : (n : Int) ≤ 999999) :
    Calls Try.prog 22 #[.agg #[.slice A n c], .agg #[.int .i64 lv, .int .i64 ix], .int .i64 th] w (PairOut (takeG hs lv ix th) (takeE hs lv ix th) w) := by
  by_cases h0 : readyF hs lv ix th = 0
  · cases hh : heldB lv ix hs
    · rw [takeG, takeE, if_pos h0, if_pos h0, hh]
      exact take_ok A n c hs lv ix th w hr hn h0 hh
    · have : takeG hs lv ix th = [] := by rw [takeG, if_pos h0, hh]; rfl
      rw [this]
      exact take_err A n c hs lv ix th w hr (by omega) (.inr hh)
  · have : takeG hs lv ix th = [] := by rw [takeG, if_neg h0]
    rw [this]
    exact take_err A n c hs lv ix th w hr (by omega) (.inl h0)

/-- What Free makes. -/
def freeOk (hs : List H3) (lv ix th : Int) : Bool := heldB lv ix hs && decide (who lv ix hs = th)
def freeG (hs : List H3) (lv ix th : Int) : List H3 := if readyF hs lv ix th = 0 then (if freeOk hs lv ix th then delF (idxF lv ix hs).toNat hs else []) else []
def freeE (hs : List H3) (lv ix th : Int) : Int := if readyF hs lv ix th = 0 then (if freeOk hs lv ix th then 0 else 10) else readyF hs lv ix th

set_option maxRecDepth 100000 in
set_option maxHeartbeats 4000000 in
theorem free_err (A : Option Addr) (n c : Nat) (hs : List H3) (lv ix th : Int) (w : World) (hr : Rd w w.heap.size 3 A n (cells3 hs)) (hn : (n : Int) ≤ 1000000) (he : readyF hs lv ix th ≠ 0 ∨ freeOk hs lv ix th = false) :
    Calls Try.prog 24 #[.agg #[.slice A n c], .agg #[.int .i64 lv, .int .i64 ix], .int .i64 th] w (PairOut [] (freeE hs lv ix th) w) := by
  by_cases h0 : readyF hs lv ix th = 0
  · have hok : freeOk hs lv ix th = false := by rcases he with h | h; exact absurd h0 h; exact h
    have HT : Hid (freeE hs lv ix th = 10) := by unfold Hid freeE; rw [if_pos h0, hok]; rfl
    have H0 := Lib.hid h0
    clear h0 he
    unfold freeOk at hok
    cases hh : heldB lv ix hs
    · have HH := Lib.hid hh
      clear hh hok
      go_enter Try.func24, Try.ntmps24
      go_wp2_with fail
      refine (ready_any _ _ _ hs _ _ _ _ ?_ hn).mono ?_
      · exact hr.step (below_new3 _ _ _ _)
      rintro e w2 ⟨rfl, hb3⟩
      rw [H0.out]
      obtain ⟨hc1, hf1⟩ := bcell hb3
      go_wp2_with fail
      refine (owner_any _ _ _ hs _ _ _ ?_ hn).mono ?_
      · exact hr.step (below_alloc1 (below_alloc2 hb3))
      rintro e w3 ⟨rfl, hb4⟩
      rw [HH.out]
      have hb5 := hb3.trans (hb4.mono hb3.size)
      obtain ⟨hc2, hf2⟩ := bcell hb5
      have k1 : w3.cell? ⟨w.heap.size + 1 + 1, 0, none⟩ = some (.slice none 0 0) := cs_ hb5 (by simp) (by simp [go_sem])
      have hres := set_same (u := .slice none 0 0) k1
      go_wp2_with fail
      refine bodyPost_ret (v := .tuple #[.agg #[.slice none 0 0], .int .i64 10]) (by simp [results, Try.results24, go_sem, hres]) rfl ⟨none, 0, by rw [HT.out], Rd.none_, ?_⟩
      exact (below_alloc1 (below_alloc2 hb5)).setCell (by show w.heap.size ≤ w.heap.size + 1 + 1; omega) _
    · have hw : (who lv ix hs != th) = true := by rw [hh] at hok; simpa using hok
      have HH := Lib.hid hh
      clear hh hok
      go_enter Try.func24, Try.ntmps24
      go_wp2_with fail
      refine (ready_any _ _ _ hs _ _ _ _ ?_ hn).mono ?_
      · exact hr.step (below_new3 _ _ _ _)
      rintro e w2 ⟨rfl, hb3⟩
      rw [H0.out]
      obtain ⟨hc1, hf1⟩ := bcell hb3
      go_wp2_with fail
      refine (owner_any _ _ _ hs _ _ _ ?_ hn).mono ?_
      · exact hr.step (below_alloc1 (below_alloc2 hb3))
      rintro e w3 ⟨rfl, hb4⟩
      rw [HH.out]
      have hb5 := hb3.trans (hb4.mono hb3.size)
      obtain ⟨hc2, hf2⟩ := bcell hb5
      have k1 : w3.cell? ⟨w.heap.size + 1 + 1, 0, none⟩ = some (.slice none 0 0) := cs_ hb5 (by simp) (by simp [go_sem])
      have hres := set_same (u := .slice none 0 0) k1
      go_wp2_with fail
      refine bodyPost_ret (v := .tuple #[.agg #[.slice none 0 0], .int .i64 10]) (by simp [results, Try.results24, go_sem, hres]) rfl ⟨none, 0, by rw [HT.out], Rd.none_, ?_⟩
      exact (below_alloc1 (below_alloc2 hb5)).setCell (by show w.heap.size ≤ w.heap.size + 1 + 1; omega) _
  · have HT : Hid (freeE hs lv ix th = readyF hs lv ix th) := by unfold Hid freeE; rw [if_neg h0]
    have h1 : (readyF hs lv ix th != 0) = true := by simpa using h0
    clear he
    go_enter Try.func24, Try.ntmps24
    go_wp2_with fail
    refine (ready_any _ _ _ hs _ _ _ _ ?_ hn).mono ?_
    · exact hr.step (below_new3 _ _ _ _)
    rintro e w2 ⟨rfl, hb3⟩
    obtain ⟨hc1, hf1⟩ := bcell hb3
    have k1 : w2.cell? ⟨w.heap.size + 1 + 1, 0, none⟩ = some (.slice none 0 0) := cs_ hb3 (by simp) (by simp [go_sem])
    have hres := set_same (u := .slice none 0 0) k1
    go_wp2_with fail
    refine bodyPost_ret (v := .tuple #[.agg #[.slice none 0 0], .int .i64 (readyF hs lv ix th)]) (by simp [results, Try.results24, go_sem, hres]) rfl ⟨none, 0, by rw [HT.out], Rd.none_, ?_⟩
    exact (below_alloc1 (below_alloc2 hb3)).setCell (by show w.heap.size ≤ w.heap.size + 1 + 1; omega) _

set_option maxRecDepth 100000 in
set_option maxHeartbeats 8000000 in
theorem free_ok (A : Option Addr) (n c : Nat) (hs : List H3) (lv ix th : Int) (w : World) (hr : Rd w w.heap.size 3 A n (cells3 hs)) (hn : (n : Int) ≤ 1000000) (h0 : readyF hs lv ix th = 0) (hok : freeOk hs lv ix th = true) :
    Calls Try.prog 24 #[.agg #[.slice A n c], .agg #[.int .i64 lv, .int .i64 ix], .int .i64 th] w (PairOut (delF (idxF lv ix hs).toNat hs) 0 w) := by
  unfold freeOk at hok
  have hh : heldB lv ix hs = true := by cases h : heldB lv ix hs; rw [h] at hok; cases hok; rfl
  have hw : (who lv ix hs != th) = false := by rw [hh] at hok; simpa using hok
  obtain ⟨j, hj, hij, _⟩ := idx_some hh
  have hnj : j < n := by rw [hr.len3]; exact hj
  have HH := Lib.hid hh
  have H0 := Lib.hid h0
  have HI := Lib.hid hij
  have hA : A = none → n = 0 := fun h => by
    rcases Nat.eq_zero_or_pos n with h0 | h0
    · exact h0
    · obtain ⟨ad, hA, _⟩ := hr.2 h0; rw [h] at hA; cases hA
  rw [hij]
  have hm1 : ((n - 1 : Nat) : Int) ≤ 1000000 := by omega
  have hj1 : (0 : Int) ≤ (j : Int) + 1 := by omega
  have hj2 : (j : Int) + 1 ≤ 1000000 := by omega
  clear hh h0 hok hij
  go_enter Try.func24, Try.ntmps24
  go_wp2_with fail
  refine (ready_any _ _ _ hs _ _ _ _ ?_ hn).mono ?_
  · exact hr.step (below_new3 _ _ _ _)
  rintro e w2 ⟨rfl, hb3⟩
  rw [H0.out]
  obtain ⟨hc1, hf1⟩ := bcell hb3
  go_wp2_with fail
  refine (owner_any _ _ _ hs _ _ _ ?_ hn).mono ?_
  · exact hr.step (below_alloc1 (below_alloc2 hb3))
  rintro e w3 ⟨rfl, hb4⟩
  rw [HH.out]
  have hb5 := hb3.trans (hb4.mono hb3.size)
  obtain ⟨hc2, hf2⟩ := bcell hb5
  clear hb3 hb4 hc1 hf1
  go_wp2_with fail
  refine (first_any _ _ _ hs _ _ _ ?_ hn).mono ?_
  · exact hr.step (below_alloc1 (below_alloc2 hb5))
  rintro e w4 ⟨rfl, hb6⟩
  rw [HI.out]
  have hb7 := hb5.trans (hb6.mono hb5.size)
  obtain ⟨hc3, hf3⟩ := bcell hb7
  clear hb5 hb6 hc2 hf2
  go_wp2_with fail
  refine (clone_any _ _ _ hs _ ?_ hn hA).mono ?_
  · exact hr.step (below_alloc1 (below_alloc2 hb7))
  rintro e w5 ⟨v5, rfl, ho5, hb8⟩
  obtain ⟨A5, c5, rfl, _, _⟩ := own_slice ho5
  obtain ⟨g, rfl, hg⟩ := own_none_zero ho5 (by omega)
  have hc5 : (c5 : Int) ≤ 9223372036854775807 := by
    rcases own_row ho5 with ⟨h, _⟩ | ⟨_, _, _, _, _, _, h, _⟩
    · cases h
    · unfold maxLen at h; omega
  have hb9 := hb7.trans (hb8.mono hb7.size)
  go_wp2_with fail
  refine (delete_any _ _ _ _ _ hs _ ho5 hn hc5 hnj).mono ?_
  rintro e w6 ⟨rfl, ho6, hg6⟩
  have hs4 := hb7.size
  have hb10 := grown_below hb9 hg6 hb9.size (by have := (ho5.lt g rfl).1; omega)
  go_wp2_with fail
  refine (exact_any _ _ _ _ _ (Rd.of_own ho6) hm1).mono ?_
  rintro e w7 ⟨A7, rfl, ho7, hb11⟩
  have hb12 := hb10.trans (hb11.mono hb10.size)
  obtain ⟨hc4, hf4⟩ := bcell hb12
  have k1 : w7.cell? ⟨w.heap.size + 1 + 1, 0, none⟩ = some (.slice none 0 0) := cs_ hb12 (by simp) (by simp [go_sem])
  have hres := set_same (u := .slice A7 (n - 1) (n - 1)) k1
  have hs6 := hb10.size
  go_wp2_with fail
  refine bodyPost_ret (v := .tuple #[.agg #[.slice A7 (n - 1) (n - 1)], .int .i64 0]) (by simp [results, Try.results24, go_sem, hres]) rfl ⟨A7, n - 1, rfl, ?_, ?_⟩
  · exact Rd.of_own (ownsRow_setCell_other ho7 (fun h => by have := (ho7.lt _ h).1; simp at this; simp at hs6; omega) _)
  · exact (below_alloc1 (below_alloc2 hb12)).setCell (by show w.heap.size ≤ w.heap.size + 1 + 1; omega) _

theorem free_any (A : Option Addr) (n c : Nat) (hs : List H3) (lv ix th : Int) (w : World) (hr : Rd w w.heap.size 3 A n (cells3 hs)) (hn : (n : Int) ≤ 1000000) :
    Calls Try.prog 24 #[.agg #[.slice A n c], .agg #[.int .i64 lv, .int .i64 ix], .int .i64 th] w (PairOut (freeG hs lv ix th) (freeE hs lv ix th) w) := by
  by_cases h0 : readyF hs lv ix th = 0
  · cases hh : freeOk hs lv ix th
    · have : freeG hs lv ix th = [] := by rw [freeG, if_pos h0, hh]; rfl
      rw [this]
      exact free_err A n c hs lv ix th w hr hn (.inr hh)
    · rw [freeG, freeE, if_pos h0, if_pos h0, hh]
      exact free_ok A n c hs lv ix th w hr hn h0 hh
  · have : freeG hs lv ix th = [] := by rw [freeG, if_neg h0]
    rw [this]
    exact free_err A n c hs lv ix th w hr hn (.inl h0)
end Go.Proofs.Ytfdfadebfdmdgaa
