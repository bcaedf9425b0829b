/- slices.Insert as Take calls it; Take. -/
import Derived.Test.YtfdfadebfdmdgaaLkN
import Derived.Test.YtfdfadebfdmdgaaLkK
import Derived.Deep.RegionHeld3
namespace Go.Proofs.Ytfdfadebfdmdgaa
open Go.RowKit

theorem own_none_zero {w : World} {B e size n c : Nat} {A : Option Addr} {xs : List Value} (h : w.ownsRow B e size (.slice A n c) n xs) (hn : 0 < n) : ∃ g, A = some ⟨g, 0, none⟩ ∧ g < w.heap.size := by
  rcases own_row h with ⟨_, h0, _⟩ | ⟨g, L, hA, _, hrow, _⟩
  · omega
  · exact ⟨g, hA, hrow.lt⟩

theorem insert_any (B n c gv i : Nat) (A : Option Addr) (x : H3) (hs : List H3) (w : World) (hown : w.ownsRow B 67 3 (.slice A n c) n (cells3 hs)) (hn : (n : Int) ≤ 1000000) (hB : B ≤ w.heap.size) (hv : Row w gv 67 x.cells) (hne : ∀ g, A = some ⟨g, 0, none⟩ → gv ≠ g) (hi : i ≤ n) :
    Calls Try.prog 49 #[.slice A n c, .int .i64 i, .slice (some ⟨gv, 0, none⟩) 1 1] w (InsOut B (n + 1) (insF i x hs) w) := by
  rcases Nat.lt_or_ge i n with hlt | hge
  · rcases own_row hown with ⟨_, h0, _⟩ | ⟨g, L, rfl, _, _, hnc, _⟩
    · omega
    · rcases Nat.lt_or_ge n c with hc | hc
      · exact insert_room B n c g gv i x hs w hown hn hB hv (hne g rfl) hlt hc
      · obtain rfl : n = c := by omega
        exact insert_grow B n g gv i x hs w hown hn hB hv hlt
  · obtain rfl : i = n := by omega
    exact insert_end B i c gv A x hs w hown hn hB hv

theorem cmpL_gt (a b c d : Int) : decide (cmpL a b c d > 0) = lessB c d a b := by
  unfold cmpL orI cmpI lessB
  rw [Bool.eq_iff_iff]; simp
  (repeat' split) <;> omega

theorem ne_of_own {w : World} {B e size n c : Nat} {A : Option Addr} {xs : List Value} (h : w.ownsRow B e size (.slice A n c) n xs) : ∀ g, A = some ⟨g, 0, none⟩ → w.heap.size ≠ g := by
  rintro g rfl
  rcases own_row h with ⟨h1, _⟩ | ⟨g', L, hA, _, hrow, _⟩
  · cases h1
  · obtain rfl : g = g' := by simpa using hA
    have := hrow.lt; omega
theorem ne_of_base {w : World} {B e size n c : Nat} {A : Option Addr} {xs : List Value} (h : w.ownsRow (B + 1) e size (.slice A n c) n xs) : ∀ g, A = some ⟨g, 0, none⟩ → B ≠ g := by
  rintro g rfl
  rcases own_row h with ⟨h1, _⟩ | ⟨g', L, hA, hB, hrow, _⟩
  · cases h1
  · obtain rfl : g = g' := by simpa using hA
    omega
theorem lt_of_row {w : World} {g : Nat} {t : TypeId} {L : List Value} (h : Row w g t L) : g + 1 ≤ w.heap.size := h.lt

/-- How many elements Take passes over. -/
def posF (lv ix : Int) : List H3 → Nat
  | [] => 0
  | h :: t => if lessB h.lv h.ix lv ix then posF lv ix t + 1 else 0
theorem posF_le (lv ix : Int) (hs : List H3) : posF lv ix hs ≤ hs.length := by
  induction hs with
  | nil => exact Nat.le_refl _
  | cons h t ih => simp only [posF, List.length_cons]; split <;> omega
theorem posF_step (lv ix : Int) : ∀ (hs : List H3) (k : Nat), k ≤ posF lv ix hs → ∀ (hk : k < hs.length), (lessB hs[k].lv hs[k].ix lv ix = true → k + 1 ≤ posF lv ix hs) ∧ (lessB hs[k].lv hs[k].ix lv ix = false → k = posF lv ix hs) := by
  intro hs
  induction hs with
  | nil => intro k _ hk; simp at hk
  | cons h t ih =>
    intro k hp hk
    cases k with
    | zero => simp only [posF, List.getElem_cons_zero]; constructor <;> intro h1 <;> simp [h1]
    | succ k =>
      simp only [posF] at hp ⊢
      split at hp
      · rename_i hl
        rw [if_pos hl]
        have := ih k (by omega) (by simpa using hk)
        simp only [List.getElem_cons_succ]
        exact ⟨fun h1 => by have := this.1 h1; omega, fun h1 => by have := this.2 h1; omega⟩
      · omega

/-- A table and an error come back; what was there is as it was. -/
def PairOut (gs : List H3) (er : Int) (w : World) (e : Ending) (w' : World) : Prop := ∃ A' m, e = .returned (.tuple #[.agg #[.slice A' m m], .int .i64 er]) ∧ Rd w' w'.heap.size 3 A' m (cells3 gs) ∧ Below w.heap.size w w'

theorem below_new3 (w : World) (o p q : Obj) : Below w.heap.size w (((w.alloc o).alloc p).alloc q) := below_alloc1 (below_alloc2 (Below.refl _ _))

/-- What Take makes. -/
def takeG (hs : List H3) (lv ix th : Int) : List H3 := if readyF hs lv ix th = 0 then (if heldB lv ix hs then [] else insF (posF lv ix hs) ⟨lv, ix, th⟩ hs) else []
def takeE (hs : List H3) (lv ix th : Int) : Int := if readyF hs lv ix th = 0 then (if heldB lv ix hs then 14 else 0) else readyF hs lv ix th

def wt (A : Option Addr) (n c : Nat) (lv ix : Int) (w : World) : World :=
  (w.alloc (.cells #[.slice A n c] 29)).alloc (.cells #[.int .i64 lv, .int .i64 ix] 43)

set_option maxRecDepth 100000 in
set_option maxHeartbeats 4000000 in
theorem take_err (A : Option Addr) (n c : Nat) (hs : List H3) (lv ix th : Int) (w : World) (hr : Rd w w.heap.size 3 A n (cells3 hs)) (hn : (n : Int) ≤ 1000000) (he : readyF hs lv ix th ≠ 0 ∨ heldB lv ix hs = true) :
    Calls Try.prog 22 #[.agg #[.slice A n c], .agg #[.int .i64 lv, .int .i64 ix], .int .i64 th] w (PairOut [] (takeE hs lv ix th) w) := by
  by_cases h0 : readyF hs lv ix th = 0
  · have hh : heldB lv ix hs = true := by rcases he with h | h; exact absurd h0 h; exact h
    have HT : Hid (takeE hs lv ix th = 14) := by unfold Hid takeE; rw [if_pos h0, hh]; rfl
    have HH := Lib.hid hh
    have H0 := Lib.hid h0
    clear hh h0 he
    go_enter Try.func22, Try.ntmps22
    go_wp2_with fail
    refine (ready_any _ _ _ hs _ _ _ _ ?_ hn).mono ?_
    · exact hr.step (below_new3 _ _ _ _)
    rintro e w2 ⟨rfl, hb3⟩
    rw [H0.out]
    obtain ⟨hc1, hf1⟩ := bcell hb3
    go_wp2_with fail
    refine (owner_any _ _ _ hs _ _ _ ?_ hn).mono ?_
    · exact hr.step (below_alloc1 (below_alloc2 hb3))
    rintro e w3 ⟨rfl, hb4⟩
    rw [HH.out]
    have hb5 := hb3.trans (hb4.mono hb3.size)
    obtain ⟨hc2, hf2⟩ := bcell hb5
    have k1 : w3.cell? ⟨w.heap.size + 1 + 1, 0, none⟩ = some (.slice none 0 0) := cs_ hb5 (by simp) (by simp [go_sem])
    have hres := set_same (u := .slice none 0 0) k1
    go_wp2_with fail
    refine bodyPost_ret (v := .tuple #[.agg #[.slice none 0 0], .int .i64 14]) (by simp [results, Try.results22, go_sem, hres]) rfl ⟨none, 0, by rw [HT.out], Rd.none_, ?_⟩
    exact (below_alloc1 (below_alloc2 hb5)).setCell (by show w.heap.size ≤ w.heap.size + 1 + 1; omega) _
  · have HT : Hid (takeE hs lv ix th = readyF hs lv ix th) := by unfold Hid takeE; rw [if_neg h0]
    have h1 : (readyF hs lv ix th != 0) = true := by simpa using h0
    clear he
    go_enter Try.func22, Try.ntmps22
    go_wp2_with fail
    refine (ready_any _ _ _ hs _ _ _ _ ?_ hn).mono ?_
    · exact hr.step (below_new3 _ _ _ _)
    rintro e w2 ⟨rfl, hb3⟩
    obtain ⟨hc1, hf1⟩ := bcell hb3
    have k1 : w2.cell? ⟨w.heap.size + 1 + 1, 0, none⟩ = some (.slice none 0 0) := cs_ hb3 (by simp) (by simp [go_sem])
    have hres := set_same (u := .slice none 0 0) k1
    go_wp2_with fail
    refine bodyPost_ret (v := .tuple #[.agg #[.slice none 0 0], .int .i64 (readyF hs lv ix th)]) (by simp [results, Try.results22, go_sem, hres]) rfl ⟨none, 0, by rw [HT.out], Rd.none_, ?_⟩
    exact (below_alloc1 (below_alloc2 hb3)).setCell (by show w.heap.size ≤ w.heap.size + 1 + 1; omega) _

set_option maxRecDepth 100000 in
set_option maxHeartbeats 8000000 in
theorem take_ok (A : Option Addr) (n c : Nat) (hs : List H3) (lv ix th : Int) (w : World) (hr : Rd w w.heap.size 3 A n (cells3 hs)) (hn : (n : Int) ≤ 999999) (h0 : readyF hs lv ix th = 0) (hh : heldB lv ix hs = false) :
    Calls Try.prog 22 #[.agg #[.slice A n c], .agg #[.int .i64 lv, .int .i64 ix], .int .i64 th] w (PairOut (insF (posF lv ix hs) ⟨lv, ix, th⟩ hs) 0 w) := by
  have HL := Lib.hid hr.len3
  have HH := Lib.hid hh
  have H0 := Lib.hid h0
  have HN : Hid ((n : Int) ≤ 1000000) := by unfold Hid; omega
  have HP : Hid (posF lv ix hs ≤ n) := by unfold Hid; rw [hr.len3]; exact posF_le _ _ _
  clear hh h0
  go_enter Try.func22, Try.ntmps22
  go_wp2_with fail
  refine (ready_any _ _ _ hs _ _ _ _ ?_ HN.out).mono ?_
  · exact hr.step (below_new3 _ _ _ _)
  rintro e w2 ⟨rfl, hb3⟩
  rw [H0.out]
  obtain ⟨hc1, hf1⟩ := bcell hb3
  go_wp2_with fail
  refine (owner_any _ _ _ hs _ _ _ ?_ HN.out).mono ?_
  · exact hr.step (below_alloc1 (below_alloc2 hb3))
  rintro e w3 ⟨rfl, hb4⟩
  rw [HH.out]
  have hb5 := hb3.trans (hb4.mono hb3.size)
  obtain ⟨hc2, hf2⟩ := bcell hb5
  clear hb3 hc1 hf1 hb4
  go_wp2_with fail
  go_loopw [11] (fun i wr => ∃ k : Nat, k ≤ posF lv ix hs ∧ i = .int .i64 k ∧ Below (w.heap.size + 3) ((wt A n c lv ix w).alloc (.cells #[.slice none 0 0] 29)) wr) (fun i _ => n - (intOf i).toNat)
  case atStart => exact ⟨0, Nat.zero_le _, rfl, by simpa [wt] using hb5⟩
  case round =>
    obtain ⟨k, hk, rfl, hb⟩ := hrel
    have h0 : wr.cell? ⟨w.heap.size, 0, none⟩ = some (.slice A n c) := cs_ hb (by omega) (by simp [wt, go_sem])
    have h1 : wr.cell? ⟨w.heap.size + 1, 0, none⟩ = some (.int .i64 lv) := cs_ hb (by omega) (by simp [wt, go_sem])
    have h2 : wr.cell? ⟨w.heap.size + 1, 1, none⟩ = some (.int .i64 ix) := cs_ hb (by omega) (by simp [wt, go_sem])
    have h3 : wr.cell? ⟨w.heap.size + 1 + 1, 0, none⟩ = some (.slice none 0 0) := cs_ hb (by omega) (by simp [wt, go_sem])
    have hbw : Below w.heap.size w wr := by unfold wt at hb; exact below_alloc1 (below_alloc2 (by simpa using hb))
    have hsz : w.heap.size + 2 < wr.heap.size := lt_of_cell h3
    go_upto_region 8 with (fail)
    go_cut [42] (fun s wx => ∃ b : Bool, s = .bool b ∧ Hid (b = true ∧ k + 1 ≤ posF lv ix hs ∨ b = false ∧ k = posF lv ix hs) ∧ Below wr.heap.size wr wx)
    case first =>
      by_cases hlt : k < n
      · have hkl : k < hs.length := by have := HL.out; omega
        obtain ⟨ad, rfl, had, c0, c1, c2⟩ := (hr.below hbw (Nat.le_refl _)).at3 hkl
        have hd : decide ((k : Int) < (n : Int)) = true := by simpa using hlt
        have HS := Lib.hid (posF_step lv ix hs k hk hkl)
        have hg := cmpL_gt lv ix hs[k].lv hs[k].ix
        refine still_tail 12 (by kernel_rfl) (by kernel_rfl) ?_
        simp only [List.take_succ_cons, List.take_zero, List.drop_succ_cons, List.drop_zero]
        repeat still_step
        refine wpStill_nil ?_
        go_wp2_with fail
        refine (compare_any _ _ _ _ _ _).mono ?_
        rintro e w4 ⟨rfl, hb6⟩
        go_wp2
        go_meet
        case rel =>
          refine ⟨_, rfl, ?_, below_of_drew hb6⟩
          unfold Hid
          cases hl : lessB hs[k].lv hs[k].ix lv ix
          · exact .inr ⟨rfl, HS.out.2 hl⟩
          · exact .inl ⟨rfl, HS.out.1 hl⟩
      · have hd : decide ((k : Int) < (n : Int)) = false := by simpa using hlt
        go_quiet (fail)
        go_wp2
        go_meet
        case rel => exact ⟨_, rfl, .inr ⟨rfl, by have := HP.out; omega⟩, below_drewN' (Below.refl _ _) _⟩
    case rest =>
      obtain ⟨b, rfl, hbb, hbx⟩ := hcut
      have j0 := cs_ hbx (by omega) h0
      have j1 := cs_ hbx (by omega) h1
      have j2 := cs_ hbx (by omega) h2
      have j3 := cs_ hbx (by omega) h3
      have hf3 : wc.frozen? ⟨w.heap.size + 1 + 1, 0, none⟩ = false := fs_ hbx (by omega) (fs_ hb (by omega) (by simp [wt, go_sem]))
      have jb : Below w.heap.size w wc := hbw.trans (hbx.mono (by omega))
      cases b
      · obtain rfl : k = posF lv ix hs := by rcases hbb.out with ⟨h, _⟩ | ⟨_, h⟩; cases h; exact h
        clear h0 h1 h2 h3
        have jsz : wr.heap.size ≤ wc.heap.size := hbx.size
        have s0 : w.heap.size < wc.heap.size := by omega
        have hne0 : ¬ w.heap.size = w.heap.size + 1 + 1 := by omega
        have hne1 : ¬ w.heap.size + 1 + 1 = w.heap.size := by omega
        have s1 : w.heap.size + 1 < wc.heap.size := by omega
        have s2 : w.heap.size + 1 + 1 < wc.heap.size := by omega
        have hR1 : Rd wc.drew wc.drew.heap.size 3 A n (cells3 hs) := hr.step (below_drewN' jb 1)
        have hR2 : Rd (wc.drew.alloc (.cells #[.int .i64 lv, .int .i64 ix, .int .i64 th] 67)) (wc.drew.alloc (.cells #[.int .i64 lv, .int .i64 ix, .int .i64 th] 67)).heap.size 3 A n (cells3 hs) := hr.step ((below_drewN' jb 1).alloc jb.size _)
        have hrow0 : Row (wc.drew.alloc (.cells #[.int .i64 lv, .int .i64 ix, .int .i64 th] 67)) wc.heap.size 67 (H3.mk lv ix th).cells := heap_new_at rfl
        have hA : A = none → n = 0 := fun h => by
          rcases Nat.eq_zero_or_pos n with h0 | h0
          · exact h0
          · obtain ⟨ad, hA, _⟩ := hr.2 h0; rw [h] at hA; cases hA
        have hn1 : ((n + 1 : Nat) : Int) ≤ 1000000 := by omega
        have HJ := Lib.hid jb
        have jf3 : wc.frozen? ⟨w.heap.size + 1 + 1, 0, none⟩ = false := hf3
        clear hb5 hc2 hf2 hb hbx hk hbb hr hbw jb hsz jsz
        go_upto_region 10 with (fail)
        go_region_held3 (fun w' => w'.cell? ⟨w.heap.size, 0, none⟩ = some (.slice A n c) ∧ w'.cell? ⟨w.heap.size + 1, 0, none⟩ = some (.int .i64 lv) ∧ w'.cell? ⟨w.heap.size + 1, 1, none⟩ = some (.int .i64 ix)) (go_keep) (first
          | (go_at_call 50; refine (clone_any A n c hs wc.drew hR1 HN.out hA).mono ?_; rintro e w5 ⟨v5, rfl, ho5, hb5⟩; have ho5' : w5.ownsRow wc.heap.size 67 3 v5 n (cells3 hs) := ho5; have hy5 : Below wc.heap.size wc w5 := below_of_drew hb5; have r0 := cs_ hy5 s0 j0; have r1 := cs_ hy5 s1 j1; have r2 := cs_ hy5 s1 j2; obtain ⟨A5, c5, rfl, hc5, hr5⟩ := own_slice ho5; clear ho5 hb5 hr5)
          | (go_at_call 50; refine (clone_any A n c hs (wc.drew.alloc (.cells #[.int .i64 lv, .int .i64 ix, .int .i64 th] 67)) hR2 HN.out hA).mono ?_; rintro e w5 ⟨v5, rfl, ho5, hb5⟩; have hob5 : w5.ownsRow (wc.heap.size + 1) 67 3 v5 n (cells3 hs) := own_mono ho5 (Nat.le_of_eq (Eq.symm (World.size_alloc _ _))); have hb5' : Below (wc.heap.size + 1) (wc.drew.alloc (.cells #[.int .i64 lv, .int .i64 ix, .int .i64 th] 67)) w5 := hb5.mono (Nat.le_of_eq (Eq.symm (World.size_alloc _ _))); have hrow5 := hrow0.below hb5' (Nat.lt_succ_self _); have hy5 : Below wc.heap.size wc w5 := below_of_drew (below_alloc1 hb5); have r0 := cs_ hy5 s0 j0; have r1 := cs_ hy5 s1 j1; have r2 := cs_ hy5 s1 j2; obtain ⟨A5, c5, rfl, hc5, hr5⟩ := own_slice ho5; clear ho5 hb5 hr5 hb5')
          | (go_at_call 49; have hoc := ho5'; clear hoc; refine (insert_any wc.heap.size n c5 w5.heap.size (posF lv ix hs) A5 ⟨lv, ix, th⟩ hs (w5.alloc (.cells #[.int .i64 lv, .int .i64 ix, .int .i64 th] 67)) (ho5'.alloc _) HN.out (Nat.le_trans hy5.size (Nat.le_trans (Nat.le_succ _) (Nat.le_of_eq (Eq.symm (World.size_alloc _ _))))) (heap_new_at rfl) (ne_of_own ho5') HP.out).mono ?_; rintro e w6 ⟨v6, rfl, ho6, hb6⟩; have hy6 : Below wc.heap.size wc w6 := (hy5.alloc hy5.size _).trans hb6; have r3 := cs_ hy6 s0 j0; have r4 := cs_ hy6 s1 j1; have r5 := cs_ hy6 s1 j2; obtain ⟨A6, c6, rfl, hc6, hr6⟩ := own_slice ho6; clear ho6 hb6 ho5')
          | (go_at_call 49; refine (insert_any (wc.heap.size + 1) n c5 wc.heap.size (posF lv ix hs) A5 ⟨lv, ix, th⟩ hs w5 hob5 HN.out (lt_of_row hrow5) hrow5 (ne_of_base hob5) HP.out).mono ?_; rintro e w6 ⟨v6, rfl, ho6, hb6⟩; have hy6 : Below wc.heap.size wc w6 := hy5.trans (hb6.mono (Nat.le_succ _)); have r3 := cs_ hy6 s0 j0; have r4 := cs_ hy6 s1 j1; have r5 := cs_ hy6 s1 j2; obtain ⟨A6, c6, rfl, hc6, hr6⟩ := own_slice ho6; clear ho6 hb6 hob5)
          | (go_at_call 48; refine (exact_any A6 (n + 1) c6 _ w6 hr6 hn1).mono ?_; rintro e w7 ⟨A7, rfl, hr7, hb7⟩; have hy7 : Below wc.heap.size wc w7 := hy6.trans (hb7.mono hy6.size); have r6 := cs_ hy7 s0 j0; have r7 := cs_ hy7 s1 j1; have r8 := cs_ hy7 s1 j2; have r9 := cs_ hy7 s2 j3; have rf := fs_ hy7 s2 jf3))
        all_goals
          go_wp2_with fail
          have hres := set_same (u := .slice A7 (n + 1) (n + 1)) r9
          have hs6 := hy6.size
          refine bodyPost_ret (v := .tuple #[.agg #[.slice A7 (n + 1) (n + 1)], .int .i64 0]) (by simp [results, Try.results22, go_sem, hres]) rfl ⟨A7, n + 1, rfl, ?_, ?_⟩
          · exact Rd.of_own (ownsRow_setCell_other hr7 (fun h => by have := (hr7.lt _ h).1; simp at this; omega) _)
          · exact (HJ.out.trans (hy7.mono HJ.out.size)).setCell (by show w.heap.size ≤ w.heap.size + 1 + 1; omega) _
      · have hkp : k + 1 ≤ posF lv ix hs := by rcases hbb.out with ⟨_, h⟩ | ⟨h, _⟩; exact h; cases h
        have hpn := HP.out
        go_wp2
        go_roundw
        case rel => exact ⟨k + 1, hkp, by go_num, hb.trans (hbx.mono (by omega))⟩
        case measure => simp [intOf]; omega
end Go.Proofs.Ytfdfadebfdmdgaa
