/- Lists of waits: the reference's For, Upward, CheckWaits. -/
import Derived.Test.YtfdfadebfdmdgaaLkH
namespace Go.Proofs.Ytfdfadebfdmdgaa
open Go.RowKit

/-- A wait: the thread, and the lock's level and index. -/
structure W3 where
  th : Int
  lv : Int
  ix : Int
def W3.cells (h : W3) : List Value := [.int .i64 h.th, .int .i64 h.lv, .int .i64 h.ix]
def cellsW (hs : List W3) : List Value := hs.flatMap W3.cells
theorem cellsW_len (hs : List W3) : (cellsW hs).length = hs.length * 3 := by
  induction hs with
  | nil => rfl
  | cons h t ih => simp only [cellsW, List.flatMap_cons, List.length_append, List.length_cons] at ih ⊢; rw [ih]; simp [W3.cells]; omega
theorem cellsW_drop (hs : List W3) (k : Nat) : (cellsW hs).drop (k * 3) = cellsW (hs.drop k) := by
  induction k generalizing hs with
  | zero => simp
  | succ k ih =>
    cases hs with
    | nil => simp [cellsW]
    | cons h t =>
      have e : (k + 1) * 3 = 3 + k * 3 := by omega
      rw [e, ← List.drop_drop]
      exact ih t
theorem Rd.lenW {w : World} {B n : Nat} {A : Option Addr} {hs : List W3} (h : Rd w B 3 A n (cellsW hs)) : n = hs.length := by
  have := h.1; rw [cellsW_len] at this; omega
theorem Rd.atW {w : World} {B n : Nat} {A : Option Addr} {hs : List W3} (h : Rd w B 3 A n (cellsW hs)) {k : Nat} (hk : k < hs.length) :
    ∃ ad, A = some ad ∧ ad.block < B ∧ w.cell? (ad.add (k * 3)) = some (.int .i64 hs[k].th) ∧ w.cell? ⟨(ad.add (k * 3)).block, (ad.add (k * 3)).off + 1, none⟩ = some (.int .i64 hs[k].lv) ∧
      w.cell? ⟨(ad.add (k * 3)).block, (ad.add (k * 3)).off + 2, none⟩ = some (.int .i64 hs[k].ix) := by
  have hn := h.lenW
  obtain ⟨ad, e, hl, hc⟩ := h.at_ (k := k) (by omega)
  rw [cellsW_drop, List.drop_eq_getElem_cons hk] at hc
  exact ⟨ad, e, hl, hc.c0, hc.c1, hc.c2⟩
theorem Rd.atWs {w : World} {B n : Nat} {ad : Addr} {hs : List W3} (h : Rd w B 3 (some ad) n (cellsW hs)) {k : Nat} (hk : k < hs.length) :
    w.cell? (ad.add (k * 3)) = some (.int .i64 hs[k].th) ∧ w.cell? ⟨(ad.add (k * 3)).block, (ad.add (k * 3)).off + 1, none⟩ = some (.int .i64 hs[k].lv) ∧
      w.cell? ⟨(ad.add (k * 3)).block, (ad.add (k * 3)).off + 2, none⟩ = some (.int .i64 hs[k].ix) := by
  obtain ⟨ad', e, _, h1⟩ := h.atW hk
  cases e
  exact h1

/-- The thread that a thread waits for; -1 if it does not wait. -/
def forF (hs : List H3) (th : Int) : List W3 → Int
  | [] => -1
  | x :: t => if x.th == th then ownerF x.lv x.ix hs else forF hs th t
theorem forF_hit (hs : List H3) (th : Int) (ws : List W3) (k : Nat) (hk : k < ws.length) (h : (ws[k].th == th) = true) : forF hs th (ws.drop k) = ownerF ws[k].lv ws[k].ix hs := by
  rw [List.drop_eq_getElem_cons hk, forF, if_pos h]
theorem forF_miss (hs : List H3) (th : Int) (ws : List W3) (k : Nat) (hk : k < ws.length) (h : (ws[k].th == th) = false) : forF hs th (ws.drop k) = forF hs th (ws.drop (k + 1)) := by
  rw [List.drop_eq_getElem_cons hk, forF, if_neg (by simp [h])]

set_option maxRecDepth 100000 in
set_option maxHeartbeats 1000000 in
theorem refFor_any (A B : Option Addr) (n c m d : Nat) (hs : List H3) (ws : List W3) (th : Int) (w : World) (hr : Rd w w.heap.size 3 A n (cells3 hs)) (hw : Rd w w.heap.size 3 B m (cellsW ws)) (hn : (n : Int) ≤ 1000000) (hm : (m : Int) ≤ 1000000) :
    Calls Try.prog 18 #[.agg #[.slice A n c], .slice B m d, .int .i64 th] w fun e w' => e = .returned (.int .i64 (forF hs th ws)) ∧ Below w.heap.size w w' := by
  have HL := Lib.hid hw.lenW
  go_enter Try.func18, Try.ntmps18
  go_wp2
  go_loopw [7] (fun i wr => ∃ k : Nat, k ≤ m ∧ i = .int .i64 k ∧ Hid (forF hs th (ws.drop k) = forF hs th ws) ∧ Below (w.heap.size + 1) (w.alloc (.cells #[.slice A n c] 29)) wr) (fun i _ => m - (intOf i).toNat)
  case atStart => exact ⟨0, Nat.zero_le _, rfl, rfl, Below.refl _ _⟩
  case round =>
    obtain ⟨k, hk, rfl, hF, hb⟩ := hrel
    have h0 : wr.cell? ⟨w.heap.size, 0, none⟩ = some (.slice A n c) := cs_ hb (by omega) (by simp [go_sem])
    have hbw : Below w.heap.size w wr := below_alloc1 (by simpa using hb)
    by_cases hlt : k < m
    · have hkl : k < ws.length := by have := HL.out; omega
      obtain ⟨bd, rfl, hbd, d0, d1, d2⟩ := (hw.below hbw (Nat.le_refl _)).atW hkl
      cases hh : ws[k].th == th
      · go_wp2
        go_roundw
        case rel => exact ⟨k + 1, by omega, by go_num, (forF_miss _ _ _ _ _ hh).symm.trans hF.out, hb⟩
        case measure => simp [intOf]; omega
      · go_wp2_with fail
        refine still_tail 6 (by kernel_rfl) (by kernel_rfl) ?_
        simp only [List.take_succ_cons, List.take_zero, List.drop_succ_cons, List.drop_zero]
        repeat still_step
        refine wpStill_nil ?_
        go_wp2_with fail
        refine (refOwner_any _ _ _ hs _ _ _ ((hr.step hbw).drew) hn).mono ?_
        rintro e w1 ⟨rfl, hb1⟩
        go_wp2
        go_ret
        exact ⟨ret_int (by rw [← hF.out, forF_hit _ _ _ _ _ hh]), hbw.trans ((below_of_drew hb1).mono hbw.size)⟩
    · go_wp2
      go_ret
      have : k = ws.length := by have := HL.out; omega
      exact ⟨ret_int (by rw [← hF.out, this, List.drop_length]; rfl), hbw⟩

/-- Is waiting upward? -/
def upOne (hs : List H3) (x : W3) : Bool := (ofF x.th hs).all fun l => decide (l.1 < x.lv)
def upF (hs : List H3) (ws : List W3) : Bool := ws.all (upOne hs)
theorem upF_drop (hs : List H3) (ws : List W3) (k : Nat) (hk : k < ws.length) : upF hs (ws.drop k) = (upOne hs ws[k] && upF hs (ws.drop (k + 1))) := by
  rw [List.drop_eq_getElem_cons hk]; simp only [upF, List.all_cons]
theorem allLt_drop (ls : List (Int × Int)) (lv : Int) (k : Nat) (hk : k < ls.length) : ((ls.drop k).all fun l => decide (l.1 < lv)) = (decide (ls[k].1 < lv) && ((ls.drop (k + 1)).all fun l => decide (l.1 < lv))) := by
  rw [List.drop_eq_getElem_cons hk]; simp only [List.all_cons]

set_option maxRecDepth 100000 in
set_option maxHeartbeats 2000000 in
theorem refUpward_any (A B : Option Addr) (n c m d : Nat) (hs : List H3) (ws : List W3) (w : World) (hr : Rd w w.heap.size 3 A n (cells3 hs)) (hw : Rd w w.heap.size 3 B m (cellsW ws)) (hn : (n : Int) ≤ 1000000) (hm : (m : Int) ≤ 1000000) :
    Calls Try.prog 17 #[.agg #[.slice A n c], .slice B m d] w fun e w' => e = .returned (.int .i64 (b2i (upF hs ws))) ∧ Below w.heap.size w w' := by
  have HL := Lib.hid hw.lenW
  have HN := Lib.hid hr.len3
  go_enter Try.func17, Try.ntmps17
  go_wp2
  go_loopw [5, 6, 7] (fun i _ _ wr => ∃ k : Nat, k ≤ m ∧ i = .int .i64 k ∧ Hid (upF hs (ws.drop k) = upF hs ws) ∧ Below (w.heap.size + 1) (w.alloc (.cells #[.slice A n c] 29)) wr) (fun i _ _ _ => m - (intOf i).toNat)
  case atStart => exact ⟨0, Nat.zero_le _, rfl, rfl, Below.refl _ _⟩
  case round =>
    obtain ⟨k, hk, rfl, hF, hb⟩ := hrel
    have h0 : wr.cell? ⟨w.heap.size, 0, none⟩ = some (.slice A n c) := cs_ hb (by omega) (by simp [go_sem])
    have hbw : Below w.heap.size w wr := below_alloc1 (by simpa using hb)
    by_cases hlt : k < m
    · have hkl : k < ws.length := by have := HL.out; omega
      obtain ⟨bd, rfl, hbd, d0, d1, d2⟩ := (hw.below hbw (Nat.le_refl _)).atW hkl
      go_wp2_with fail
      refine still_tail 6 (by kernel_rfl) (by kernel_rfl) ?_
      simp only [List.take_succ_cons, List.take_zero, List.drop_succ_cons, List.drop_zero]
      repeat still_step
      refine wpStill_nil ?_
      go_wp2_with fail
      refine (refOf_any _ _ _ hs _ _ ((hr.step hbw).drew) hn).mono ?_
      rintro e w1 ⟨C, j, cj, rfl, hl, hb1⟩
      have hb1' : Below wr.heap.size wr w1 := below_of_drew hb1
      clear hb1
      have HJ := Lib.hid hl.len2
      have hj6 : (j : Int) ≤ 1000000 := by have := HJ.out; have := HN.out; have := ofF_len ws[k].th hs; omega
      have hb2 : Below (w.heap.size + 1) (w.alloc (.cells #[.slice A n c] 29)) w1 := hb.trans (hb1'.mono (by have := hb.size; simpa using this))
      clear hb h0 d0 d1 d2
      go_wp2
      obtain ⟨wo, rfl⟩ : ∃ wo : World, wo = w1 := ⟨_, rfl⟩
      go_loopw [7] (fun i wr => ∃ q : Nat, q ≤ j ∧ i = .int .i64 q ∧ Hid (((ofF ws[k].th hs).drop q).all (fun l => decide (l.1 < ws[k].lv)) = upOne hs ws[k]) ∧ Below wo.heap.size wo wr) (fun i _ => j - (intOf i).toNat)
      case atStart => exact ⟨0, Nat.zero_le _, rfl, rfl, Below.refl _ _⟩
      case round =>
        obtain ⟨q, hq, rfl, hG, hbq⟩ := hrel
        have hbw2 : Below w.heap.size w wr := (below_alloc1 (by simpa using hb2)).trans (hbq.mono (Nat.le_trans hbw.size hb1'.size))
        have hb3 : Below (w.heap.size + 1) (w.alloc (.cells #[.slice A n c] 29)) wr := hb2.trans (hbq.mono (by have := hb2.size; simpa using this))
        by_cases hlq : q < j
        · have hql : q < (ofF ws[k].th hs).length := by have := HJ.out; omega
          obtain ⟨e0, e1, e2⟩ := (hw.below hbw2 (Nat.le_refl _)).atWs hkl
          obtain ⟨cd, rfl, hcd, f0, f1⟩ := (hl.below hbq (Nat.le_refl _)).at2 hql
          cases hx : decide ((ofF ws[k].th hs)[q].1 < ws[k].lv)
          · have hx' : ws[k].lv ≤ (ofF ws[k].th hs)[q].1 := by simpa using hx
            go_wp2
            go_quiet (fail)
            go_wp2
            go_ret
            have h1 : upOne hs ws[k] = false := by rw [← hG.out, allLt_drop _ _ _ hql, hx]; rfl
            exact ⟨ret_int (by rw [← hF.out, upF_drop _ _ _ hkl, h1]; rfl), below_drewN' hbw2 _⟩
          · have hx' : (ofF ws[k].th hs)[q].1 < ws[k].lv := by simpa using hx
            go_wp2
            go_quiet (fail)
            go_wp2
            go_roundw
            case rel => exact ⟨q + 1, by omega, by go_num, by unfold Hid; rw [← hG.out, allLt_drop _ _ q hql, hx]; rfl, below_drewN' hbq _⟩
            case measure => simp [intOf]; omega
        · go_wp2
          go_roundw
          case rel =>
            have h0 : q = (ofF ws[k].th hs).length := by have := HJ.out; omega
            have h1 : upOne hs ws[k] = true := by rw [← hG.out, h0, List.drop_length]; rfl
            exact ⟨k + 1, by omega, by go_num, by unfold Hid; rw [← hF.out, upF_drop _ _ k hkl, h1]; rfl, hb3⟩
          case measure => simp [intOf]; omega
    · go_wp2
      go_ret
      have : k = ws.length := by have := HL.out; omega
      exact ⟨ret_int (by rw [← hF.out, this, List.drop_length]; rfl), hbw⟩

theorem checkFrom_nonneg (hs : List H3) : ∀ p, 0 ≤ checkFrom p hs := by
  induction hs with
  | nil => intro p; cases p <;> simp [checkFrom]
  | cons h t ih =>
    intro p
    cases p <;> simp only [checkFrom] <;> (repeat' split) <;> first | omega | exact ih _
theorem checkF_nonneg (hs : List H3) : 0 ≤ checkF hs := checkFrom_nonneg hs none

/-- The number of the first error of a list of waits behind others. -/
def cwFrom (hs : List H3) : List W3 → List W3 → Int
  | _, [] => 0
  | done, x :: t => if validB x.lv x.ix x.th = false then 1 else if done.any (·.th == x.th) = true then 12 else if ownerF x.lv x.ix hs < 0 then 10 else cwFrom hs (done ++ [x]) t
def cwF (hs : List H3) (ws : List W3) : Int := if checkF hs = 0 then cwFrom hs [] ws else checkF hs
theorem cw_bad {hs : List H3} {ws : List W3} {k : Nat} (hk : k < ws.length) (h : validB ws[k].lv ws[k].ix ws[k].th = false) : cwFrom hs (ws.take k) (ws.drop k) = 1 := by
  rw [List.drop_eq_getElem_cons hk, cwFrom, if_pos h]
theorem cw_twice {hs : List H3} {ws : List W3} {k : Nat} (hk : k < ws.length) (h : validB ws[k].lv ws[k].ix ws[k].th = true) (h2 : (ws.take k).any (·.th == ws[k].th) = true) : cwFrom hs (ws.take k) (ws.drop k) = 12 := by
  rw [List.drop_eq_getElem_cons hk, cwFrom, if_neg (by simp [h]), if_pos h2]
theorem cw_free {hs : List H3} {ws : List W3} {k : Nat} (hk : k < ws.length) (h : validB ws[k].lv ws[k].ix ws[k].th = true) (h2 : (ws.take k).any (·.th == ws[k].th) = false) (h3 : ownerF ws[k].lv ws[k].ix hs < 0) : cwFrom hs (ws.take k) (ws.drop k) = 10 := by
  rw [List.drop_eq_getElem_cons hk, cwFrom, if_neg (by simp [h]), if_neg (by simp only [h2]; simp), if_pos h3]
theorem cw_on {hs : List H3} {ws : List W3} {k : Nat} (hk : k < ws.length) (h : validB ws[k].lv ws[k].ix ws[k].th = true) (h2 : (ws.take k).any (·.th == ws[k].th) = false) (h3 : ¬ ownerF ws[k].lv ws[k].ix hs < 0) : cwFrom hs (ws.take k) (ws.drop k) = cwFrom hs (ws.take (k + 1)) (ws.drop (k + 1)) := by
  rw [List.drop_eq_getElem_cons hk, cwFrom, if_neg (by simp [h]), if_neg (by simp only [h2]; simp), if_neg h3, take_snoc _ _ hk]
theorem any_take (ws : List W3) (th : Int) (q : Nat) (hq : q < ws.length) : (ws.take (q + 1)).any (·.th == th) = ((ws.take q).any (·.th == th) || ws[q].th == th) := by
  rw [take_snoc _ _ hq, List.any_append]; simp only [List.any_cons, List.any_nil, Bool.or_false]
theorem any_of_take {ws : List W3} {th : Int} {q k : Nat} (hq : q < ws.length) (hk : q < k) (h : (ws[q].th == th) = true) : (ws.take k).any (·.th == th) = true :=
  List.any_eq_true.2 ⟨ws[q], by rw [List.mem_take_iff_getElem]; exact ⟨q, by omega, rfl⟩, h⟩

set_option maxRecDepth 100000 in
set_option maxHeartbeats 4000000 in
theorem refCheckWaits_any (A B : Option Addr) (n c m d : Nat) (hs : List H3) (ws : List W3) (w : World) (hr : Rd w w.heap.size 3 A n (cells3 hs)) (hw : Rd w w.heap.size 3 B m (cellsW ws)) (hn : (n : Int) ≤ 1000000) (hm : (m : Int) ≤ 1000000) :
    Calls Try.prog 20 #[.agg #[.slice A n c], .slice B m d] w fun e w' => e = .returned (.int .i64 (cwF hs ws)) ∧ Below w.heap.size w w' := by
  have HL := Lib.hid hw.lenW
  have hb00 : Below w.heap.size w (w.alloc (.cells #[.slice A n c] 29)) := (Below.refl _ _).alloc (Nat.le_refl _) _
  have hck : 0 ≤ checkF hs := checkF_nonneg hs
  rcases Int.lt_or_le 0 (checkF hs) with hpos | hpos
  · go_enter Try.func20, Try.ntmps20
    go_wp2_with fail
    refine (refCheck_any _ _ _ hs _ (hr.step hb00) hn).mono ?_
    rintro e w1 ⟨rfl, hb1⟩
    obtain ⟨hc1, hf1⟩ := bcell hb1
    go_wp2_with fail
    refine (refCheck_any _ _ _ hs _ ((hr.step hb00).step hb1) hn).mono ?_
    rintro e w2 ⟨rfl, hb2⟩
    clear hc1 hf1
    go_wp2
    go_ret
    exact ⟨ret_int (by rw [cwF, if_neg (by omega)]), (below_alloc1 hb1).trans (hb2.mono (below_alloc1 hb1).size)⟩
  · have HC := Lib.hid (show checkF hs = 0 by omega)
    go_enter Try.func20, Try.ntmps20
    go_wp2_with fail
    refine (refCheck_any _ _ _ hs _ (hr.step hb00) hn).mono ?_
    rintro e w1 ⟨rfl, hb1⟩
    rw [HC.out]
    clear hck hpos
    go_wp2
    obtain ⟨wo, rfl⟩ : ∃ wo : World, wo = w1 := ⟨_, rfl⟩
    go_loopw [5, 6] (fun i _ wr => ∃ k : Nat, k ≤ m ∧ i = .int .i64 k ∧ Hid (cwFrom hs (ws.take k) (ws.drop k) = cwF hs ws) ∧ Below (w.heap.size + 1) (w.alloc (.cells #[.slice A n c] 29)) wr) (fun i _ _ => m - (intOf i).toNat)
    case atStart => exact ⟨0, Nat.zero_le _, rfl, by unfold Hid cwF; rw [if_pos HC.out]; rfl, by simpa using hb1⟩
    case round =>
      obtain ⟨k, hk, rfl, hF, hb⟩ := hrel
      have h0 : wr.cell? ⟨w.heap.size, 0, none⟩ = some (.slice A n c) := cs_ hb (by omega) (by simp [go_sem])
      have hbw : Below w.heap.size w wr := below_alloc1 (by simpa using hb)
      by_cases hlt : k < m
      · have hkl : k < ws.length := by have := HL.out; omega
        obtain ⟨bd, rfl, hbd, d0, d1, d2⟩ := (hw.below hbw (Nat.le_refl _)).atW hkl
        cases hv : validB ws[k].lv ws[k].ix ws[k].th
        · go_wp2_with fail
          refine still_tail 10 (by kernel_rfl) (by kernel_rfl) ?_
          simp only [List.take_succ_cons, List.take_zero, List.drop_succ_cons, List.drop_zero]
          repeat still_step
          refine wpStill_nil ?_
          go_wp2_with fail
          refine (refValid_no _ _ _ _ hv).mono ?_
          rintro e w2 ⟨rfl, hb2⟩
          go_wp2
          go_ret
          exact ⟨ret_int (by rw [← hF.out, cw_bad hkl hv]), hbw.trans ((below_of_drew hb2).mono hbw.size)⟩
        · go_wp2_with fail
          refine still_tail 10 (by kernel_rfl) (by kernel_rfl) ?_
          simp only [List.take_succ_cons, List.take_zero, List.drop_succ_cons, List.drop_zero]
          repeat still_step
          refine wpStill_nil ?_
          go_wp2_with fail
          refine (refValid_yes _ _ _ _ hv).mono ?_
          rintro e w2 ⟨rfl, hb2d⟩
          have hb2 : Below wr.heap.size wr w2 := below_of_drew hb2d
          have hb3 : Below (w.heap.size + 1) (w.alloc (.cells #[.slice A n c] 29)) w2 := hb.trans (hb2.mono (by have := hb.size; simpa using this))
          clear hb2d d0 d1 d2 h0
          go_wp2
          go_loopw [6] (fun i wr => ∃ q : Nat, q ≤ k ∧ i = .int .i64 q ∧ Hid ((ws.take q).any (·.th == ws[k].th) = false) ∧ Below (w.heap.size + 1) (w.alloc (.cells #[.slice A n c] 29)) wr) (fun i _ => k - (intOf i).toNat)
          case atStart => exact ⟨0, Nat.zero_le _, rfl, rfl, hb3⟩
          case round =>
            obtain ⟨q, hq, rfl, hG, hbq⟩ := hrel
            have h0 : wr.cell? ⟨w.heap.size, 0, none⟩ = some (.slice A n c) := cs_ hbq (by omega) (by simp [go_sem])
            have hbw : Below w.heap.size w wr := below_alloc1 (by simpa using hbq)
            obtain ⟨e0, e1, e2⟩ := (hw.below hbw (Nat.le_refl _)).atWs hkl
            by_cases hlq : q < k
            · have hql : q < ws.length := by omega
              obtain ⟨f0, f1, f2⟩ := (hw.below hbw (Nat.le_refl _)).atWs hql
              cases hx : ws[q].th == ws[k].th
              · go_wp2
                go_quiet (fail)
                go_wp2
                go_roundw
                case rel => exact ⟨q + 1, by omega, by go_num, by unfold Hid; rw [any_take _ _ _ hql, hG.out, hx]; rfl, below_drewN' hbq _⟩
                case measure => simp [intOf]; omega
              · go_wp2
                go_quiet (fail)
                go_wp2
                go_ret
                exact ⟨ret_int (by rw [← hF.out, cw_twice hkl hv (any_of_take hql hlq hx)]), below_drewN' hbw _⟩
            · have hqk : q = k := by omega
              have hG' : Hid ((ws.take k).any (·.th == ws[k].th) = false) := by have h := hG.out; rw [show ws.take q = ws.take k by rw [hqk]] at h; exact h
              clear hqk hG
              go_wp2_with fail
              refine still_tail 6 (by kernel_rfl) (by kernel_rfl) ?_
              simp only [List.take_succ_cons, List.take_zero, List.drop_succ_cons, List.drop_zero]
              repeat still_step
              refine wpStill_nil ?_
              go_wp2_with fail
              refine (refOwner_any _ _ _ hs _ _ _ ((hr.step hbw).drew) hn).mono ?_
              rintro e w3 ⟨rfl, hb3d⟩
              have hb4 : Below wr.heap.size wr w3 := below_of_drew hb3d
              have hb5 : Below (w.heap.size + 1) (w.alloc (.cells #[.slice A n c] 29)) w3 := hbq.trans (hb4.mono (by have := hbq.size; simpa using this))
              clear hb3d e0 e1 e2 h0
              by_cases ho : ownerF ws[k].lv ws[k].ix hs < 0
              · go_wp2
                go_ret
                exact ⟨ret_int (by rw [← hF.out, cw_free hkl hv hG'.out ho]), below_alloc1 (by simpa using hb5)⟩
              · go_wp2
                go_roundw
                case rel => exact ⟨k + 1, by omega, by go_num, (cw_on hkl hv hG'.out (by omega)).symm.trans hF.out, hb5⟩
                case measure => simp [intOf]; omega
      · go_wp2
        go_ret
        have : k = ws.length := by have := HL.out; omega
        exact ⟨ret_int (by rw [← hF.out, this, List.drop_length, List.take_length]; cases ws <;> rfl), hbw⟩
end Go.Proofs.Ytfdfadebfdmdgaa
