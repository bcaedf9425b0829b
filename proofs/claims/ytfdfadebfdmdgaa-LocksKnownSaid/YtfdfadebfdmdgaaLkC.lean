/- Check, of the reference and of the program. -/
import Derived.Test.YtfdfadebfdmdgaaLkB
namespace Go.Proofs.Ytfdfadebfdmdgaa
open Go.RowKit

/-- The number of a table's first error, behind the element p. -/
def checkFrom : Option H3 → List H3 → Int
  | _, [] => 0
  | p, h :: t => if validB h.lv h.ix h.th = false then 1 else
    match p with
    | none => checkFrom (some h) t
    | some p => if lkB h.lv h.ix p.lv p.ix = true then 12 else if lessB h.lv h.ix p.lv p.ix = true then 13 else checkFrom (some h) t
def checkF (hs : List H3) : Int := checkFrom none hs
def prevAt (hs : List H3) : Nat → Option H3
  | 0 => none
  | k + 1 => hs[k]?

theorem check_bad {hs : List H3} {k : Nat} (hk : k < hs.length) (h : validB hs[k].lv hs[k].ix hs[k].th = false) : checkFrom (prevAt hs k) (hs.drop k) = 1 := by
  rw [List.drop_eq_getElem_cons hk]; cases prevAt hs k <;> simp [checkFrom, h]
theorem check_first {hs : List H3} (hk : 0 < hs.length) (h : validB hs[0].lv hs[0].ix hs[0].th = true) : checkFrom (prevAt hs 0) (hs.drop 0) = checkFrom (prevAt hs (0 + 1)) (hs.drop (0 + 1)) := by
  rw [List.drop_eq_getElem_cons hk]; simp [checkFrom, prevAt, h, List.getElem?_eq_getElem hk]
theorem check_twice {hs : List H3} {k : Nat} (h0 : 0 < k) (hk : k < hs.length) (h : validB hs[k].lv hs[k].ix hs[k].th = true) (h2 : lkB hs[k].lv hs[k].ix hs[k - 1].lv hs[k - 1].ix = true) :
    checkFrom (prevAt hs k) (hs.drop k) = 12 := by
  obtain ⟨k, rfl⟩ : ∃ j, k = j + 1 := ⟨k - 1, by omega⟩
  rw [List.drop_eq_getElem_cons hk]; simp at h2; simp [checkFrom, prevAt, List.getElem?_eq_getElem (show k < hs.length by omega), h, h2]
theorem check_order {hs : List H3} {k : Nat} (h0 : 0 < k) (hk : k < hs.length) (h : validB hs[k].lv hs[k].ix hs[k].th = true) (h2 : lkB hs[k].lv hs[k].ix hs[k - 1].lv hs[k - 1].ix = false)
    (h3 : lessB hs[k].lv hs[k].ix hs[k - 1].lv hs[k - 1].ix = true) : checkFrom (prevAt hs k) (hs.drop k) = 13 := by
  obtain ⟨k, rfl⟩ : ∃ j, k = j + 1 := ⟨k - 1, by omega⟩
  rw [List.drop_eq_getElem_cons hk]; simp at h2 h3; simp [checkFrom, prevAt, List.getElem?_eq_getElem (show k < hs.length by omega), h, h2, h3]
theorem check_on {hs : List H3} {k : Nat} (h0 : 0 < k) (hk : k < hs.length) (h : validB hs[k].lv hs[k].ix hs[k].th = true) (h2 : lkB hs[k].lv hs[k].ix hs[k - 1].lv hs[k - 1].ix = false)
    (h3 : lessB hs[k].lv hs[k].ix hs[k - 1].lv hs[k - 1].ix = false) : checkFrom (prevAt hs k) (hs.drop k) = checkFrom (prevAt hs (k + 1)) (hs.drop (k + 1)) := by
  obtain ⟨k, rfl⟩ : ∃ j, k = j + 1 := ⟨k - 1, by omega⟩
  rw [List.drop_eq_getElem_cons hk]; simp at h2 h3; simp [checkFrom, prevAt, List.getElem?_eq_getElem (show k < hs.length by omega), List.getElem?_eq_getElem hk, h, h2, h3]

theorem cmpL_eq (a b c d : Int) : (cmpL a b c d == 0) = lkB a b c d := by
  unfold cmpL orI cmpI lkB
  rw [Bool.eq_iff_iff]; simp
  (repeat' split) <;> omega
theorem cmpL_lt (a b c d : Int) : decide (cmpL a b c d < 0) = lessB a b c d := by
  unfold cmpL orI cmpI lessB
  rw [Bool.eq_iff_iff]; simp
  (repeat' split) <;> omega

theorem refValid_yes (lv ix th : Int) (w : World) (h : validB lv ix th = true) :
    Calls Try.prog 36 #[.agg #[.int .i64 lv, .int .i64 ix], .int .i64 th] w fun e w' => e = .returned (.int .i64 1) ∧ Below w.heap.size w w' :=
  (refValid_any lv ix th w).mono fun _ _ ⟨he, hb⟩ => ⟨by rw [he, h]; rfl, hb⟩
theorem refValid_no (lv ix th : Int) (w : World) (h : validB lv ix th = false) :
    Calls Try.prog 36 #[.agg #[.int .i64 lv, .int .i64 ix], .int .i64 th] w fun e w' => e = .returned (.int .i64 0) ∧ Below w.heap.size w w' :=
  (refValid_any lv ix th w).mono fun _ _ ⟨he, hb⟩ => ⟨by rw [he, h]; rfl, hb⟩

theorem refLess_yes (a b c d : Int) (w : World) (h : lessB a b c d = true) :
    Calls Try.prog 56 #[.agg #[.int .i64 a, .int .i64 b], .agg #[.int .i64 c, .int .i64 d]] w fun e w' => e = .returned (.int .i64 1) ∧ Below w.heap.size w w' :=
  (refLess_any a b c d w).mono fun _ _ ⟨he, hb⟩ => ⟨by rw [he, h]; rfl, hb⟩
theorem refLess_no (a b c d : Int) (w : World) (h : lessB a b c d = false) :
    Calls Try.prog 56 #[.agg #[.int .i64 a, .int .i64 b], .agg #[.int .i64 c, .int .i64 d]] w fun e w' => e = .returned (.int .i64 0) ∧ Below w.heap.size w w' :=
  (refLess_any a b c d w).mono fun _ _ ⟨he, hb⟩ => ⟨by rw [he, h]; rfl, hb⟩

set_option maxRecDepth 100000 in
set_option maxHeartbeats 1000000 in
theorem refCheck_any (A : Option Addr) (n c : Nat) (hs : List H3) (w : World) (hr : Rd w w.heap.size 3 A n (cells3 hs)) (hn : (n : Int) ≤ 1000000) :
    Calls Try.prog 29 #[.agg #[.slice A n c]] w fun e w' => e = .returned (.int .i64 (checkF hs)) ∧ Below w.heap.size w w' := by
  have HL := Lib.hid hr.len3
  have hq := lock_eql
  go_enter Try.func29, Try.ntmps29
  go_wp2
  go_loopw [3] (fun i wr => ∃ k : Nat, k ≤ n ∧ i = .int .i64 k ∧ Hid (checkFrom (prevAt hs k) (hs.drop k) = checkF hs) ∧ Below w.heap.size w wr ∧ wr.cell? ⟨w.heap.size, 0, none⟩ = some (.slice A n c) ∧ w.heap.size < wr.heap.size) (fun i _ => n - (intOf i).toNat)
  case atStart => exact ⟨0, Nat.zero_le _, rfl, rfl, by go_grown, by simp [go_sem], by simp [go_sem]⟩
  case round =>
    obtain ⟨k, hk, rfl, hF, hb, h0, hz⟩ := hrel
    by_cases hlt : k < n
    · obtain ⟨ad, rfl, had, c0, c1, c2⟩ := (hr.below hb (Nat.le_refl _)).at3 (k := k) (by have := HL.out; omega)
      cases hv : validB hs[k].lv hs[k].ix hs[k].th
      · go_wp2_with (go_at_call 36; refine (refValid_no _ _ _ _ hv).mono ?_; rintro e w1 ⟨rfl, hb1⟩; have hbr := below_alloc1 hb1; obtain ⟨hc1, hf1⟩ := bcell hb1)
        go_ret
        exact ⟨ret_int (by rw [← hF.out, check_bad _ hv]), hb.trans (hbr.mono (Nat.le_of_lt hz))⟩
      · rcases Nat.eq_zero_or_pos k with hk0 | hk0
        · have hd : decide (0 < k) = false := by simp [hk0]
          have HK := Lib.hid hk0
          clear hk0
          go_wp2_with (go_at_call 36; refine (refValid_yes _ _ _ _ hv).mono ?_; rintro e w1 ⟨rfl, hb1⟩; have hbr := below_alloc1 hb1; obtain ⟨hc1, hf1⟩ := bcell hb1)
          go_quiet (fail)
          go_wp2
          go_quiet (fail)
          go_wp2
          go_roundw
          case rel => exact ⟨k + 1, by omega, by go_num, by have hk' := HK.out; subst hk'; exact (check_first _ hv).symm.trans hF.out, below_drewN' (hb.trans (hbr.mono (Nat.le_of_lt hz))) _, cs_ (below_drewN' hbr _) hz h0, Nat.lt_of_lt_of_le hz hbr.size⟩
          case measure => simp [intOf]; omega
        · have hd : decide (0 < k) = true := by simp [hk0]
          have hk1 : k - 1 < hs.length := by have := HL.out; omega
          cases h2 : lkB hs[k].lv hs[k].ix hs[k - 1].lv hs[k - 1].ix
          · go_wp2_with (go_at_call 36; refine (refValid_yes _ _ _ _ hv).mono ?_; rintro e w1 ⟨rfl, hb1⟩; have hbr := below_alloc1 hb1; obtain ⟨hc1, hf1⟩ := bcell hb1; have hb2 := hb.trans (hbr.mono (Nat.le_of_lt hz)); obtain ⟨d0, d1, d2⟩ := (hr.below hb2 (Nat.le_refl _)).at3s hk1)
            go_quiet (fail)
            go_wp2
            have s1 : IntKind.i64.wrap ((k : Int) - 1) = (k : Int) - 1 := IntWalk.i64_in _ (by omega)
            have s2 : (0 : Int) ≤ (k : Int) - 1 := by omega
            have s3 : (k : Int) - 1 < (n : Int) := by omega
            have s4 : ((k : Int) - 1).toNat = k - 1 := by omega
            have s5 : (1 : Int) ≤ (k : Int) := by omega
            refine still_tail 12 (by kernel_rfl) (by kernel_rfl) ?_
            simp only [List.take_succ_cons, List.take_zero, List.drop_succ_cons, List.drop_zero]
            repeat still_step
            refine wpStill_nil ?_
            clear s1 s2 s3 s4 s5
            cases h3 : lessB hs[k].lv hs[k].ix hs[k - 1].lv hs[k - 1].ix
            · go_wp2_with (go_at_call 56; refine (refLess_no _ _ _ _ _ h3).mono ?_; rintro e w2 ⟨rfl, hb3⟩)
              go_roundw
              case rel => exact ⟨k + 1, by omega, by go_num, (check_on hk0 _ hv h2 h3).symm.trans hF.out, (below_drewN' hb2 _).trans (hb3.mono (by have := hb2.size; simp at this ⊢; omega)), cs_ hb3 (by have := hbr.size; simp at this ⊢; omega) (cs_ (below_drewN' hbr _) hz h0), Nat.lt_of_lt_of_le hz (Nat.le_trans hbr.size hb3.size)⟩
              case measure => simp [intOf]; omega
            · go_wp2_with (go_at_call 56; refine (refLess_yes _ _ _ _ _ h3).mono ?_; rintro e w2 ⟨rfl, hb3⟩)
              go_ret
              exact ⟨ret_int (by rw [← hF.out, check_order hk0 _ hv h2 h3]), (below_drewN' hb2 _).trans (hb3.mono (by have := hb2.size; simp at this ⊢; omega))⟩
          · go_wp2_with (go_at_call 36; refine (refValid_yes _ _ _ _ hv).mono ?_; rintro e w1 ⟨rfl, hb1⟩; have hbr := below_alloc1 hb1; obtain ⟨hc1, hf1⟩ := bcell hb1; have hb2 := hb.trans (hbr.mono (Nat.le_of_lt hz)); obtain ⟨d0, d1, d2⟩ := (hr.below hb2 (Nat.le_refl _)).at3s hk1)
            go_quiet (fail)
            go_wp2
            go_ret
            exact ⟨ret_int (by rw [← hF.out, check_twice hk0 _ hv h2]), below_drewN' hb2 _⟩
    · go_wp2
      go_ret
      refine ⟨ret_int ?_, hb⟩
      have : k = hs.length := by have := HL.out; omega
      rw [← hF.out, this, List.drop_length]; cases prevAt hs hs.length <;> rfl
end Go.Proofs.Ytfdfadebfdmdgaa
