/- locks.Check. -/
import Derived.Test.YtfdfadebfdmdgaaLkC
namespace Go.Proofs.Ytfdfadebfdmdgaa
open Go.RowKit

set_option maxRecDepth 100000 in
set_option maxHeartbeats 1000000 in
theorem check_any (A : Option Addr) (n c : Nat) (hs : List H3) (w : World) (hr : Rd w w.heap.size 3 A n (cells3 hs)) (hn : (n : Int) ≤ 1000000) :
    Calls Try.prog 30 #[.agg #[.slice A n c]] w fun e w' => e = .returned (.int .i64 (checkF hs)) ∧ Below w.heap.size w w' := by
  have HL := Lib.hid hr.len3
  go_enter Try.func30, Try.ntmps30
  go_wp2
  go_loopw [9] (fun i wr => ∃ k : Nat, k ≤ n ∧ i = .int .i64 k ∧ Hid (checkFrom (prevAt hs k) (hs.drop k) = checkF hs) ∧ Below w.heap.size w wr ∧ wr.cell? ⟨w.heap.size, 0, none⟩ = some (.slice A n c) ∧ w.heap.size < wr.heap.size) (fun i _ => n - (intOf i).toNat)
  case atStart => exact ⟨0, Nat.zero_le _, rfl, rfl, by go_grown, by simp [go_sem], by simp [go_sem]⟩
  case round =>
    obtain ⟨k, hk, rfl, hF, hb, h0, hz⟩ := hrel
    by_cases hlt : k < n
    · obtain ⟨ad, rfl, had, c0, c1, c2⟩ := (hr.below hb (Nat.le_refl _)).at3 (k := k) (by have := HL.out; omega)
      cases hv : validB hs[k].lv hs[k].ix hs[k].th
      · go_wp2_with (go_at_call 43; refine (valid_any _ _ _ _).mono ?_; rintro e w1 ⟨rfl, hb1⟩; have hbr := below_alloc1 hb1; obtain ⟨hc1, hf1⟩ := bcell hb1)
        go_ret
        exact ⟨ret_int (by rw [← hF.out, check_bad _ hv]), hb.trans (hbr.mono (Nat.le_of_lt hz))⟩
      · rcases Nat.eq_zero_or_pos k with hk0 | hk0
        · have hd : ((k : Int) == 0) = true := by simp [hk0]
          have HK := Lib.hid hk0
          clear hk0
          go_wp2_with (go_at_call 43; refine (valid_any _ _ _ _).mono ?_; rintro e w1 ⟨rfl, hb1⟩; have hbr := below_alloc1 hb1; obtain ⟨hc1, hf1⟩ := bcell hb1)
          go_roundw
          case rel => exact ⟨k + 1, by omega, by go_num, by have hk' := HK.out; subst hk'; exact (check_first _ hv).symm.trans hF.out, hb.trans (hbr.mono (Nat.le_of_lt hz)), cs_ hbr hz h0, Nat.lt_of_lt_of_le hz hbr.size⟩
          case measure => simp [intOf]; omega
        · have hd : ((k : Int) == 0) = false := by simp; omega
          have hk1 : k - 1 < hs.length := by have := HL.out; omega
          have HC1 := Lib.hid (cmpL_eq hs[k].lv hs[k].ix hs[k - 1].lv hs[k - 1].ix)
          have HC2 := Lib.hid (cmpL_lt hs[k].lv hs[k].ix hs[k - 1].lv hs[k - 1].ix)
          go_wp2_with (go_at_call 43; refine (valid_any _ _ _ _).mono ?_; rintro e w1 ⟨rfl, hb1⟩; have hbr := below_alloc1 hb1; obtain ⟨hc1, hf1⟩ := bcell hb1; have hb2 := hb.trans (hbr.mono (Nat.le_of_lt hz)); obtain ⟨d0, d1, d2⟩ := (hr.below hb2 (Nat.le_refl _)).at3s hk1)
          have s1 : IntKind.i64.wrap ((k : Int) - 1) = (k : Int) - 1 := IntWalk.i64_in _ (by omega)
          have s2 : (0 : Int) ≤ (k : Int) - 1 := by omega
          have s3 : (k : Int) - 1 < (n : Int) := by omega
          have s4 : ((k : Int) - 1).toNat = k - 1 := by omega
          have s5 : (1 : Int) ≤ (k : Int) := by omega
          refine still_tail 8 (by kernel_rfl) (by kernel_rfl) ?_
          simp only [List.take_succ_cons, List.take_zero, List.drop_succ_cons, List.drop_zero]
          repeat still_step
          refine wpStill_nil ?_
          clear s1 s2 s3 s4 s5
          go_wp2_with (go_at_call 47; refine (compare_any _ _ _ _ _ _).mono ?_; rintro e w2 ⟨rfl, hb3⟩)
          · have h2 : lkB hs[k].lv hs[k].ix hs[k - 1].lv hs[k - 1].ix = true := HC1.out.symm.trans (by assumption)
            go_ret
            exact ⟨ret_int (by rw [← hF.out, check_twice hk0 _ hv h2]), (below_drewN' hb2 1).trans (hb3.mono hb2.size)⟩
          · have h2 : lkB hs[k].lv hs[k].ix hs[k - 1].lv hs[k - 1].ix = false := HC1.out.symm.trans (by assumption)
            have h3 : lessB hs[k].lv hs[k].ix hs[k - 1].lv hs[k - 1].ix = true := HC2.out.symm.trans (by simp; assumption)
            go_ret
            exact ⟨ret_int (by rw [← hF.out, check_order hk0 _ hv h2 h3]), (below_drewN' hb2 1).trans (hb3.mono hb2.size)⟩
          · have h2 : lkB hs[k].lv hs[k].ix hs[k - 1].lv hs[k - 1].ix = false := HC1.out.symm.trans (by assumption)
            have h3 : lessB hs[k].lv hs[k].ix hs[k - 1].lv hs[k - 1].ix = false := HC2.out.symm.trans (by simp; assumption)
            go_roundw
            case rel => exact ⟨k + 1, by omega, by go_num, (check_on hk0 _ hv h2 h3).symm.trans hF.out, (below_drewN' hb2 1).trans (hb3.mono hb2.size), cs_ hb3 (Nat.lt_of_lt_of_le hz hbr.size) (cs_ (below_drewN' hbr 1) hz h0), Nat.lt_of_lt_of_le hz (Nat.le_trans hbr.size hb3.size)⟩
            case measure => simp [intOf]; omega
    · go_wp2
      go_ret
      refine ⟨ret_int ?_, hb⟩
      have : k = hs.length := by have := HL.out; omega
      rw [← hF.out, this, List.drop_length]; cases prevAt hs hs.length <;> rfl
end Go.Proofs.Ytfdfadebfdmdgaa
