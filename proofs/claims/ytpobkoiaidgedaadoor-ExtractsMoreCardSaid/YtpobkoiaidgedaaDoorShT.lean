/- Parts joined. -/
import Derived.Test.YtpobkoiaidgedaaDoorShS
namespace Go.Proofs.YtpobkoiaidgedaaDoor
open Go.RowKit

theorem goInt_nat (n : Nat) : goInt n = .int .i64 (n : Int) := rfl
/-- How many bytes the first k strings have. -/
def preL (ls : List (List B8)) (k : Nat) : Nat := (ls.take k).flatten.length
/-- The strings up to the k-th, and zeros up to N bytes. -/
def joinC (ls : List (List B8)) (N k : Nat) : List B8 := (ls.take k).flatten ++ List.replicate (N - (ls.take k).flatten.length) 0
theorem joinC_step (ls : List (List B8)) (N k : Nat) (l : List B8) (h : ls[k]? = some l) : splice (joinC ls N k) (ls.take k).flatten.length l = joinC ls N (k + 1) := by
  have e := flat_take ls k l h
  unfold joinC splice
  rw [e, List.take_left, List.drop_append, List.drop_of_length_le (by omega), List.nil_append, Nat.add_sub_cancel_left, List.drop_replicate, List.length_append, List.append_assoc, Nat.sub_sub]
theorem joinC_len (ls : List (List B8)) (N k : Nat) (h : (ls.take k).flatten.length ≤ N) : (joinC ls N k).length = N := by simp only [joinC, List.length_append, List.length_replicate]; omega

set_option maxRecDepth 100000 in
set_option maxHeartbeats 2000000 in
theorem join_any (A : Option Addr) (n c : Nat) (vals : List Value) (ls : List (List B8)) (w : World) (hn : n = ls.length) (hr : Rd w w.heap.size 1 A n vals) (hp : Parts w w.heap.size vals ls) (hm : ls.flatten.length ≤ 1000000) (hnm : n < 1000000000) :
    Calls Tryd.prog 45 #[.slice A n c] w (NewB ls.flatten w) := by
  have HM := Lib.hid hm
  have HN := Lib.hid hn
  have HR := Lib.hid hr
  have HP := Lib.hid hp
  clear hm hn hr hp
  go_enter Tryd.func45, Tryd.ntmps45
  go_wp2
  go_loopw [3, 5, 12] (fun s _ i wr => ∃ k : Nat, k ≤ n ∧ i = .int .i64 (k : Int) ∧ s = .int .i64 (preL ls k : Int) ∧ wr = w) (fun _ _ i _ => n - (intOf i).toNat)
  case atStart => exact ⟨0, Nat.zero_le _, rfl, rfl, rfl⟩
  case round =>
    obtain ⟨k, hk, rfl, rfl, rfl⟩ := hrel
    obtain ⟨s, hs⟩ : ∃ s, s = preL ls k := ⟨_, rfl⟩
    rw [← hs]
    have HS := Lib.hid hs
    have hsl : s ≤ 1000000 := by rw [hs]; exact Nat.le_trans (flat_len ls k) HM.out
    have hs0 : (s : Int) ≤ 1000000 := by omega
    clear hs
    by_cases hlt : k < n
    · have hd : decide ((k : Int) < (n : Int)) = true := by simp; omega
      obtain ⟨l, hl⟩ : ∃ l, ls[k]? = some l := ⟨_, List.getElem?_eq_getElem (by rw [← HN.out]; exact hlt)⟩
      obtain ⟨Al, cl, hv, _, _, _⟩ := HP.out.2 k l hl
      obtain ⟨ad, hA, had, c0⟩ := HR.out.cell1 hlt hv
      subst hA
      obtain ⟨s2, hs2⟩ : ∃ s2, s2 = preL ls (k + 1) := ⟨_, rfl⟩
      have hss : s + l.length = s2 := by rw [hs2, HS.out]; unfold preL; rw [flat_take ls k l hl, List.length_append]
      have hs2l : s2 ≤ 1000000 := by rw [hs2]; exact Nat.le_trans (flat_len ls (k + 1)) HM.out
      obtain ⟨p, hp⟩ : ∃ p, p = l.length := ⟨_, rfl⟩
      rw [← hp] at c0 hss
      have hss2 : (s : Int) + (p : Int) = (s2 : Int) := by omega
      have hs21 : (s2 : Int) ≤ 1000000 := by omega
      have HS2 := Lib.hid hs2
      clear hs2 hl hv had hss hp
      go_wp2
      go_roundw
      case rel => exact ⟨k + 1, by omega, by go_num, by rw [← HS2.out], by first | rfl | trivial⟩
      case measure => simp [intOf]; omega
    · have hkn : k = n := by omega
      have hd : decide ((k : Int) < (n : Int)) = false := by simp; omega
      obtain ⟨wq, hwq⟩ : ∃ wq : World, wq = wr := ⟨_, rfl⟩
      subst hwq
      have HS2 : Hid (ls.flatten.length = s) := by unfold Hid; rw [HS.out, hkn, HN.out]; unfold preL; rw [List.take_length]
      have hmk := make_u8 s hsl
      rw [make_zero8] at hmk
      clear hkn
      go_wp2
      clear hmk
      have r0 : Row (wq.alloc (.cells (cells8 (List.replicate s 0)).toArray 5)) wq.heap.size 5 (cells8 (joinC ls s 0)) := heap_alloc_new _ _
      go_loopw [7, 9, 25] (fun x _ i wr => ∃ k : Nat, k ≤ n ∧ i = .int .i64 (k : Int) ∧ x = .int .i64 (preL ls k : Int) ∧ Row wr wq.heap.size 5 (cells8 (joinC ls s k)) ∧ Below wq.heap.size wq wr) (fun _ _ i _ => n - (intOf i).toNat)
      case atStart => exact ⟨0, Nat.zero_le _, rfl, rfl, r0, (Below.refl _ _).alloc (Nat.le_refl _) _⟩
      case round =>
        clear r0 hd
        obtain ⟨j, hj, rfl, rfl, r, hb⟩ := hrel
        obtain ⟨o, ho⟩ : ∃ o, o = preL ls j := ⟨_, rfl⟩
        rw [← ho]
        have HO := Lib.hid ho
        have hos : o ≤ s := by rw [ho, ← HS2.out]; exact flat_len ls j
        have hos1 : (o : Int) ≤ (s : Int) := by omega
        clear ho
        by_cases hjt : j < n
        · have hd : decide ((j : Int) < (n : Int)) = true := by simp; omega
          obtain ⟨l, hl⟩ : ∃ l, ls[j]? = some l := ⟨_, List.getElem?_eq_getElem (by rw [← HN.out]; exact hjt)⟩
          obtain ⟨Al, cl, hv, hc1, hc2, hrl⟩ := HP.out.2 j l hl
          obtain ⟨ad, hA, had, hcell⟩ := HR.out.cell1 hjt hv
          subst hA
          have c0 := (hb.cell (p := ad.add j) (by rw [add_block]; exact had)).trans hcell
          have hrl2 := hrl.below hb (Nat.le_refl _)
          obtain ⟨o2, ho2⟩ : ∃ o2, o2 = preL ls (j + 1) := ⟨_, rfl⟩
          have hoo : o + l.length = o2 := by rw [ho2, HO.out]; unfold preL; rw [flat_take ls j l hl, List.length_append]
          have ho2s : o2 ≤ s := by rw [ho2, ← HS2.out]; exact flat_len ls (j + 1)
          obtain ⟨p, hp⟩ : ∃ p, p = l.length := ⟨_, rfl⟩
          rw [← hp] at c0 hoo hrl2
          by_cases hso : s = o
          · have hp0 : p = 0 := by omega
            subst hp0
            obtain ⟨w3, hr3, r3, gr3⟩ := copy_ex (P := Tryd.prog) (w := wr) 34 34 3 5 1 Tryd.underlying34 (by kernel_rfl) wq.heap.size o (0) (0) 0 cl 0 (some ⟨wq.heap.size, 0, none⟩) Al _ (cells8 l) 5 r (by simp) (by rw [cells8_len]; omega) (fun h0 => absurd h0 (by omega)) (fun h0 => by obtain ⟨ae, e, _, hc⟩ := hrl2.2 h0; exact ⟨ae, e, hc⟩) (by rw [cells8_len, cells8_len, joinC_len ls s j (Nat.le_trans (flat_len ls j) (Nat.le_of_eq HS2.out))]; omega) (cells8_ones _)
            have e3 : splice (cells8 (joinC ls s j)) o (cells8 l) = cells8 (joinC ls s (j + 1)) := by
              rw [cells8_splice, HO.out, preL, joinC_step ls s j l hl]
            rw [e3] at r3
            rw [goInt_nat] at hr3
            have b3 : Below wq.heap.size wq w3 := hb.grown gr3 hb.size (fun k hk => by cases hk; exact Nat.le_refl _)
            obtain rfl : o = o2 := by omega
            have ho21 : (o : Int) ≤ 1000000 := by omega
            have HR3 := Lib.hid hr3
            have HO2 := Lib.hid ho2
            have hso2 : (s = o) = True := eq_true hso
            clear ho2 hl hv had hp hc1 hc2 hrl hrl2 hcell r gr3 e3 hr3 hso 
            go_wp2_with (refine wpList_copy_run rfl (.tmp 32) (.tmp 33) 34 34 rfl _ _ rfl rfl HR3.out ?_)
            go_roundw
            case rel => exact ⟨j + 1, by omega, by go_num, by rw [← HO2.out], r3, b3⟩
            case measure => simp [intOf]; omega
          · have hos2 : (o : Int) < (s : Int) := by omega
            obtain ⟨w3, hr3, r3, gr3⟩ := copy_ex (P := Tryd.prog) (w := wr) 34 34 3 5 1 Tryd.underlying34 (by kernel_rfl) wq.heap.size o (s - o) (s - o) p cl p (some ⟨wq.heap.size, o, none⟩) Al _ (cells8 l) 5 r (by exact (Nat.min_eq_left (by omega)).symm) (by rw [cells8_len]; omega) (fun h0 => rfl) (fun h0 => by obtain ⟨ae, e, _, hc⟩ := hrl2.2 h0; exact ⟨ae, e, hc⟩) (by rw [cells8_len, cells8_len, joinC_len ls s j (Nat.le_trans (flat_len ls j) (Nat.le_of_eq HS2.out))]; omega) (cells8_ones _)
            have e3 : splice (cells8 (joinC ls s j)) o (cells8 l) = cells8 (joinC ls s (j + 1)) := by
              rw [cells8_splice, HO.out, preL, joinC_step ls s j l hl]
            rw [e3] at r3
            rw [goInt_nat] at hr3
            have b3 : Below wq.heap.size wq w3 := hb.grown gr3 hb.size (fun k hk => by cases hk; exact Nat.le_refl _)
            have hoo2 : (o : Int) + (p : Int) = (o2 : Int) := by omega
            have ho21 : (o2 : Int) ≤ 1000000 := by omega
            have HR3 := Lib.hid hr3
            have HO2 := Lib.hid ho2
            clear ho2 hl hv had hoo hp hc1 hc2 hrl hrl2 hcell r gr3 e3 hr3 ho2s 
            go_wp2_with (refine wpList_copy_run rfl (.tmp 32) (.tmp 33) 34 34 rfl _ _ rfl rfl HR3.out ?_)
            go_roundw
            case rel => exact ⟨j + 1, by omega, by go_num, by rw [← HO2.out], r3, b3⟩
            case measure => simp [intOf]; omega
        · have hjn : j = n := by omega
          have hd : decide ((j : Int) < (n : Int)) = false := by simp; omega
          have e : joinC ls s j = ls.flatten := by unfold joinC; rw [hjn, HN.out, List.take_length, HS2.out, Nat.sub_self]; exact List.append_nil _
          rw [e] at r
          clear hjn e
          go_wp2
          go_ret
          exact ⟨wq.heap.size, by rw [HS2.out]; rfl, r, Nat.le_refl _, hb⟩
end Go.Proofs.YtpobkoiaidgedaaDoor
