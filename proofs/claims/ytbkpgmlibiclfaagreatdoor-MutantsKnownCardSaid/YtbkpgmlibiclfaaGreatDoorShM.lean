/- The program's digest of parts. -/
import Derived.Test.YtbkpgmlibiclfaaGreatDoorShL
namespace Go.Proofs.YtbkpgmlibiclfaaGreatDoor
open Go.RowKit

/-- These slice values read as these strings. -/
def Parts (w : World) (B : Nat) (vals : List Value) (ls : List (List B8)) : Prop :=
  vals.length = ls.length ∧ ∀ (i : Nat) (l : List B8), ls[i]? = some l → ∃ A c, vals[i]? = some (Value.slice A l.length c) ∧ l.length ≤ c ∧ c ≤ maxLen ∧ Rd w B 1 A l.length (cells8 l)
theorem Parts.step {w w' : World} {vals : List Value} {ls : List (List B8)} (h : Parts w w.heap.size vals ls) (hb : Below w.heap.size w w') : Parts w' w'.heap.size vals ls :=
  ⟨h.1, fun i l hl => by obtain ⟨A, c, h1, h2, h3, h4⟩ := h.2 i l hl; exact ⟨A, c, h1, h2, h3, h4.step hb⟩⟩
theorem Parts.nil {w : World} {B : Nat} : Parts w B [] [] := ⟨rfl, fun i l h => by simp at h⟩
theorem Parts.cons {w : World} {B c : Nat} {A : Option Addr} {l : List B8} {vals : List Value} {ls : List (List B8)} (hr : Rd w B 1 A l.length (cells8 l)) (h1 : l.length ≤ c) (h2 : c ≤ maxLen) (h : Parts w B vals ls) : Parts w B (.slice A l.length c :: vals) (l :: ls) :=
  ⟨by simp [h.1], fun i m hm => by
    cases i with
    | zero => simp at hm; subst hm; exact ⟨A, c, rfl, h1, h2, hr⟩
    | succ i => simpa using h.2 i m (by simpa using hm)⟩
theorem Rd.cell1 {w : World} {B n : Nat} {A : Option Addr} {xs : List Value} (h : Rd w B 1 A n xs) {k : Nat} (hk : k < n) {v : Value} (hv : xs[k]? = some v) : ∃ ad, A = some ad ∧ ad.block < B ∧ w.cell? (ad.add k) = some v := by
  obtain ⟨ad, e, hl, hc⟩ := h.2 (by omega)
  exact ⟨ad, e, hl, hc k v hv⟩
theorem flat_take (ls : List (List B8)) (k : Nat) (l : List B8) (h : ls[k]? = some l) : (ls.take (k + 1)).flatten = (ls.take k).flatten ++ l := by
  obtain ⟨hk, h⟩ := List.getElem?_eq_some_iff.1 h
  rw [List.take_succ_eq_append_getElem hk, h]; simp
theorem flat_len (ls : List (List B8)) (k : Nat) : (ls.take k).flatten.length ≤ ls.flatten.length := by
  have h : ls.flatten = (ls.take k).flatten ++ (ls.drop k).flatten := by rw [← List.flatten_append, List.take_append_drop]
  rw [h, List.length_append]; omega
theorem cells0_32 : cells8 (List.replicate 32 0) = cells8 (List.replicate 32 (0#8)) := rfl

set_option maxRecDepth 100000 in
set_option maxHeartbeats 4000000 in
theorem of_any (A : Option Addr) (n c : Nat) (vals : List Value) (ls : List (List B8)) (w : World) (hG : Glob w) (hn : n = ls.length) (hr : Rd w w.heap.size 1 A n vals) (hp : Parts w w.heap.size vals ls) (hm : ls.flatten.length < 900000000) (hnm : n < 1000000000) :
    Calls Tryz.prog 103 #[.slice A n c] w fun e w' => e = .returned (.agg (cells8 (shaF ls.flatten)).toArray) ∧ Below w.heap.size w w' := by
  have HM := Lib.hid hm
  have HN := Lib.hid hn
  have HG := Lib.hid hG
  have HR := Lib.hid hr
  have HP := Lib.hid hp
  clear hm hn hG hr hp
  go_enter Tryz.func103, Tryz.ntmps103
  go_upto_region 1 with (fail)
  change Code.wp _ _ _ _ (w.alloc (.cells (cells8 (List.replicate 32 0)).toArray 85))
  obtain ⟨wz, hwz⟩ : ∃ wz, wz = (w.alloc (.cells (cells8 (List.replicate 32 0)).toArray 85)) := ⟨_, rfl⟩
  obtain ⟨g2, h2⟩ : ∃ g, g = w.heap.size := ⟨_, rfl⟩
  have hb : Below w.heap.size w wz := by rw [hwz]; exact (Below.refl _ _).alloc (Nat.le_refl _) _
  have r2 : Row wz g2 85 (cells8 (List.replicate 32 0)) := by rw [hwz, h2]; exact heap_alloc_new _ _
  have hg2 : w.heap.size ≤ g2 := by omega
  rw [← hwz, ← h2]
  clear hwz h2
  go_wp2_with fail
  refine (new_any _ (HG.out.step hb)).mono ?_
  rintro e w1 ⟨rfl, hb1⟩
  have r21 := r2.step hb1
  have b1 := hb.trans (hb1.mono hb.size)
  have hg21 := r21.lt
  clear hb1 r2 hb
  obtain ⟨g3, hg3⟩ : ∃ g, g = w1.heap.size := ⟨_, rfl⟩
  have r3 : Row (w1.alloc (.cells st0.toArray 339)) g3 339 st0 := by rw [hg3]; exact heap_alloc_new _ _
  have hg3w : w.heap.size ≤ g3 := by have := b1.size; omega
  have hne : g2 ≠ g3 := by omega
  have R3 := Lib.hid r3
  have HG3 := Lib.hid hg3
  clear r3
  clear hg3
  go_wp2_with (refine Row.store (g := w1.heap.size) (t := 339) (L := st0) (M := stNew) (by rw [← HG3.out]; exact R3.out) rfl 339 (.tmp 3) (.tmp 6) rfl rfl rfl (by kernel_rfl) rfl (stC_one _ _ _ _) ?_; rintro w2 hw2 r32; rw [← HG3.out] at r32 hw2 ⊢; have b2 : Below w.heap.size w w2 := (by rw [hw2]; exact (b1.alloc b1.size _).grown (grown_setRow _ _ _) (Nat.le_trans b1.size (by simp)) (fun k hk => by cases hk; exact hg3w)); have r22 : Row w2 g2 85 (cells8 (List.replicate 32 0)) := (by rw [hw2]; exact (r21.below ((Below.refl w1.heap.size w1).alloc (Nat.le_refl _) _) hg21).other hne _); clear hw2)
  clear b1 r21 hg21 R3 HG3
  go_loopw [5, 9] (fun _ i wr => ∃ (k : Nat) (cs : List Value), k ≤ n ∧ i = .int .i64 (k : Int) ∧ Sta (ls.take k).flatten cs ∧ Row wr g3 339 cs ∧ Row wr g2 85 (cells8 (List.replicate 32 0)) ∧ Below w.heap.size w wr) (fun _ i _ => n - (intOf i).toNat)
  case atStart => exact ⟨0, stNew, Nat.zero_le _, rfl, sta_new, r32, r22, b2⟩
  case round =>
    clear r32 r22 b2
    obtain ⟨k, cs, hk, rfl, hs, r3, r2, hb⟩ := hrel
    have HS := Lib.hid hs
    have HI := Lib.hid hs.inf
    clear hs
    by_cases hlt : k < n
    · have hd : decide ((k : Int) < (n : Int)) = true := by simp; omega
      obtain ⟨l, hl⟩ : ∃ l, ls[k]? = some l := ⟨_, List.getElem?_eq_getElem (by rw [← HN.out]; exact hlt)⟩
      obtain ⟨Al, cl, hv, hc1, hc2, hrl⟩ := HP.out.2 k l hl
      obtain ⟨ad, hA, had, hcell⟩ := HR.out.cell1 hlt hv
      subst hA
      have c0 := (hb.cell (p := ad.add k) (by rw [add_block]; exact had)).trans hcell
      have hrl2 := (hrl.below hb (Nat.le_refl _)).mono hb.size
      have HL := Lib.hid hl
      have HC1 := Lib.hid hc1
      have HC2 := Lib.hid hc2
      have HRL := Lib.hid hrl2
      have HLEN : Hid ((ls.take k).flatten.length + l.length < 900000000) := by
        unfold Hid; have h1 := flat_take ls k l hl; have h2 := flat_len ls (k + 1); have := HM.out; rw [h1, List.length_append] at h2; omega
      have HFL : Hid ((ls.take k).flatten ++ l = (ls.take (k + 1)).flatten) := (flat_take ls k l hl).symm
      clear hl hc1 hc2 hrl hrl2 hv hcell had
      go_wp2_with (first
        | (refine wpList_load_row rfl 339 (.tmp 3) rfl g3 rfl 339 cs.toArray (0, 0) _ r3 Tryz.underlying339 rfl HI.out ?_)
        | (go_at_call 164; fail))
      refine (write_any _ l cs _ cl _ (HG.out.step hb) HS.out HRL.out HC1.out HC2.out (by have := HLEN.out; omega)).mono ?_
      rintro e w1 ⟨c1, rfl, hs1, hx⟩
      rw [HFL.out] at hs1
      have r31 := r3.step hx
      have r21 := r2.step hx
      have b1 := hb.trans (hx.mono hb.size)
      have HS1 := Lib.hid hs1
      clear hx r3 r2 hb HI hs1 c0 hd
      have HI1 := Lib.hid (show (Tryz.prog.info? 339).map (·.size) = some c1.length from st_info HS1.out.len)
      have HZ1 := Lib.hid (show cs.length = c1.length by rw [HS.out.len, HS1.out.len])
      have HO1 := Lib.hid (all_oneCell_toArray HS1.out.one)
      go_wp2_with (refine Row.store (g := g3) (t := 339) (L := cs) (M := c1) r31 rfl 339 (.tmp 3) (.tmp 15) rfl rfl rfl HI1.out HZ1.out HO1.out ?_; rintro w2 hw2 r32; have b2 : Below w.heap.size w w2 := (by rw [hw2]; exact b1.grown (grown_setRow _ _ _) b1.size (fun k hk => by cases hk; exact hg3w)); have r22 : Row w2 g2 85 (cells8 (List.replicate 32 0)) := (by rw [hw2]; exact r21.other hne _); clear hw2)
      clear r31 b1 r21 HI1 HZ1 HO1
      go_roundw
      case rel => exact ⟨k + 1, c1, by omega, by go_num, HS1.out, r32, r22, b2⟩
      case measure => simp [intOf]; omega
    · have hkn : k = n := by omega
      have hd : decide ((k : Int) < (n : Int)) = false := by simp; omega
      have hall : Hid (ls.take k = ls) := by unfold Hid; rw [hkn, HN.out]; exact List.take_length
      clear hkn
      go_wp2_with (first
        | (refine wpList_load_row rfl 339 (.tmp 3) rfl g3 rfl 339 cs.toArray (0, 0) _ r3 Tryz.underlying339 rfl HI.out ?_)
        | (go_at_call 165; fail))
      refine (sum_any _ cs _ (HG.out.step hb) HS.out (by rw [hall.out]; exact HM.out)).mono ?_
      rintro e w1 ⟨rfl, hx⟩
      rw [hall.out]
      have r21 := r2.step hx
      have b1 := hb.trans (hx.mono hb.size)
      have hl32 := shaF_len ls.flatten
      have HI2 := Lib.hid (show (Tryz.prog.info? 85).map (·.size) = some (cells8 (shaF ls.flatten)).length by rw [cells8_len, hl32]; kernel_rfl)
      have HI3 := Lib.hid (show (Tryz.prog.info? 85).map (·.size) = some (cells8 (shaF ls.flatten)).toArray.size by rw [List.size_toArray, cells8_len, hl32]; kernel_rfl)
      have HZ := Lib.hid (show (cells8 (List.replicate 32 0)).length = (cells8 (shaF ls.flatten)).length by rw [cells8_len, cells8_len, hl32]; rfl)
      clear hl32 hx r2 hb hd r3
      go_wp2_with (refine Row.store (g := g2) (t := 85) (L := cells8 (List.replicate 32 0)) (M := cells8 (shaF ls.flatten)) r21 rfl 85 (.tmp 2) (.tmp 18) rfl rfl rfl HI2.out HZ.out (cells8_one _) ?_; rintro wF hwF rF; have bF : Below w.heap.size w wF := (by rw [hwF]; exact b1.grown (grown_setRow _ _ _) b1.size (fun k hk => by cases hk; exact hg2)); clear hwF)
      refine bodyPost_ret (v := .agg (cells8 (shaF ls.flatten)).toArray) (results_cell_row Tryz.results103 _ wF g2 85 _ (0, 0) _ rfl rF Tryz.underlying85 rfl HI3.out) rfl ⟨rfl, bF⟩
end Go.Proofs.YtbkpgmlibiclfaaGreatDoor
