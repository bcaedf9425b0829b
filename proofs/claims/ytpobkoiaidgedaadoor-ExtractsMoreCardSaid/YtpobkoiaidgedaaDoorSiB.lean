/- The reference's Keys. -/
import Derived.Test.YtpobkoiaidgedaaDoorSiA
import Derived.Lib.SlBytesConst
namespace Go.Proofs.YtpobkoiaidgedaaDoor
open Go.RowKit

theorem litRd {w : World} (l : List B8) (t : TypeId) (fr : Nat × Nat) : Rd (w.alloc (.cells (cells8 l).toArray t fr)) (w.alloc (.cells (cells8 l).toArray t fr)).heap.size 1 (some ⟨w.heap.size, 0, none⟩) l.length (cells8 l) := by
  refine ⟨by rw [cells8_len, Nat.mul_one], fun _ => ⟨_, rfl, by simp, fun j v hv => ?_⟩⟩
  have hadd : (⟨w.heap.size, 0, none⟩ : Addr).add j = ⟨w.heap.size, j, none⟩ := by unfold Addr.add; split <;> simp_all
  rw [hadd]
  simp only [World.cell?, World.alloc, Array.getElem?_push_size]
  simpa using hv
def bCaisson : List B8 := [99#8, 97#8, 105#8, 115#8, 115#8, 111#8, 110#8]
def bEncrypt : List B8 := [101#8, 110#8, 99#8, 114#8, 121#8, 112#8, 116#8]
def bMac : List B8 := [109#8, 97#8, 99#8]
def prkF (m : List B8) : List B8 := hmacF bCaisson m
def encF (m : List B8) : List B8 := (part1 (prkF m) bEncrypt).take 16
def macF (m : List B8) : List B8 := (part1 (prkF m) bMac).take 32
theorem encF_len (m : List B8) : (encF m).length = 16 := by rw [encF, List.length_take, part1_len]; rfl
theorem macF_len (m : List B8) : (macF m).length = 32 := by rw [macF, List.length_take, part1_len]; rfl
/-- The first j of n bytes are written. -/
def fillJ (l : List B8) (n j : Nat) : List B8 := l.take j ++ List.replicate (n - j) 0
theorem fillJ_all (l : List B8) (n : Nat) (h : l.length = n) : fillJ l n n = l := by
  unfold fillJ; rw [List.take_of_length_le (by omega), Nat.sub_self]; exact List.append_nil _
theorem fillJ_at (l : List B8) (n j : Nat) (h : l.length = n) (hj : j < n) : (cells8 (fillJ l n j))[j]? = some (.int .u8 0) := by
  have h1 : (l.take j).length = j := by rw [List.length_take]; omega
  rw [cells8, List.getElem?_map, fillJ, List.getElem?_append_right (by omega), h1, Nat.sub_self, List.getElem?_replicate]
  simp [bv]; omega
theorem fillJ_set (l : List B8) (n j : Nat) (h : l.length = n) (hj : j < n) : (cells8 (fillJ l n j)).set j (.int .u8 (bv (l[j]'(by omega)))) = cells8 (fillJ l n (j + 1)) := by
  have h1 : (l.take j).length = j := by rw [List.length_take]; omega
  have e : (fillJ l n j).set j (l[j]'(by omega)) = fillJ l n (j + 1) := by
    rw [fillJ, List.set_append_right _ _ (by omega), h1, Nat.sub_self, show n - j = (n - (j + 1)) + 1 by omega, List.replicate_succ, List.set_cons_zero, fillJ, List.take_succ_eq_append_getElem (show j < l.length by omega), List.append_assoc]
    rfl
  rw [← e, cells8, cells8, List.map_set]

set_option maxRecDepth 100000 in
set_option maxHeartbeats 4000000 in
theorem refKeys_any (m : List B8) (hm : m.length = 32) (w : World) :
    Calls Tryd.prog 10 #[.agg (cells8 m).toArray] w fun e w' => e = .returned (.tuple #[.agg (cells8 (encF m)).toArray, .agg (cells8 (macF m)).toArray]) ∧ Below w.heap.size w w' := by
  have HM := Lib.hid hm
  have HIE := Lib.hid (show (Tryd.prog.info? 44).map (·.size) = some (cells8 (encF m)).length by rw [cells8_len, encF_len]; kernel_rfl)
  have HIE2 := Lib.hid (show (Tryd.prog.info? 44).map (·.size) = some (cells8 (encF m)).toArray.size by rw [List.size_toArray, cells8_len, encF_len]; kernel_rfl)
  have HZE := Lib.hid (show (cells8 (List.replicate 16 0)).length = (cells8 (encF m)).length by rw [cells8_len, cells8_len, encF_len]; rfl)
  have HIM := Lib.hid (show (Tryd.prog.info? 43).map (·.size) = some (cells8 (macF m)).length by rw [cells8_len, macF_len]; kernel_rfl)
  have HIM2 := Lib.hid (show (Tryd.prog.info? 43).map (·.size) = some (cells8 (macF m)).toArray.size by rw [List.size_toArray, cells8_len, macF_len]; kernel_rfl)
  have HZM := Lib.hid (show (cells8 (List.replicate 32 0)).length = (cells8 (macF m)).length by rw [cells8_len, cells8_len, macF_len]; rfl)
  clear hm
  have kc := fun (w : World) (C : Array Value) (n c : Nat) => Lib.run_convert_bytes_const (P := Tryd.prog) w 34 5 C n c Tryd.underlying34 Tryd.underlying5
  go_enter Tryd.func10, Tryd.ntmps10
  go_upto_region 1 with (fail)
  change Code.wp _ _ _ _ (((w.alloc (.cells (cells8 m).toArray 43)).alloc (.cells (cells8 (List.replicate 16 0)).toArray 44)).alloc (.cells (cells8 (List.replicate 32 0)).toArray 43))
  obtain ⟨wz, hwz⟩ : ∃ wz, wz = (((w.alloc (.cells (cells8 m).toArray 43)).alloc (.cells (cells8 (List.replicate 16 0)).toArray 44)).alloc (.cells (cells8 (List.replicate 32 0)).toArray 43)) := ⟨_, rfl⟩
  obtain ⟨g1, h1⟩ : ∃ g, g = w.heap.size := ⟨_, rfl⟩
  obtain ⟨g2, h2⟩ : ∃ g, g = w.heap.size + 1 := ⟨_, rfl⟩
  obtain ⟨g3, h3⟩ : ∃ g, g = w.heap.size + 1 + 1 := ⟨_, rfl⟩
  have hb : Below w.heap.size w wz := by rw [hwz]; exact ((((Below.refl _ _).alloc (Nat.le_refl _) _).alloc (by simp) _).alloc (by simp; omega) _)
  have r1 : Row wz g1 43 (cells8 m) := by
    have h0 : Row (w.alloc (.cells (cells8 m).toArray 43)) w.heap.size 43 (cells8 m) := heap_alloc_new _ _
    rw [hwz, h1]; exact (h0.step ((Below.refl _ _).alloc (Nat.le_refl _) _)).step ((Below.refl _ _).alloc (Nat.le_refl _) _)
  have r2 : Row wz g2 44 (cells8 (List.replicate 16 0)) := by
    have h0 : Row ((w.alloc (.cells (cells8 m).toArray 43)).alloc (.cells (cells8 (List.replicate 16 0)).toArray 44)) (w.heap.size + 1) 44 (cells8 (List.replicate 16 0)) := heap_new_at (by simp)
    rw [hwz, h2]; exact h0.step ((Below.refl _ _).alloc (Nat.le_refl _) _)
  have r3 : Row wz g3 43 (cells8 (List.replicate 32 0)) := by rw [hwz, h3]; exact heap_new_at (by simp)
  have hg2w : w.heap.size ≤ g2 := by omega
  have hg3w : w.heap.size ≤ g3 := by omega
  have hne23 : g2 ≠ g3 := by omega
  rw [← hwz, ← h3, ← h2, ← h1]
  clear hwz h1 h2 h3
  have hba : Below wz.heap.size wz (wz.alloc (.cells (cells8 bCaisson).toArray 5 (7, 8))) := (Below.refl _ _).alloc (Nat.le_refl _) _
  have hlr := Lib.hid (litRd (w := wz) bCaisson 5 (7, 8))
  have hr1 := (r1.step hba).rdAll
  rw [HM.out] at hr1
  have HR1 := Lib.hid hr1
  clear hr1
  go_wp2_with fail
  refine (refMac_any _ 7 bCaisson _ 32 32 m _ hlr.out (by decide) HR1.out (by have := HM.out; omega)).mono ?_
  rintro e w1 ⟨rfl, hx⟩
  have y1 : Below wz.heap.size wz w1 := hba.trans (hx.mono hba.size)
  have b1 := hb.trans (y1.mono hb.size)
  have r21 := r2.step y1
  have r31 := r3.step y1
  rw [show hmacF bCaisson m = prkF m from rfl]
  obtain ⟨P, hP⟩ : ∃ P, P = prkF m := ⟨_, rfl⟩
  rw [← hP]
  have HPL := Lib.hid (show P.length = 32 by rw [hP]; exact hmac_len _ _)
  have HPP := Lib.hid hP
  have HI4 := Lib.hid (show (Tryd.prog.info? 39).map (·.size) = some (cells8 P).length by rw [cells8_len, HPL.out]; kernel_rfl)
  have HZ4 := Lib.hid (show (cells8 (List.replicate 32 0)).length = (cells8 P).length by rw [cells8_len, cells8_len, HPL.out]; rfl)
  have S0 : Hid (Row (w1.alloc (.cells (cells8 (List.replicate 32 0)).toArray 39)) w1.heap.size 39 (cells8 (List.replicate 32 0))) := Lib.hid (heap_alloc_new _ _)
  clear hP hx hlr HR1 y1 hba hb r1 r2 r3
  go_upto_region 2 with (refine Row.store (g := w1.heap.size) (t := 39) (L := cells8 (List.replicate 32 0)) (M := cells8 P) S0.out rfl 39 (.tmp 4) (.tmp 14) rfl rfl rfl HI4.out HZ4.out (cells8_one _) ?_; rintro w2 hw2 r4; have b12 : Below w1.heap.size w1 w2 := (by rw [hw2]; exact ((Below.refl _ _).alloc (Nat.le_refl _) _).grown (grown_setRow _ _ _) (by simp) (fun k hk => by cases hk; exact Nat.le_refl _)); clear hw2)
  obtain ⟨g4, hg4⟩ : ∃ g, g = w1.heap.size := ⟨_, rfl⟩
  rw [← hg4] at r4 ⊢
  have hb2 := b1.trans (b12.mono b1.size)
  have r22 := r21.step b12
  have r32 := r31.step b12
  clear hg4 S0 HI4 HZ4 b12 b1 r21 r31
  try simp only [Act.put]
  go_upto_region 4 with (fail)
  change Code.wp _ _ _ _ ((w2.alloc (.cells (cells8 (List.replicate 16 0)).toArray 44)).alloc (.cells (cells8 (List.replicate 32 0)).toArray 43))
  obtain ⟨w3, hw3⟩ : ∃ x, x = ((w2.alloc (.cells (cells8 (List.replicate 16 0)).toArray 44)).alloc (.cells (cells8 (List.replicate 32 0)).toArray 43)) := ⟨_, rfl⟩
  obtain ⟨g5, h5⟩ : ∃ g, g = w2.heap.size := ⟨_, rfl⟩
  obtain ⟨g6, h6⟩ : ∃ g, g = w2.heap.size + 1 := ⟨_, rfl⟩
  have y3 : Below w2.heap.size w2 w3 := by rw [hw3]; exact below_alloc2 (Below.refl _ _)
  have hb3 := hb2.trans (y3.mono hb2.size)
  have r5 : Row w3 g5 44 (cells8 (List.replicate 16 0)) := by
    rw [hw3, h5, Row, ((Below.refl _ _).alloc (Nat.le_refl _) _).block w2.heap.size (by simp)]; exact heap_alloc_new _ _
  have r6 : Row w3 g6 43 (cells8 (List.replicate 32 0)) := by rw [hw3, h6]; exact heap_new_at (by simp)
  have hg5w : w.heap.size ≤ g5 := by have := hb2.size; omega
  have hg6w : w.heap.size ≤ g6 := by omega
  have hne25 : g5 ≠ g2 := by have := r22.lt; omega
  have hne26 : g6 ≠ g2 := by have := r22.lt; omega
  have hne35 : g5 ≠ g3 := by have := r32.lt; omega
  have hne36 : g6 ≠ g3 := by have := r32.lt; omega
  have hne56 : g5 ≠ g6 := by omega
  have r23 := r22.step y3
  have r33 := r32.step y3
  have r43 := r4.step y3
  rw [← hw3, ← h6, ← h5]
  clear hw3 h5 h6 y3 hb2 r22 r32 r4
  have hba : Below w3.heap.size w3 (w3.alloc (.cells (cells8 bEncrypt).toArray 5 (7, 8))) := (Below.refl _ _).alloc (Nat.le_refl _) _
  have hlr := Lib.hid (litRd (w := w3) bEncrypt 5 (7, 8))
  have hr4 := (r43.step hba).rdAll
  rw [HPL.out] at hr4
  have HR4 := Lib.hid hr4
  clear hr4
  go_wp2_with fail
  refine (refExpand_any _ 32 P _ 7 7 bEncrypt 16 _ HPL.out HR4.out hlr.out (by decide) (by omega) (by omega)).mono ?_
  rintro e w4 ⟨Ae, ce, rfl, hre, hae0, hx⟩
  have hg5l : g5 < w3.heap.size := r5.lt
  have hg6l : g6 < w3.heap.size := r6.lt
  have hae1 : ∀ ad, Ae = some ad → w3.heap.size ≤ ad.block := fun ad h => Nat.le_trans hba.size (hae0 ad h)
  have HAE := Lib.hid hae1
  have y4 : Below w3.heap.size w3 w4 := hba.trans (hx.mono hba.size)
  have hb4 := hb3.trans (y4.mono hb3.size)
  have r24 := r23.step y4
  have r34 := r33.step y4
  have r44 := r43.step y4
  have r54 := r5.step y4
  have r64 := r6.step y4
  have HRE : Hid (Rd w4 w4.heap.size 1 Ae 16 (cells8 (encF m))) := by unfold Hid; rw [encF, ← HPP.out]; exact hre
  have h34 := y4.size
  clear hx hlr HR4 y4 hba hae0 hae1 hb3 r23 r33 r43 r5 r6 hre
  have hba : Below w4.heap.size w4 (w4.alloc (.cells (cells8 bMac).toArray 5 (3, 4))) := (Below.refl _ _).alloc (Nat.le_refl _) _
  have hlr := Lib.hid (litRd (w := w4) bMac 5 (3, 4))
  have hr4 := (r44.step hba).rdAll
  rw [HPL.out] at hr4
  have HR4 := Lib.hid hr4
  clear hr4
  go_wp2_with fail
  refine (refExpand_any _ 32 P _ 3 3 bMac 32 _ HPL.out HR4.out hlr.out (by decide) (by omega) (by omega)).mono ?_
  rintro e w5 ⟨Am, cm, rfl, hrm, ham0, hx⟩
  have ham1 : ∀ ad, Am = some ad → w4.heap.size ≤ ad.block := fun ad h => Nat.le_trans hba.size (ham0 ad h)
  have HAM := Lib.hid ham1
  have y5 : Below w4.heap.size w4 w5 := hba.trans (hx.mono hba.size)
  have hb5 := hb4.trans (y5.mono hb4.size)
  have r25 := r24.step y5
  have r35 := r34.step y5
  have r55 := r54.step y5
  have r65 := r64.step y5
  have HRE5 := Lib.hid ((HRE.out.below y5 (Nat.le_refl _)).mono y5.size)
  have HRM : Hid (Rd w5 w5.heap.size 1 Am 32 (cells8 (macF m))) := by unfold Hid; rw [macF, ← HPP.out]; exact hrm
  clear hx hlr HR4 y5 hba ham0 ham1 hb4 r24 r34 r44 r54 r64 hrm HRE
  obtain ⟨ae, rfl, hae, hce⟩ := HRE5.out.2 (by omega)
  obtain ⟨am, rfl, ham, hcm⟩ := HRM.out.2 (by omega)
  have hae5 : ae.block ≠ g5 := by have := HAE.out ae rfl; omega
  have hae6 : ae.block ≠ g6 := by have := HAE.out ae rfl; omega
  have ham5 : am.block ≠ g5 := by have := HAM.out am rfl; omega
  have ham6 : am.block ≠ g6 := by have := HAM.out am rfl; omega
  have HCE := Lib.hid hce
  have HCM := Lib.hid hcm
  clear HRE5 HRM hae ham hce hcm HAE HAM h34 hg5l hg6l
  go_wp2
  go_loopw [9] (fun i wr => ∃ j : Nat, j ≤ 16 ∧ i = .int .i64 (j : Int) ∧ Row wr g5 44 (cells8 (fillJ (encF m) 16 j)) ∧ Row wr g6 43 (cells8 (List.replicate 32 0)) ∧ Row wr g2 44 (cells8 (List.replicate 16 0)) ∧ Row wr g3 43 (cells8 (List.replicate 32 0)) ∧ Cells wr ae (cells8 (encF m)) ∧ Cells wr am (cells8 (macF m)) ∧ Below w.heap.size w wr) (fun i _ => 16 - (intOf i).toNat)
  case atStart => exact ⟨0, Nat.zero_le _, rfl, r55, r65, r25, r35, HCE.out, HCM.out, hb5⟩
  case round =>
    clear r55 r65 r25 r35 HCE HCM hb5
    obtain ⟨j, hj, rfl, r5, r6, r2, r3, hce, hcm, hb⟩ := hrel
    by_cases hlt : j < 16
    · have hd : decide ((j : Int) < 16) = true := by simp; omega
      have hjn : (j : Int) < 16 := by omega
      have hjl : j < (encF m).length := by rw [encF_len]; exact hlt
      have ca : wr.cell? (ae.add j) = some (.int .u8 (bv (encF m)[j])) := hce j _ (by rw [cells8, List.getElem?_map, List.getElem?_eq_getElem hjl]; rfl)
      obtain ⟨x, hx⟩ : ∃ x, x = (encF m)[j] := ⟨_, rfl⟩
      have c5 := r5.cell (fillJ_at (encF m) 16 j (encF_len m) hlt)
      have f5 := r5.free j
      have r5n := r5.setCell (i := j) (.int .u8 (bv (encF m)[j]))
      rw [fillJ_set (encF m) 16 j (encF_len m) hlt, ← hx] at r5n
      rw [← hx] at ca
      have r6n : Row (wr.setCell ⟨g5, j, none⟩ (.int .u8 (bv x))) g6 _ _ := (heap_setCell_other _ _ _ _ hne56.symm).trans r6
      have r2n : Row (wr.setCell ⟨g5, j, none⟩ (.int .u8 (bv x))) g2 _ _ := (heap_setCell_other _ _ _ _ hne25.symm).trans r2
      have r3n : Row (wr.setCell ⟨g5, j, none⟩ (.int .u8 (bv x))) g3 _ _ := (heap_setCell_other _ _ _ _ hne35.symm).trans r3
      have hcen := hce.keep (w' := wr.setCell ⟨g5, j, none⟩ (.int .u8 (bv x))) (fun p hp => World.cell?_setCell_far _ _ _ _ (by rw [hp]; exact hae5.symm))
      have hcmn := hcm.keep (w' := wr.setCell ⟨g5, j, none⟩ (.int .u8 (bv x))) (fun p hp => World.cell?_setCell_far _ _ _ _ (by rw [hp]; exact ham5.symm))
      have R := Lib.hid (show _ ∧ _ ∧ _ ∧ _ ∧ _ ∧ _ from ⟨r5n, r6n, r2n, r3n, hcen, hcmn⟩)
      clear hx r5n r6n r2n r3n hcen hcmn r5 r6 r2 r3 hce hcm hjl
      go_wp2
      go_roundw
      case rel => exact ⟨j + 1, by omega, by go_num, R.out.1, R.out.2.1, R.out.2.2.1, R.out.2.2.2.1, R.out.2.2.2.2.1, R.out.2.2.2.2.2, hb.setCell hg5w _⟩
      case measure => simp [intOf]; omega
    · obtain rfl : j = 16 := by omega
      have hd : decide ((16 : Int) < 16) = false := by decide
      rw [show ((16 : Nat) : Int) = 16 from rfl]
      rw [fillJ_all _ _ (encF_len m)] at r5
      clear hce
      go_wp2
      go_loopw [10] (fun i wr => ∃ j : Nat, j ≤ 32 ∧ i = .int .i64 (j : Int) ∧ Row wr g5 44 (cells8 (encF m)) ∧ Row wr g6 43 (cells8 (fillJ (macF m) 32 j)) ∧ Row wr g2 44 (cells8 (List.replicate 16 0)) ∧ Row wr g3 43 (cells8 (List.replicate 32 0)) ∧ Cells wr am (cells8 (macF m)) ∧ Below w.heap.size w wr) (fun i _ => 32 - (intOf i).toNat)
      case atStart => exact ⟨0, Nat.zero_le _, rfl, r5, r6, r2, r3, hcm, hb⟩
      case round =>
        clear r5 r6 r2 r3 hcm hb
        obtain ⟨j, hj, rfl, r5, r6, r2, r3, hcm, hb⟩ := hrel
        by_cases hlt : j < 32
        · have hd : decide ((j : Int) < 32) = true := by simp; omega
          have hjn : (j : Int) < 32 := by omega
          have hjl : j < (macF m).length := by rw [macF_len]; exact hlt
          have ca : wr.cell? (am.add j) = some (.int .u8 (bv (macF m)[j])) := hcm j _ (by rw [cells8, List.getElem?_map, List.getElem?_eq_getElem hjl]; rfl)
          obtain ⟨x, hx⟩ : ∃ x, x = (macF m)[j] := ⟨_, rfl⟩
          have c6 := r6.cell (fillJ_at (macF m) 32 j (macF_len m) hlt)
          have f6 := r6.free j
          have r6n := r6.setCell (i := j) (.int .u8 (bv (macF m)[j]))
          rw [fillJ_set (macF m) 32 j (macF_len m) hlt, ← hx] at r6n
          rw [← hx] at ca
          have r5n : Row (wr.setCell ⟨g6, j, none⟩ (.int .u8 (bv x))) g5 _ _ := (heap_setCell_other _ _ _ _ hne56).trans r5
          have r2n : Row (wr.setCell ⟨g6, j, none⟩ (.int .u8 (bv x))) g2 _ _ := (heap_setCell_other _ _ _ _ hne26.symm).trans r2
          have r3n : Row (wr.setCell ⟨g6, j, none⟩ (.int .u8 (bv x))) g3 _ _ := (heap_setCell_other _ _ _ _ hne36.symm).trans r3
          have hcmn := hcm.keep (w' := wr.setCell ⟨g6, j, none⟩ (.int .u8 (bv x))) (fun p hp => World.cell?_setCell_far _ _ _ _ (by rw [hp]; exact ham6.symm))
          have R := Lib.hid (show _ ∧ _ ∧ _ ∧ _ ∧ _ from ⟨r5n, r6n, r2n, r3n, hcmn⟩)
          clear hx r5n r6n r2n r3n hcmn r5 r6 r2 r3 hcm hjl
          go_wp2
          go_roundw
          case rel => exact ⟨j + 1, by omega, by go_num, R.out.1, R.out.2.1, R.out.2.2.1, R.out.2.2.2.1, R.out.2.2.2.2, hb.setCell hg6w _⟩
          case measure => simp [intOf]; omega
        · obtain rfl : j = 32 := by omega
          have hd : decide ((32 : Int) < 32) = false := by decide
          rw [show ((32 : Nat) : Int) = 32 from rfl]
          rw [fillJ_all _ _ (macF_len m)] at r6
          clear hcm
          go_upto_region 14 with (fail)
          refine wp_region_held_drew (S := (fun w => Row w g5 44 (cells8 (encF m)) ∧ Row w g6 43 (cells8 (macF m)))) (by kernel_rfl) ⟨r5, r6⟩ (fun hHeld => ?_)
          refine take_run 0 (v := (.agg (cells8 (encF m)).toArray)) rfl (by kernel_rfl) (by kernel_rfl) (by kernel_rfl) (fun _ _ _ h => h) rfl ?_ hHeld ?_
          · intro w hSw; (try dsimp only at hSw); exact exec_load_row 44 (.tmp 5) rfl g5 rfl 44 (cells8 (encF m)).toArray (0, 0) _ hSw.1 Tryd.underlying44 rfl HIE2.out
          try simp only [Act.put, List.setIfInBounds_toArray, List.set_cons_zero, List.set_cons_succ]
          refine take_run 1 (v := (.agg (cells8 (macF m)).toArray)) rfl (by kernel_rfl) (by kernel_rfl) (by kernel_rfl) (fun _ _ _ h => h) rfl ?_ hHeld ?_
          · intro w hSw; (try dsimp only at hSw); exact exec_load_row 43 (.tmp 6) rfl g6 rfl 43 (cells8 (macF m)).toArray (0, 0) _ hSw.2 Tryd.underlying43 rfl HIM2.out
          try simp only [Act.put, List.setIfInBounds_toArray, List.set_cons_zero, List.set_cons_succ]
          refine take_call 2 rfl (by kernel_rfl) rfl (fun K hK => ?_)
          refine wp_store_whole 44 (.tmp 2) (.tmp 43) rfl g2 44 (cells8 (List.replicate 16 0)) (cells8 (encF m)) rfl rfl r2 HIE.out HZE.out (cells8_ones _) ?_
          intro wA rA gA
          have r5A : Row wA g5 _ _ := (gA.block _ r5.lt (fun e => hne25 (by cases e; rfl))).trans r5
          have r6A : Row wA g6 _ _ := (gA.block _ r6.lt (fun e => hne26 (by cases e; rfl))).trans r6
          have r3A : Row wA g3 _ _ := (gA.block _ r3.lt (fun e => hne23 (by cases e; rfl))).trans r3
          have bA : Below w.heap.size w wA := (below_drewN' hb 1).grown gA hb.size (fun k hk => by cases hk; exact hg2w)
          try dsimp only
          refine hK.out _ _ ⟨r5A, r6A⟩ (fun hHeld => ?_)
          clear hK K
          try simp only [Act.put]
          refine take_call 3 rfl (by kernel_rfl) rfl (fun K hK => ?_)
          refine wp_store_whole 43 (.tmp 3) (.tmp 44) rfl g3 43 (cells8 (List.replicate 32 0)) (cells8 (macF m)) rfl rfl r3A HIM.out HZM.out (cells8_ones _) ?_
          intro wB rB gB
          have r5B : Row wB g5 _ _ := (gB.block _ r5A.lt (fun e => hne35 (by cases e; rfl))).trans r5A
          have r6B : Row wB g6 _ _ := (gB.block _ r6A.lt (fun e => hne36 (by cases e; rfl))).trans r6A
          have rAB : Row wB g2 _ _ := (gB.block _ rA.lt (fun e => hne23 (by cases e; rfl))).trans rA
          have bB : Below w.heap.size w wB := bA.grown gB bA.size (fun k hk => by cases hk; exact hg3w)
          try dsimp only
          refine hK.out _ _ ⟨r5B, r6B⟩ (fun hHeld => ?_)
          clear hK K
          try simp only [Act.put]
          refine wpAnyH_done (by kernel_rfl) ?_ _
          go_wp2
          have l2 := run_loadVar_row (P := Tryd.prog) wB g2 44 44 (cells8 (encF m)).toArray (0, 0) _ rAB Tryd.underlying44 rfl HIE2.out
          have l3 := run_loadVar_row (P := Tryd.prog) wB g3 43 43 (cells8 (macF m)).toArray (0, 0) _ rB Tryd.underlying43 rfl HIM2.out
          refine bodyPost_ret (v := .tuple #[.agg (cells8 (encF m)).toArray, .agg (cells8 (macF m)).toArray]) (by simp [results, Tryd.results10, asAddr, l2, l3]) rfl ⟨rfl, bB⟩
end Go.Proofs.YtpobkoiaidgedaaDoor
