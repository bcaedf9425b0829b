/- The program's keys of a volume. -/
import Derived.Test.YtpobkoiaidgedaaDoorSiD
namespace Go.Proofs.YtpobkoiaidgedaaDoor
open Go.RowKit

theorem extract_7 (A : Option Addr) (k : List B8) (hk : k.length = 7) (A2 : Option Addr) (n c2 : Nat) (m : List B8) (w : World) (hG : Glob w) (hrk : Rd w w.heap.size 1 A k.length (cells8 k))
    (hrm : Rd w w.heap.size 1 A2 n (cells8 m)) (hn : n ≤ c2) (hc2 : c2 ≤ maxLen) (hm : m.length < 700000000) :
    Calls Tryd.prog 29 #[.slice A 7 7, .slice A2 n c2] w fun e w' => e = .returned (.agg (cells8 (hmacF k m)).toArray) ∧ Below w.heap.size w w' := by
  have h := extract_any A 7 k A2 n c2 m w hG hrk (by omega) hrm hn hc2 hm
  rwa [hk] at h
def volF (m : List B8) : List B8 := encF m ++ macF m
theorem volF_len (m : List B8) : (volF m).length = 48 := by rw [volF, List.length_append, encF_len, macF_len]

set_option maxRecDepth 100000 in
set_option maxHeartbeats 4000000 in
theorem volume_any (m : List B8) (hm : m.length = 32) (w : World) (hG : Glob w) :
    Calls Tryd.prog 13 #[.agg (cells8 m).toArray] w fun e w' => e = .returned (.agg (cells8 (volF m)).toArray) ∧ Below w.heap.size w w' := by
  have HM := Lib.hid hm
  have HG := Lib.hid hG
  have HIV := Lib.hid (show (Tryd.prog.info? 58).map (·.size) = some (cells8 (volF m)).length by rw [cells8_len, volF_len]; kernel_rfl)
  have HIV2 := Lib.hid (show (Tryd.prog.info? 58).map (·.size) = some (cells8 (volF m)).toArray.size by rw [List.size_toArray, cells8_len, volF_len]; kernel_rfl)
  clear hm hG
  have kc := fun (w : World) (C : Array Value) (n c : Nat) => Lib.run_convert_bytes_const (P := Tryd.prog) w 34 5 C n c Tryd.underlying34 Tryd.underlying5
  go_enter Tryd.func13, Tryd.ntmps13
  go_upto_region 1 with (fail)
  change Code.wp _ _ _ _ ((w.alloc (.cells (cells8 m).toArray 43)).alloc (.cells (cells8 (List.replicate 48 0)).toArray 58))
  obtain ⟨wz, hwz⟩ : ∃ wz, wz = ((w.alloc (.cells (cells8 m).toArray 43)).alloc (.cells (cells8 (List.replicate 48 0)).toArray 58)) := ⟨_, rfl⟩
  obtain ⟨g1, h1⟩ : ∃ g, g = w.heap.size := ⟨_, rfl⟩
  obtain ⟨g2, h2⟩ : ∃ g, g = w.heap.size + 1 := ⟨_, rfl⟩
  have hb : Below w.heap.size w wz := by rw [hwz]; exact below_alloc2 (Below.refl _ _)
  have r1 : Row wz g1 43 (cells8 m) := by
    rw [hwz, h1, Row, ((Below.refl _ _).alloc (Nat.le_refl _) _).block w.heap.size (by simp)]; exact heap_alloc_new _ _
  have r2 : Row wz g2 58 (cells8 (List.replicate 48 0)) := by rw [hwz, h2]; exact heap_new_at (by simp)
  have hg2w : w.heap.size ≤ g2 := by omega
  rw [← hwz, ← h2, ← h1]
  clear hwz h1 h2
  have hba : Below wz.heap.size wz (wz.alloc (.cells (cells8 bCaisson).toArray 5 (7, 8))) := (Below.refl _ _).alloc (Nat.le_refl _) _
  have hlr := Lib.hid (litRd (w := wz) bCaisson 5 (7, 8))
  have hr1 := (r1.step hba).rdAll
  rw [HM.out] at hr1
  have HR1 := Lib.hid hr1
  have hg1 := Lib.hid (HG.out.step (hb.trans (hba.mono hb.size)))
  clear hr1
  go_wp2_with fail
  refine (extract_7 _ bCaisson rfl _ 32 32 m _ hg1.out hlr.out HR1.out (Nat.le_refl _) (by decide) (by have := HM.out; omega)).mono ?_
  rintro e w1 ⟨rfl, hx⟩
  have y1 : Below wz.heap.size wz w1 := hba.trans (hx.mono hba.size)
  have b1 := hb.trans (y1.mono hb.size)
  have r21 := r2.step y1
  rw [show hmacF bCaisson m = prkF m from rfl]
  obtain ⟨P, hP⟩ : ∃ P, P = prkF m := ⟨_, rfl⟩
  rw [← hP]
  have HPL := Lib.hid (show P.length = 32 by rw [hP]; exact hmac_len _ _)
  have HPP := Lib.hid hP
  have HI4 := Lib.hid (show (Tryd.prog.info? 39).map (·.size) = some (cells8 P).length by rw [cells8_len, HPL.out]; kernel_rfl)
  have HZ4 := Lib.hid (show (cells8 (List.replicate 32 0)).length = (cells8 P).length by rw [cells8_len, cells8_len, HPL.out]; rfl)
  have S0 : Hid (Row (w1.alloc (.cells (cells8 (List.replicate 32 0)).toArray 39)) w1.heap.size 39 (cells8 (List.replicate 32 0))) := Lib.hid (heap_alloc_new _ _)
  clear hP hx hlr HR1 y1 hba hb r1 r2 hg1
  go_upto_region 2 with (refine Row.store (g := w1.heap.size) (t := 39) (L := cells8 (List.replicate 32 0)) (M := cells8 P) S0.out rfl 39 (.tmp 3) (.tmp 11) rfl rfl rfl HI4.out HZ4.out (cells8_one _) ?_; rintro w2 hw2 r4; have b12 : Below w1.heap.size w1 w2 := (by rw [hw2]; exact ((Below.refl _ _).alloc (Nat.le_refl _) _).grown (grown_setRow _ _ _) (by simp) (fun k hk => by cases hk; exact Nat.le_refl _)); clear hw2)
  obtain ⟨g4, hg4⟩ : ∃ g, g = w1.heap.size := ⟨_, rfl⟩
  rw [← hg4] at r4 ⊢
  have hb3 := b1.trans (b12.mono b1.size)
  have r23 := r21.step b12
  clear hg4 S0 HI4 HZ4 b12 b1 r21
  try simp only [Act.put]
  obtain ⟨w3, hw3⟩ : ∃ x, x = w2 := ⟨_, rfl⟩
  rw [← hw3] at r4 hb3 r23 ⊢
  clear hw3
  have hba : Below w3.heap.size w3 (w3.alloc (.cells (cells8 bEncrypt).toArray 5 (7, 8))) := (Below.refl _ _).alloc (Nat.le_refl _) _
  have hlr := Lib.hid (litRd (w := w3) bEncrypt 5 (7, 8))
  have hr4 := (r4.step hba).rdAll
  rw [HPL.out] at hr4
  have HR4 := Lib.hid hr4
  have hg1 := Lib.hid (HG.out.step (hb3.trans (hba.mono hb3.size)))
  clear hr4
  go_wp2_with fail
  refine (expand_any _ 32 P _ 7 7 bEncrypt 16 _ hg1.out HPL.out HR4.out hlr.out (by decide) (by omega) (by decide) (by omega) (by omega)).mono ?_
  rintro e w4 ⟨ge, rfl, hre, hge0, hx⟩
  have y4 : Below w3.heap.size w3 w4 := hba.trans (hx.mono hba.size)
  have hb4 := hb3.trans (y4.mono hb3.size)
  have r24 := r23.step y4
  have r44 := r4.step y4
  have hge : w3.heap.size ≤ ge := Nat.le_trans hba.size hge0
  have hg23 : g2 < w3.heap.size := r23.lt
  have HRE : Hid (Rd w4 w4.heap.size 1 (some ⟨ge, 0, none⟩) 16 (cells8 (encF m))) := by unfold Hid; rw [encF, ← HPP.out]; exact hre
  clear hx hlr HR4 y4 hba hb3 r23 r4 hre hge0 hg1
  have hba : Below w4.heap.size w4 (w4.alloc (.cells (cells8 bMac).toArray 5 (3, 4))) := (Below.refl _ _).alloc (Nat.le_refl _) _
  have hlr := Lib.hid (litRd (w := w4) bMac 5 (3, 4))
  have hr4 := (r44.step hba).rdAll
  rw [HPL.out] at hr4
  have HR4 := Lib.hid hr4
  have hg1 := Lib.hid (HG.out.step (hb4.trans (hba.mono hb4.size)))
  clear hr4
  go_wp2_with fail
  refine (expand_any _ 32 P _ 3 3 bMac 32 _ hg1.out HPL.out HR4.out hlr.out (by decide) (by omega) (by decide) (by omega) (by omega)).mono ?_
  rintro e w5 ⟨gm, rfl, hrm, hgm0, hx⟩
  have y5 : Below w4.heap.size w4 w5 := hba.trans (hx.mono hba.size)
  have hb5 := hb4.trans (y5.mono hb4.size)
  have r25 := r24.step y5
  have hgm : w4.heap.size ≤ gm := Nat.le_trans hba.size hgm0
  have hg24 : g2 < w4.heap.size := r24.lt
  have HRE5 := Lib.hid ((HRE.out.below y5 (Nat.le_refl _)).mono y5.size)
  have HRM : Hid (Rd w5 w5.heap.size 1 (some ⟨gm, 0, none⟩) 32 (cells8 (macF m))) := by unfold Hid; rw [macF, ← HPP.out]; exact hrm
  clear hx hlr HR4 y5 hba hb4 r24 r44 hrm HRE hgm0 hg1
  have hneE : ge ≠ g2 := by omega
  have hneM : gm ≠ g2 := by omega
  obtain ⟨w6, hr6, r6, gr6⟩ := copy_ex (P := Tryd.prog) (w := w5) 34 34 3 5 1 Tryd.underlying34 (by kernel_rfl) g2 0 16 16 16 16 16 (some ⟨g2, 0, none⟩) (some ⟨ge, 0, none⟩) _ (cells8 (encF m)) 58 r25 rfl (by rw [cells8_len, encF_len]) (fun _ => rfl) (fun _ => by obtain ⟨ad, e, _, hc⟩ := HRE5.out.2 (by omega); exact ⟨ad, e, hc⟩) (by rw [cells8_len, cells8_len, encF_len, List.length_replicate]; omega) (cells8_ones _)
  have b6 : Below w.heap.size w w6 := hb5.grown gr6 hb5.size (fun k hk => by cases hk; exact hg2w)
  have hcm6 : Cells w6 ⟨gm, 0, none⟩ (cells8 (macF m)) := by
    obtain ⟨ad, e, hl, hc⟩ := HRM.out.2 (by omega)
    cases e
    refine hc.keep (fun p hp => ?_)
    unfold World.cell?
    rw [gr6.block p.block (by rw [hp]; exact hl) (fun e => hneM (by rw [hp] at e; cases e; rfl))]
  obtain ⟨w7, hr7, r7, gr7⟩ := copy_ex (P := Tryd.prog) (w := w6) 34 34 3 5 1 Tryd.underlying34 (by kernel_rfl) g2 16 32 32 32 32 32 (some ⟨g2, 16, none⟩) (some ⟨gm, 0, none⟩) _ (cells8 (macF m)) 58 r6 rfl (by rw [cells8_len, macF_len]) (fun _ => rfl) (fun _ => ⟨_, rfl, hcm6⟩) (by rw [cells8_splice, cells8_len, cells8_len, macF_len, splice_len _ _ _ (by rw [encF_len, List.length_replicate]; omega), List.length_replicate]; omega) (cells8_ones _)
  have e7 : splice (splice (cells8 (List.replicate 48 0)) 0 (cells8 (encF m))) 16 (cells8 (macF m)) = cells8 (volF m) := by
    rw [cells8_splice, cells8_splice]
    rw [splice_zero, List.drop_replicate, encF_len]
    unfold splice volF
    rw [List.take_append_of_le_length (by rw [encF_len]; omega), List.take_of_length_le (by rw [encF_len]; omega), macF_len, List.drop_of_length_le (by rw [List.length_append, encF_len, List.length_replicate]; omega), List.append_nil]
  rw [e7] at r7
  have b7 : Below w.heap.size w w7 := b6.grown gr7 b6.size (fun k hk => by cases hk; exact hg2w)
  have HR6 := Lib.hid hr6
  have HR7 := Lib.hid hr7
  clear hr6 hr7 r6 gr6 gr7 e7 b6 hcm6 HRE5 HRM r25 hb5
  go_wp2_with (first
    | (refine wpList_copy_run rfl (.tmp 27) (.tmp 28) 34 34 rfl _ _ rfl rfl HR6.out ?_)
    | (refine wpList_copy_run rfl (.tmp 31) (.tmp 32) 34 34 rfl _ _ rfl rfl HR7.out ?_)
    | (refine wpList_load_row rfl 58 (.tmp 2) rfl g2 rfl 58 (cells8 (volF m)).toArray (0, 0) _ r7 Tryd.underlying58 rfl HIV2.out ?_)
    | (refine Row.store (g := g2) (t := 58) (L := cells8 (volF m)) (M := cells8 (volF m)) r7 rfl 58 (.tmp 2) (.tmp 34) rfl rfl rfl HIV.out rfl (cells8_one _) ?_; rintro wF hwF rF; have bF : Below w.heap.size w wF := (by rw [hwF]; exact b7.grown (grown_setRow _ _ _) b7.size (fun k hk => by cases hk; exact hg2w)); clear hwF))
  refine bodyPost_ret (v := .agg (cells8 (volF m)).toArray) (results_cell_row Tryd.results13 _ wF g2 58 _ (0, 0) _ rfl rF Tryd.underlying58 rfl HIV2.out) rfl ⟨rfl, bF⟩
end Go.Proofs.YtpobkoiaidgedaaDoor
