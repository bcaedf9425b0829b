/- HMAC. -/
import Derived.Test.YtbkpgmlibiclfaaGreatDoorShQ
import Derived.Test.YtbkpgmlibiclfaaGreatDoorSerl
namespace Go.Proofs.YtbkpgmlibiclfaaGreatDoor
open Go.RowKit

theorem write_n (L p : List B8) (cs : List Value) (A : Option Addr) (n c : Nat) (w : World) (hn : p.length = n) (hG : Glob w) (hs : Sta L cs) (hr : Rd w w.heap.size 1 A p.length (cells8 p)) (hc : n ≤ c) (hc2 : c ≤ maxLen) (hm : L.length + p.length < 1000000000) :
    Calls Tryz.prog 164 #[.agg cs.toArray, .slice A n c] w fun e w' => ∃ cs', e = .returned (.agg cs'.toArray) ∧ Sta (L ++ p) cs' ∧ Below w.heap.size w w' := by
  subst hn; exact write_any L p cs A c w hG hs hr hc hc2 hm
theorem hmac_len (k m : List B8) : (hmacF k m).length = 32 := shaF_len _

set_option maxRecDepth 100000 in
set_option maxHeartbeats 4000000 in
theorem macOf_any (A : Option Addr) (c : Nat) (k : List B8) (A2 : Option Addr) (n c2 : Nat) (vals : List Value) (ls : List (List B8)) (w : World) (hG : Glob w) (hrk : Rd w w.heap.size 1 A k.length (cells8 k)) (hk : k.length ≤ 64)
    (hn : n = ls.length) (hr : Rd w w.heap.size 1 A2 n vals) (hp : Parts w w.heap.size vals ls) (hm : ls.flatten.length < 800000000) (hnm : n < 1000000000) :
    Calls Tryz.prog 112 #[.slice A k.length c, .slice A2 n c2] w fun e w' => e = .returned (.agg (cells8 (hmacF k ls.flatten)).toArray) ∧ Below w.heap.size w w' := by
  have HM := Lib.hid hm
  have HN := Lib.hid hn
  have HG := Lib.hid hG
  have HR := Lib.hid hr
  have HP := Lib.hid hp
  have HK := Lib.hid hk
  have HRK := Lib.hid hrk
  have H5C : Hid ((xorC (keyB k) 0x5c#8).length = 64) := by unfold Hid; rw [xorC_len, keyB_len k hk]
  have H36 : Hid ((xorC (keyB k) 0x36#8).length = 64) := by unfold Hid; rw [xorC_len, keyB_len k hk]
  have HI2 := Lib.hid (show (Tryz.prog.info? 85).map (·.size) = some (cells8 (hmacF k ls.flatten)).length by rw [cells8_len, hmac_len]; kernel_rfl)
  have HI3 := Lib.hid (show (Tryz.prog.info? 85).map (·.size) = some (cells8 (hmacF k ls.flatten)).toArray.size by rw [List.size_toArray, cells8_len, hmac_len]; kernel_rfl)
  have HZ := Lib.hid (show (cells8 (List.replicate 32 0)).length = (cells8 (hmacF k ls.flatten)).length by rw [cells8_len, cells8_len, hmac_len]; rfl)
  clear hm hn hG hr hp hk hrk
  go_enter Tryz.func112, Tryz.ntmps112
  go_upto_region 1 with (fail)
  change Code.wp _ _ _ _ (w.alloc (.cells (cells8 (List.replicate 32 0)).toArray 85))
  obtain ⟨wz, hwz⟩ : ∃ wz, wz = (w.alloc (.cells (cells8 (List.replicate 32 0)).toArray 85)) := ⟨_, rfl⟩
  obtain ⟨g4, h4⟩ : ∃ g, g = w.heap.size := ⟨_, rfl⟩
  have hb : Below w.heap.size w wz := by rw [hwz]; exact (Below.refl _ _).alloc (Nat.le_refl _) _
  have r4 : Row wz g4 85 (cells8 (List.replicate 32 0)) := by rw [hwz, h4]; exact heap_alloc_new _ _
  have hg4w : w.heap.size ≤ g4 := by omega
  rw [← hwz, ← h4]
  clear hwz h4
  go_wp2_with fail
  refine (new_any _ (HG.out.step hb)).mono ?_
  rintro e w1 ⟨rfl, hb1⟩
  have r41 := r4.step hb1
  have b1 := hb.trans (hb1.mono hb.size)
  clear hb1 r4 hb
  go_wp2_with fail
  refine (padded_any A c k 0x36#8 54 rfl _ ((HRK.out.below b1 (Nat.le_refl _)).mono b1.size) HK.out).mono ?_
  rintro e w2 ⟨gp, rfl, rp, _, hb2⟩
  have r42 := r41.step hb2
  have b2 := b1.trans (hb2.mono b1.size)
  have HRP := Lib.hid rp.rdAll
  clear hb2 r41 b1 rp
  go_wp2_with fail
  refine (write_n [] (xorC (keyB k) 0x36#8) stNew _ 64 64 _ H36.out (HG.out.step b2) sta_new HRP.out (Nat.le_refl _) (by decide) (by have := H36.out; simp only [List.length_nil]; omega)).mono ?_
  rintro e w3 ⟨cs, rfl, hs, hb3⟩
  have r43 := r42.step hb3
  have b3 := b2.trans (hb3.mono b2.size)
  have HS : Hid (Sta (xorC (keyB k) 0x36#8) cs) := hs
  clear hb3 r42 b2 hs HRP
  have HI1 := Lib.hid (show (Tryz.prog.info? 339).map (·.size) = some cs.length from st_info HS.out.len)
  have HZ1 := Lib.hid (show st0.length = cs.length by rw [HS.out.len]; rfl)
  have HO1 := Lib.hid (all_oneCell_toArray HS.out.one)
  have S0 : Hid (Row (w3.alloc (.cells st0.toArray 339)) w3.heap.size 339 st0) := Lib.hid (heap_alloc_new _ _)
  have hg43 := r43.lt
  go_upto_region 3 with (refine Row.store (g := w3.heap.size) (t := 339) (L := st0) (M := cs) S0.out rfl 339 (.tmp 5) (.tmp 12) rfl rfl rfl HI1.out HZ1.out HO1.out ?_; rintro w4 hw4 r5; have b34 : Below w3.heap.size w3 w4 := (by rw [hw4]; exact ((Below.refl _ _).alloc (Nat.le_refl _) _).grown (grown_setRow _ _ _) (by simp) (fun k hk => by cases hk; exact Nat.le_refl _)); clear hw4)
  obtain ⟨g5, hg5⟩ : ∃ g, g = w3.heap.size := ⟨_, rfl⟩
  rw [← hg5] at r5 ⊢
  have hne : g4 ≠ g5 := by omega
  have hg5w : w.heap.size ≤ g5 := by have := b3.size; omega
  have r44 := r43.step b34
  have b4 := b3.trans (b34.mono b3.size)
  clear hg5 S0 HI1 HZ1 HO1 b34 b3 r43 hg43
  go_loopw [7, 15] (fun _ i wr => ∃ (j : Nat) (cs : List Value), j ≤ n ∧ i = .int .i64 (j : Int) ∧ Sta (xorC (keyB k) 0x36#8 ++ (ls.take j).flatten) cs ∧ Row wr g5 339 cs ∧ Row wr g4 85 (cells8 (List.replicate 32 0)) ∧ Below w.heap.size w wr) (fun _ i _ => n - (intOf i).toNat)
  case atStart => exact ⟨0, cs, Nat.zero_le _, rfl, by simpa using HS.out, r5, r44, b4⟩
  case round =>
    clear r5 r44 b4 HS
    obtain ⟨j, cs, hj, rfl, hs, r5, r4, hb⟩ := hrel
    have HS := Lib.hid hs
    have HI := Lib.hid hs.inf
    clear hs
    by_cases hlt : j < n
    · have hd : decide ((j : Int) < (n : Int)) = true := by simp; omega
      obtain ⟨l, hl⟩ : ∃ l, ls[j]? = some l := ⟨_, List.getElem?_eq_getElem (by rw [← HN.out]; exact hlt)⟩
      obtain ⟨Al, cl, hv, hc1, hc2, hrl⟩ := HP.out.2 j l hl
      obtain ⟨ad, hA, had, hcell⟩ := HR.out.cell1 hlt hv
      subst hA
      have c0 := (hb.cell (p := ad.add j) (by rw [add_block]; exact had)).trans hcell
      have hrl2 := (hrl.below hb (Nat.le_refl _)).mono hb.size
      have HC1 := Lib.hid hc1
      have HC2 := Lib.hid hc2
      have HRL := Lib.hid hrl2
      have HLEN : Hid ((xorC (keyB k) 0x36#8 ++ (ls.take j).flatten).length + l.length < 900000000) := by
        unfold Hid; have h1 := flat_take ls j l hl; have h2 := flat_len ls (j + 1); have := HM.out; have := H36.out; rw [h1, List.length_append] at h2; rw [List.length_append]; omega
      have HFL : Hid (xorC (keyB k) 0x36#8 ++ (ls.take j).flatten ++ l = xorC (keyB k) 0x36#8 ++ (ls.take (j + 1)).flatten) := by unfold Hid; rw [flat_take ls j l hl, List.append_assoc]
      clear hl hc1 hc2 hrl hrl2 hv hcell had
      go_wp2_with (first
        | (refine wpList_load_row rfl 339 (.tmp 5) rfl g5 rfl 339 cs.toArray (0, 0) _ r5 Tryz.underlying339 rfl HI.out ?_)
        | (go_at_call 164; fail))
      refine (write_any _ l cs _ cl _ (HG.out.step hb) HS.out HRL.out HC1.out HC2.out (by have := HLEN.out; omega)).mono ?_
      rintro e w1 ⟨c1, rfl, hs1, hx⟩
      rw [HFL.out] at hs1
      have r51 := r5.step hx
      have r41 := r4.step hx
      have b1 := hb.trans (hx.mono hb.size)
      have HS1 := Lib.hid hs1
      clear hx r5 r4 hb HI hs1 c0 hd
      have HI1 := Lib.hid (show (Tryz.prog.info? 339).map (·.size) = some c1.length from st_info HS1.out.len)
      have HZ1 := Lib.hid (show cs.length = c1.length by rw [HS.out.len, HS1.out.len])
      have HO1 := Lib.hid (all_oneCell_toArray HS1.out.one)
      go_wp2_with (refine Row.store (g := g5) (t := 339) (L := cs) (M := c1) r51 rfl 339 (.tmp 5) (.tmp 21) rfl rfl rfl HI1.out HZ1.out HO1.out ?_; rintro w2 hw2 r52; have b2 : Below w.heap.size w w2 := (by rw [hw2]; exact b1.grown (grown_setRow _ _ _) b1.size (fun k hk => by cases hk; exact hg5w)); have r42 : Row w2 g4 85 (cells8 (List.replicate 32 0)) := (by rw [hw2]; exact r41.other hne _); clear hw2)
      clear r51 b1 r41 HI1 HZ1 HO1
      go_roundw
      case rel => exact ⟨j + 1, c1, by omega, by go_num, HS1.out, r52, r42, b2⟩
      case measure => simp [intOf]; omega
    · have hjn : j = n := by omega
      have hd : decide ((j : Int) < (n : Int)) = false := by simp; omega
      obtain ⟨M, hM⟩ : ∃ M, M = xorC (keyB k) 0x36#8 ++ ls.flatten := ⟨_, rfl⟩
      have hall : xorC (keyB k) 0x36#8 ++ (ls.take j).flatten = M := by rw [hM, hjn, HN.out, List.take_length]
      have HS2 : Hid (Sta M cs) := by unfold Hid; rw [← hall]; exact HS.out
      have HMM := Lib.hid hM
      have HML : Hid (M.length < 900000000) := by unfold Hid; rw [hM, List.length_append, H36.out]; have := HM.out; omega
      clear hjn hall hM HS
      go_wp2_with (first
        | (refine wpList_load_row rfl 339 (.tmp 5) rfl g5 rfl 339 cs.toArray (0, 0) _ r5 Tryz.underlying339 rfl HI.out ?_)
        | (go_at_call 165; fail))
      refine (sum_any _ cs _ (HG.out.step hb) HS2.out HML.out).mono ?_
      rintro e w3 ⟨rfl, hx⟩
      have r43 := r4.step hx
      have b3 := hb.trans (hx.mono hb.size)
      have HI4 := Lib.hid (show (Tryz.prog.info? 85).map (·.size) = some (cells8 (shaF M)).length by rw [cells8_len, shaF_len]; kernel_rfl)
      have HZ4 := Lib.hid (show (cells8 (List.replicate 32 0)).length = (cells8 (shaF M)).length by rw [cells8_len, cells8_len, shaF_len]; rfl)
      clear hx r4 hb hd r5 HI HS2 HML
      have S0 : Hid (Row (w3.alloc (.cells (cells8 (List.replicate 32 0)).toArray 85)) w3.heap.size 85 (cells8 (List.replicate 32 0))) := Lib.hid (heap_alloc_new _ _)
      go_upto_region 8 with (refine Row.store (g := w3.heap.size) (t := 85) (L := cells8 (List.replicate 32 0)) (M := cells8 (shaF M)) S0.out rfl 85 (.tmp 8) (.tmp 24) rfl rfl rfl HI4.out HZ4.out (cells8_one _) ?_; rintro w4 hw4 r8; have b34 : Below w3.heap.size w3 w4 := (by rw [hw4]; exact ((Below.refl _ _).alloc (Nat.le_refl _) _).grown (grown_setRow _ _ _) (by simp) (fun k hk => by cases hk; exact Nat.le_refl _)); clear hw4)
      obtain ⟨g8, hg8⟩ : ∃ g, g = w3.heap.size := ⟨_, rfl⟩
      rw [← hg8] at r8 ⊢
      have r4 := r43.step b34
      have bx := b3.trans (b34.mono b3.size)
      clear hg8 S0 HI4 HZ4 b34 b3 r43
      try simp only [Act.put]
      refine wp_region_held_drew (S := (fun _ => True)) (by kernel_rfl) trivial (fun hHeld => ?_)
      refine take_run 0 (v := ?_) rfl (by kernel_rfl) (by kernel_rfl) (by kernel_rfl) (fun _ _ _ h => h) rfl ?_ hHeld ?_
      rotate_left
      · intro w hSw; (try dsimp only at hSw); go_simp <;> with_reducible rfl
      try simp only [Act.put, List.setIfInBounds_toArray, List.set_cons_zero, List.set_cons_succ]
      refine take_run 2 (v := ?_) rfl (by kernel_rfl) (by kernel_rfl) (by kernel_rfl) (fun _ _ _ h => h) rfl ?_ hHeld ?_
      rotate_left
      · intro w hSw; (try dsimp only at hSw); go_simp <;> with_reducible rfl
      try simp only [Act.put, List.setIfInBounds_toArray, List.set_cons_zero, List.set_cons_succ]
      refine take_call 1 rfl (by kernel_rfl) rfl (fun K hK => ?_)
      go_simp
      refine (padded_any A c k 0x5c#8 92 rfl w4.drew (Rd.drew ((HRK.out.below bx (Nat.le_refl _)).mono bx.size)) HK.out).mono ?_
      rintro e w6 ⟨gp, rfl, rp, hgp, hbx⟩
      have y6 : Below w4.heap.size w4 w6 := below_of_drew hbx
      have r46 := r4.step y6
      have r86 := r8.step y6
      have hgp4 : gp ≠ g4 := by have := r4.lt; have h : w4.heap.size ≤ gp := hgp; omega
      clear hbx
      try dsimp only
      refine hK.out _ _ trivial (fun hHeld => ?_)
      clear hK K
      try simp only [Act.put, List.setIfInBounds_toArray, List.set_cons_zero, List.set_cons_succ]
      refine take_call 3 rfl (by kernel_rfl) rfl (fun K hK => ?_)
      go_simp
      refine hK.out _ _ trivial (fun hHeld => ?_)
      clear hK K
      try simp only [Act.put, List.setIfInBounds_toArray, List.set_cons_zero, List.set_cons_succ]
      refine take_call 4 rfl (by kernel_rfl) rfl (fun K hK => ?_)
      go_simp
      have yb : Below w6.heap.size w6 (w6.alloc (.cells #[.slice (some ⟨gp, 0, none⟩) 64 64, .slice (some ⟨g8, 0, none⟩) 32 32] 24)) := (Below.refl _ _).alloc (Nat.le_refl _) _
      have hra : Rd w6 w6.heap.size 1 (some ⟨gp, 0, none⟩) (xorC (keyB k) 0x5c#8).length (cells8 (xorC (keyB k) 0x5c#8)) := rp.rdAll
      have hrb : Rd w6 w6.heap.size 1 (some ⟨g8, 0, none⟩) (shaF M).length (cells8 (shaF M)) := r86.rdAll
      have hpp := (Parts.cons hra (Nat.le_refl _) (by rw [H5C.out]; decide) (Parts.cons hrb (Nat.le_refl _) (by rw [shaF_len]; decide) Parts.nil)).step yb
      rw [H5C.out, shaF_len] at hpp
      refine (of_any (some ⟨w6.heap.size, 0, none⟩) 2 2 _ [xorC (keyB k) 0x5c#8, shaF M] _ (HG.out.step (bx.trans ((y6.trans (yb.mono y6.size)).mono bx.size))) rfl (Rd.lit1 (cs := [.slice (some ⟨gp, 0, none⟩) 64 64, .slice (some ⟨g8, 0, none⟩) 32 32]) rfl rfl) hpp (by simp only [List.flatten_cons, List.flatten_nil, List.length_append, H5C.out, shaF_len, List.length_nil]; omega) (by omega)).mono ?_
      rintro e w9 ⟨rfl, hbx⟩
      have y9 : Below w4.heap.size w4 w9 := y6.trans ((yb.trans (hbx.mono yb.size)).mono y6.size)
      have r49 := r4.step y9
      clear hbx hpp hra hrb yb
      try dsimp only
      refine hK.out _ _ trivial (fun hHeld => ?_)
      clear hK K
      try simp only [Act.put, List.setIfInBounds_toArray, List.set_cons_zero, List.set_cons_succ]
      refine take_call 5 rfl (by kernel_rfl) rfl (fun K hK => ?_)
      have hfl : shaF [xorC (keyB k) 0x5c#8, shaF M].flatten = hmacF k ls.flatten := by rw [HMM.out]; simp [hmacF]
      rw [hfl]
      refine wp_store_whole 85 (.tmp 4) (.tmp 29) rfl g4 85 (cells8 (List.replicate 32 0)) (cells8 (hmacF k ls.flatten)) rfl rfl r49 HI2.out HZ.out (cells8_ones _) ?_
      intro wF rF grF
      have bF : Below w.heap.size w wF := (bx.trans (y9.mono bx.size)).grown grF (Nat.le_trans bx.size y9.size) (fun k hk => by cases hk; exact hg4w)
      try dsimp only
      refine hK.out _ _ trivial (fun hHeld => ?_)
      clear hK K
      try simp only [Act.put]
      refine wpAnyH_done (by kernel_rfl) ?_ _
      go_wp2
      refine bodyPost_ret (v := .agg (cells8 (hmacF k ls.flatten)).toArray) (results_cell_row Tryz.results112 _ wF g4 85 _ (0, 0) _ rfl rF Tryz.underlying85 rfl HI3.out) rfl ⟨rfl, bF⟩
end Go.Proofs.YtbkpgmlibiclfaaGreatDoor
