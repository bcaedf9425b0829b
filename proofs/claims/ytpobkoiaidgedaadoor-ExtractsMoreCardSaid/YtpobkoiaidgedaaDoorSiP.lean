/- T.Of: the trace of a law's argument. -/
import Derived.Test.YtpobkoiaidgedaaDoorSjC
namespace Go.Proofs.YtpobkoiaidgedaaDoor
open Go.RowKit

theorem build_key0 : Tryd.prog.built 43 [] = some (cells8 (List.replicate 32 0)).toArray := by kernel_rfl
theorem key0_len : (List.replicate 32 (0 : B8)).length = 32 := by simp
/-- The tags' key of the master key of zeros. -/
def mk0 : List B8 := macF (List.replicate 32 0)

set_option maxRecDepth 100000 in
set_option maxHeartbeats 16000000 in
theorem tOf_any (A1 A2 A3 A4 : Option Addr) (n1 c1 n2 c2 n3 c3 n4 c4 : Nat) (es1 es2 : List DE) (es3 es4 : List ME) (w : World)
    (hr1 : Rd w w.heap.size 2 A1 n1 (es1.flatMap DE.cells)) (ho1 : ∀ e ∈ es1, e.ok w) (hr2 : Rd w w.heap.size 2 A2 n2 (es2.flatMap DE.cells)) (ho2 : ∀ e ∈ es2, e.ok w)
    (hr3 : Rd w w.heap.size 5 A3 n3 (es3.flatMap ME.cells)) (hr4 : Rd w w.heap.size 5 A4 n4 (es4.flatMap ME.cells)) :
    Calls Tryd.prog 6 #[.agg #[.slice A1 n1 c1, .slice A2 n2 c2, .slice A3 n3 c3, .slice A4 n4 c4]] w fun e w' =>
      ∃ (va vb vc vd : Value) (xa xc : List (List Value)), e = .returned (.agg #[va, vb, vc, vd, .slice none 0 0]) ∧ RowD w' w.heap.size va ((es1.take 8).map DE.dig) xa ∧ RowM w' w.heap.size vb ((es3.take 8).map (ME.msg mk0)) ∧ RowD w' w.heap.size vc ((es2.take 8).map DE.dig) xc ∧ RowM w' w.heap.size vd ((es4.take 8).map (ME.msg mk0)) ∧ Sep va vc ∧ Sep vb vd ∧ Below w.heap.size w w' := by
  have HR1 := Lib.hid hr1
  have HR2 := Lib.hid hr2
  have HR3 := Lib.hid hr3
  have HR4 := Lib.hid hr4
  have HO1 := Lib.hid ho1
  have HO2 := Lib.hid ho2
  have HN1 : Hid (n1 = es1.length) := Lib.hid (by have := hr1.1; rw [flatMap_len DE.cells 2 (fun _ => rfl)] at this; omega)
  have HN2 : Hid (n2 = es2.length) := Lib.hid (by have := hr2.1; rw [flatMap_len DE.cells 2 (fun _ => rfl)] at this; omega)
  have HN3 : Hid (n3 = es3.length) := Lib.hid (by have := hr3.1; rw [flatMap_len ME.cells 5 (fun _ => rfl)] at this; omega)
  have HN4 : Hid (n4 = es4.length) := Lib.hid (by have := hr4.1; rw [flatMap_len ME.cells 5 (fun _ => rfl)] at this; omega)
  clear hr1 hr2 hr3 hr4 ho1 ho2
  obtain ⟨mk, hmk⟩ : ∃ mk, mk = mk0 := ⟨_, rfl⟩
  rw [← hmk]
  have HMK : Hid (mk.length = 32) := Lib.hid (by rw [hmk]; exact macF_len _)
  have HMKE := Lib.hid hmk
  clear hmk
  obtain ⟨w0, hw0⟩ : ∃ w0 : World, w0 = w := ⟨_, rfl⟩
  subst hw0
  go_enter Tryd.func6, Tryd.ntmps6
  obtain ⟨z, hz⟩ : ∃ z : List B8, z = List.replicate 32 0 := ⟨_, rfl⟩
  have HB := Lib.hid (show Tryd.prog.built 43 [] = some (cells8 z).toArray by rw [hz]; exact build_key0)
  have HZ : Hid (z.length = 32) := Lib.hid (by rw [hz]; exact key0_len)
  have HZM : Hid (macF z = mk) := Lib.hid (by rw [HMKE.out, hz]; rfl)
  clear hz
  obtain ⟨ss, hss⟩ : ∃ ss : List Value, ss = [.slice A1 n1 c1, .slice A2 n2 c2, .slice A3 n3 c3, .slice A4 n4 c4] := ⟨_, rfl⟩
  have HSS := Lib.hid hss
  clear hss
  go_upto_region 1 with (fail)
  change Code.wp _ _ _ _ ((w0.alloc (.cells [Value.slice A1 n1 c1, .slice A2 n2 c2, .slice A3 n3 c3, .slice A4 n4 c4].toArray 25)).alloc (.cells zTr.toArray 30))
  obtain ⟨wz, hwz⟩ : ∃ wz, wz = ((w0.alloc (.cells [Value.slice A1 n1 c1, .slice A2 n2 c2, .slice A3 n3 c3, .slice A4 n4 c4].toArray 25)).alloc (.cells zTr.toArray 30)) := ⟨_, rfl⟩
  obtain ⟨g1, h1⟩ : ∃ g, g = w0.heap.size := ⟨_, rfl⟩
  obtain ⟨g2, h2⟩ : ∃ g, g = w0.heap.size + 1 := ⟨_, rfl⟩
  have hb : Below w0.heap.size w0 wz := by rw [hwz]; exact below_alloc2 (Below.refl _ _)
  have r1 : Row wz g1 25 ss := by
    rw [HSS.out, hwz, h1, Row, ((Below.refl _ _).alloc (Nat.le_refl _) _).block w0.heap.size (by simp)]; exact heap_alloc_new _ _
  have r2 : Row wz g2 30 zTr := by rw [hwz, h2]; exact heap_new_at (by simp)
  have hszz : wz.heap.size = w0.heap.size + 2 := by rw [hwz]; simp
  rw [← hwz, ← h2, ← h1]
  have H12 : Hid (g1 = w0.heap.size ∧ g2 = w0.heap.size + 1 ∧ wz.heap.size = w0.heap.size + 2) := ⟨h1, h2, hszz⟩
  clear hwz h1 h2 hszz
  go_wp2_with (refine wpList_build_as rfl _ _ rfl _ _ HB.out (by kernel_rfl) ?_)
  refine (refKeys_any z HZ.out wz).mono ?_
  rintro er wk ⟨rfl, hbk⟩
  rw [HZM.out]
  have HIE := Lib.hid (show (Tryd.prog.info? 44).map (·.size) = some (cells8 (encF z)).length by rw [cells8_len, encF_len]; kernel_rfl)
  have HZE := Lib.hid (show (cells8 (List.replicate 16 0)).length = (cells8 (encF z)).length by rw [cells8_len, cells8_len, encF_len]; rfl)
  have HIM := Lib.hid (show (Tryd.prog.info? 43).map (·.size) = some (cells8 mk).length by rw [cells8_len, HMK.out]; kernel_rfl)
  have HIK := Lib.hid (show (Tryd.prog.info? 43).map (·.size) = some (cells8 mk).toArray.size by rw [List.size_toArray, cells8_len, HMK.out]; kernel_rfl)
  have HZK := Lib.hid (show (cells8 (List.replicate 32 0)).length = (cells8 mk).length by rw [cells8_len, cells8_len, HMK.out]; rfl)
  have S3 : Hid (Row ((wk.alloc (.cells (cells8 (List.replicate 16 0)).toArray 44)).alloc (.cells (cells8 (List.replicate 32 0)).toArray 43)) wk.heap.size 44 (cells8 (List.replicate 16 0))) := by
    unfold Hid; rw [Row, ((Below.refl _ _).alloc (Nat.le_refl _) _).block wk.heap.size (by simp)]; exact heap_alloc_new _ _
  have S4 : Hid (Row ((wk.alloc (.cells (cells8 (List.replicate 16 0)).toArray 44)).alloc (.cells (cells8 (List.replicate 32 0)).toArray 43)) (wk.heap.size + 1) 43 (cells8 (List.replicate 32 0))) := Lib.hid (heap_new_at (by simp))
  have hba : Below wk.heap.size wk ((wk.alloc (.cells (cells8 (List.replicate 16 0)).toArray 44)).alloc (.cells (cells8 (List.replicate 32 0)).toArray 43)) := below_alloc2 (Below.refl _ _)
  have r1k := r1.step hbk
  have r2k := r2.step hbk
  have bk := hb.trans (hbk.mono hb.size)
  have hszk : wz.heap.size ≤ wk.heap.size := hbk.size
  clear r1 r2 hb hbk
  go_upto_region 2 with (first
    | (refine Row.store (g := wk.heap.size) (t := 44) (L := cells8 (List.replicate 16 0)) (M := cells8 (encF z)) S3.out rfl 44 (.tmp 3) (.tmp 13) rfl rfl rfl HIE.out HZE.out (cells8_one _) ?_; rintro w1 hw1 r3; have r41 : Row w1 (wk.heap.size + 1) 43 (cells8 (List.replicate 32 0)) := (by rw [hw1]; exact S4.out.other (Nat.succ_ne_self _) _); have b1 : Below wk.heap.size wk w1 := (by rw [hw1]; exact hba.grown (grown_setRow _ _ _) hba.size (fun k hk => by cases hk; exact Nat.le_refl _)); clear hw1 r3)
    | (refine Row.store (g := wk.heap.size + 1) (t := 43) (L := cells8 (List.replicate 32 0)) (M := cells8 mk) r41 rfl 43 (.tmp 4) (.tmp 14) rfl rfl rfl HIM.out HZK.out (cells8_one _) ?_; rintro w2 hw2 r4; have b2 : Below wk.heap.size wk w2 := (by rw [hw2]; exact b1.grown (grown_setRow _ _ _) b1.size (fun k hk => by cases hk; exact Nat.le_succ _)); have hlt4 := r41.lt; have hsz2 : w2.heap.size = w1.heap.size := (by rw [hw2]; simp); have HSZ2 := Lib.hid hsz2; clear hsz2; clear hw2))
  obtain ⟨g4, h4⟩ : ∃ g, g = wk.heap.size + 1 := ⟨_, rfl⟩
  obtain ⟨g3, h3⟩ : ∃ g, g = wk.heap.size := ⟨_, rfl⟩
  have h4w : g4 < w2.heap.size := by rw [h4, HSZ2.out]; exact hlt4
  have r12 := r1k.step b2
  have r22 := r2k.step b2
  rw [← h4] at r4 ⊢
  rw [← h3]
  have b02 := bk.trans (b2.mono bk.size)
  have hsz02 := b2.size
  have h34 : wz.heap.size ≤ g4 := by omega
  clear r1k r2k S3 S4 hba b1 r41 b2 bk h3 h4 hlt4
  go_upto_region 3 with (fail)
  change Code.wp _ _ _ _ (w2.alloc (.cells zTr.toArray 30))
  obtain ⟨w5, hw5⟩ : ∃ w5, w5 = (w2.alloc (.cells zTr.toArray 30)) := ⟨_, rfl⟩
  obtain ⟨g5, h5⟩ : ∃ g, g = w2.heap.size := ⟨_, rfl⟩
  have b5 : Below w2.heap.size w2 w5 := by rw [hw5]; exact (Below.refl _ _).alloc (Nat.le_refl _) _
  have r55 : Row w5 g5 30 zTr := by rw [hw5, h5]; exact heap_alloc_new _ _
  rw [← hw5, ← h5]
  have HNE : Hid (g1 ≠ g5 ∧ g2 ≠ g5 ∧ g4 ≠ g5 ∧ w0.heap.size ≤ g5) := by unfold Hid; have := H12.out; refine ⟨by omega, by omega, by omega, by omega⟩
  have HT0 : Hid (TL w0 g1 g2 g4 g5 ss mk w5 (.slice none 0 0) (.slice none 0 0) (.slice none 0 0) (.slice none 0 0) [] [] [] [] [] []) :=
    ⟨⟨r55, RowD.nil, RowM.nil, RowD.nil, RowM.nil, .inl rfl, .inl rfl⟩, r12.step b5, r22.step b5, r4.step b5, b02.trans (b5.mono b02.size)⟩
  have hg20 : w0.heap.size ≤ g2 := by have := H12.out; omega
  have HIF : Hid ((Tryd.prog.info? 30).map (·.size) = some 5) := Lib.hid (by kernel_rfl)
  have HI33 : Hid ((Tryd.prog.info? 41).map (fun i => (i.zero.isSome, i.size)) = some (true, 33)) := Lib.hid (by kernel_rfl)
  have HI67 : Hid ((Tryd.prog.info? 54).map (fun i => (i.zero.isSome, i.size)) = some (true, 67)) := Lib.hid (by kernel_rfl)
  clear hw5 h5 h4w hszk hsz02 b5 b02 r55 r12 r22 r4 h34 H12 HSZ2
  go_wp2
  go_loopw [6] (fun i wr => ∃ (k : Nat) (va : Value) (xa : List (List Value)), k ≤ n1 ∧ k ≤ 8 ∧ i = .int .i64 (k : Int) ∧ TL w0 g1 g2 g4 g5 ss mk wr va (.slice none 0 0) (.slice none 0 0) (.slice none 0 0) ((es1.take k).map DE.dig) [] xa [] [] []) (fun i _ => 8 - (intOf i).toNat)
  case atStart => exact ⟨0, .slice none 0 0, [], Nat.zero_le _, Nat.zero_le _, rfl, HT0.out⟩
  case round =>
    obtain ⟨k, va, xa, hk, hk8, rfl, htl⟩ := hrel
    have HTL := Lib.hid htl
    have ct : wr.cell? ⟨g1, 0, none⟩ = some (.slice A1 n1 c1) := by have h := htl.r1; rw [HSS.out] at h; exact h.cell rfl
    clear htl
    have hk0 : (0 : Int) ≤ (k : Int) := by omega
    obtain ⟨bq, hbq⟩ : ∃ b, b = decide (k < n1 ∧ k < 8) := ⟨_, rfl⟩
    have HBQ := Lib.hid hbq
    clear hbq
    go_upto_region 4 with (fail)
    go_cut [23] (fun s wx => s = .bool bq ∧ wx = wr)
    case first =>
      by_cases h1 : k < n1
      · have hd1 : decide ((k : Int) < (n1 : Int)) = true := by simp; omega
        have hkn : (k : Int) < (n1 : Int) := by omega
        by_cases h2 : k < 8
        · have hd2 : decide ((k : Int) < 8) = true := by simp; omega
          have hk8' : (k : Int) < 8 := by omega
          go_wp2
          go_meet
          case rel => exact ⟨by rw [HBQ.out]; simp [h1, h2], rfl⟩
        · have hd2 : decide ((k : Int) < 8) = false := by simp; omega
          have hk8' : ¬ (k : Int) < 8 := by omega
          go_wp2
          go_meet
          case rel => exact ⟨by rw [HBQ.out]; simp [h2], rfl⟩
      · have hd1 : decide ((k : Int) < (n1 : Int)) = false := by simp; omega
        have hkn : ¬ (k : Int) < (n1 : Int) := by omega
        go_wp2
        go_meet
        case rel => exact ⟨by rw [HBQ.out]; simp [h1], rfl⟩
    case rest =>
      obtain ⟨rfl, hwx⟩ := hcut
      rename World => wx
      subst hwx
      cases bq with
      | true =>
        have hlt : k < n1 ∧ k < 8 := of_decide_eq_true HBQ.out.symm
        have hkn : (k : Int) < (n1 : Int) := by omega
        have hkn' : k < n1 := hlt.1
        have hk8c : k < 8 := hlt.2
        obtain ⟨e, he⟩ : ∃ e, es1[k]? = some e := ⟨_, List.getElem?_eq_getElem (by rw [← HN1.out]; exact hlt.1)⟩
        obtain ⟨ad, hA, had, c0, c1⟩ := HR1.out.atD he
        have HOK := Lib.hid (HO1.out e (List.mem_of_getElem? he))
        subst hA
        have HAD : Hid ((ad.add (k * 2)).block < w0.heap.size) := Lib.hid (by rw [add_block]; exact had)
        have C0 := Lib.hid c0
        have C1 := Lib.hid c1
        clear had c0 c1 hlt
        have k0 : wx.cell? (ad.add (k * 2)) = some (.slice e.A e.b.length e.c) := (HTL.out.b.cell (p := ad.add (k * 2)) HAD.out).trans C0.out
        have k1 : wx.cell? (⟨(ad.add (k * 2)).block, (ad.add (k * 2)).off + 1, none⟩) = some (.bool e.bad) := (HTL.out.b.cell (p := ⟨(ad.add (k * 2)).block, (ad.add (k * 2)).off + 1, none⟩) HAD.out).trans C1.out
        have HE := Lib.hid he
        have ca : wx.cell? ⟨g5, 0, none⟩ = some va := HTL.out.t.row.cell rfl
        clear he
        go_upto_region 6 with (fail)
        refine anyU_begin (S := (fun w => w.cell? ⟨g5, 0, none⟩ = some va ∧ w.cell? ⟨g1, 0, none⟩ = some (.slice (some ad) n1 c1) ∧ w.cell? (ad.add (k * 2)) = some (.slice e.A e.b.length e.c) ∧ w.cell? (⟨(ad.add (k * 2)).block, (ad.add (k * 2)).off + 1, none⟩) = some (.bool e.bad))) (M := (fun j => j == 11)) (by kernel_rfl) ⟨ca, ct, k0, k1⟩ (fun hHeld => ?_)
        refine takeU_run 0 (v := ?_) rfl (by kernel_rfl) (by kernel_rfl) (by kernel_rfl) (by kernel_rfl) (fun _ _ _ h => h) rfl ?_ hHeld ?_
        rotate_left
        · intro w hSw; (try dsimp only at hSw); go_simp <;> with_reducible rfl
        try simp only [Act.put, List.setIfInBounds_toArray, List.set_cons_zero, List.set_cons_succ]
        refine takeU_run 1 (v := ?_) rfl (by kernel_rfl) (by kernel_rfl) (by kernel_rfl) (by kernel_rfl) (fun _ _ _ h => h) rfl ?_ hHeld ?_
        rotate_left
        · intro w hSw; (try dsimp only at hSw); go_simp <;> with_reducible rfl
        try simp only [Act.put, List.setIfInBounds_toArray, List.set_cons_zero, List.set_cons_succ]
        refine takeU_run 2 (v := ?_) rfl (by kernel_rfl) (by kernel_rfl) (by kernel_rfl) (by kernel_rfl) (fun _ _ _ h => h) rfl ?_ hHeld ?_
        rotate_left
        · intro w hSw; (try dsimp only at hSw); go_simp <;> with_reducible rfl
        try simp only [Act.put, List.setIfInBounds_toArray, List.set_cons_zero, List.set_cons_succ]
        refine takeU_run 3 (v := ?_) rfl (by kernel_rfl) (by kernel_rfl) (by kernel_rfl) (by kernel_rfl) (fun _ _ _ h => h) rfl ?_ hHeld ?_
        rotate_left
        · intro w hSw; (try dsimp only at hSw); go_simp <;> with_reducible rfl
        try simp only [Act.put, List.setIfInBounds_toArray, List.set_cons_zero, List.set_cons_succ]
        refine takeU_run 4 (v := ?_) rfl (by kernel_rfl) (by kernel_rfl) (by kernel_rfl) (by kernel_rfl) (fun _ _ _ h => h) rfl ?_ hHeld ?_
        rotate_left
        · intro w hSw; (try dsimp only at hSw); go_simp <;> with_reducible rfl
        try simp only [Act.put, List.setIfInBounds_toArray, List.set_cons_zero, List.set_cons_succ]
        refine takeU_run 5 (v := ?_) rfl (by kernel_rfl) (by kernel_rfl) (by kernel_rfl) (by kernel_rfl) (fun _ _ _ h => h) rfl ?_ hHeld ?_
        rotate_left
        · intro w hSw; (try dsimp only at hSw); go_simp <;> with_reducible rfl
        try simp only [Act.put, List.setIfInBounds_toArray, List.set_cons_zero, List.set_cons_succ]
        refine takeU_run 6 (v := ?_) rfl (by kernel_rfl) (by kernel_rfl) (by kernel_rfl) (by kernel_rfl) (fun _ _ _ h => h) rfl ?_ hHeld ?_
        rotate_left
        · intro w hSw; (try dsimp only at hSw); go_simp <;> with_reducible rfl
        try simp only [Act.put, List.setIfInBounds_toArray, List.set_cons_zero, List.set_cons_succ]
        refine takeU_call 7 rfl (by kernel_rfl) rfl (fun K hK => ?_)
        go_simp
        refine (dOf_any e.A _ e.c e.b e.bad _ (Rd.drew ((HOK.out.2.2.step HTL.out.b))) HOK.out.1 HOK.out.2.1).mono ?_
        rintro er w2 ⟨cs, rfl, hdg, hbx⟩
        have y2 : Below wx.heap.size wx w2 := below_of_drew hbx
        have HDG := Lib.hid (DigO.mono (B := wx.heap.size) (B' := w0.heap.size) (x := e.dig) hdg HTL.out.b.size)
        have HCL := Lib.hid HDG.out.is.len
        have HCO := Lib.hid HDG.out.is.one
        clear hbx hdg
        try dsimp only
        try clear hHeld
        refine hK.out _ _ ⟨keep_cl y2 ca, keep_cl y2 ct, keep_cl y2 k0, keep_cl y2 k1⟩ (fun hHeld => ?_)
        clear hK K
        try simp only [Act.put, List.setIfInBounds_toArray, List.set_cons_zero, List.set_cons_succ]
        refine takeU_call 8 rfl (by kernel_rfl) rfl (fun K hK => ?_)
        refine wp_exec (exec_lit1 26 41 (.tmp 33) rfl cs 33 rfl Tryd.underlying26 HI33.out HCL.out (by decide) (by decide)) ?_
        have y3 : Below wx.heap.size wx (w2.alloc (.cells cs.toArray 41)) := y2.alloc y2.size _
        have HL3 : Hid (Rd (w2.alloc (.cells cs.toArray 41)) (w2.alloc (.cells cs.toArray 41)).heap.size 33 (some ⟨w2.heap.size, 0, none⟩) 1 cs) := Lib.hid (Rd.lit1 rfl (by rw [HCL.out]))
        obtain ⟨w3, hw3⟩ : ∃ w3, w3 = (w2.alloc (.cells cs.toArray 41)) := ⟨_, rfl⟩
        have HDG3 : Hid (DigO w3 w0.heap.size e.dig cs) := Lib.hid (by rw [hw3]; exact HDG.out.below ((Below.refl w2.heap.size w2).alloc (Nat.le_refl _) _) (Nat.le_refl _))
        rw [← hw3] at y3 HL3 ⊢
        have HT3 := Lib.hid (HTL.out.step y3)
        clear hw3
        try dsimp only
        try clear hHeld
        refine hK.out _ _ ⟨keep_cl y3 ca, keep_cl y3 ct, keep_cl y3 k0, keep_cl y3 k1⟩ (fun hHeld => ?_)
        clear hK K
        try simp only [Act.put, List.setIfInBounds_toArray, List.set_cons_zero, List.set_cons_succ]
        refine takeU_call 9 rfl (by kernel_rfl) rfl (fun K hK => ?_)
        obtain ⟨i0, hi0, hz0, hz1, hz2⟩ := info_parts info_digp
        refine wp_append_rd w3 (.tmp 27) (.tmp 34) 26 rfl w0.heap.size 41 i0 _ 33 56 Tryd.underlying26 hi0 hz0 hz1 hz2 rfl (by decide) _ _ _ rfl HT3.out.t.a.2.2 _ _ 1 1 cs rfl HL3.out HCO.out (by rw [List.length_map, List.length_take]; unfold maxLen; omega) (by rw [List.length_map, List.length_take]; omega) HT3.out.b.size ?_
        intro v' w4 ho4 gr4 hv4
        obtain ⟨A', c', hv', _, _⟩ := own_slice ho4
        obtain ⟨m', hm'⟩ : ∃ m', v' = .slice A' m' c' := ⟨_, hv'⟩
        clear hv'
        subst hm'
        have HO4 := Lib.hid ho4
        have HV4 := Lib.hid hv4
        have HR5 := Lib.hid (row_keep HT3.out.t.row gr4 (fun e => own_off HT3.out.t.a.2.2 HT3.out.t.row (by decide) e.symm))
        have HG4 := Lib.hid gr4
        have r14 := row_keep HT3.out.r1 gr4 (fun e => own_off HT3.out.t.a.2.2 HT3.out.r1 (by decide) e.symm)
        have HR44 := Lib.hid (row_keep HT3.out.r4 gr4 (fun e => own_off HT3.out.t.a.2.2 HT3.out.r4 (by decide) e.symm))
        rw [HSS.out] at r14
        have c5 : w4.cell? ⟨g5, 0, none⟩ = some va := HR5.out.cell rfl
        have c14 : w4.cell? ⟨g1, 0, none⟩ = some (.slice (some ad) n1 c1) := r14.cell rfl
        have f5 := HR5.out.free 0
        have hb4 := HT3.out.b.grown gr4 HT3.out.b.size (fun k hk => (World.ownsRow.lt HT3.out.t.a.2.2 k hk).1)
        have m0 : w4.cell? (ad.add (k * 2)) = some (.slice e.A e.b.length e.c) := (hb4.cell (p := ad.add (k * 2)) HAD.out).trans C0.out
        have m1 : w4.cell? (⟨(ad.add (k * 2)).block, (ad.add (k * 2)).off + 1, none⟩) = some (.bool e.bad) := (hb4.cell (p := ⟨(ad.add (k * 2)).block, (ad.add (k * 2)).off + 1, none⟩) HAD.out).trans C1.out
        clear ho4 hv4 gr4 r14 hb4
        try dsimp only
        try clear hHeld
        refine hK.out _ _ ⟨c5, c14, m0, m1⟩ (fun hHeld => ?_)
        clear hK K
        try simp only [Act.put, List.setIfInBounds_toArray, List.set_cons_zero, List.set_cons_succ]
        refine takeU_run 10 (v := ?_) rfl (by kernel_rfl) (by kernel_rfl) (by kernel_rfl) (by kernel_rfl) (fun _ _ _ h => h) rfl ?_ hHeld ?_
        rotate_left
        · intro w hSw; (try dsimp only at hSw); go_simp <;> with_reducible rfl
        try simp only [Act.put, List.setIfInBounds_toArray, List.set_cons_zero, List.set_cons_succ]
        refine takeU_last 11 rfl (by kernel_rfl) rfl rfl (fun K hK => ?_)
        go_simp
        refine hK.out _ _ ?_
        clear hK K
        try simp only [Act.put, List.setIfInBounds_toArray, List.set_cons_zero, List.set_cons_succ]
        refine anyU_done (by kernel_rfl) ?_ _
        try clear hHeld
        have HP := Lib.hid (TL.appA (x := e.dig) (cs := cs) HT3.out HNE.out HG4.out HV4.out HO4.out HDG3.out)
        clear c5 c14 f5 ca ct m0 k0 m1 k1
        go_wp2
        go_roundw
        case rel => exact ⟨k + 1, _, xa ++ [cs], by omega, by omega, by go_num, by rw [take_map DE.dig es1 k e HE.out]; exact HP.out⟩
        case measure => simp [intOf]; omega
      | false =>
        have hge : ¬ (k < n1 ∧ k < 8) := of_decide_eq_false HBQ.out.symm
        have htk : es1.take k = es1.take 8 := by
          have hn := HN1.out
          rcases Nat.lt_or_ge k 8 with h | h
          · rw [List.take_of_length_le (by omega), List.take_of_length_le (by omega)]
          · rw [show k = 8 by omega]
        have HT1 : Hid (TL w0 g1 g2 g4 g5 ss mk wx va (.slice none 0 0) (.slice none 0 0) (.slice none 0 0) ((es1.take 8).map DE.dig) [] xa [] [] []) := by unfold Hid; have h := HTL.out; rwa [htk] at h
        clear HTL ct htk hge hk hk8 hk0 HBQ
        rename World => wp
        go_wp2
        go_loopw [7] (fun i wr => ∃ (k : Nat) (vc : Value) (xc : List (List Value)), k ≤ n2 ∧ k ≤ 8 ∧ i = .int .i64 (k : Int) ∧ TL w0 g1 g2 g4 g5 ss mk wr va (.slice none 0 0) vc (.slice none 0 0) ((es1.take 8).map DE.dig) ((es2.take k).map DE.dig) xa xc [] []) (fun i _ => 8 - (intOf i).toNat)
        case atStart => exact ⟨0, .slice none 0 0, [], Nat.zero_le _, Nat.zero_le _, rfl, HT1.out⟩
        case round =>
          obtain ⟨k, vc, xc, hk, hk8, rfl, htl⟩ := hrel
          have HTL := Lib.hid htl
          have ct : wr.cell? ⟨g1, 1, none⟩ = some (.slice A2 n2 c2) := by have h := htl.r1; rw [HSS.out] at h; exact h.cell rfl
          clear htl
          have hk0 : (0 : Int) ≤ (k : Int) := by omega
          obtain ⟨bq, hbq⟩ : ∃ b, b = decide (k < n2 ∧ k < 8) := ⟨_, rfl⟩
          have HBQ := Lib.hid hbq
          clear hbq
          go_upto_region 8 with (fail)
          go_cut [45] (fun s wx => s = .bool bq ∧ wx = wr)
          case first =>
            by_cases h1 : k < n2
            · have hd1 : decide ((k : Int) < (n2 : Int)) = true := by simp; omega
              have hkn : (k : Int) < (n2 : Int) := by omega
              by_cases h2 : k < 8
              · have hd2 : decide ((k : Int) < 8) = true := by simp; omega
                have hk8' : (k : Int) < 8 := by omega
                go_wp2
                go_meet
                case rel => exact ⟨by rw [HBQ.out]; simp [h1, h2], rfl⟩
              · have hd2 : decide ((k : Int) < 8) = false := by simp; omega
                have hk8' : ¬ (k : Int) < 8 := by omega
                go_wp2
                go_meet
                case rel => exact ⟨by rw [HBQ.out]; simp [h2], rfl⟩
            · have hd1 : decide ((k : Int) < (n2 : Int)) = false := by simp; omega
              have hkn : ¬ (k : Int) < (n2 : Int) := by omega
              go_wp2
              go_meet
              case rel => exact ⟨by rw [HBQ.out]; simp [h1], rfl⟩
          case rest =>
            obtain ⟨rfl, hwx⟩ := hcut
            rename World => wx
            subst hwx
            cases bq with
            | true =>
              have hlt : k < n2 ∧ k < 8 := of_decide_eq_true HBQ.out.symm
              have hkn : (k : Int) < (n2 : Int) := by omega
              have hkn' : k < n2 := hlt.1
              have hk8c : k < 8 := hlt.2
              obtain ⟨e, he⟩ : ∃ e, es2[k]? = some e := ⟨_, List.getElem?_eq_getElem (by rw [← HN2.out]; exact hlt.1)⟩
              obtain ⟨ad, hA, had, c0, c1⟩ := HR2.out.atD he
              have HOK := Lib.hid (HO2.out e (List.mem_of_getElem? he))
              subst hA
              have HAD : Hid ((ad.add (k * 2)).block < w0.heap.size) := Lib.hid (by rw [add_block]; exact had)
              have C0 := Lib.hid c0
              have C1 := Lib.hid c1
              clear had c0 c1 hlt
              have k0 : wx.cell? (ad.add (k * 2)) = some (.slice e.A e.b.length e.c) := (HTL.out.b.cell (p := ad.add (k * 2)) HAD.out).trans C0.out
              have k1 : wx.cell? (⟨(ad.add (k * 2)).block, (ad.add (k * 2)).off + 1, none⟩) = some (.bool e.bad) := (HTL.out.b.cell (p := ⟨(ad.add (k * 2)).block, (ad.add (k * 2)).off + 1, none⟩) HAD.out).trans C1.out
              have HE := Lib.hid he
              have ca : wx.cell? ⟨g5, 2, none⟩ = some vc := HTL.out.t.row.cell rfl
              clear he
              go_upto_region 10 with (fail)
              refine anyU_begin (S := (fun w => w.cell? ⟨g5, 2, none⟩ = some vc ∧ w.cell? ⟨g1, 1, none⟩ = some (.slice (some ad) n2 c2) ∧ w.cell? (ad.add (k * 2)) = some (.slice e.A e.b.length e.c) ∧ w.cell? (⟨(ad.add (k * 2)).block, (ad.add (k * 2)).off + 1, none⟩) = some (.bool e.bad))) (M := (fun j => j == 11)) (by kernel_rfl) ⟨ca, ct, k0, k1⟩ (fun hHeld => ?_)
              refine takeU_run 0 (v := ?_) rfl (by kernel_rfl) (by kernel_rfl) (by kernel_rfl) (by kernel_rfl) (fun _ _ _ h => h) rfl ?_ hHeld ?_
              rotate_left
              · intro w hSw; (try dsimp only at hSw); go_simp <;> with_reducible rfl
              try simp only [Act.put, List.setIfInBounds_toArray, List.set_cons_zero, List.set_cons_succ]
              refine takeU_run 1 (v := ?_) rfl (by kernel_rfl) (by kernel_rfl) (by kernel_rfl) (by kernel_rfl) (fun _ _ _ h => h) rfl ?_ hHeld ?_
              rotate_left
              · intro w hSw; (try dsimp only at hSw); go_simp <;> with_reducible rfl
              try simp only [Act.put, List.setIfInBounds_toArray, List.set_cons_zero, List.set_cons_succ]
              refine takeU_run 2 (v := ?_) rfl (by kernel_rfl) (by kernel_rfl) (by kernel_rfl) (by kernel_rfl) (fun _ _ _ h => h) rfl ?_ hHeld ?_
              rotate_left
              · intro w hSw; (try dsimp only at hSw); go_simp <;> with_reducible rfl
              try simp only [Act.put, List.setIfInBounds_toArray, List.set_cons_zero, List.set_cons_succ]
              refine takeU_run 3 (v := ?_) rfl (by kernel_rfl) (by kernel_rfl) (by kernel_rfl) (by kernel_rfl) (fun _ _ _ h => h) rfl ?_ hHeld ?_
              rotate_left
              · intro w hSw; (try dsimp only at hSw); go_simp <;> with_reducible rfl
              try simp only [Act.put, List.setIfInBounds_toArray, List.set_cons_zero, List.set_cons_succ]
              refine takeU_run 4 (v := ?_) rfl (by kernel_rfl) (by kernel_rfl) (by kernel_rfl) (by kernel_rfl) (fun _ _ _ h => h) rfl ?_ hHeld ?_
              rotate_left
              · intro w hSw; (try dsimp only at hSw); go_simp <;> with_reducible rfl
              try simp only [Act.put, List.setIfInBounds_toArray, List.set_cons_zero, List.set_cons_succ]
              refine takeU_run 5 (v := ?_) rfl (by kernel_rfl) (by kernel_rfl) (by kernel_rfl) (by kernel_rfl) (fun _ _ _ h => h) rfl ?_ hHeld ?_
              rotate_left
              · intro w hSw; (try dsimp only at hSw); go_simp <;> with_reducible rfl
              try simp only [Act.put, List.setIfInBounds_toArray, List.set_cons_zero, List.set_cons_succ]
              refine takeU_run 6 (v := ?_) rfl (by kernel_rfl) (by kernel_rfl) (by kernel_rfl) (by kernel_rfl) (fun _ _ _ h => h) rfl ?_ hHeld ?_
              rotate_left
              · intro w hSw; (try dsimp only at hSw); go_simp <;> with_reducible rfl
              try simp only [Act.put, List.setIfInBounds_toArray, List.set_cons_zero, List.set_cons_succ]
              refine takeU_call 7 rfl (by kernel_rfl) rfl (fun K hK => ?_)
              go_simp
              refine (dOf_any e.A _ e.c e.b e.bad _ (Rd.drew ((HOK.out.2.2.step HTL.out.b))) HOK.out.1 HOK.out.2.1).mono ?_
              rintro er w2 ⟨cs, rfl, hdg, hbx⟩
              have y2 : Below wx.heap.size wx w2 := below_of_drew hbx
              have HDG := Lib.hid (DigO.mono (B := wx.heap.size) (B' := w0.heap.size) (x := e.dig) hdg HTL.out.b.size)
              have HCL := Lib.hid HDG.out.is.len
              have HCO := Lib.hid HDG.out.is.one
              clear hbx hdg
              try dsimp only
              try clear hHeld
              refine hK.out _ _ ⟨keep_cl y2 ca, keep_cl y2 ct, keep_cl y2 k0, keep_cl y2 k1⟩ (fun hHeld => ?_)
              clear hK K
              try simp only [Act.put, List.setIfInBounds_toArray, List.set_cons_zero, List.set_cons_succ]
              refine takeU_call 8 rfl (by kernel_rfl) rfl (fun K hK => ?_)
              refine wp_exec (exec_lit1 26 41 (.tmp 55) rfl cs 33 rfl Tryd.underlying26 HI33.out HCL.out (by decide) (by decide)) ?_
              have y3 : Below wx.heap.size wx (w2.alloc (.cells cs.toArray 41)) := y2.alloc y2.size _
              have HL3 : Hid (Rd (w2.alloc (.cells cs.toArray 41)) (w2.alloc (.cells cs.toArray 41)).heap.size 33 (some ⟨w2.heap.size, 0, none⟩) 1 cs) := Lib.hid (Rd.lit1 rfl (by rw [HCL.out]))
              obtain ⟨w3, hw3⟩ : ∃ w3, w3 = (w2.alloc (.cells cs.toArray 41)) := ⟨_, rfl⟩
              have HDG3 : Hid (DigO w3 w0.heap.size e.dig cs) := Lib.hid (by rw [hw3]; exact HDG.out.below ((Below.refl w2.heap.size w2).alloc (Nat.le_refl _) _) (Nat.le_refl _))
              rw [← hw3] at y3 HL3 ⊢
              have HT3 := Lib.hid (HTL.out.step y3)
              clear hw3
              try dsimp only
              try clear hHeld
              refine hK.out _ _ ⟨keep_cl y3 ca, keep_cl y3 ct, keep_cl y3 k0, keep_cl y3 k1⟩ (fun hHeld => ?_)
              clear hK K
              try simp only [Act.put, List.setIfInBounds_toArray, List.set_cons_zero, List.set_cons_succ]
              refine takeU_call 9 rfl (by kernel_rfl) rfl (fun K hK => ?_)
              obtain ⟨i0, hi0, hz0, hz1, hz2⟩ := info_parts info_digp
              refine wp_append_rd w3 (.tmp 49) (.tmp 56) 26 rfl w0.heap.size 41 i0 _ 33 56 Tryd.underlying26 hi0 hz0 hz1 hz2 rfl (by decide) _ _ _ rfl HT3.out.t.c.2.2 _ _ 1 1 cs rfl HL3.out HCO.out (by rw [List.length_map, List.length_take]; unfold maxLen; omega) (by rw [List.length_map, List.length_take]; omega) HT3.out.b.size ?_
              intro v' w4 ho4 gr4 hv4
              obtain ⟨A', c', hv', _, _⟩ := own_slice ho4
              obtain ⟨m', hm'⟩ : ∃ m', v' = .slice A' m' c' := ⟨_, hv'⟩
              clear hv'
              subst hm'
              have HO4 := Lib.hid ho4
              have HV4 := Lib.hid hv4
              have HR5 := Lib.hid (row_keep HT3.out.t.row gr4 (fun e => own_off HT3.out.t.c.2.2 HT3.out.t.row (by decide) e.symm))
              have HG4 := Lib.hid gr4
              have r14 := row_keep HT3.out.r1 gr4 (fun e => own_off HT3.out.t.c.2.2 HT3.out.r1 (by decide) e.symm)
              have HR44 := Lib.hid (row_keep HT3.out.r4 gr4 (fun e => own_off HT3.out.t.c.2.2 HT3.out.r4 (by decide) e.symm))
              rw [HSS.out] at r14
              have c5 : w4.cell? ⟨g5, 2, none⟩ = some vc := HR5.out.cell rfl
              have c14 : w4.cell? ⟨g1, 1, none⟩ = some (.slice (some ad) n2 c2) := r14.cell rfl
              have f5 := HR5.out.free 2
              have hb4 := HT3.out.b.grown gr4 HT3.out.b.size (fun k hk => (World.ownsRow.lt HT3.out.t.c.2.2 k hk).1)
              have m0 : w4.cell? (ad.add (k * 2)) = some (.slice e.A e.b.length e.c) := (hb4.cell (p := ad.add (k * 2)) HAD.out).trans C0.out
              have m1 : w4.cell? (⟨(ad.add (k * 2)).block, (ad.add (k * 2)).off + 1, none⟩) = some (.bool e.bad) := (hb4.cell (p := ⟨(ad.add (k * 2)).block, (ad.add (k * 2)).off + 1, none⟩) HAD.out).trans C1.out
              clear ho4 hv4 gr4 r14 hb4
              try dsimp only
              try clear hHeld
              refine hK.out _ _ ⟨c5, c14, m0, m1⟩ (fun hHeld => ?_)
              clear hK K
              try simp only [Act.put, List.setIfInBounds_toArray, List.set_cons_zero, List.set_cons_succ]
              refine takeU_run 10 (v := ?_) rfl (by kernel_rfl) (by kernel_rfl) (by kernel_rfl) (by kernel_rfl) (fun _ _ _ h => h) rfl ?_ hHeld ?_
              rotate_left
              · intro w hSw; (try dsimp only at hSw); go_simp <;> with_reducible rfl
              try simp only [Act.put, List.setIfInBounds_toArray, List.set_cons_zero, List.set_cons_succ]
              refine takeU_last 11 rfl (by kernel_rfl) rfl rfl (fun K hK => ?_)
              go_simp
              refine hK.out _ _ ?_
              clear hK K
              try simp only [Act.put, List.setIfInBounds_toArray, List.set_cons_zero, List.set_cons_succ]
              refine anyU_done (by kernel_rfl) ?_ _
              try clear hHeld
              have HP := Lib.hid (TL.appC (x := e.dig) (cs := cs) HT3.out HNE.out HG4.out HV4.out HO4.out HDG3.out)
              clear c5 c14 f5 ca ct m0 k0 m1 k1
              go_wp2
              go_roundw
              case rel => exact ⟨k + 1, _, xc ++ [cs], by omega, by omega, by go_num, by rw [take_map DE.dig es2 k e HE.out]; exact HP.out⟩
              case measure => simp [intOf]; omega
            | false =>
              have hge : ¬ (k < n2 ∧ k < 8) := of_decide_eq_false HBQ.out.symm
              have htk : es2.take k = es2.take 8 := by
                have hn := HN2.out
                rcases Nat.lt_or_ge k 8 with h | h
                · rw [List.take_of_length_le (by omega), List.take_of_length_le (by omega)]
                · rw [show k = 8 by omega]
              have HT2 : Hid (TL w0 g1 g2 g4 g5 ss mk wx va (.slice none 0 0) vc (.slice none 0 0) ((es1.take 8).map DE.dig) ((es2.take 8).map DE.dig) xa xc [] []) := by unfold Hid; have h := HTL.out; rwa [htk] at h
              clear HTL ct htk hge hk hk8 hk0 HBQ
              rename World => wq
              go_wp2
              go_loopw [8] (fun i wr => ∃ (k : Nat) (vb : Value), k ≤ n3 ∧ k ≤ 8 ∧ i = .int .i64 (k : Int) ∧ TL w0 g1 g2 g4 g5 ss mk wr va vb vc (.slice none 0 0) ((es1.take 8).map DE.dig) ((es2.take 8).map DE.dig) xa xc ((es3.take k).map (ME.msg mk)) []) (fun i _ => 8 - (intOf i).toNat)
              case atStart => exact ⟨0, .slice none 0 0, Nat.zero_le _, Nat.zero_le _, rfl, HT2.out⟩
              case round =>
                obtain ⟨k, vb, hk, hk8, rfl, htl⟩ := hrel
                have HTL := Lib.hid htl
                have ct : wr.cell? ⟨g1, 2, none⟩ = some (.slice A3 n3 c3) := by have h := htl.r1; rw [HSS.out] at h; exact h.cell rfl
                clear htl
                have hk0 : (0 : Int) ≤ (k : Int) := by omega
                obtain ⟨bq, hbq⟩ : ∃ b, b = decide (k < n3 ∧ k < 8) := ⟨_, rfl⟩
                have HBQ := Lib.hid hbq
                clear hbq
                go_upto_region 12 with (fail)
                go_cut [67] (fun s wx => s = .bool bq ∧ wx = wr)
                case first =>
                  by_cases h1 : k < n3
                  · have hd1 : decide ((k : Int) < (n3 : Int)) = true := by simp; omega
                    have hkn : (k : Int) < (n3 : Int) := by omega
                    by_cases h2 : k < 8
                    · have hd2 : decide ((k : Int) < 8) = true := by simp; omega
                      have hk8' : (k : Int) < 8 := by omega
                      go_wp2
                      go_meet
                      case rel => exact ⟨by rw [HBQ.out]; simp [h1, h2], rfl⟩
                    · have hd2 : decide ((k : Int) < 8) = false := by simp; omega
                      have hk8' : ¬ (k : Int) < 8 := by omega
                      go_wp2
                      go_meet
                      case rel => exact ⟨by rw [HBQ.out]; simp [h2], rfl⟩
                  · have hd1 : decide ((k : Int) < (n3 : Int)) = false := by simp; omega
                    have hkn : ¬ (k : Int) < (n3 : Int) := by omega
                    go_wp2
                    go_meet
                    case rel => exact ⟨by rw [HBQ.out]; simp [h1], rfl⟩
                case rest =>
                  obtain ⟨rfl, hwx⟩ := hcut
                  rename World => wx
                  subst hwx
                  cases bq with
                  | true =>
                    have hlt : k < n3 ∧ k < 8 := of_decide_eq_true HBQ.out.symm
                    have hkn : (k : Int) < (n3 : Int) := by omega
                    have hkn' : k < n3 := hlt.1
                    have hk8c : k < 8 := hlt.2
                    obtain ⟨e, he⟩ : ∃ e, es3[k]? = some e := ⟨_, List.getElem?_eq_getElem (by rw [← HN3.out]; exact hlt.1)⟩
                    obtain ⟨ad, hA, had, c0, c1, c2, c3, c4⟩ := HR3.out.atM he
                    subst hA
                    have HAD : Hid ((ad.add (k * 5)).block < w0.heap.size) := Lib.hid (by rw [add_block]; exact had)
                    have C0 := Lib.hid c0
                    have C1 := Lib.hid c1
                    have C2 := Lib.hid c2
                    have C3 := Lib.hid c3
                    have C4 := Lib.hid c4
                    clear had c0 c1 c2 c3 c4 hlt
                    have k0 : wx.cell? (ad.add (k * 5)) = some (.int .u8 (bv e.i)) := (HTL.out.b.cell (p := ad.add (k * 5)) HAD.out).trans C0.out
                    have k1 : wx.cell? (⟨(ad.add (k * 5)).block, (ad.add (k * 5)).off + 1, none⟩) = some (.int .u8 (bv e.x)) := (HTL.out.b.cell (p := ⟨(ad.add (k * 5)).block, (ad.add (k * 5)).off + 1, none⟩) HAD.out).trans C1.out
                    have k2 : wx.cell? (⟨(ad.add (k * 5)).block, (ad.add (k * 5)).off + 2, none⟩) = some (.int .u8 (bv e.v)) := (HTL.out.b.cell (p := ⟨(ad.add (k * 5)).block, (ad.add (k * 5)).off + 2, none⟩) HAD.out).trans C2.out
                    have k3 : wx.cell? (⟨(ad.add (k * 5)).block, (ad.add (k * 5)).off + 3, none⟩) = some (.int .u8 (bv e.y)) := (HTL.out.b.cell (p := ⟨(ad.add (k * 5)).block, (ad.add (k * 5)).off + 3, none⟩) HAD.out).trans C3.out
                    have k4 : wx.cell? (⟨(ad.add (k * 5)).block, (ad.add (k * 5)).off + 4, none⟩) = some (.bool e.bad) := (HTL.out.b.cell (p := ⟨(ad.add (k * 5)).block, (ad.add (k * 5)).off + 4, none⟩) HAD.out).trans C4.out
                    have HE := Lib.hid he
                    have ca : wx.cell? ⟨g5, 1, none⟩ = some vb := HTL.out.t.row.cell rfl
                    clear he
                    go_upto_region 14 with (fail)
                    refine anyU_begin (S := (fun w => w.cell? ⟨g5, 1, none⟩ = some vb ∧ w.cell? ⟨g1, 2, none⟩ = some (.slice (some ad) n3 c3) ∧ Row w g4 43 (cells8 mk) ∧ w.cell? (ad.add (k * 5)) = some (.int .u8 (bv e.i)) ∧ w.cell? (⟨(ad.add (k * 5)).block, (ad.add (k * 5)).off + 1, none⟩) = some (.int .u8 (bv e.x)) ∧ w.cell? (⟨(ad.add (k * 5)).block, (ad.add (k * 5)).off + 2, none⟩) = some (.int .u8 (bv e.v)) ∧ w.cell? (⟨(ad.add (k * 5)).block, (ad.add (k * 5)).off + 3, none⟩) = some (.int .u8 (bv e.y)) ∧ w.cell? (⟨(ad.add (k * 5)).block, (ad.add (k * 5)).off + 4, none⟩) = some (.bool e.bad))) (M := (fun j => j == 12)) (by kernel_rfl) ⟨ca, ct, HTL.out.r4, k0, k1, k2, k3, k4⟩ (fun hHeld => ?_)
                    refine takeU_run 0 (v := ?_) rfl (by kernel_rfl) (by kernel_rfl) (by kernel_rfl) (by kernel_rfl) (fun _ _ _ h => h) rfl ?_ hHeld ?_
                    rotate_left
                    · intro w hSw; (try dsimp only at hSw); go_simp <;> with_reducible rfl
                    try simp only [Act.put, List.setIfInBounds_toArray, List.set_cons_zero, List.set_cons_succ]
                    refine takeU_run 1 (v := ?_) rfl (by kernel_rfl) (by kernel_rfl) (by kernel_rfl) (by kernel_rfl) (fun _ _ _ h => h) rfl ?_ hHeld ?_
                    rotate_left
                    · intro w hSw; (try dsimp only at hSw); go_simp <;> with_reducible rfl
                    try simp only [Act.put, List.setIfInBounds_toArray, List.set_cons_zero, List.set_cons_succ]
                    refine takeU_run 2 (v := ?_) rfl (by kernel_rfl) (by kernel_rfl) (by kernel_rfl) (by kernel_rfl) (fun _ _ _ h => h) rfl ?_ hHeld ?_
                    rotate_left
                    · intro w hSw; (try dsimp only at hSw); go_simp <;> with_reducible rfl
                    try simp only [Act.put, List.setIfInBounds_toArray, List.set_cons_zero, List.set_cons_succ]
                    refine takeU_run 3 (v := ?_) rfl (by kernel_rfl) (by kernel_rfl) (by kernel_rfl) (by kernel_rfl) (fun _ _ _ h => h) rfl ?_ hHeld ?_
                    rotate_left
                    · intro w hSw; (try dsimp only at hSw); go_simp <;> with_reducible rfl
                    try simp only [Act.put, List.setIfInBounds_toArray, List.set_cons_zero, List.set_cons_succ]
                    refine takeU_run 4 (v := ?_) rfl (by kernel_rfl) (by kernel_rfl) (by kernel_rfl) (by kernel_rfl) (fun _ _ _ h => h) rfl ?_ hHeld ?_
                    rotate_left
                    · intro w hSw; (try dsimp only at hSw); go_simp <;> with_reducible rfl
                    try simp only [Act.put, List.setIfInBounds_toArray, List.set_cons_zero, List.set_cons_succ]
                    refine takeU_run 5 (v := ?_) rfl (by kernel_rfl) (by kernel_rfl) (by kernel_rfl) (by kernel_rfl) (fun _ _ _ h => h) rfl ?_ hHeld ?_
                    rotate_left
                    · intro w hSw; (try dsimp only at hSw); go_simp <;> with_reducible rfl
                    try simp only [Act.put, List.setIfInBounds_toArray, List.set_cons_zero, List.set_cons_succ]
                    refine takeU_run 6 (v := ?_) rfl (by kernel_rfl) (by kernel_rfl) (by kernel_rfl) (by kernel_rfl) (fun _ _ _ h => h) rfl ?_ hHeld ?_
                    rotate_left
                    · intro w hSw; (try dsimp only at hSw); go_simp <;> with_reducible rfl
                    try simp only [Act.put, List.setIfInBounds_toArray, List.set_cons_zero, List.set_cons_succ]
                    refine takeU_run 7 (v := (.agg (cells8 mk).toArray)) rfl (by kernel_rfl) (by kernel_rfl) (by kernel_rfl) (by kernel_rfl) (fun _ _ _ h => h) rfl ?_ hHeld ?_
                    · intro w hSw; (try dsimp only at hSw); exact exec_load_row 43 (.tmp 4) rfl g4 rfl 43 (cells8 mk).toArray (0, 0) _ hSw.2.2.1 Tryd.underlying43 rfl HIK.out
                    try simp only [Act.put, List.setIfInBounds_toArray, List.set_cons_zero, List.set_cons_succ]
                    refine takeU_call 8 rfl (by kernel_rfl) rfl (fun K hK => ?_)
                    go_simp
                    refine (mOf_any mk HMK.out e.i e.x e.v e.y e.bad _).mono ?_
                    rintro er w2 ⟨rfl, hbx⟩
                    have y2 : Below wx.heap.size wx w2 := below_of_drew hbx
                    have HCL := Lib.hid (Msg.len (msgOf_ok mk e.i e.x e.v e.y e.bad))
                    have HCO := Lib.hid (Msg.one (msgOf mk e.i e.x e.v e.y e.bad))
                    clear hbx
                    try dsimp only
                    try clear hHeld
                    refine hK.out _ _ ⟨keep_cl y2 ca, keep_cl y2 ct, HTL.out.r4.step (y2), keep_cl y2 k0, keep_cl y2 k1, keep_cl y2 k2, keep_cl y2 k3, keep_cl y2 k4⟩ (fun hHeld => ?_)
                    clear hK K
                    try simp only [Act.put, List.setIfInBounds_toArray, List.set_cons_zero, List.set_cons_succ]
                    refine takeU_call 9 rfl (by kernel_rfl) rfl (fun K hK => ?_)
                    refine wp_exec (exec_lit1 27 54 (.tmp 78) rfl (msgOf mk e.i e.x e.v e.y e.bad).cells 67 rfl Tryd.underlying27 HI67.out HCL.out (by decide) (by decide)) ?_
                    have y3 : Below wx.heap.size wx (w2.alloc (.cells (msgOf mk e.i e.x e.v e.y e.bad).cells.toArray 54)) := y2.alloc y2.size _
                    have HL3 : Hid (Rd (w2.alloc (.cells (msgOf mk e.i e.x e.v e.y e.bad).cells.toArray 54)) (w2.alloc (.cells (msgOf mk e.i e.x e.v e.y e.bad).cells.toArray 54)).heap.size 67 (some ⟨w2.heap.size, 0, none⟩) 1 (msgOf mk e.i e.x e.v e.y e.bad).cells) := Lib.hid (Rd.lit1 rfl (by rw [HCL.out]))
                    obtain ⟨w3, hw3⟩ : ∃ w3, w3 = (w2.alloc (.cells (msgOf mk e.i e.x e.v e.y e.bad).cells.toArray 54)) := ⟨_, rfl⟩
                    rw [← hw3] at y3 HL3 ⊢
                    have HT3 := Lib.hid (HTL.out.step y3)
                    clear hw3
                    try dsimp only
                    try clear hHeld
                    refine hK.out _ _ ⟨keep_cl y3 ca, keep_cl y3 ct, HTL.out.r4.step (y3), keep_cl y3 k0, keep_cl y3 k1, keep_cl y3 k2, keep_cl y3 k3, keep_cl y3 k4⟩ (fun hHeld => ?_)
                    clear hK K
                    try simp only [Act.put, List.setIfInBounds_toArray, List.set_cons_zero, List.set_cons_succ]
                    refine takeU_call 10 rfl (by kernel_rfl) rfl (fun K hK => ?_)
                    obtain ⟨i0, hi0, hz0, hz1, hz2⟩ := info_parts info_msgp
                    refine wp_append_rd w3 (.tmp 71) (.tmp 79) 27 rfl w0.heap.size 54 i0 _ 67 88 Tryd.underlying27 hi0 hz0 hz1 hz2 rfl (by decide) _ _ _ rfl HT3.out.t.b.2 _ _ 1 1 (msgOf mk e.i e.x e.v e.y e.bad).cells rfl HL3.out HCO.out (by rw [List.length_map, List.length_take]; unfold maxLen; omega) (by rw [List.length_map, List.length_take]; omega) HT3.out.b.size ?_
                    intro v' w4 ho4 gr4 hv4
                    obtain ⟨A', c', hv', _, _⟩ := own_slice ho4
                    obtain ⟨m', hm'⟩ : ∃ m', v' = .slice A' m' c' := ⟨_, hv'⟩
                    clear hv'
                    subst hm'
                    have HO4 := Lib.hid ho4
                    have HV4 := Lib.hid hv4
                    have HR5 := Lib.hid (row_keep HT3.out.t.row gr4 (fun e => own_off HT3.out.t.b.2 HT3.out.t.row (by decide) e.symm))
                    have HG4 := Lib.hid gr4
                    have r14 := row_keep HT3.out.r1 gr4 (fun e => own_off HT3.out.t.b.2 HT3.out.r1 (by decide) e.symm)
                    have HR44 := Lib.hid (row_keep HT3.out.r4 gr4 (fun e => own_off HT3.out.t.b.2 HT3.out.r4 (by decide) e.symm))
                    rw [HSS.out] at r14
                    have c5 : w4.cell? ⟨g5, 1, none⟩ = some vb := HR5.out.cell rfl
                    have c14 : w4.cell? ⟨g1, 2, none⟩ = some (.slice (some ad) n3 c3) := r14.cell rfl
                    have f5 := HR5.out.free 1
                    have hb4 := HT3.out.b.grown gr4 HT3.out.b.size (fun k hk => (World.ownsRow.lt HT3.out.t.b.2 k hk).1)
                    have m0 : w4.cell? (ad.add (k * 5)) = some (.int .u8 (bv e.i)) := (hb4.cell (p := ad.add (k * 5)) HAD.out).trans C0.out
                    have m1 : w4.cell? (⟨(ad.add (k * 5)).block, (ad.add (k * 5)).off + 1, none⟩) = some (.int .u8 (bv e.x)) := (hb4.cell (p := ⟨(ad.add (k * 5)).block, (ad.add (k * 5)).off + 1, none⟩) HAD.out).trans C1.out
                    have m2 : w4.cell? (⟨(ad.add (k * 5)).block, (ad.add (k * 5)).off + 2, none⟩) = some (.int .u8 (bv e.v)) := (hb4.cell (p := ⟨(ad.add (k * 5)).block, (ad.add (k * 5)).off + 2, none⟩) HAD.out).trans C2.out
                    have m3 : w4.cell? (⟨(ad.add (k * 5)).block, (ad.add (k * 5)).off + 3, none⟩) = some (.int .u8 (bv e.y)) := (hb4.cell (p := ⟨(ad.add (k * 5)).block, (ad.add (k * 5)).off + 3, none⟩) HAD.out).trans C3.out
                    have m4 : w4.cell? (⟨(ad.add (k * 5)).block, (ad.add (k * 5)).off + 4, none⟩) = some (.bool e.bad) := (hb4.cell (p := ⟨(ad.add (k * 5)).block, (ad.add (k * 5)).off + 4, none⟩) HAD.out).trans C4.out
                    clear ho4 hv4 gr4 r14 hb4
                    try dsimp only
                    try clear hHeld
                    refine hK.out _ _ ⟨c5, c14, HR44.out, m0, m1, m2, m3, m4⟩ (fun hHeld => ?_)
                    clear hK K
                    try simp only [Act.put, List.setIfInBounds_toArray, List.set_cons_zero, List.set_cons_succ]
                    refine takeU_run 11 (v := ?_) rfl (by kernel_rfl) (by kernel_rfl) (by kernel_rfl) (by kernel_rfl) (fun _ _ _ h => h) rfl ?_ hHeld ?_
                    rotate_left
                    · intro w hSw; (try dsimp only at hSw); go_simp <;> with_reducible rfl
                    try simp only [Act.put, List.setIfInBounds_toArray, List.set_cons_zero, List.set_cons_succ]
                    refine takeU_last 12 rfl (by kernel_rfl) rfl rfl (fun K hK => ?_)
                    go_simp
                    refine hK.out _ _ ?_
                    clear hK K
                    try simp only [Act.put, List.setIfInBounds_toArray, List.set_cons_zero, List.set_cons_succ]
                    refine anyU_done (by kernel_rfl) ?_ _
                    try clear hHeld
                    have HP := Lib.hid (TL.appB (x := e.msg mk) HT3.out HNE.out HG4.out HV4.out HO4.out (msgOf_ok _ _ _ _ _ _))
                    clear c5 c14 f5 ca ct m0 k0 m1 k1 m2 k2 m3 k3 m4 k4
                    go_wp2
                    go_roundw
                    case rel => exact ⟨k + 1, _, by omega, by omega, by go_num, by rw [take_map (ME.msg mk) es3 k e HE.out]; exact HP.out⟩
                    case measure => simp [intOf]; omega
                  | false =>
                    have hge : ¬ (k < n3 ∧ k < 8) := of_decide_eq_false HBQ.out.symm
                    have htk : es3.take k = es3.take 8 := by
                      have hn := HN3.out
                      rcases Nat.lt_or_ge k 8 with h | h
                      · rw [List.take_of_length_le (by omega), List.take_of_length_le (by omega)]
                      · rw [show k = 8 by omega]
                    have HT3 : Hid (TL w0 g1 g2 g4 g5 ss mk wx va vb vc (.slice none 0 0) ((es1.take 8).map DE.dig) ((es2.take 8).map DE.dig) xa xc ((es3.take 8).map (ME.msg mk)) []) := by unfold Hid; have h := HTL.out; rwa [htk] at h
                    clear HTL ct htk hge hk hk8 hk0 HBQ
                    rename World => wr
                    go_wp2
                    go_loopw [9] (fun i wr => ∃ (k : Nat) (vd : Value), k ≤ n4 ∧ k ≤ 8 ∧ i = .int .i64 (k : Int) ∧ TL w0 g1 g2 g4 g5 ss mk wr va vb vc vd ((es1.take 8).map DE.dig) ((es2.take 8).map DE.dig) xa xc ((es3.take 8).map (ME.msg mk)) ((es4.take k).map (ME.msg mk))) (fun i _ => 8 - (intOf i).toNat)
                    case atStart => exact ⟨0, .slice none 0 0, Nat.zero_le _, Nat.zero_le _, rfl, HT3.out⟩
                    case round =>
                      obtain ⟨k, vd, hk, hk8, rfl, htl⟩ := hrel
                      have HTL := Lib.hid htl
                      have ct : wr.cell? ⟨g1, 3, none⟩ = some (.slice A4 n4 c4) := by have h := htl.r1; rw [HSS.out] at h; exact h.cell rfl
                      clear htl
                      have hk0 : (0 : Int) ≤ (k : Int) := by omega
                      obtain ⟨bq, hbq⟩ : ∃ b, b = decide (k < n4 ∧ k < 8) := ⟨_, rfl⟩
                      have HBQ := Lib.hid hbq
                      clear hbq
                      go_upto_region 16 with (fail)
                      go_cut [90] (fun s wx => s = .bool bq ∧ wx = wr)
                      case first =>
                        by_cases h1 : k < n4
                        · have hd1 : decide ((k : Int) < (n4 : Int)) = true := by simp; omega
                          have hkn : (k : Int) < (n4 : Int) := by omega
                          by_cases h2 : k < 8
                          · have hd2 : decide ((k : Int) < 8) = true := by simp; omega
                            have hk8' : (k : Int) < 8 := by omega
                            go_wp2
                            go_meet
                            case rel => exact ⟨by rw [HBQ.out]; simp [h1, h2], rfl⟩
                          · have hd2 : decide ((k : Int) < 8) = false := by simp; omega
                            have hk8' : ¬ (k : Int) < 8 := by omega
                            go_wp2
                            go_meet
                            case rel => exact ⟨by rw [HBQ.out]; simp [h2], rfl⟩
                        · have hd1 : decide ((k : Int) < (n4 : Int)) = false := by simp; omega
                          have hkn : ¬ (k : Int) < (n4 : Int) := by omega
                          go_wp2
                          go_meet
                          case rel => exact ⟨by rw [HBQ.out]; simp [h1], rfl⟩
                      case rest =>
                        obtain ⟨rfl, hwx⟩ := hcut
                        rename World => wx
                        subst hwx
                        cases bq with
                        | true =>
                          have hlt : k < n4 ∧ k < 8 := of_decide_eq_true HBQ.out.symm
                          have hkn : (k : Int) < (n4 : Int) := by omega
                          have hkn' : k < n4 := hlt.1
                          have hk8c : k < 8 := hlt.2
                          obtain ⟨e, he⟩ : ∃ e, es4[k]? = some e := ⟨_, List.getElem?_eq_getElem (by rw [← HN4.out]; exact hlt.1)⟩
                          obtain ⟨ad, hA, had, c0, c1, c2, c3, c4⟩ := HR4.out.atM he
                          subst hA
                          have HAD : Hid ((ad.add (k * 5)).block < w0.heap.size) := Lib.hid (by rw [add_block]; exact had)
                          have C0 := Lib.hid c0
                          have C1 := Lib.hid c1
                          have C2 := Lib.hid c2
                          have C3 := Lib.hid c3
                          have C4 := Lib.hid c4
                          clear had c0 c1 c2 c3 c4 hlt
                          have k0 : wx.cell? (ad.add (k * 5)) = some (.int .u8 (bv e.i)) := (HTL.out.b.cell (p := ad.add (k * 5)) HAD.out).trans C0.out
                          have k1 : wx.cell? (⟨(ad.add (k * 5)).block, (ad.add (k * 5)).off + 1, none⟩) = some (.int .u8 (bv e.x)) := (HTL.out.b.cell (p := ⟨(ad.add (k * 5)).block, (ad.add (k * 5)).off + 1, none⟩) HAD.out).trans C1.out
                          have k2 : wx.cell? (⟨(ad.add (k * 5)).block, (ad.add (k * 5)).off + 2, none⟩) = some (.int .u8 (bv e.v)) := (HTL.out.b.cell (p := ⟨(ad.add (k * 5)).block, (ad.add (k * 5)).off + 2, none⟩) HAD.out).trans C2.out
                          have k3 : wx.cell? (⟨(ad.add (k * 5)).block, (ad.add (k * 5)).off + 3, none⟩) = some (.int .u8 (bv e.y)) := (HTL.out.b.cell (p := ⟨(ad.add (k * 5)).block, (ad.add (k * 5)).off + 3, none⟩) HAD.out).trans C3.out
                          have k4 : wx.cell? (⟨(ad.add (k * 5)).block, (ad.add (k * 5)).off + 4, none⟩) = some (.bool e.bad) := (HTL.out.b.cell (p := ⟨(ad.add (k * 5)).block, (ad.add (k * 5)).off + 4, none⟩) HAD.out).trans C4.out
                          have HE := Lib.hid he
                          have ca : wx.cell? ⟨g5, 3, none⟩ = some vd := HTL.out.t.row.cell rfl
                          clear he
                          go_upto_region 18 with (fail)
                          refine anyU_begin (S := (fun w => w.cell? ⟨g5, 3, none⟩ = some vd ∧ w.cell? ⟨g1, 3, none⟩ = some (.slice (some ad) n4 c4) ∧ Row w g4 43 (cells8 mk) ∧ w.cell? (ad.add (k * 5)) = some (.int .u8 (bv e.i)) ∧ w.cell? (⟨(ad.add (k * 5)).block, (ad.add (k * 5)).off + 1, none⟩) = some (.int .u8 (bv e.x)) ∧ w.cell? (⟨(ad.add (k * 5)).block, (ad.add (k * 5)).off + 2, none⟩) = some (.int .u8 (bv e.v)) ∧ w.cell? (⟨(ad.add (k * 5)).block, (ad.add (k * 5)).off + 3, none⟩) = some (.int .u8 (bv e.y)) ∧ w.cell? (⟨(ad.add (k * 5)).block, (ad.add (k * 5)).off + 4, none⟩) = some (.bool e.bad))) (M := (fun j => j == 12)) (by kernel_rfl) ⟨ca, ct, HTL.out.r4, k0, k1, k2, k3, k4⟩ (fun hHeld => ?_)
                          refine takeU_run 0 (v := ?_) rfl (by kernel_rfl) (by kernel_rfl) (by kernel_rfl) (by kernel_rfl) (fun _ _ _ h => h) rfl ?_ hHeld ?_
                          rotate_left
                          · intro w hSw; (try dsimp only at hSw); go_simp <;> with_reducible rfl
                          try simp only [Act.put, List.setIfInBounds_toArray, List.set_cons_zero, List.set_cons_succ]
                          refine takeU_run 1 (v := ?_) rfl (by kernel_rfl) (by kernel_rfl) (by kernel_rfl) (by kernel_rfl) (fun _ _ _ h => h) rfl ?_ hHeld ?_
                          rotate_left
                          · intro w hSw; (try dsimp only at hSw); go_simp <;> with_reducible rfl
                          try simp only [Act.put, List.setIfInBounds_toArray, List.set_cons_zero, List.set_cons_succ]
                          refine takeU_run 2 (v := ?_) rfl (by kernel_rfl) (by kernel_rfl) (by kernel_rfl) (by kernel_rfl) (fun _ _ _ h => h) rfl ?_ hHeld ?_
                          rotate_left
                          · intro w hSw; (try dsimp only at hSw); go_simp <;> with_reducible rfl
                          try simp only [Act.put, List.setIfInBounds_toArray, List.set_cons_zero, List.set_cons_succ]
                          refine takeU_run 3 (v := ?_) rfl (by kernel_rfl) (by kernel_rfl) (by kernel_rfl) (by kernel_rfl) (fun _ _ _ h => h) rfl ?_ hHeld ?_
                          rotate_left
                          · intro w hSw; (try dsimp only at hSw); go_simp <;> with_reducible rfl
                          try simp only [Act.put, List.setIfInBounds_toArray, List.set_cons_zero, List.set_cons_succ]
                          refine takeU_run 4 (v := ?_) rfl (by kernel_rfl) (by kernel_rfl) (by kernel_rfl) (by kernel_rfl) (fun _ _ _ h => h) rfl ?_ hHeld ?_
                          rotate_left
                          · intro w hSw; (try dsimp only at hSw); go_simp <;> with_reducible rfl
                          try simp only [Act.put, List.setIfInBounds_toArray, List.set_cons_zero, List.set_cons_succ]
                          refine takeU_run 5 (v := ?_) rfl (by kernel_rfl) (by kernel_rfl) (by kernel_rfl) (by kernel_rfl) (fun _ _ _ h => h) rfl ?_ hHeld ?_
                          rotate_left
                          · intro w hSw; (try dsimp only at hSw); go_simp <;> with_reducible rfl
                          try simp only [Act.put, List.setIfInBounds_toArray, List.set_cons_zero, List.set_cons_succ]
                          refine takeU_run 6 (v := ?_) rfl (by kernel_rfl) (by kernel_rfl) (by kernel_rfl) (by kernel_rfl) (fun _ _ _ h => h) rfl ?_ hHeld ?_
                          rotate_left
                          · intro w hSw; (try dsimp only at hSw); go_simp <;> with_reducible rfl
                          try simp only [Act.put, List.setIfInBounds_toArray, List.set_cons_zero, List.set_cons_succ]
                          refine takeU_run 7 (v := (.agg (cells8 mk).toArray)) rfl (by kernel_rfl) (by kernel_rfl) (by kernel_rfl) (by kernel_rfl) (fun _ _ _ h => h) rfl ?_ hHeld ?_
                          · intro w hSw; (try dsimp only at hSw); exact exec_load_row 43 (.tmp 4) rfl g4 rfl 43 (cells8 mk).toArray (0, 0) _ hSw.2.2.1 Tryd.underlying43 rfl HIK.out
                          try simp only [Act.put, List.setIfInBounds_toArray, List.set_cons_zero, List.set_cons_succ]
                          refine takeU_call 8 rfl (by kernel_rfl) rfl (fun K hK => ?_)
                          go_simp
                          refine (mOf_any mk HMK.out e.i e.x e.v e.y e.bad _).mono ?_
                          rintro er w2 ⟨rfl, hbx⟩
                          have y2 : Below wx.heap.size wx w2 := below_of_drew hbx
                          have HCL := Lib.hid (Msg.len (msgOf_ok mk e.i e.x e.v e.y e.bad))
                          have HCO := Lib.hid (Msg.one (msgOf mk e.i e.x e.v e.y e.bad))
                          clear hbx
                          try dsimp only
                          try clear hHeld
                          refine hK.out _ _ ⟨keep_cl y2 ca, keep_cl y2 ct, HTL.out.r4.step (y2), keep_cl y2 k0, keep_cl y2 k1, keep_cl y2 k2, keep_cl y2 k3, keep_cl y2 k4⟩ (fun hHeld => ?_)
                          clear hK K
                          try simp only [Act.put, List.setIfInBounds_toArray, List.set_cons_zero, List.set_cons_succ]
                          refine takeU_call 9 rfl (by kernel_rfl) rfl (fun K hK => ?_)
                          refine wp_exec (exec_lit1 27 54 (.tmp 101) rfl (msgOf mk e.i e.x e.v e.y e.bad).cells 67 rfl Tryd.underlying27 HI67.out HCL.out (by decide) (by decide)) ?_
                          have y3 : Below wx.heap.size wx (w2.alloc (.cells (msgOf mk e.i e.x e.v e.y e.bad).cells.toArray 54)) := y2.alloc y2.size _
                          have HL3 : Hid (Rd (w2.alloc (.cells (msgOf mk e.i e.x e.v e.y e.bad).cells.toArray 54)) (w2.alloc (.cells (msgOf mk e.i e.x e.v e.y e.bad).cells.toArray 54)).heap.size 67 (some ⟨w2.heap.size, 0, none⟩) 1 (msgOf mk e.i e.x e.v e.y e.bad).cells) := Lib.hid (Rd.lit1 rfl (by rw [HCL.out]))
                          obtain ⟨w3, hw3⟩ : ∃ w3, w3 = (w2.alloc (.cells (msgOf mk e.i e.x e.v e.y e.bad).cells.toArray 54)) := ⟨_, rfl⟩
                          rw [← hw3] at y3 HL3 ⊢
                          have HT3 := Lib.hid (HTL.out.step y3)
                          clear hw3
                          try dsimp only
                          try clear hHeld
                          refine hK.out _ _ ⟨keep_cl y3 ca, keep_cl y3 ct, HTL.out.r4.step (y3), keep_cl y3 k0, keep_cl y3 k1, keep_cl y3 k2, keep_cl y3 k3, keep_cl y3 k4⟩ (fun hHeld => ?_)
                          clear hK K
                          try simp only [Act.put, List.setIfInBounds_toArray, List.set_cons_zero, List.set_cons_succ]
                          refine takeU_call 10 rfl (by kernel_rfl) rfl (fun K hK => ?_)
                          obtain ⟨i0, hi0, hz0, hz1, hz2⟩ := info_parts info_msgp
                          refine wp_append_rd w3 (.tmp 94) (.tmp 102) 27 rfl w0.heap.size 54 i0 _ 67 88 Tryd.underlying27 hi0 hz0 hz1 hz2 rfl (by decide) _ _ _ rfl HT3.out.t.d.2 _ _ 1 1 (msgOf mk e.i e.x e.v e.y e.bad).cells rfl HL3.out HCO.out (by rw [List.length_map, List.length_take]; unfold maxLen; omega) (by rw [List.length_map, List.length_take]; omega) HT3.out.b.size ?_
                          intro v' w4 ho4 gr4 hv4
                          obtain ⟨A', c', hv', _, _⟩ := own_slice ho4
                          obtain ⟨m', hm'⟩ : ∃ m', v' = .slice A' m' c' := ⟨_, hv'⟩
                          clear hv'
                          subst hm'
                          have HO4 := Lib.hid ho4
                          have HV4 := Lib.hid hv4
                          have HR5 := Lib.hid (row_keep HT3.out.t.row gr4 (fun e => own_off HT3.out.t.d.2 HT3.out.t.row (by decide) e.symm))
                          have HG4 := Lib.hid gr4
                          have r14 := row_keep HT3.out.r1 gr4 (fun e => own_off HT3.out.t.d.2 HT3.out.r1 (by decide) e.symm)
                          have HR44 := Lib.hid (row_keep HT3.out.r4 gr4 (fun e => own_off HT3.out.t.d.2 HT3.out.r4 (by decide) e.symm))
                          rw [HSS.out] at r14
                          have c5 : w4.cell? ⟨g5, 3, none⟩ = some vd := HR5.out.cell rfl
                          have c14 : w4.cell? ⟨g1, 3, none⟩ = some (.slice (some ad) n4 c4) := r14.cell rfl
                          have f5 := HR5.out.free 3
                          have hb4 := HT3.out.b.grown gr4 HT3.out.b.size (fun k hk => (World.ownsRow.lt HT3.out.t.d.2 k hk).1)
                          have m0 : w4.cell? (ad.add (k * 5)) = some (.int .u8 (bv e.i)) := (hb4.cell (p := ad.add (k * 5)) HAD.out).trans C0.out
                          have m1 : w4.cell? (⟨(ad.add (k * 5)).block, (ad.add (k * 5)).off + 1, none⟩) = some (.int .u8 (bv e.x)) := (hb4.cell (p := ⟨(ad.add (k * 5)).block, (ad.add (k * 5)).off + 1, none⟩) HAD.out).trans C1.out
                          have m2 : w4.cell? (⟨(ad.add (k * 5)).block, (ad.add (k * 5)).off + 2, none⟩) = some (.int .u8 (bv e.v)) := (hb4.cell (p := ⟨(ad.add (k * 5)).block, (ad.add (k * 5)).off + 2, none⟩) HAD.out).trans C2.out
                          have m3 : w4.cell? (⟨(ad.add (k * 5)).block, (ad.add (k * 5)).off + 3, none⟩) = some (.int .u8 (bv e.y)) := (hb4.cell (p := ⟨(ad.add (k * 5)).block, (ad.add (k * 5)).off + 3, none⟩) HAD.out).trans C3.out
                          have m4 : w4.cell? (⟨(ad.add (k * 5)).block, (ad.add (k * 5)).off + 4, none⟩) = some (.bool e.bad) := (hb4.cell (p := ⟨(ad.add (k * 5)).block, (ad.add (k * 5)).off + 4, none⟩) HAD.out).trans C4.out
                          clear ho4 hv4 gr4 r14 hb4
                          try dsimp only
                          try clear hHeld
                          refine hK.out _ _ ⟨c5, c14, HR44.out, m0, m1, m2, m3, m4⟩ (fun hHeld => ?_)
                          clear hK K
                          try simp only [Act.put, List.setIfInBounds_toArray, List.set_cons_zero, List.set_cons_succ]
                          refine takeU_run 11 (v := ?_) rfl (by kernel_rfl) (by kernel_rfl) (by kernel_rfl) (by kernel_rfl) (fun _ _ _ h => h) rfl ?_ hHeld ?_
                          rotate_left
                          · intro w hSw; (try dsimp only at hSw); go_simp <;> with_reducible rfl
                          try simp only [Act.put, List.setIfInBounds_toArray, List.set_cons_zero, List.set_cons_succ]
                          refine takeU_last 12 rfl (by kernel_rfl) rfl rfl (fun K hK => ?_)
                          go_simp
                          refine hK.out _ _ ?_
                          clear hK K
                          try simp only [Act.put, List.setIfInBounds_toArray, List.set_cons_zero, List.set_cons_succ]
                          refine anyU_done (by kernel_rfl) ?_ _
                          try clear hHeld
                          have HP := Lib.hid (TL.appD (x := e.msg mk) HT3.out HNE.out HG4.out HV4.out HO4.out (msgOf_ok _ _ _ _ _ _))
                          clear c5 c14 f5 ca ct m0 k0 m1 k1 m2 k2 m3 k3 m4 k4
                          go_wp2
                          go_roundw
                          case rel => exact ⟨k + 1, _, by omega, by omega, by go_num, by rw [take_map (ME.msg mk) es4 k e HE.out]; exact HP.out⟩
                          case measure => simp [intOf]; omega
                        | false =>
                          have hge : ¬ (k < n4 ∧ k < 8) := of_decide_eq_false HBQ.out.symm
                          have htk : es4.take k = es4.take 8 := by
                            have hn := HN4.out
                            rcases Nat.lt_or_ge k 8 with h | h
                            · rw [List.take_of_length_le (by omega), List.take_of_length_le (by omega)]
                            · rw [show k = 8 by omega]
                          have HT4 : Hid (TL w0 g1 g2 g4 g5 ss mk wx va vb vc vd ((es1.take 8).map DE.dig) ((es2.take 8).map DE.dig) xa xc ((es3.take 8).map (ME.msg mk)) ((es4.take 8).map (ME.msg mk))) := by unfold Hid; have h := HTL.out; rwa [htk] at h
                          clear HTL ct htk hge hk hk8 hk0 HBQ
                          rename World => ws
                          have r5 : Row ws g5 30 [va, vb, vc, vd, .slice none 0 0] := HT4.out.t.row
                          have r2 := HT4.out.r2
                          have HIA : Hid ((Tryd.prog.info? 30).map (·.size) = some [va, vb, vc, vd, Value.slice none 0 0].toArray.size) := HIF
                          have H1A : Hid ([va, vb, vc, vd, Value.slice none 0 0].toArray.all (·.oneCell') = true) := Lib.hid (all_oneCell_toArray (by
                            intro v hv
                            obtain ⟨_, _, ha, _⟩ := own_slice HT4.out.t.a.2.2
                            obtain ⟨_, _, hb, _⟩ := own_slice HT4.out.t.b.2
                            obtain ⟨_, _, hc, _⟩ := own_slice HT4.out.t.c.2.2
                            obtain ⟨_, _, hd, _⟩ := own_slice HT4.out.t.d.2
                            simp only [List.mem_cons, List.not_mem_nil, or_false] at hv
                            rcases hv with e | e | e | e | e
                            · rw [e, ha]; rfl
                            · rw [e, hb]; rfl
                            · rw [e, hc]; rfl
                            · rw [e, hd]; rfl
                            · rw [e]; rfl))
                          go_wp2_with (first
                            | (refine wpList_load_row rfl 30 (.tmp 5) rfl g5 rfl 30 [va, vb, vc, vd, Value.slice none 0 0].toArray (0, 0) _ r5 Tryd.underlying30 rfl HIA.out ?_)
                            | (refine Row.store (g := g2) (t := 30) (L := zTr) (M := [va, vb, vc, vd, .slice none 0 0]) r2 rfl 30 (.tmp 2) (.tmp 105) rfl rfl rfl HIF.out rfl H1A.out ?_; rintro wF hwF rF))
                          have gF : ws.grownBy wF (some g2) := by rw [hwF]; exact grown_setRow _ _ _
                          have h8 : ∀ v b, Own8 ws w0.heap.size v b → v.ownBlock = none ∨ v.ownBlock ≠ some g2 := fun v b o => .inr (own_off o r2 (by decide))
                          have ja := HT4.out.t.a.kept gF h8 (.inr (own_off HT4.out.t.a.2.2 r2 (by decide)))
                          have jb := HT4.out.t.b.kept gF (.inr (own_off HT4.out.t.b.2 r2 (by decide)))
                          have jc := HT4.out.t.c.kept gF h8 (.inr (own_off HT4.out.t.c.2.2 r2 (by decide)))
                          have jd := HT4.out.t.d.kept gF (.inr (own_off HT4.out.t.d.2 r2 (by decide)))
                          have bF := HT4.out.b.grown gF HT4.out.b.size (fun k hk => by cases hk; exact hg20)
                          refine bodyPost_ret (v := .agg [va, vb, vc, vd, Value.slice none 0 0].toArray) (results_cell_row Tryd.results6 _ wF g2 30 _ (0, 0) _ rfl rF Tryd.underlying30 rfl HIA.out) rfl ⟨va, vb, vc, vd, xa, xc, rfl, ja, jb, jc, jd, HT4.out.t.ac, HT4.out.t.bd, bF⟩
end Go.Proofs.YtpobkoiaidgedaaDoor
