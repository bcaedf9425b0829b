/- ExtractsForgery holds of every argument. -/
import Derived.Test.YtpobkoiaidgedaaDoorSjE
namespace Go.Proofs.YtpobkoiaidgedaaDoor
open Go.RowKit

theorem exec_build0 {P : Program} {o : Oper} {ev : Operand → Value} (t : TypeId) (ho : o.op = .build t #[]) (cells : Array Value) (hf : P.built t [] = some cells) (w : World) : (execOp ev o).run P w = .ok (.value (.agg cells)) w := by
  have h := run_build (P := P) w t #[] cells (by simpa using hf)
  unfold execOp
  simp only [ho, List.map_toArray, List.map_nil, Sem.run_bind, h, Result.andThen_ok, Sem.run_pure]
theorem built_msg0 : Tryd.prog.built 54 [] = some Msg.zero.cells.toArray := by kernel_rfl
theorem zero_ok : Msg.zero.ok := by
  refine ⟨by decide, by decide, rfl, rfl⟩
/-- What Forgery gives is what the reference finds. -/
theorem forg_res {mk : List B8} {ls lf : List Msg} {wr wr' : World} {er : Ending} (h : RForgP mk ls lf wr er wr') :
    (∃ (k : Nat) (x : Msg), lf[k]? = some x ∧ er = .returned (.int .i64 (k : Int)) ∧ ∀ w e w', ForgP mk ls lf w e w' → e = .returned (.tuple #[.agg x.cells.toArray, .bool true]) ∧ Below w.heap.size w w') ∨
    (er = .returned (.int .i64 (-1)) ∧ ∀ w e w', ForgP mk ls lf w e w' → e = .returned (.tuple #[.agg Msg.zero.cells.toArray, .bool false]) ∧ Below w.heap.size w w') := by
  obtain ⟨h | h, _⟩ := h
  · obtain ⟨k, x, h1, h2, h3, h4⟩ := h
    exact .inl ⟨k, x, h1, h4, fun w e w' hf => forg_found h1 h2 h3 hf⟩
  · exact .inr ⟨h.2, fun w e w' hf => hf.none_ h.1⟩


set_option maxRecDepth 100000 in
set_option maxHeartbeats 32000000 in
theorem law_forgery (v : Value) (es1 es2 : List DE) (es3 es4 : List ME) (other : Bool) (w : World) (hG : Glob w) (hv : ArgT w v es1 es2 es3 es4) :
    Calls Tryd.prog 4 #[v, .bool other] w fun e w' => e = .returned (.bool true) ∧ Below w.heap.size w w' := by
  have HG := Lib.hid hG
  have HV := Lib.hid hv
  obtain ⟨A1, A2, A3, A4, n1, c1, n2, c2, n3, c3, n4, c4, rfl, _⟩ := hv.out
  clear hG hv
  obtain ⟨z, hz⟩ : ∃ z : List B8, z = List.replicate 32 0 := ⟨_, rfl⟩
  have HB := Lib.hid (show Tryd.prog.built 43 [] = some (cells8 z).toArray by rw [hz]; exact build_key0)
  have HZ : Hid (z.length = 32) := Lib.hid (by rw [hz]; exact key0_len)
  have HZ0 : Hid ((cells8 z)[0]? = some (.int .u8 0)) := Lib.hid (by rw [hz]; rfl)
  clear hz
  go_enter Tryd.func4, Tryd.ntmps4
  go_upto_region 1 with (fail)
  have ba := (Below.refl w.heap.size w).alloc (Nat.le_refl _) (.cells #[Value.slice A1 n1 c1, .slice A2 n2 c2, .slice A3 n3 c3, .slice A4 n4 c4] 25)
  have HVa := Lib.hid (HV.out.step ba)
  have BA := Lib.hid ba
  clear ba
  go_wp2_with (fail)
  refine (tOf_arg _ HVa.out).mono ?_
  rintro er w2 ⟨va, vb, vc, vd, xa, xc, rfl, ra, rb, rc, rd, sac, sbd, hb⟩
  obtain ⟨ls, hls⟩ : ∃ ls, ls = (es3.take 8).map (ME.msg mk0) := ⟨_, rfl⟩
  obtain ⟨lf, hlf⟩ : ∃ lf, lf = (es4.take 8).map (ME.msg mk0) := ⟨_, rfl⟩
  have HLSN : Hid (ls.length < 1000000) := Lib.hid (by rw [hls, List.length_map, List.length_take]; omega)
  have HLFN : Hid (lf.length < 1000000) := Lib.hid (by rw [hlf, List.length_map, List.length_take]; omega)
  rw [← hls] at rb
  rw [← hlf] at rd
  have HT1 := Lib.hid (trace_one ra rb rc rd)
  have HLS := Lib.hid rb.1
  have HLF := Lib.hid rd.1
  have OS := Lib.hid (own_mono rb.2 (Nat.zero_le _))
  have OF := Lib.hid (own_mono rd.2 (Nat.zero_le _))
  have B2 := Lib.hid (BA.out.trans (hb.mono BA.out.size))
  have S3 : Hid (Row (w2.alloc (.cells zTr.toArray 30)) w2.heap.size 30 zTr) := Lib.hid (heap_alloc_new _ _)
  have HIF : Hid ((Tryd.prog.info? 30).map (·.size) = some [va, vb, vc, vd, Value.slice none 0 0].length) := Lib.hid (by kernel_rfl)
  have HIF2 : Hid ((Tryd.prog.info? 30).map (·.size) = some [va, vb, vc, vd, Value.slice none 0 0].toArray.size) := Lib.hid (by kernel_rfl)
  clear hls hlf ra rb rc rd sac sbd hb HVa HV BA
  go_upto_region 2 with (refine Row.store (g := w2.heap.size) (t := 30) (L := zTr) (M := [va, vb, vc, vd, .slice none 0 0]) S3.out rfl 30 (.tmp 5) (.tmp 13) rfl rfl rfl HIF.out rfl HT1.out ?_; rintro w3 hw3 rt; have b23 : Below w2.heap.size w2 w3 := (by rw [hw3]; exact ((Below.refl _ _).alloc (Nat.le_refl _) _).grown (grown_setRow _ _ _) (by simp) (fun k hk => by cases hk; exact Nat.le_refl _)); clear hw3)
  obtain ⟨gt, hgt⟩ : ∃ g, g = w2.heap.size := ⟨_, rfl⟩
  rw [← hgt] at rt ⊢
  have RT3 := Lib.hid rt
  have B3 := Lib.hid (B2.out.trans (b23.mono B2.out.size))
  have OS3 := Lib.hid (own_below OS.out b23 (Nat.le_refl _))
  have OF3 := Lib.hid (own_below OF.out b23 (Nat.le_refl _))
  clear hgt rt b23 S3 B2 OS OF
  have hzl : (cells8 z).length = 32 := by rw [cells8_len, HZ.out]
  have HIZ := Lib.hid (show (Tryd.prog.info? 43).map (·.size) = some (cells8 z).length by rw [hzl]; kernel_rfl)
  have HZZ := Lib.hid (show (cells8 (List.replicate 32 0)).length = (cells8 z).length by rw [cells8_len, hzl]; rfl)
  have S4 : Hid (Row (w3.alloc (.cells (cells8 (List.replicate 32 0)).toArray 43)) w3.heap.size 43 (cells8 (List.replicate 32 0))) := Lib.hid (heap_alloc_new _ _)
  clear hzl
  go_upto_region 3 with (first
    | (refine wpList_build_as rfl _ _ rfl _ _ HB.out (by kernel_rfl) ?_)
    | (refine Row.store (g := w3.heap.size) (t := 43) (L := cells8 (List.replicate 32 0)) (M := cells8 z) S4.out rfl 43 (.tmp 6) (.tmp 14) rfl rfl rfl HIZ.out HZZ.out (cells8_one _) ?_; rintro w4 hw4 r6; have b34 : Below w3.heap.size w3 w4 := (by rw [hw4]; exact ((Below.refl _ _).alloc (Nat.le_refl _) _).grown (grown_setRow _ _ _) (by simp) (fun k hk => by cases hk; exact Nat.le_refl _)); clear hw4))
  obtain ⟨g6, hg6⟩ : ∃ g, g = w3.heap.size := ⟨_, rfl⟩
  rw [← hg6] at r6 ⊢
  have hg6w : w.heap.size ≤ g6 := by rw [hg6]; exact B3.out.size
  have hg6t : gt ≠ g6 := by rw [hg6]; exact Nat.ne_of_lt RT3.out.lt
  have RT4 := Lib.hid (RT3.out.step b34)
  have R64 := Lib.hid r6
  have B4 := Lib.hid (B3.out.trans (b34.mono B3.out.size))
  have OS4 := Lib.hid (own_below OS3.out b34 (Nat.le_refl _))
  have OF4 := Lib.hid (own_below OF3.out b34 (Nat.le_refl _))
  clear hg6 r6 b34 S4 B3 OS3 OF3 RT3
  have c60 : w4.cell? ⟨g6, 0, none⟩ = some (.int .u8 0) := R64.out.cell HZ0.out
  have f60 := R64.out.free 0
  cases other with
  | false =>
    go_upto_region 5 with (fail)
    have HCUT := Lib.hid (show ∃ mst : List B8, mst.length = 32 ∧ Row w4 g6 43 (cells8 mst) ∧ Row w4 gt 30 [va, vb, vc, vd, .slice none 0 0] ∧ Below w.heap.size w w4 ∧ w4.ownsRow 0 54 67 vb ls.length (ls.map Msg.cells).flatten ∧ w4.ownsRow 0 54 67 vd lf.length (lf.map Msg.cells).flatten from ⟨z, HZ.out, R64.out, RT4.out, B4.out, OS4.out, OF4.out⟩)
    obtain ⟨mst, hml, r6, rt, hb, os, of⟩ := HCUT.out
    clear HCUT c60 f60
    rename World => wc5
    have HMS := Lib.hid hml
    have R6c := Lib.hid r6
    have RTc := Lib.hid rt
    have Bc := Lib.hid hb
    have OSc := Lib.hid os
    have OFc := Lib.hid of
    clear hml r6 rt hb os of R64 RT4 B4 OS4 OF4
    have HIK2 := Lib.hid (show (Tryd.prog.info? 43).map (·.size) = some (cells8 mst).toArray.size by rw [List.size_toArray, cells8_len, HMS.out]; kernel_rfl)
    go_wp2_with (refine wpList_load_row rfl 43 (.tmp 6) rfl g6 rfl 43 (cells8 mst).toArray (0, 0) _ R6c.out Tryd.underlying43 rfl HIK2.out ?_)
    refine (refKeys_any mst HMS.out wc5).mono ?_
    rintro er wk ⟨rfl, hbk⟩
    obtain ⟨mk, hmk⟩ : ∃ mk, mk = macF mst := ⟨_, rfl⟩
    have HMK : Hid (mk.length = 32) := Lib.hid (by rw [hmk]; exact macF_len _)
    have HVF : Hid (volF mst = encF mst ++ mk) := Lib.hid (by rw [hmk]; rfl)
    rw [← hmk]
    clear hmk
    have HIE := Lib.hid (show (Tryd.prog.info? 44).map (·.size) = some (cells8 (encF mst)).length by rw [cells8_len, encF_len]; kernel_rfl)
    have HZE := Lib.hid (show (cells8 (List.replicate 16 0)).length = (cells8 (encF mst)).length by rw [cells8_len, cells8_len, encF_len]; rfl)
    have HIM := Lib.hid (show (Tryd.prog.info? 43).map (·.size) = some (cells8 mk).length by rw [cells8_len, HMK.out]; kernel_rfl)
    have HIK := Lib.hid (show (Tryd.prog.info? 43).map (·.size) = some (cells8 mk).toArray.size by rw [List.size_toArray, cells8_len, HMK.out]; kernel_rfl)
    have HZK := Lib.hid (show (cells8 (List.replicate 32 0)).length = (cells8 mk).length by rw [cells8_len, cells8_len, HMK.out]; rfl)
    have S3 : Hid (Row ((wk.alloc (.cells (cells8 (List.replicate 16 0)).toArray 44)).alloc (.cells (cells8 (List.replicate 32 0)).toArray 43)) wk.heap.size 44 (cells8 (List.replicate 16 0))) := by
      unfold Hid; rw [Row, ((Below.refl _ _).alloc (Nat.le_refl _) _).block wk.heap.size (by simp)]; exact heap_alloc_new _ _
    have S4 : Hid (Row ((wk.alloc (.cells (cells8 (List.replicate 16 0)).toArray 44)).alloc (.cells (cells8 (List.replicate 32 0)).toArray 43)) (wk.heap.size + 1) 43 (cells8 (List.replicate 32 0))) := Lib.hid (heap_new_at (by simp))
    have hba : Below wk.heap.size wk ((wk.alloc (.cells (cells8 (List.replicate 16 0)).toArray 44)).alloc (.cells (cells8 (List.replicate 32 0)).toArray 43)) := below_alloc2 (Below.refl _ _)
    have bk := hbk
    clear hbk
    go_upto_region 6 with (first
      | (refine Row.store (g := wk.heap.size) (t := 44) (L := cells8 (List.replicate 16 0)) (M := cells8 (encF mst)) S3.out rfl 44 (.tmp 7) (.tmp 20) rfl rfl rfl HIE.out HZE.out (cells8_one _) ?_; rintro w1 hw1 r3; have r41 : Row w1 (wk.heap.size + 1) 43 (cells8 (List.replicate 32 0)) := (by rw [hw1]; exact S4.out.other (Nat.succ_ne_self _) _); have b1 : Below wk.heap.size wk w1 := (by rw [hw1]; exact hba.grown (grown_setRow _ _ _) hba.size (fun k hk => by cases hk; exact Nat.le_refl _)); clear hw1 r3)
      | (refine Row.store (g := wk.heap.size + 1) (t := 43) (L := cells8 (List.replicate 32 0)) (M := cells8 mk) r41 rfl 43 (.tmp 8) (.tmp 21) rfl rfl rfl HIM.out HZK.out (cells8_one _) ?_; rintro w5 hw5 r8; have b2 : Below wk.heap.size wk w5 := (by rw [hw5]; exact b1.grown (grown_setRow _ _ _) b1.size (fun k hk => by cases hk; exact Nat.le_succ _)); clear hw5))
    obtain ⟨g8, hg8⟩ : ∃ g, g = wk.heap.size + 1 := ⟨_, rfl⟩
    rw [← hg8] at r8 ⊢
    have bc5 := bk.trans (b2.mono bk.size)
    have RT5 := Lib.hid (RTc.out.step bc5)
    have R65 := Lib.hid (R6c.out.step bc5)
    have R8 := Lib.hid r8
    have B5 := Lib.hid (Bc.out.trans (bc5.mono Bc.out.size))
    have OS5 := Lib.hid (own_below OSc.out bc5 (Nat.le_refl _))
    have OF5 := Lib.hid (own_below OFc.out bc5 (Nat.le_refl _))
    clear hg8 r8 b1 r41 b2 bk bc5 hba S3 S4 R6c RTc Bc OSc OFc
    go_wp2_with (first
      | (refine wpList_load_row rfl 30 (.tmp 5) rfl gt rfl 30 [va, vb, vc, vd, Value.slice none 0 0].toArray (0, 0) _ RT5.out Tryd.underlying30 rfl HIF2.out ?_)
      | (refine wpList_load_row rfl 43 (.tmp 8) rfl g8 rfl 43 (cells8 mk).toArray (0, 0) _ R8.out Tryd.underlying43 rfl HIK.out ?_))
    refine (refForgery_any mk ls lf va vb vc vd _ w5 HMK.out HLS.out HLF.out HLSN.out HLFN.out OS5.out OF5.out).mono ?_
    intro er w6 hres
    have hb6 := hres.2
    have hfr := forg_res hres
    have RT := Lib.hid (RT5.out.step hb6)
    have R6 := Lib.hid (R65.out.step hb6)
    have B6 := Lib.hid (B5.out.trans (hb6.mono B5.out.size))
    have HG6 := Lib.hid (HG.out.step B6.out)
    have HOS := Lib.hid (own_below OS5.out hb6 (Nat.le_refl _))
    have HOF := Lib.hid (own_below OF5.out hb6 (Nat.le_refl _))
    clear hres hb6 RT5 R65 R8 B5 OS5 OF5
    rcases hfr with ⟨k, x, hx, rfl, hF⟩ | ⟨rfl, hF⟩
    · have HF := Lib.hid hF
      have HX := Lib.hid hx
      have HXO := Lib.hid (HLF.out x (List.mem_of_getElem? hx))
      have HIr := Lib.hid (show (Tryd.prog.info? 54).map (·.size) = some x.cells.length by rw [Msg.len HXO.out]; kernel_rfl)
      have HIr2 := Lib.hid (show (Tryd.prog.info? 54).map (·.size) = some x.cells.toArray.size by rw [List.size_toArray, Msg.len HXO.out]; kernel_rfl)
      have HZr := Lib.hid (show Msg.zero.cells.length = x.cells.length by rw [Msg.len HXO.out]; rfl)
      clear hF hx
      go_upto_region 7 with (fail)
      go_cut [10, 11] (fun s10 s11 wx => ∃ g, s10 = .pointer (some ⟨g, 0, none⟩) ∧ s11 = .bool true ∧ Row wx g 54 (x).cells ∧ Below w6.heap.size w6 wx)
      case first =>
        have b0 : Below w6.heap.size w6 w6.drew := below_drewN' (Below.refl _ _) 1
        refine wp_region_held_drew (S := (fun w => Row w gt 30 [va, vb, vc, vd, .slice none 0 0] ∧ Row w g6 43 (cells8 mst))) (by kernel_rfl) ⟨RT.out, R6.out⟩ (fun hHeld => ?_)
        refine take_run 0 (v := (.agg [va, vb, vc, vd, .slice none 0 0].toArray)) rfl (by kernel_rfl) (by kernel_rfl) (by kernel_rfl) (fun _ _ _ h => h) rfl ?_ hHeld ?_
        · intro w hSw; (try dsimp only at hSw); exact exec_load_row 30 (.tmp 5) rfl gt rfl 30 [va, vb, vc, vd, .slice none 0 0].toArray (0, 0) _ hSw.1 Tryd.underlying30 rfl HIF2.out
        try simp only [Act.put, List.setIfInBounds_toArray, List.set_cons_zero, List.set_cons_succ]
        refine take_run 1 (v := (.agg (cells8 mst).toArray)) rfl (by kernel_rfl) (by kernel_rfl) (by kernel_rfl) (fun _ _ _ h => h) rfl ?_ hHeld ?_
        · intro w hSw; (try dsimp only at hSw); exact exec_load_row 43 (.tmp 6) rfl g6 rfl 43 (cells8 mst).toArray (0, 0) _ hSw.2 Tryd.underlying43 rfl HIK2.out
        try simp only [Act.put, List.setIfInBounds_toArray, List.set_cons_zero, List.set_cons_succ]
        refine take_two 2 7 rfl rfl (by kernel_rfl) rfl rfl (fun K hK => ?_) (fun K hK => ?_)
        · go_simp
          refine (volume_any mst HMS.out _ (HG6.out.step b0)).mono ?_
          rintro er wv1 ⟨rfl, hbx⟩
          have b_wv1 : Below w6.heap.size w6 wv1 := b0.trans (Below.mono hbx b0.size)
          rw [HVF.out]
          have hx_wv1 := hbx
          clear hbx
          try dsimp only
          try clear hHeld
          refine hK.out _ _ ⟨RT.out.below b_wv1 RT.out.lt, R6.out.below b_wv1 R6.out.lt⟩ (fun hHeld => ?_)
          clear hK K
          try simp only [Act.put, List.setIfInBounds_toArray, List.set_cons_zero, List.set_cons_succ]
          refine take_two 3 7 rfl rfl (by kernel_rfl) rfl rfl (fun K hK => ?_) (fun K hK => ?_)
          · go_simp
            refine (forgery_any (encF mst) mk ls lf va vb vc vd _ _ (encF_len _) HMK.out HLS.out HLF.out HLSN.out HLFN.out (HG6.out.step b_wv1) (own_below HOS.out b_wv1 (Nat.le_refl _)) (own_below HOF.out b_wv1 (Nat.le_refl _))).mono ?_
            intro er wf1 hres
            obtain ⟨rfl, hbx⟩ := HF.out _ _ _ hres
            have b_wf1 : Below w6.heap.size w6 wf1 := b_wv1.trans (Below.mono hbx b_wv1.size)
            have hx_wf1 := hbx
            clear hbx hres
            try dsimp only
            try clear hHeld
            refine hK.out _ _ ⟨RT.out.below b_wf1 RT.out.lt, R6.out.below b_wf1 R6.out.lt⟩ (fun hHeld => ?_)
            clear hK K
            try simp only [Act.put, List.setIfInBounds_toArray, List.set_cons_zero, List.set_cons_succ]
            refine take_run 4 (v := ?_) rfl (by kernel_rfl) (by kernel_rfl) (by kernel_rfl) (fun _ _ _ h => h) rfl ?_ hHeld ?_
            rotate_left
            · intro w hSw; (try dsimp only at hSw); go_simp <;> with_reducible rfl
            try simp only [Act.put, List.setIfInBounds_toArray, List.set_cons_zero, List.set_cons_succ]
            refine take_run 5 (v := ?_) rfl (by kernel_rfl) (by kernel_rfl) (by kernel_rfl) (fun _ _ _ h => h) rfl ?_ hHeld ?_
            rotate_left
            · intro w hSw; (try dsimp only at hSw); go_simp <;> with_reducible rfl
            try simp only [Act.put, List.setIfInBounds_toArray, List.set_cons_zero, List.set_cons_succ]
            refine take_run 6 (v := ?_) rfl (by kernel_rfl) (by kernel_rfl) (by kernel_rfl) (fun _ _ _ h => h) rfl ?_ hHeld ?_
            rotate_left
            · intro w hSw; (try dsimp only at hSw); go_simp <;> with_reducible rfl
            try simp only [Act.put, List.setIfInBounds_toArray, List.set_cons_zero, List.set_cons_succ]
            refine take_call 7 rfl (by kernel_rfl) rfl (fun K hK => ?_)
            have b_wa : Below w6.heap.size w6 (wf1.alloc (.cells Msg.zero.cells.toArray 54)) := Below.alloc b_wf1 (Below.size b_wf1) _
            have ra : Row (wf1.alloc (.cells Msg.zero.cells.toArray 54)) wf1.heap.size 54 Msg.zero.cells := heap_alloc_new _ _
            go_simp
            try clear hHeld
            refine hK.out _ (wf1.alloc (.cells Msg.zero.cells.toArray 54)) ⟨RT.out.below b_wa RT.out.lt, R6.out.below b_wa R6.out.lt⟩ (fun hHeld => ?_)
            clear hK K
            try simp only [Act.put, List.setIfInBounds_toArray, List.set_cons_zero, List.set_cons_succ]
            obtain ⟨wa, hwa⟩ : ∃ wa, wa = (wf1.alloc (.cells Msg.zero.cells.toArray 54)) := ⟨_, rfl⟩
            obtain ⟨ga, hga⟩ : ∃ g, g = wf1.heap.size := ⟨_, rfl⟩
            rw [← hwa] at b_wa ra hHeld ⊢
            rw [← hga] at ra ⊢
            have hle : w6.heap.size ≤ ga := by rw [hga]; first | exact Below.size b_wf1 | exact Nat.le_refl _
            clear hwa hga
            refine take_call 8 rfl (by kernel_rfl) rfl (fun K hK => ?_)
            refine wp_store_whole 54 (.tmp 10) (.tmp 30) rfl ga 54 Msg.zero.cells (x).cells rfl rfl ra HIr.out (by first | exact HZr.out | rfl) (Msg.one _) ?_
            intro wz rz gz
            have bz : Below w6.heap.size w6 wz := b_wa.grown gz b_wa.size (fun k hk => by cases hk; exact hle)
            try dsimp only
            try clear hHeld
            refine hK.out _ _ ⟨RT.out.below bz RT.out.lt, R6.out.below bz R6.out.lt⟩ (fun hHeld => ?_)
            clear hK K
            try simp only [Act.put]
            refine take_run 9 (v := ?_) rfl (by kernel_rfl) (by kernel_rfl) (by kernel_rfl) (fun _ _ _ h => h) rfl ?_ hHeld ?_
            rotate_left
            · intro w hSw; (try dsimp only at hSw); go_simp <;> with_reducible rfl
            try simp only [Act.put, List.setIfInBounds_toArray, List.set_cons_zero, List.set_cons_succ]
            refine wpAnyH_done (by kernel_rfl) ?_ _
            try clear hHeld
            go_wp2
            go_meet
            case rel => exact ⟨ga, rfl, rfl, rz, bz⟩
          · have b_wa : Below w6.heap.size w6 (wv1.alloc (.cells Msg.zero.cells.toArray 54)) := Below.alloc b_wv1 (Below.size b_wv1) _
            have ra : Row (wv1.alloc (.cells Msg.zero.cells.toArray 54)) wv1.heap.size 54 Msg.zero.cells := heap_alloc_new _ _
            go_simp
            try clear hHeld
            refine hK.out _ (wv1.alloc (.cells Msg.zero.cells.toArray 54)) ⟨RT.out.below b_wa RT.out.lt, R6.out.below b_wa R6.out.lt⟩ (fun hHeld => ?_)
            clear hK K
            try simp only [Act.put, List.setIfInBounds_toArray, List.set_cons_zero, List.set_cons_succ]
            obtain ⟨wa, hwa⟩ : ∃ wa, wa = (wv1.alloc (.cells Msg.zero.cells.toArray 54)) := ⟨_, rfl⟩
            obtain ⟨ga, hga⟩ : ∃ g, g = wv1.heap.size := ⟨_, rfl⟩
            rw [← hwa] at b_wa ra hHeld ⊢
            rw [← hga] at ra ⊢
            have hle : w6.heap.size ≤ ga := by rw [hga]; first | exact Below.size b_wv1 | exact Nat.le_refl _
            clear hwa hga
            refine take_call 3 rfl (by kernel_rfl) rfl (fun K hK => ?_)
            go_simp
            refine (forgery_any (encF mst) mk ls lf va vb vc vd _ _ (encF_len _) HMK.out HLS.out HLF.out HLSN.out HLFN.out (HG6.out.step b_wa) (own_below HOS.out b_wa (Nat.le_refl _)) (own_below HOF.out b_wa (Nat.le_refl _))).mono ?_
            intro er wf1 hres
            obtain ⟨rfl, hbx⟩ := HF.out _ _ _ hres
            have b_wf1 : Below w6.heap.size w6 wf1 := b_wa.trans (Below.mono hbx b_wa.size)
            have hx_wf1 := hbx
            clear hbx hres
            try dsimp only
            try clear hHeld
            refine hK.out _ _ ⟨RT.out.below b_wf1 RT.out.lt, R6.out.below b_wf1 R6.out.lt⟩ (fun hHeld => ?_)
            clear hK K
            try simp only [Act.put, List.setIfInBounds_toArray, List.set_cons_zero, List.set_cons_succ]
            have ra1 := ra.step hx_wf1
            refine take_run 4 (v := ?_) rfl (by kernel_rfl) (by kernel_rfl) (by kernel_rfl) (fun _ _ _ h => h) rfl ?_ hHeld ?_
            rotate_left
            · intro w hSw; (try dsimp only at hSw); go_simp <;> with_reducible rfl
            try simp only [Act.put, List.setIfInBounds_toArray, List.set_cons_zero, List.set_cons_succ]
            refine take_run 5 (v := ?_) rfl (by kernel_rfl) (by kernel_rfl) (by kernel_rfl) (fun _ _ _ h => h) rfl ?_ hHeld ?_
            rotate_left
            · intro w hSw; (try dsimp only at hSw); go_simp <;> with_reducible rfl
            try simp only [Act.put, List.setIfInBounds_toArray, List.set_cons_zero, List.set_cons_succ]
            refine take_run 6 (v := ?_) rfl (by kernel_rfl) (by kernel_rfl) (by kernel_rfl) (fun _ _ _ h => h) rfl ?_ hHeld ?_
            rotate_left
            · intro w hSw; (try dsimp only at hSw); go_simp <;> with_reducible rfl
            try simp only [Act.put, List.setIfInBounds_toArray, List.set_cons_zero, List.set_cons_succ]
            refine take_call 8 rfl (by kernel_rfl) rfl (fun K hK => ?_)
            refine wp_store_whole 54 (.tmp 10) (.tmp 30) rfl ga 54 Msg.zero.cells (x).cells rfl rfl ra1 HIr.out (by first | exact HZr.out | rfl) (Msg.one _) ?_
            intro wz rz gz
            have bz : Below w6.heap.size w6 wz := b_wf1.grown gz b_wf1.size (fun k hk => by cases hk; exact hle)
            try dsimp only
            try clear hHeld
            refine hK.out _ _ ⟨RT.out.below bz RT.out.lt, R6.out.below bz R6.out.lt⟩ (fun hHeld => ?_)
            clear hK K
            try simp only [Act.put]
            refine take_run 9 (v := ?_) rfl (by kernel_rfl) (by kernel_rfl) (by kernel_rfl) (fun _ _ _ h => h) rfl ?_ hHeld ?_
            rotate_left
            · intro w hSw; (try dsimp only at hSw); go_simp <;> with_reducible rfl
            try simp only [Act.put, List.setIfInBounds_toArray, List.set_cons_zero, List.set_cons_succ]
            refine wpAnyH_done (by kernel_rfl) ?_ _
            try clear hHeld
            go_wp2
            go_meet
            case rel => exact ⟨ga, rfl, rfl, rz, bz⟩
        · have b_wa : Below w6.heap.size w6 (w6.drew.alloc (.cells Msg.zero.cells.toArray 54)) := Below.alloc b0 (Below.size b0) _
          have ra : Row (w6.drew.alloc (.cells Msg.zero.cells.toArray 54)) w6.heap.size 54 Msg.zero.cells := heap_alloc_new _ _
          go_simp
          try clear hHeld
          refine hK.out _ (w6.drew.alloc (.cells Msg.zero.cells.toArray 54)) ⟨RT.out.below b_wa RT.out.lt, R6.out.below b_wa R6.out.lt⟩ (fun hHeld => ?_)
          clear hK K
          try simp only [Act.put, List.setIfInBounds_toArray, List.set_cons_zero, List.set_cons_succ]
          obtain ⟨wa, hwa⟩ : ∃ wa, wa = (w6.drew.alloc (.cells Msg.zero.cells.toArray 54)) := ⟨_, rfl⟩
          obtain ⟨ga, hga⟩ : ∃ g, g = w6.heap.size := ⟨_, rfl⟩
          rw [← hwa] at b_wa ra hHeld ⊢
          rw [← hga] at ra ⊢
          have hle : w6.heap.size ≤ ga := by rw [hga]; first | exact Below.size b0 | exact Nat.le_refl _
          clear hwa hga
          refine take_call 2 rfl (by kernel_rfl) rfl (fun K hK => ?_)
          go_simp
          refine (volume_any mst HMS.out _ (HG6.out.step b_wa)).mono ?_
          rintro er wv1 ⟨rfl, hbx⟩
          have b_wv1 : Below w6.heap.size w6 wv1 := b_wa.trans (Below.mono hbx b_wa.size)
          rw [HVF.out]
          have hx_wv1 := hbx
          clear hbx
          try dsimp only
          try clear hHeld
          refine hK.out _ _ ⟨RT.out.below b_wv1 RT.out.lt, R6.out.below b_wv1 R6.out.lt⟩ (fun hHeld => ?_)
          clear hK K
          try simp only [Act.put, List.setIfInBounds_toArray, List.set_cons_zero, List.set_cons_succ]
          refine take_call 3 rfl (by kernel_rfl) rfl (fun K hK => ?_)
          go_simp
          refine (forgery_any (encF mst) mk ls lf va vb vc vd _ _ (encF_len _) HMK.out HLS.out HLF.out HLSN.out HLFN.out (HG6.out.step b_wv1) (own_below HOS.out b_wv1 (Nat.le_refl _)) (own_below HOF.out b_wv1 (Nat.le_refl _))).mono ?_
          intro er wf1 hres
          obtain ⟨rfl, hbx⟩ := HF.out _ _ _ hres
          have b_wf1 : Below w6.heap.size w6 wf1 := b_wv1.trans (Below.mono hbx b_wv1.size)
          have hx_wf1 := hbx
          clear hbx hres
          try dsimp only
          try clear hHeld
          refine hK.out _ _ ⟨RT.out.below b_wf1 RT.out.lt, R6.out.below b_wf1 R6.out.lt⟩ (fun hHeld => ?_)
          clear hK K
          try simp only [Act.put, List.setIfInBounds_toArray, List.set_cons_zero, List.set_cons_succ]
          have ra1 := (ra.step hx_wv1).step hx_wf1
          refine take_run 4 (v := ?_) rfl (by kernel_rfl) (by kernel_rfl) (by kernel_rfl) (fun _ _ _ h => h) rfl ?_ hHeld ?_
          rotate_left
          · intro w hSw; (try dsimp only at hSw); go_simp <;> with_reducible rfl
          try simp only [Act.put, List.setIfInBounds_toArray, List.set_cons_zero, List.set_cons_succ]
          refine take_run 5 (v := ?_) rfl (by kernel_rfl) (by kernel_rfl) (by kernel_rfl) (fun _ _ _ h => h) rfl ?_ hHeld ?_
          rotate_left
          · intro w hSw; (try dsimp only at hSw); go_simp <;> with_reducible rfl
          try simp only [Act.put, List.setIfInBounds_toArray, List.set_cons_zero, List.set_cons_succ]
          refine take_run 6 (v := ?_) rfl (by kernel_rfl) (by kernel_rfl) (by kernel_rfl) (fun _ _ _ h => h) rfl ?_ hHeld ?_
          rotate_left
          · intro w hSw; (try dsimp only at hSw); go_simp <;> with_reducible rfl
          try simp only [Act.put, List.setIfInBounds_toArray, List.set_cons_zero, List.set_cons_succ]
          refine take_call 8 rfl (by kernel_rfl) rfl (fun K hK => ?_)
          refine wp_store_whole 54 (.tmp 10) (.tmp 30) rfl ga 54 Msg.zero.cells (x).cells rfl rfl ra1 HIr.out (by first | exact HZr.out | rfl) (Msg.one _) ?_
          intro wz rz gz
          have bz : Below w6.heap.size w6 wz := b_wf1.grown gz b_wf1.size (fun k hk => by cases hk; exact hle)
          try dsimp only
          try clear hHeld
          refine hK.out _ _ ⟨RT.out.below bz RT.out.lt, R6.out.below bz R6.out.lt⟩ (fun hHeld => ?_)
          clear hK K
          try simp only [Act.put]
          refine take_run 9 (v := ?_) rfl (by kernel_rfl) (by kernel_rfl) (by kernel_rfl) (fun _ _ _ h => h) rfl ?_ hHeld ?_
          rotate_left
          · intro w hSw; (try dsimp only at hSw); go_simp <;> with_reducible rfl
          try simp only [Act.put, List.setIfInBounds_toArray, List.set_cons_zero, List.set_cons_succ]
          refine wpAnyH_done (by kernel_rfl) ?_ _
          try clear hHeld
          go_wp2
          go_meet
          case rel => exact ⟨ga, rfl, rfl, rz, bz⟩
      case rest =>
        obtain ⟨g10, rfl, rfl, r10, hbx⟩ := hcut
        rename World => w7
        have R10 := Lib.hid r10
        have B7 := Lib.hid (B6.out.trans (hbx.mono B6.out.size))
        have HG7 := Lib.hid (HG.out.step B7.out)
        have HOF7 := Lib.hid (own_below HOF.out hbx (Nat.le_refl _))
        have RT7 := Lib.hid (RT.out.step hbx)
        have hkn : k < lf.length := (List.getElem?_eq_some_iff.1 HX.out).1
        obtain ⟨gf, cf, hvd, _, hrx⟩ := own_elem HOF7.out (fun c hc => by obtain ⟨m, hm, rfl⟩ := List.mem_map.1 hc; exact Msg.len (HLF.out m hm)) k x.cells (by rw [List.getElem?_map, HX.out]; rfl) hkn
        subst hvd
        have ct3 : w7.cell? ⟨gt, 3, none⟩ = some (.slice (some ⟨gf, 0, none⟩) lf.length cf) := RT7.out.cell rfl
        have hk0 : (0 : Int) ≤ (k : Int) := by omega
        have hk1 : (k : Int) < (lf.length : Int) := by omega
        have hlt0 : ¬ (k : Int) < 0 := by omega
        have hd0 : decide ((k : Int) < 0) = false := by simp
        have heq := fun w => eql_msg w x x HXO.out HXO.out
        have hdm : decide (x = x) = true := by simp
        clear r10 hbx
        go_upto_region 10 with (fail)
        refine wp_region_held_drew (S := (fun w => Row w g10 54 x.cells ∧ w.cell? ⟨gt, 3, none⟩ = some (.slice (some ⟨gf, 0, none⟩) lf.length cf) ∧ w.rangeAt gf (k * 67) x.cells)) (by kernel_rfl) ⟨R10.out, ct3, hrx⟩ (fun hHeld => ?_)
        refine take_run 0 (v := ?_) rfl (by kernel_rfl) (by kernel_rfl) (by kernel_rfl) (fun _ _ _ h => h) rfl ?_ hHeld ?_
        rotate_left
        · intro w hSw; (try dsimp only at hSw); go_simp <;> with_reducible rfl
        try simp only [Act.put, List.setIfInBounds_toArray, List.set_cons_zero, List.set_cons_succ]
        refine take_run 1 (v := ?_) rfl (by kernel_rfl) (by kernel_rfl) (by kernel_rfl) (fun _ _ _ h => h) rfl ?_ hHeld ?_
        rotate_left
        · intro w hSw; (try dsimp only at hSw); go_simp <;> with_reducible rfl
        try simp only [Act.put, List.setIfInBounds_toArray, List.set_cons_zero, List.set_cons_succ]
        refine take_run 2 (v := (.agg x.cells.toArray)) rfl (by kernel_rfl) (by kernel_rfl) (by kernel_rfl) (fun _ _ _ h => h) rfl ?_ hHeld ?_
        · intro w hSw; (try dsimp only at hSw); exact exec_load_row 54 (.tmp 10) rfl g10 rfl 54 x.cells.toArray (0, 0) _ hSw.1 Tryd.underlying54 rfl HIr2.out
        try simp only [Act.put, List.setIfInBounds_toArray, List.set_cons_zero, List.set_cons_succ]
        refine take_run 3 (v := ?_) rfl (by kernel_rfl) (by kernel_rfl) (by kernel_rfl) (fun _ _ _ h => h) rfl ?_ hHeld ?_
        rotate_left
        · intro w hSw; (try dsimp only at hSw); go_simp <;> with_reducible rfl
        try simp only [Act.put, List.setIfInBounds_toArray, List.set_cons_zero, List.set_cons_succ]
        refine take_run 4 (v := ?_) rfl (by kernel_rfl) (by kernel_rfl) (by kernel_rfl) (fun _ _ _ h => h) rfl ?_ hHeld ?_
        rotate_left
        · intro w hSw; (try dsimp only at hSw); go_simp <;> with_reducible rfl
        try simp only [Act.put, List.setIfInBounds_toArray, List.set_cons_zero, List.set_cons_succ]
        refine take_run 5 (v := ?_) rfl (by kernel_rfl) (by kernel_rfl) (by kernel_rfl) (fun _ _ _ h => h) rfl ?_ hHeld ?_
        rotate_left
        · intro w hSw; (try dsimp only at hSw); go_simp <;> with_reducible rfl
        try simp only [Act.put, List.setIfInBounds_toArray, List.set_cons_zero, List.set_cons_succ]
        refine take_run 6 (v := ?_) rfl (by kernel_rfl) (by kernel_rfl) (by kernel_rfl) (fun _ _ _ h => h) rfl ?_ hHeld ?_
        rotate_left
        · intro w hSw; (try dsimp only at hSw); go_simp <;> with_reducible rfl
        try simp only [Act.put, List.setIfInBounds_toArray, List.set_cons_zero, List.set_cons_succ]
        refine take_run 7 (v := (.agg x.cells.toArray)) rfl (by kernel_rfl) (by kernel_rfl) (by kernel_rfl) (fun _ _ _ h => h) rfl ?_ hHeld ?_
        · intro w hSw; (try dsimp only at hSw); exact exec_load_mid 54 (.tmp 50) rfl gf (k * 67) rfl x.cells _ hSw.2.2 Tryd.underlying54 rfl HIr.out
        try simp only [Act.put, List.setIfInBounds_toArray, List.set_cons_zero, List.set_cons_succ]
        refine take_run 8 (v := ?_) rfl (by kernel_rfl) (by kernel_rfl) (by kernel_rfl) (fun _ _ _ h => h) rfl ?_ hHeld ?_
        rotate_left
        · intro w hSw; (try dsimp only at hSw); go_simp <;> with_reducible rfl
        try simp only [Act.put, List.setIfInBounds_toArray, List.set_cons_zero, List.set_cons_succ]
        refine take_run 9 (v := ?_) rfl (by kernel_rfl) (by kernel_rfl) (by kernel_rfl) (fun _ _ _ h => h) rfl ?_ hHeld ?_
        rotate_left
        · intro w hSw; (try dsimp only at hSw); go_simp <;> with_reducible rfl
        try simp only [Act.put, List.setIfInBounds_toArray, List.set_cons_zero, List.set_cons_succ]
        refine take_run 10 (v := ?_) rfl (by kernel_rfl) (by kernel_rfl) (by kernel_rfl) (fun _ _ _ h => h) rfl ?_ hHeld ?_
        rotate_left
        · intro w hSw; (try dsimp only at hSw); go_simp <;> with_reducible rfl
        try simp only [Act.put, List.setIfInBounds_toArray, List.set_cons_zero, List.set_cons_succ]
        refine take_call 11 rfl (by kernel_rfl) rfl (fun K hK => ?_)
        go_simp
        refine (lives_any _ (HG7.out.step (below_drewN' (Below.refl _ _) 1))).mono ?_
        rintro er w8 ⟨rfl, hbx⟩
        have y8 : Below w7.heap.size w7 w8 := below_of_drew hbx
        clear hbx
        try dsimp only
        try clear hHeld
        refine hK.out _ _ ⟨R10.out.step y8, keep_cl y8 ct3, fun j u hu => keep_cl y8 (hrx j u hu)⟩ (fun hHeld => ?_)
        clear hK K
        try simp only [Act.put, List.setIfInBounds_toArray, List.set_cons_zero, List.set_cons_succ]
        refine take_run 12 (v := ?_) rfl (by kernel_rfl) (by kernel_rfl) (by kernel_rfl) (fun _ _ _ h => h) rfl ?_ hHeld ?_
        rotate_left
        · intro w hSw; (try dsimp only at hSw); go_simp <;> with_reducible rfl
        try simp only [Act.put, List.setIfInBounds_toArray, List.set_cons_zero, List.set_cons_succ]
        refine take_run 13 (v := ?_) rfl (by kernel_rfl) (by kernel_rfl) (by kernel_rfl) (fun _ _ _ h => h) rfl ?_ hHeld ?_
        rotate_left
        · intro w hSw; (try dsimp only at hSw); go_simp <;> with_reducible rfl
        try simp only [Act.put, List.setIfInBounds_toArray, List.set_cons_zero, List.set_cons_succ]
        refine wpAnyH_done (by kernel_rfl) ?_ _
        try clear hHeld
        go_wp2
        go_ret
        exact ⟨rfl, B7.out.trans (y8.mono B7.out.size)⟩
    · have HF := Lib.hid hF
      have HIr : Hid ((Tryd.prog.info? 54).map (·.size) = some Msg.zero.cells.length) := Lib.hid (by kernel_rfl)
      have HIr2 : Hid ((Tryd.prog.info? 54).map (·.size) = some Msg.zero.cells.toArray.size) := Lib.hid (by kernel_rfl)
      have HZr : Hid (Msg.zero.cells.length = Msg.zero.cells.length) := Lib.hid rfl
      clear hF
      go_upto_region 7 with (fail)
      go_cut [10, 11] (fun s10 s11 wx => ∃ g, s10 = .pointer (some ⟨g, 0, none⟩) ∧ s11 = .bool false ∧ Row wx g 54 (Msg.zero).cells ∧ Below w6.heap.size w6 wx)
      case first =>
        have b0 : Below w6.heap.size w6 w6.drew := below_drewN' (Below.refl _ _) 1
        refine wp_region_held_drew (S := (fun w => Row w gt 30 [va, vb, vc, vd, .slice none 0 0] ∧ Row w g6 43 (cells8 mst))) (by kernel_rfl) ⟨RT.out, R6.out⟩ (fun hHeld => ?_)
        refine take_run 0 (v := (.agg [va, vb, vc, vd, .slice none 0 0].toArray)) rfl (by kernel_rfl) (by kernel_rfl) (by kernel_rfl) (fun _ _ _ h => h) rfl ?_ hHeld ?_
        · intro w hSw; (try dsimp only at hSw); exact exec_load_row 30 (.tmp 5) rfl gt rfl 30 [va, vb, vc, vd, .slice none 0 0].toArray (0, 0) _ hSw.1 Tryd.underlying30 rfl HIF2.out
        try simp only [Act.put, List.setIfInBounds_toArray, List.set_cons_zero, List.set_cons_succ]
        refine take_run 1 (v := (.agg (cells8 mst).toArray)) rfl (by kernel_rfl) (by kernel_rfl) (by kernel_rfl) (fun _ _ _ h => h) rfl ?_ hHeld ?_
        · intro w hSw; (try dsimp only at hSw); exact exec_load_row 43 (.tmp 6) rfl g6 rfl 43 (cells8 mst).toArray (0, 0) _ hSw.2 Tryd.underlying43 rfl HIK2.out
        try simp only [Act.put, List.setIfInBounds_toArray, List.set_cons_zero, List.set_cons_succ]
        refine take_two 2 7 rfl rfl (by kernel_rfl) rfl rfl (fun K hK => ?_) (fun K hK => ?_)
        · go_simp
          refine (volume_any mst HMS.out _ (HG6.out.step b0)).mono ?_
          rintro er wv1 ⟨rfl, hbx⟩
          have b_wv1 : Below w6.heap.size w6 wv1 := b0.trans (Below.mono hbx b0.size)
          rw [HVF.out]
          have hx_wv1 := hbx
          clear hbx
          try dsimp only
          try clear hHeld
          refine hK.out _ _ ⟨RT.out.below b_wv1 RT.out.lt, R6.out.below b_wv1 R6.out.lt⟩ (fun hHeld => ?_)
          clear hK K
          try simp only [Act.put, List.setIfInBounds_toArray, List.set_cons_zero, List.set_cons_succ]
          refine take_two 3 7 rfl rfl (by kernel_rfl) rfl rfl (fun K hK => ?_) (fun K hK => ?_)
          · go_simp
            refine (forgery_any (encF mst) mk ls lf va vb vc vd _ _ (encF_len _) HMK.out HLS.out HLF.out HLSN.out HLFN.out (HG6.out.step b_wv1) (own_below HOS.out b_wv1 (Nat.le_refl _)) (own_below HOF.out b_wv1 (Nat.le_refl _))).mono ?_
            intro er wf1 hres
            obtain ⟨rfl, hbx⟩ := HF.out _ _ _ hres
            have b_wf1 : Below w6.heap.size w6 wf1 := b_wv1.trans (Below.mono hbx b_wv1.size)
            have hx_wf1 := hbx
            clear hbx hres
            try dsimp only
            try clear hHeld
            refine hK.out _ _ ⟨RT.out.below b_wf1 RT.out.lt, R6.out.below b_wf1 R6.out.lt⟩ (fun hHeld => ?_)
            clear hK K
            try simp only [Act.put, List.setIfInBounds_toArray, List.set_cons_zero, List.set_cons_succ]
            refine take_run 4 (v := ?_) rfl (by kernel_rfl) (by kernel_rfl) (by kernel_rfl) (fun _ _ _ h => h) rfl ?_ hHeld ?_
            rotate_left
            · intro w hSw; (try dsimp only at hSw); go_simp <;> with_reducible rfl
            try simp only [Act.put, List.setIfInBounds_toArray, List.set_cons_zero, List.set_cons_succ]
            refine take_run 5 (v := ?_) rfl (by kernel_rfl) (by kernel_rfl) (by kernel_rfl) (fun _ _ _ h => h) rfl ?_ hHeld ?_
            rotate_left
            · intro w hSw; (try dsimp only at hSw); go_simp <;> with_reducible rfl
            try simp only [Act.put, List.setIfInBounds_toArray, List.set_cons_zero, List.set_cons_succ]
            refine take_run 6 (v := ?_) rfl (by kernel_rfl) (by kernel_rfl) (by kernel_rfl) (fun _ _ _ h => h) rfl ?_ hHeld ?_
            rotate_left
            · intro w hSw; (try dsimp only at hSw); go_simp <;> with_reducible rfl
            try simp only [Act.put, List.setIfInBounds_toArray, List.set_cons_zero, List.set_cons_succ]
            refine take_call 7 rfl (by kernel_rfl) rfl (fun K hK => ?_)
            have b_wa : Below w6.heap.size w6 (wf1.alloc (.cells Msg.zero.cells.toArray 54)) := Below.alloc b_wf1 (Below.size b_wf1) _
            have ra : Row (wf1.alloc (.cells Msg.zero.cells.toArray 54)) wf1.heap.size 54 Msg.zero.cells := heap_alloc_new _ _
            go_simp
            try clear hHeld
            refine hK.out _ (wf1.alloc (.cells Msg.zero.cells.toArray 54)) ⟨RT.out.below b_wa RT.out.lt, R6.out.below b_wa R6.out.lt⟩ (fun hHeld => ?_)
            clear hK K
            try simp only [Act.put, List.setIfInBounds_toArray, List.set_cons_zero, List.set_cons_succ]
            obtain ⟨wa, hwa⟩ : ∃ wa, wa = (wf1.alloc (.cells Msg.zero.cells.toArray 54)) := ⟨_, rfl⟩
            obtain ⟨ga, hga⟩ : ∃ g, g = wf1.heap.size := ⟨_, rfl⟩
            rw [← hwa] at b_wa ra hHeld ⊢
            rw [← hga] at ra ⊢
            have hle : w6.heap.size ≤ ga := by rw [hga]; first | exact Below.size b_wf1 | exact Nat.le_refl _
            clear hwa hga
            refine take_call 8 rfl (by kernel_rfl) rfl (fun K hK => ?_)
            refine wp_store_whole 54 (.tmp 10) (.tmp 30) rfl ga 54 Msg.zero.cells (Msg.zero).cells rfl rfl ra HIr.out (by first | exact HZr.out | rfl) (Msg.one _) ?_
            intro wz rz gz
            have bz : Below w6.heap.size w6 wz := b_wa.grown gz b_wa.size (fun k hk => by cases hk; exact hle)
            try dsimp only
            try clear hHeld
            refine hK.out _ _ ⟨RT.out.below bz RT.out.lt, R6.out.below bz R6.out.lt⟩ (fun hHeld => ?_)
            clear hK K
            try simp only [Act.put]
            refine take_run 9 (v := ?_) rfl (by kernel_rfl) (by kernel_rfl) (by kernel_rfl) (fun _ _ _ h => h) rfl ?_ hHeld ?_
            rotate_left
            · intro w hSw; (try dsimp only at hSw); go_simp <;> with_reducible rfl
            try simp only [Act.put, List.setIfInBounds_toArray, List.set_cons_zero, List.set_cons_succ]
            refine wpAnyH_done (by kernel_rfl) ?_ _
            try clear hHeld
            go_wp2
            go_meet
            case rel => exact ⟨ga, rfl, rfl, rz, bz⟩
          · have b_wa : Below w6.heap.size w6 (wv1.alloc (.cells Msg.zero.cells.toArray 54)) := Below.alloc b_wv1 (Below.size b_wv1) _
            have ra : Row (wv1.alloc (.cells Msg.zero.cells.toArray 54)) wv1.heap.size 54 Msg.zero.cells := heap_alloc_new _ _
            go_simp
            try clear hHeld
            refine hK.out _ (wv1.alloc (.cells Msg.zero.cells.toArray 54)) ⟨RT.out.below b_wa RT.out.lt, R6.out.below b_wa R6.out.lt⟩ (fun hHeld => ?_)
            clear hK K
            try simp only [Act.put, List.setIfInBounds_toArray, List.set_cons_zero, List.set_cons_succ]
            obtain ⟨wa, hwa⟩ : ∃ wa, wa = (wv1.alloc (.cells Msg.zero.cells.toArray 54)) := ⟨_, rfl⟩
            obtain ⟨ga, hga⟩ : ∃ g, g = wv1.heap.size := ⟨_, rfl⟩
            rw [← hwa] at b_wa ra hHeld ⊢
            rw [← hga] at ra ⊢
            have hle : w6.heap.size ≤ ga := by rw [hga]; first | exact Below.size b_wv1 | exact Nat.le_refl _
            clear hwa hga
            refine take_call 3 rfl (by kernel_rfl) rfl (fun K hK => ?_)
            go_simp
            refine (forgery_any (encF mst) mk ls lf va vb vc vd _ _ (encF_len _) HMK.out HLS.out HLF.out HLSN.out HLFN.out (HG6.out.step b_wa) (own_below HOS.out b_wa (Nat.le_refl _)) (own_below HOF.out b_wa (Nat.le_refl _))).mono ?_
            intro er wf1 hres
            obtain ⟨rfl, hbx⟩ := HF.out _ _ _ hres
            have b_wf1 : Below w6.heap.size w6 wf1 := b_wa.trans (Below.mono hbx b_wa.size)
            have hx_wf1 := hbx
            clear hbx hres
            try dsimp only
            try clear hHeld
            refine hK.out _ _ ⟨RT.out.below b_wf1 RT.out.lt, R6.out.below b_wf1 R6.out.lt⟩ (fun hHeld => ?_)
            clear hK K
            try simp only [Act.put, List.setIfInBounds_toArray, List.set_cons_zero, List.set_cons_succ]
            have ra1 := ra.step hx_wf1
            refine take_run 4 (v := ?_) rfl (by kernel_rfl) (by kernel_rfl) (by kernel_rfl) (fun _ _ _ h => h) rfl ?_ hHeld ?_
            rotate_left
            · intro w hSw; (try dsimp only at hSw); go_simp <;> with_reducible rfl
            try simp only [Act.put, List.setIfInBounds_toArray, List.set_cons_zero, List.set_cons_succ]
            refine take_run 5 (v := ?_) rfl (by kernel_rfl) (by kernel_rfl) (by kernel_rfl) (fun _ _ _ h => h) rfl ?_ hHeld ?_
            rotate_left
            · intro w hSw; (try dsimp only at hSw); go_simp <;> with_reducible rfl
            try simp only [Act.put, List.setIfInBounds_toArray, List.set_cons_zero, List.set_cons_succ]
            refine take_run 6 (v := ?_) rfl (by kernel_rfl) (by kernel_rfl) (by kernel_rfl) (fun _ _ _ h => h) rfl ?_ hHeld ?_
            rotate_left
            · intro w hSw; (try dsimp only at hSw); go_simp <;> with_reducible rfl
            try simp only [Act.put, List.setIfInBounds_toArray, List.set_cons_zero, List.set_cons_succ]
            refine take_call 8 rfl (by kernel_rfl) rfl (fun K hK => ?_)
            refine wp_store_whole 54 (.tmp 10) (.tmp 30) rfl ga 54 Msg.zero.cells (Msg.zero).cells rfl rfl ra1 HIr.out (by first | exact HZr.out | rfl) (Msg.one _) ?_
            intro wz rz gz
            have bz : Below w6.heap.size w6 wz := b_wf1.grown gz b_wf1.size (fun k hk => by cases hk; exact hle)
            try dsimp only
            try clear hHeld
            refine hK.out _ _ ⟨RT.out.below bz RT.out.lt, R6.out.below bz R6.out.lt⟩ (fun hHeld => ?_)
            clear hK K
            try simp only [Act.put]
            refine take_run 9 (v := ?_) rfl (by kernel_rfl) (by kernel_rfl) (by kernel_rfl) (fun _ _ _ h => h) rfl ?_ hHeld ?_
            rotate_left
            · intro w hSw; (try dsimp only at hSw); go_simp <;> with_reducible rfl
            try simp only [Act.put, List.setIfInBounds_toArray, List.set_cons_zero, List.set_cons_succ]
            refine wpAnyH_done (by kernel_rfl) ?_ _
            try clear hHeld
            go_wp2
            go_meet
            case rel => exact ⟨ga, rfl, rfl, rz, bz⟩
        · have b_wa : Below w6.heap.size w6 (w6.drew.alloc (.cells Msg.zero.cells.toArray 54)) := Below.alloc b0 (Below.size b0) _
          have ra : Row (w6.drew.alloc (.cells Msg.zero.cells.toArray 54)) w6.heap.size 54 Msg.zero.cells := heap_alloc_new _ _
          go_simp
          try clear hHeld
          refine hK.out _ (w6.drew.alloc (.cells Msg.zero.cells.toArray 54)) ⟨RT.out.below b_wa RT.out.lt, R6.out.below b_wa R6.out.lt⟩ (fun hHeld => ?_)
          clear hK K
          try simp only [Act.put, List.setIfInBounds_toArray, List.set_cons_zero, List.set_cons_succ]
          obtain ⟨wa, hwa⟩ : ∃ wa, wa = (w6.drew.alloc (.cells Msg.zero.cells.toArray 54)) := ⟨_, rfl⟩
          obtain ⟨ga, hga⟩ : ∃ g, g = w6.heap.size := ⟨_, rfl⟩
          rw [← hwa] at b_wa ra hHeld ⊢
          rw [← hga] at ra ⊢
          have hle : w6.heap.size ≤ ga := by rw [hga]; first | exact Below.size b0 | exact Nat.le_refl _
          clear hwa hga
          refine take_call 2 rfl (by kernel_rfl) rfl (fun K hK => ?_)
          go_simp
          refine (volume_any mst HMS.out _ (HG6.out.step b_wa)).mono ?_
          rintro er wv1 ⟨rfl, hbx⟩
          have b_wv1 : Below w6.heap.size w6 wv1 := b_wa.trans (Below.mono hbx b_wa.size)
          rw [HVF.out]
          have hx_wv1 := hbx
          clear hbx
          try dsimp only
          try clear hHeld
          refine hK.out _ _ ⟨RT.out.below b_wv1 RT.out.lt, R6.out.below b_wv1 R6.out.lt⟩ (fun hHeld => ?_)
          clear hK K
          try simp only [Act.put, List.setIfInBounds_toArray, List.set_cons_zero, List.set_cons_succ]
          refine take_call 3 rfl (by kernel_rfl) rfl (fun K hK => ?_)
          go_simp
          refine (forgery_any (encF mst) mk ls lf va vb vc vd _ _ (encF_len _) HMK.out HLS.out HLF.out HLSN.out HLFN.out (HG6.out.step b_wv1) (own_below HOS.out b_wv1 (Nat.le_refl _)) (own_below HOF.out b_wv1 (Nat.le_refl _))).mono ?_
          intro er wf1 hres
          obtain ⟨rfl, hbx⟩ := HF.out _ _ _ hres
          have b_wf1 : Below w6.heap.size w6 wf1 := b_wv1.trans (Below.mono hbx b_wv1.size)
          have hx_wf1 := hbx
          clear hbx hres
          try dsimp only
          try clear hHeld
          refine hK.out _ _ ⟨RT.out.below b_wf1 RT.out.lt, R6.out.below b_wf1 R6.out.lt⟩ (fun hHeld => ?_)
          clear hK K
          try simp only [Act.put, List.setIfInBounds_toArray, List.set_cons_zero, List.set_cons_succ]
          have ra1 := (ra.step hx_wv1).step hx_wf1
          refine take_run 4 (v := ?_) rfl (by kernel_rfl) (by kernel_rfl) (by kernel_rfl) (fun _ _ _ h => h) rfl ?_ hHeld ?_
          rotate_left
          · intro w hSw; (try dsimp only at hSw); go_simp <;> with_reducible rfl
          try simp only [Act.put, List.setIfInBounds_toArray, List.set_cons_zero, List.set_cons_succ]
          refine take_run 5 (v := ?_) rfl (by kernel_rfl) (by kernel_rfl) (by kernel_rfl) (fun _ _ _ h => h) rfl ?_ hHeld ?_
          rotate_left
          · intro w hSw; (try dsimp only at hSw); go_simp <;> with_reducible rfl
          try simp only [Act.put, List.setIfInBounds_toArray, List.set_cons_zero, List.set_cons_succ]
          refine take_run 6 (v := ?_) rfl (by kernel_rfl) (by kernel_rfl) (by kernel_rfl) (fun _ _ _ h => h) rfl ?_ hHeld ?_
          rotate_left
          · intro w hSw; (try dsimp only at hSw); go_simp <;> with_reducible rfl
          try simp only [Act.put, List.setIfInBounds_toArray, List.set_cons_zero, List.set_cons_succ]
          refine take_call 8 rfl (by kernel_rfl) rfl (fun K hK => ?_)
          refine wp_store_whole 54 (.tmp 10) (.tmp 30) rfl ga 54 Msg.zero.cells (Msg.zero).cells rfl rfl ra1 HIr.out (by first | exact HZr.out | rfl) (Msg.one _) ?_
          intro wz rz gz
          have bz : Below w6.heap.size w6 wz := b_wf1.grown gz b_wf1.size (fun k hk => by cases hk; exact hle)
          try dsimp only
          try clear hHeld
          refine hK.out _ _ ⟨RT.out.below bz RT.out.lt, R6.out.below bz R6.out.lt⟩ (fun hHeld => ?_)
          clear hK K
          try simp only [Act.put]
          refine take_run 9 (v := ?_) rfl (by kernel_rfl) (by kernel_rfl) (by kernel_rfl) (fun _ _ _ h => h) rfl ?_ hHeld ?_
          rotate_left
          · intro w hSw; (try dsimp only at hSw); go_simp <;> with_reducible rfl
          try simp only [Act.put, List.setIfInBounds_toArray, List.set_cons_zero, List.set_cons_succ]
          refine wpAnyH_done (by kernel_rfl) ?_ _
          try clear hHeld
          go_wp2
          go_meet
          case rel => exact ⟨ga, rfl, rfl, rz, bz⟩
      case rest =>
        obtain ⟨g10, rfl, rfl, r10, hbx⟩ := hcut
        rename World => w7
        have R10 := Lib.hid r10
        have B7 := Lib.hid (B6.out.trans (hbx.mono B6.out.size))
        have HG7 := Lib.hid (HG.out.step B7.out)
        have heq := fun w => eql_msg w Msg.zero Msg.zero zero_ok zero_ok
        have hdm : decide (Msg.zero = Msg.zero) = true := by simp
        clear r10 hbx
        go_wp2_with (first
          | (refine wpList_want rfl (exec_load_row 54 (.tmp 10) rfl g10 rfl 54 Msg.zero.cells.toArray (0, 0) _ R10.out Tryd.underlying54 rfl HIr2.out) ?_)
          | (refine wpList_want rfl (exec_build0 54 rfl Msg.zero.cells.toArray built_msg0 _) ?_))
        refine (lives_any w7 HG7.out).mono ?_
        rintro er w8 ⟨rfl, hb8⟩
        have B8' := Lib.hid (B7.out.trans (hb8.mono B7.out.size))
        clear hb8
        go_wp2
        go_ret
        exact ⟨rfl, B8'.out⟩
  | true =>
    go_upto_region 5 with (fail)
    obtain ⟨w45, hw45⟩ : ∃ w45, w45 = (w4.setCell ⟨g6, 0, none⟩ (.int .u8 1)) := ⟨_, rfl⟩
    have HCUT := Lib.hid (show ∃ mst : List B8, mst.length = 32 ∧ Row w45 g6 43 (cells8 mst) ∧ Row w45 gt 30 [va, vb, vc, vd, .slice none 0 0] ∧ Below w.heap.size w w45 ∧ w45.ownsRow 0 54 67 vb ls.length (ls.map Msg.cells).flatten ∧ w45.ownsRow 0 54 67 vd lf.length (lf.map Msg.cells).flatten by
      have gr : w4.grownBy w45 (some g6) := by rw [hw45]; exact setCell_grown w4 g6 0 (.int .u8 1)
      have h : Row w45 g6 43 (cells8 (z.set 0 1#8)) := by
        rw [hw45]
        have h := R64.out.setCell (i := 0) (.int .u8 (bv 1#8))
        have e : (cells8 z).set 0 (.int .u8 (bv 1#8)) = cells8 (z.set 0 1#8) := by simp only [cells8, List.map_set]
        rw [e] at h
        exact h
      exact ⟨z.set 0 1#8, by rw [List.length_set]; exact HZ.out, h, row_k RT4.out gr hg6t, B4.out.grown gr B4.out.size (fun k hk => by cases hk; exact hg6w), World.ownsRow.kept OS4.out gr (.inr (own_off OS4.out R64.out (by decide))), World.ownsRow.kept OF4.out gr (.inr (own_off OF4.out R64.out (by decide)))⟩)
    rw [← hw45]
    obtain ⟨mst, hml, r6, rt, hb, os, of⟩ := HCUT.out
    clear HCUT c60 f60 hw45
    rename World => wc5
    have HMS := Lib.hid hml
    have R6c := Lib.hid r6
    have RTc := Lib.hid rt
    have Bc := Lib.hid hb
    have OSc := Lib.hid os
    have OFc := Lib.hid of
    clear hml r6 rt hb os of R64 RT4 B4 OS4 OF4
    have HIK2 := Lib.hid (show (Tryd.prog.info? 43).map (·.size) = some (cells8 mst).toArray.size by rw [List.size_toArray, cells8_len, HMS.out]; kernel_rfl)
    go_wp2_with (refine wpList_load_row rfl 43 (.tmp 6) rfl g6 rfl 43 (cells8 mst).toArray (0, 0) _ R6c.out Tryd.underlying43 rfl HIK2.out ?_)
    refine (refKeys_any mst HMS.out wc5).mono ?_
    rintro er wk ⟨rfl, hbk⟩
    obtain ⟨mk, hmk⟩ : ∃ mk, mk = macF mst := ⟨_, rfl⟩
    have HMK : Hid (mk.length = 32) := Lib.hid (by rw [hmk]; exact macF_len _)
    have HVF : Hid (volF mst = encF mst ++ mk) := Lib.hid (by rw [hmk]; rfl)
    rw [← hmk]
    clear hmk
    have HIE := Lib.hid (show (Tryd.prog.info? 44).map (·.size) = some (cells8 (encF mst)).length by rw [cells8_len, encF_len]; kernel_rfl)
    have HZE := Lib.hid (show (cells8 (List.replicate 16 0)).length = (cells8 (encF mst)).length by rw [cells8_len, cells8_len, encF_len]; rfl)
    have HIM := Lib.hid (show (Tryd.prog.info? 43).map (·.size) = some (cells8 mk).length by rw [cells8_len, HMK.out]; kernel_rfl)
    have HIK := Lib.hid (show (Tryd.prog.info? 43).map (·.size) = some (cells8 mk).toArray.size by rw [List.size_toArray, cells8_len, HMK.out]; kernel_rfl)
    have HZK := Lib.hid (show (cells8 (List.replicate 32 0)).length = (cells8 mk).length by rw [cells8_len, cells8_len, HMK.out]; rfl)
    have S3 : Hid (Row ((wk.alloc (.cells (cells8 (List.replicate 16 0)).toArray 44)).alloc (.cells (cells8 (List.replicate 32 0)).toArray 43)) wk.heap.size 44 (cells8 (List.replicate 16 0))) := by
      unfold Hid; rw [Row, ((Below.refl _ _).alloc (Nat.le_refl _) _).block wk.heap.size (by simp)]; exact heap_alloc_new _ _
    have S4 : Hid (Row ((wk.alloc (.cells (cells8 (List.replicate 16 0)).toArray 44)).alloc (.cells (cells8 (List.replicate 32 0)).toArray 43)) (wk.heap.size + 1) 43 (cells8 (List.replicate 32 0))) := Lib.hid (heap_new_at (by simp))
    have hba : Below wk.heap.size wk ((wk.alloc (.cells (cells8 (List.replicate 16 0)).toArray 44)).alloc (.cells (cells8 (List.replicate 32 0)).toArray 43)) := below_alloc2 (Below.refl _ _)
    have bk := hbk
    clear hbk
    go_upto_region 6 with (first
      | (refine Row.store (g := wk.heap.size) (t := 44) (L := cells8 (List.replicate 16 0)) (M := cells8 (encF mst)) S3.out rfl 44 (.tmp 7) (.tmp 20) rfl rfl rfl HIE.out HZE.out (cells8_one _) ?_; rintro w1 hw1 r3; have r41 : Row w1 (wk.heap.size + 1) 43 (cells8 (List.replicate 32 0)) := (by rw [hw1]; exact S4.out.other (Nat.succ_ne_self _) _); have b1 : Below wk.heap.size wk w1 := (by rw [hw1]; exact hba.grown (grown_setRow _ _ _) hba.size (fun k hk => by cases hk; exact Nat.le_refl _)); clear hw1 r3)
      | (refine Row.store (g := wk.heap.size + 1) (t := 43) (L := cells8 (List.replicate 32 0)) (M := cells8 mk) r41 rfl 43 (.tmp 8) (.tmp 21) rfl rfl rfl HIM.out HZK.out (cells8_one _) ?_; rintro w5 hw5 r8; have b2 : Below wk.heap.size wk w5 := (by rw [hw5]; exact b1.grown (grown_setRow _ _ _) b1.size (fun k hk => by cases hk; exact Nat.le_succ _)); clear hw5))
    obtain ⟨g8, hg8⟩ : ∃ g, g = wk.heap.size + 1 := ⟨_, rfl⟩
    rw [← hg8] at r8 ⊢
    have bc5 := bk.trans (b2.mono bk.size)
    have RT5 := Lib.hid (RTc.out.step bc5)
    have R65 := Lib.hid (R6c.out.step bc5)
    have R8 := Lib.hid r8
    have B5 := Lib.hid (Bc.out.trans (bc5.mono Bc.out.size))
    have OS5 := Lib.hid (own_below OSc.out bc5 (Nat.le_refl _))
    have OF5 := Lib.hid (own_below OFc.out bc5 (Nat.le_refl _))
    clear hg8 r8 b1 r41 b2 bk bc5 hba S3 S4 R6c RTc Bc OSc OFc
    go_wp2_with (first
      | (refine wpList_load_row rfl 30 (.tmp 5) rfl gt rfl 30 [va, vb, vc, vd, Value.slice none 0 0].toArray (0, 0) _ RT5.out Tryd.underlying30 rfl HIF2.out ?_)
      | (refine wpList_load_row rfl 43 (.tmp 8) rfl g8 rfl 43 (cells8 mk).toArray (0, 0) _ R8.out Tryd.underlying43 rfl HIK.out ?_))
    refine (refForgery_any mk ls lf va vb vc vd _ w5 HMK.out HLS.out HLF.out HLSN.out HLFN.out OS5.out OF5.out).mono ?_
    intro er w6 hres
    have hb6 := hres.2
    have hfr := forg_res hres
    have RT := Lib.hid (RT5.out.step hb6)
    have R6 := Lib.hid (R65.out.step hb6)
    have B6 := Lib.hid (B5.out.trans (hb6.mono B5.out.size))
    have HG6 := Lib.hid (HG.out.step B6.out)
    have HOS := Lib.hid (own_below OS5.out hb6 (Nat.le_refl _))
    have HOF := Lib.hid (own_below OF5.out hb6 (Nat.le_refl _))
    clear hres hb6 RT5 R65 R8 B5 OS5 OF5
    rcases hfr with ⟨k, x, hx, rfl, hF⟩ | ⟨rfl, hF⟩
    · have HF := Lib.hid hF
      have HX := Lib.hid hx
      have HXO := Lib.hid (HLF.out x (List.mem_of_getElem? hx))
      have HIr := Lib.hid (show (Tryd.prog.info? 54).map (·.size) = some x.cells.length by rw [Msg.len HXO.out]; kernel_rfl)
      have HIr2 := Lib.hid (show (Tryd.prog.info? 54).map (·.size) = some x.cells.toArray.size by rw [List.size_toArray, Msg.len HXO.out]; kernel_rfl)
      have HZr := Lib.hid (show Msg.zero.cells.length = x.cells.length by rw [Msg.len HXO.out]; rfl)
      clear hF hx
      go_upto_region 7 with (fail)
      go_cut [10, 11] (fun s10 s11 wx => ∃ g, s10 = .pointer (some ⟨g, 0, none⟩) ∧ s11 = .bool true ∧ Row wx g 54 (x).cells ∧ Below w6.heap.size w6 wx)
      case first =>
        have b0 : Below w6.heap.size w6 w6.drew := below_drewN' (Below.refl _ _) 1
        refine wp_region_held_drew (S := (fun w => Row w gt 30 [va, vb, vc, vd, .slice none 0 0] ∧ Row w g6 43 (cells8 mst))) (by kernel_rfl) ⟨RT.out, R6.out⟩ (fun hHeld => ?_)
        refine take_run 0 (v := (.agg [va, vb, vc, vd, .slice none 0 0].toArray)) rfl (by kernel_rfl) (by kernel_rfl) (by kernel_rfl) (fun _ _ _ h => h) rfl ?_ hHeld ?_
        · intro w hSw; (try dsimp only at hSw); exact exec_load_row 30 (.tmp 5) rfl gt rfl 30 [va, vb, vc, vd, .slice none 0 0].toArray (0, 0) _ hSw.1 Tryd.underlying30 rfl HIF2.out
        try simp only [Act.put, List.setIfInBounds_toArray, List.set_cons_zero, List.set_cons_succ]
        refine take_run 1 (v := (.agg (cells8 mst).toArray)) rfl (by kernel_rfl) (by kernel_rfl) (by kernel_rfl) (fun _ _ _ h => h) rfl ?_ hHeld ?_
        · intro w hSw; (try dsimp only at hSw); exact exec_load_row 43 (.tmp 6) rfl g6 rfl 43 (cells8 mst).toArray (0, 0) _ hSw.2 Tryd.underlying43 rfl HIK2.out
        try simp only [Act.put, List.setIfInBounds_toArray, List.set_cons_zero, List.set_cons_succ]
        refine take_two 2 7 rfl rfl (by kernel_rfl) rfl rfl (fun K hK => ?_) (fun K hK => ?_)
        · go_simp
          refine (volume_any mst HMS.out _ (HG6.out.step b0)).mono ?_
          rintro er wv1 ⟨rfl, hbx⟩
          have b_wv1 : Below w6.heap.size w6 wv1 := b0.trans (Below.mono hbx b0.size)
          rw [HVF.out]
          have hx_wv1 := hbx
          clear hbx
          try dsimp only
          try clear hHeld
          refine hK.out _ _ ⟨RT.out.below b_wv1 RT.out.lt, R6.out.below b_wv1 R6.out.lt⟩ (fun hHeld => ?_)
          clear hK K
          try simp only [Act.put, List.setIfInBounds_toArray, List.set_cons_zero, List.set_cons_succ]
          refine take_two 3 7 rfl rfl (by kernel_rfl) rfl rfl (fun K hK => ?_) (fun K hK => ?_)
          · go_simp
            refine (forgery_any (encF mst) mk ls lf va vb vc vd _ _ (encF_len _) HMK.out HLS.out HLF.out HLSN.out HLFN.out (HG6.out.step b_wv1) (own_below HOS.out b_wv1 (Nat.le_refl _)) (own_below HOF.out b_wv1 (Nat.le_refl _))).mono ?_
            intro er wf1 hres
            obtain ⟨rfl, hbx⟩ := HF.out _ _ _ hres
            have b_wf1 : Below w6.heap.size w6 wf1 := b_wv1.trans (Below.mono hbx b_wv1.size)
            have hx_wf1 := hbx
            clear hbx hres
            try dsimp only
            try clear hHeld
            refine hK.out _ _ ⟨RT.out.below b_wf1 RT.out.lt, R6.out.below b_wf1 R6.out.lt⟩ (fun hHeld => ?_)
            clear hK K
            try simp only [Act.put, List.setIfInBounds_toArray, List.set_cons_zero, List.set_cons_succ]
            refine take_run 4 (v := ?_) rfl (by kernel_rfl) (by kernel_rfl) (by kernel_rfl) (fun _ _ _ h => h) rfl ?_ hHeld ?_
            rotate_left
            · intro w hSw; (try dsimp only at hSw); go_simp <;> with_reducible rfl
            try simp only [Act.put, List.setIfInBounds_toArray, List.set_cons_zero, List.set_cons_succ]
            refine take_run 5 (v := ?_) rfl (by kernel_rfl) (by kernel_rfl) (by kernel_rfl) (fun _ _ _ h => h) rfl ?_ hHeld ?_
            rotate_left
            · intro w hSw; (try dsimp only at hSw); go_simp <;> with_reducible rfl
            try simp only [Act.put, List.setIfInBounds_toArray, List.set_cons_zero, List.set_cons_succ]
            refine take_run 6 (v := ?_) rfl (by kernel_rfl) (by kernel_rfl) (by kernel_rfl) (fun _ _ _ h => h) rfl ?_ hHeld ?_
            rotate_left
            · intro w hSw; (try dsimp only at hSw); go_simp <;> with_reducible rfl
            try simp only [Act.put, List.setIfInBounds_toArray, List.set_cons_zero, List.set_cons_succ]
            refine take_call 7 rfl (by kernel_rfl) rfl (fun K hK => ?_)
            have b_wa : Below w6.heap.size w6 (wf1.alloc (.cells Msg.zero.cells.toArray 54)) := Below.alloc b_wf1 (Below.size b_wf1) _
            have ra : Row (wf1.alloc (.cells Msg.zero.cells.toArray 54)) wf1.heap.size 54 Msg.zero.cells := heap_alloc_new _ _
            go_simp
            try clear hHeld
            refine hK.out _ (wf1.alloc (.cells Msg.zero.cells.toArray 54)) ⟨RT.out.below b_wa RT.out.lt, R6.out.below b_wa R6.out.lt⟩ (fun hHeld => ?_)
            clear hK K
            try simp only [Act.put, List.setIfInBounds_toArray, List.set_cons_zero, List.set_cons_succ]
            obtain ⟨wa, hwa⟩ : ∃ wa, wa = (wf1.alloc (.cells Msg.zero.cells.toArray 54)) := ⟨_, rfl⟩
            obtain ⟨ga, hga⟩ : ∃ g, g = wf1.heap.size := ⟨_, rfl⟩
            rw [← hwa] at b_wa ra hHeld ⊢
            rw [← hga] at ra ⊢
            have hle : w6.heap.size ≤ ga := by rw [hga]; first | exact Below.size b_wf1 | exact Nat.le_refl _
            clear hwa hga
            refine take_call 8 rfl (by kernel_rfl) rfl (fun K hK => ?_)
            refine wp_store_whole 54 (.tmp 10) (.tmp 30) rfl ga 54 Msg.zero.cells (x).cells rfl rfl ra HIr.out (by first | exact HZr.out | rfl) (Msg.one _) ?_
            intro wz rz gz
            have bz : Below w6.heap.size w6 wz := b_wa.grown gz b_wa.size (fun k hk => by cases hk; exact hle)
            try dsimp only
            try clear hHeld
            refine hK.out _ _ ⟨RT.out.below bz RT.out.lt, R6.out.below bz R6.out.lt⟩ (fun hHeld => ?_)
            clear hK K
            try simp only [Act.put]
            refine take_run 9 (v := ?_) rfl (by kernel_rfl) (by kernel_rfl) (by kernel_rfl) (fun _ _ _ h => h) rfl ?_ hHeld ?_
            rotate_left
            · intro w hSw; (try dsimp only at hSw); go_simp <;> with_reducible rfl
            try simp only [Act.put, List.setIfInBounds_toArray, List.set_cons_zero, List.set_cons_succ]
            refine wpAnyH_done (by kernel_rfl) ?_ _
            try clear hHeld
            go_wp2
            go_meet
            case rel => exact ⟨ga, rfl, rfl, rz, bz⟩
          · have b_wa : Below w6.heap.size w6 (wv1.alloc (.cells Msg.zero.cells.toArray 54)) := Below.alloc b_wv1 (Below.size b_wv1) _
            have ra : Row (wv1.alloc (.cells Msg.zero.cells.toArray 54)) wv1.heap.size 54 Msg.zero.cells := heap_alloc_new _ _
            go_simp
            try clear hHeld
            refine hK.out _ (wv1.alloc (.cells Msg.zero.cells.toArray 54)) ⟨RT.out.below b_wa RT.out.lt, R6.out.below b_wa R6.out.lt⟩ (fun hHeld => ?_)
            clear hK K
            try simp only [Act.put, List.setIfInBounds_toArray, List.set_cons_zero, List.set_cons_succ]
            obtain ⟨wa, hwa⟩ : ∃ wa, wa = (wv1.alloc (.cells Msg.zero.cells.toArray 54)) := ⟨_, rfl⟩
            obtain ⟨ga, hga⟩ : ∃ g, g = wv1.heap.size := ⟨_, rfl⟩
            rw [← hwa] at b_wa ra hHeld ⊢
            rw [← hga] at ra ⊢
            have hle : w6.heap.size ≤ ga := by rw [hga]; first | exact Below.size b_wv1 | exact Nat.le_refl _
            clear hwa hga
            refine take_call 3 rfl (by kernel_rfl) rfl (fun K hK => ?_)
            go_simp
            refine (forgery_any (encF mst) mk ls lf va vb vc vd _ _ (encF_len _) HMK.out HLS.out HLF.out HLSN.out HLFN.out (HG6.out.step b_wa) (own_below HOS.out b_wa (Nat.le_refl _)) (own_below HOF.out b_wa (Nat.le_refl _))).mono ?_
            intro er wf1 hres
            obtain ⟨rfl, hbx⟩ := HF.out _ _ _ hres
            have b_wf1 : Below w6.heap.size w6 wf1 := b_wa.trans (Below.mono hbx b_wa.size)
            have hx_wf1 := hbx
            clear hbx hres
            try dsimp only
            try clear hHeld
            refine hK.out _ _ ⟨RT.out.below b_wf1 RT.out.lt, R6.out.below b_wf1 R6.out.lt⟩ (fun hHeld => ?_)
            clear hK K
            try simp only [Act.put, List.setIfInBounds_toArray, List.set_cons_zero, List.set_cons_succ]
            have ra1 := ra.step hx_wf1
            refine take_run 4 (v := ?_) rfl (by kernel_rfl) (by kernel_rfl) (by kernel_rfl) (fun _ _ _ h => h) rfl ?_ hHeld ?_
            rotate_left
            · intro w hSw; (try dsimp only at hSw); go_simp <;> with_reducible rfl
            try simp only [Act.put, List.setIfInBounds_toArray, List.set_cons_zero, List.set_cons_succ]
            refine take_run 5 (v := ?_) rfl (by kernel_rfl) (by kernel_rfl) (by kernel_rfl) (fun _ _ _ h => h) rfl ?_ hHeld ?_
            rotate_left
            · intro w hSw; (try dsimp only at hSw); go_simp <;> with_reducible rfl
            try simp only [Act.put, List.setIfInBounds_toArray, List.set_cons_zero, List.set_cons_succ]
            refine take_run 6 (v := ?_) rfl (by kernel_rfl) (by kernel_rfl) (by kernel_rfl) (fun _ _ _ h => h) rfl ?_ hHeld ?_
            rotate_left
            · intro w hSw; (try dsimp only at hSw); go_simp <;> with_reducible rfl
            try simp only [Act.put, List.setIfInBounds_toArray, List.set_cons_zero, List.set_cons_succ]
            refine take_call 8 rfl (by kernel_rfl) rfl (fun K hK => ?_)
            refine wp_store_whole 54 (.tmp 10) (.tmp 30) rfl ga 54 Msg.zero.cells (x).cells rfl rfl ra1 HIr.out (by first | exact HZr.out | rfl) (Msg.one _) ?_
            intro wz rz gz
            have bz : Below w6.heap.size w6 wz := b_wf1.grown gz b_wf1.size (fun k hk => by cases hk; exact hle)
            try dsimp only
            try clear hHeld
            refine hK.out _ _ ⟨RT.out.below bz RT.out.lt, R6.out.below bz R6.out.lt⟩ (fun hHeld => ?_)
            clear hK K
            try simp only [Act.put]
            refine take_run 9 (v := ?_) rfl (by kernel_rfl) (by kernel_rfl) (by kernel_rfl) (fun _ _ _ h => h) rfl ?_ hHeld ?_
            rotate_left
            · intro w hSw; (try dsimp only at hSw); go_simp <;> with_reducible rfl
            try simp only [Act.put, List.setIfInBounds_toArray, List.set_cons_zero, List.set_cons_succ]
            refine wpAnyH_done (by kernel_rfl) ?_ _
            try clear hHeld
            go_wp2
            go_meet
            case rel => exact ⟨ga, rfl, rfl, rz, bz⟩
        · have b_wa : Below w6.heap.size w6 (w6.drew.alloc (.cells Msg.zero.cells.toArray 54)) := Below.alloc b0 (Below.size b0) _
          have ra : Row (w6.drew.alloc (.cells Msg.zero.cells.toArray 54)) w6.heap.size 54 Msg.zero.cells := heap_alloc_new _ _
          go_simp
          try clear hHeld
          refine hK.out _ (w6.drew.alloc (.cells Msg.zero.cells.toArray 54)) ⟨RT.out.below b_wa RT.out.lt, R6.out.below b_wa R6.out.lt⟩ (fun hHeld => ?_)
          clear hK K
          try simp only [Act.put, List.setIfInBounds_toArray, List.set_cons_zero, List.set_cons_succ]
          obtain ⟨wa, hwa⟩ : ∃ wa, wa = (w6.drew.alloc (.cells Msg.zero.cells.toArray 54)) := ⟨_, rfl⟩
          obtain ⟨ga, hga⟩ : ∃ g, g = w6.heap.size := ⟨_, rfl⟩
          rw [← hwa] at b_wa ra hHeld ⊢
          rw [← hga] at ra ⊢
          have hle : w6.heap.size ≤ ga := by rw [hga]; first | exact Below.size b0 | exact Nat.le_refl _
          clear hwa hga
          refine take_call 2 rfl (by kernel_rfl) rfl (fun K hK => ?_)
          go_simp
          refine (volume_any mst HMS.out _ (HG6.out.step b_wa)).mono ?_
          rintro er wv1 ⟨rfl, hbx⟩
          have b_wv1 : Below w6.heap.size w6 wv1 := b_wa.trans (Below.mono hbx b_wa.size)
          rw [HVF.out]
          have hx_wv1 := hbx
          clear hbx
          try dsimp only
          try clear hHeld
          refine hK.out _ _ ⟨RT.out.below b_wv1 RT.out.lt, R6.out.below b_wv1 R6.out.lt⟩ (fun hHeld => ?_)
          clear hK K
          try simp only [Act.put, List.setIfInBounds_toArray, List.set_cons_zero, List.set_cons_succ]
          refine take_call 3 rfl (by kernel_rfl) rfl (fun K hK => ?_)
          go_simp
          refine (forgery_any (encF mst) mk ls lf va vb vc vd _ _ (encF_len _) HMK.out HLS.out HLF.out HLSN.out HLFN.out (HG6.out.step b_wv1) (own_below HOS.out b_wv1 (Nat.le_refl _)) (own_below HOF.out b_wv1 (Nat.le_refl _))).mono ?_
          intro er wf1 hres
          obtain ⟨rfl, hbx⟩ := HF.out _ _ _ hres
          have b_wf1 : Below w6.heap.size w6 wf1 := b_wv1.trans (Below.mono hbx b_wv1.size)
          have hx_wf1 := hbx
          clear hbx hres
          try dsimp only
          try clear hHeld
          refine hK.out _ _ ⟨RT.out.below b_wf1 RT.out.lt, R6.out.below b_wf1 R6.out.lt⟩ (fun hHeld => ?_)
          clear hK K
          try simp only [Act.put, List.setIfInBounds_toArray, List.set_cons_zero, List.set_cons_succ]
          have ra1 := (ra.step hx_wv1).step hx_wf1
          refine take_run 4 (v := ?_) rfl (by kernel_rfl) (by kernel_rfl) (by kernel_rfl) (fun _ _ _ h => h) rfl ?_ hHeld ?_
          rotate_left
          · intro w hSw; (try dsimp only at hSw); go_simp <;> with_reducible rfl
          try simp only [Act.put, List.setIfInBounds_toArray, List.set_cons_zero, List.set_cons_succ]
          refine take_run 5 (v := ?_) rfl (by kernel_rfl) (by kernel_rfl) (by kernel_rfl) (fun _ _ _ h => h) rfl ?_ hHeld ?_
          rotate_left
          · intro w hSw; (try dsimp only at hSw); go_simp <;> with_reducible rfl
          try simp only [Act.put, List.setIfInBounds_toArray, List.set_cons_zero, List.set_cons_succ]
          refine take_run 6 (v := ?_) rfl (by kernel_rfl) (by kernel_rfl) (by kernel_rfl) (fun _ _ _ h => h) rfl ?_ hHeld ?_
          rotate_left
          · intro w hSw; (try dsimp only at hSw); go_simp <;> with_reducible rfl
          try simp only [Act.put, List.setIfInBounds_toArray, List.set_cons_zero, List.set_cons_succ]
          refine take_call 8 rfl (by kernel_rfl) rfl (fun K hK => ?_)
          refine wp_store_whole 54 (.tmp 10) (.tmp 30) rfl ga 54 Msg.zero.cells (x).cells rfl rfl ra1 HIr.out (by first | exact HZr.out | rfl) (Msg.one _) ?_
          intro wz rz gz
          have bz : Below w6.heap.size w6 wz := b_wf1.grown gz b_wf1.size (fun k hk => by cases hk; exact hle)
          try dsimp only
          try clear hHeld
          refine hK.out _ _ ⟨RT.out.below bz RT.out.lt, R6.out.below bz R6.out.lt⟩ (fun hHeld => ?_)
          clear hK K
          try simp only [Act.put]
          refine take_run 9 (v := ?_) rfl (by kernel_rfl) (by kernel_rfl) (by kernel_rfl) (fun _ _ _ h => h) rfl ?_ hHeld ?_
          rotate_left
          · intro w hSw; (try dsimp only at hSw); go_simp <;> with_reducible rfl
          try simp only [Act.put, List.setIfInBounds_toArray, List.set_cons_zero, List.set_cons_succ]
          refine wpAnyH_done (by kernel_rfl) ?_ _
          try clear hHeld
          go_wp2
          go_meet
          case rel => exact ⟨ga, rfl, rfl, rz, bz⟩
      case rest =>
        obtain ⟨g10, rfl, rfl, r10, hbx⟩ := hcut
        rename World => w7
        have R10 := Lib.hid r10
        have B7 := Lib.hid (B6.out.trans (hbx.mono B6.out.size))
        have HG7 := Lib.hid (HG.out.step B7.out)
        have HOF7 := Lib.hid (own_below HOF.out hbx (Nat.le_refl _))
        have RT7 := Lib.hid (RT.out.step hbx)
        have hkn : k < lf.length := (List.getElem?_eq_some_iff.1 HX.out).1
        obtain ⟨gf, cf, hvd, _, hrx⟩ := own_elem HOF7.out (fun c hc => by obtain ⟨m, hm, rfl⟩ := List.mem_map.1 hc; exact Msg.len (HLF.out m hm)) k x.cells (by rw [List.getElem?_map, HX.out]; rfl) hkn
        subst hvd
        have ct3 : w7.cell? ⟨gt, 3, none⟩ = some (.slice (some ⟨gf, 0, none⟩) lf.length cf) := RT7.out.cell rfl
        have hk0 : (0 : Int) ≤ (k : Int) := by omega
        have hk1 : (k : Int) < (lf.length : Int) := by omega
        have hlt0 : ¬ (k : Int) < 0 := by omega
        have hd0 : decide ((k : Int) < 0) = false := by simp
        have heq := fun w => eql_msg w x x HXO.out HXO.out
        have hdm : decide (x = x) = true := by simp
        clear r10 hbx
        go_upto_region 10 with (fail)
        refine wp_region_held_drew (S := (fun w => Row w g10 54 x.cells ∧ w.cell? ⟨gt, 3, none⟩ = some (.slice (some ⟨gf, 0, none⟩) lf.length cf) ∧ w.rangeAt gf (k * 67) x.cells)) (by kernel_rfl) ⟨R10.out, ct3, hrx⟩ (fun hHeld => ?_)
        refine take_run 0 (v := ?_) rfl (by kernel_rfl) (by kernel_rfl) (by kernel_rfl) (fun _ _ _ h => h) rfl ?_ hHeld ?_
        rotate_left
        · intro w hSw; (try dsimp only at hSw); go_simp <;> with_reducible rfl
        try simp only [Act.put, List.setIfInBounds_toArray, List.set_cons_zero, List.set_cons_succ]
        refine take_run 1 (v := ?_) rfl (by kernel_rfl) (by kernel_rfl) (by kernel_rfl) (fun _ _ _ h => h) rfl ?_ hHeld ?_
        rotate_left
        · intro w hSw; (try dsimp only at hSw); go_simp <;> with_reducible rfl
        try simp only [Act.put, List.setIfInBounds_toArray, List.set_cons_zero, List.set_cons_succ]
        refine take_run 2 (v := (.agg x.cells.toArray)) rfl (by kernel_rfl) (by kernel_rfl) (by kernel_rfl) (fun _ _ _ h => h) rfl ?_ hHeld ?_
        · intro w hSw; (try dsimp only at hSw); exact exec_load_row 54 (.tmp 10) rfl g10 rfl 54 x.cells.toArray (0, 0) _ hSw.1 Tryd.underlying54 rfl HIr2.out
        try simp only [Act.put, List.setIfInBounds_toArray, List.set_cons_zero, List.set_cons_succ]
        refine take_run 3 (v := ?_) rfl (by kernel_rfl) (by kernel_rfl) (by kernel_rfl) (fun _ _ _ h => h) rfl ?_ hHeld ?_
        rotate_left
        · intro w hSw; (try dsimp only at hSw); go_simp <;> with_reducible rfl
        try simp only [Act.put, List.setIfInBounds_toArray, List.set_cons_zero, List.set_cons_succ]
        refine take_run 4 (v := ?_) rfl (by kernel_rfl) (by kernel_rfl) (by kernel_rfl) (fun _ _ _ h => h) rfl ?_ hHeld ?_
        rotate_left
        · intro w hSw; (try dsimp only at hSw); go_simp <;> with_reducible rfl
        try simp only [Act.put, List.setIfInBounds_toArray, List.set_cons_zero, List.set_cons_succ]
        refine take_run 5 (v := ?_) rfl (by kernel_rfl) (by kernel_rfl) (by kernel_rfl) (fun _ _ _ h => h) rfl ?_ hHeld ?_
        rotate_left
        · intro w hSw; (try dsimp only at hSw); go_simp <;> with_reducible rfl
        try simp only [Act.put, List.setIfInBounds_toArray, List.set_cons_zero, List.set_cons_succ]
        refine take_run 6 (v := ?_) rfl (by kernel_rfl) (by kernel_rfl) (by kernel_rfl) (fun _ _ _ h => h) rfl ?_ hHeld ?_
        rotate_left
        · intro w hSw; (try dsimp only at hSw); go_simp <;> with_reducible rfl
        try simp only [Act.put, List.setIfInBounds_toArray, List.set_cons_zero, List.set_cons_succ]
        refine take_run 7 (v := (.agg x.cells.toArray)) rfl (by kernel_rfl) (by kernel_rfl) (by kernel_rfl) (fun _ _ _ h => h) rfl ?_ hHeld ?_
        · intro w hSw; (try dsimp only at hSw); exact exec_load_mid 54 (.tmp 50) rfl gf (k * 67) rfl x.cells _ hSw.2.2 Tryd.underlying54 rfl HIr.out
        try simp only [Act.put, List.setIfInBounds_toArray, List.set_cons_zero, List.set_cons_succ]
        refine take_run 8 (v := ?_) rfl (by kernel_rfl) (by kernel_rfl) (by kernel_rfl) (fun _ _ _ h => h) rfl ?_ hHeld ?_
        rotate_left
        · intro w hSw; (try dsimp only at hSw); go_simp <;> with_reducible rfl
        try simp only [Act.put, List.setIfInBounds_toArray, List.set_cons_zero, List.set_cons_succ]
        refine take_run 9 (v := ?_) rfl (by kernel_rfl) (by kernel_rfl) (by kernel_rfl) (fun _ _ _ h => h) rfl ?_ hHeld ?_
        rotate_left
        · intro w hSw; (try dsimp only at hSw); go_simp <;> with_reducible rfl
        try simp only [Act.put, List.setIfInBounds_toArray, List.set_cons_zero, List.set_cons_succ]
        refine take_run 10 (v := ?_) rfl (by kernel_rfl) (by kernel_rfl) (by kernel_rfl) (fun _ _ _ h => h) rfl ?_ hHeld ?_
        rotate_left
        · intro w hSw; (try dsimp only at hSw); go_simp <;> with_reducible rfl
        try simp only [Act.put, List.setIfInBounds_toArray, List.set_cons_zero, List.set_cons_succ]
        refine take_call 11 rfl (by kernel_rfl) rfl (fun K hK => ?_)
        go_simp
        refine (lives_any _ (HG7.out.step (below_drewN' (Below.refl _ _) 1))).mono ?_
        rintro er w8 ⟨rfl, hbx⟩
        have y8 : Below w7.heap.size w7 w8 := below_of_drew hbx
        clear hbx
        try dsimp only
        try clear hHeld
        refine hK.out _ _ ⟨R10.out.step y8, keep_cl y8 ct3, fun j u hu => keep_cl y8 (hrx j u hu)⟩ (fun hHeld => ?_)
        clear hK K
        try simp only [Act.put, List.setIfInBounds_toArray, List.set_cons_zero, List.set_cons_succ]
        refine take_run 12 (v := ?_) rfl (by kernel_rfl) (by kernel_rfl) (by kernel_rfl) (fun _ _ _ h => h) rfl ?_ hHeld ?_
        rotate_left
        · intro w hSw; (try dsimp only at hSw); go_simp <;> with_reducible rfl
        try simp only [Act.put, List.setIfInBounds_toArray, List.set_cons_zero, List.set_cons_succ]
        refine take_run 13 (v := ?_) rfl (by kernel_rfl) (by kernel_rfl) (by kernel_rfl) (fun _ _ _ h => h) rfl ?_ hHeld ?_
        rotate_left
        · intro w hSw; (try dsimp only at hSw); go_simp <;> with_reducible rfl
        try simp only [Act.put, List.setIfInBounds_toArray, List.set_cons_zero, List.set_cons_succ]
        refine wpAnyH_done (by kernel_rfl) ?_ _
        try clear hHeld
        go_wp2
        go_ret
        exact ⟨rfl, B7.out.trans (y8.mono B7.out.size)⟩
    · have HF := Lib.hid hF
      have HIr : Hid ((Tryd.prog.info? 54).map (·.size) = some Msg.zero.cells.length) := Lib.hid (by kernel_rfl)
      have HIr2 : Hid ((Tryd.prog.info? 54).map (·.size) = some Msg.zero.cells.toArray.size) := Lib.hid (by kernel_rfl)
      have HZr : Hid (Msg.zero.cells.length = Msg.zero.cells.length) := Lib.hid rfl
      clear hF
      go_upto_region 7 with (fail)
      go_cut [10, 11] (fun s10 s11 wx => ∃ g, s10 = .pointer (some ⟨g, 0, none⟩) ∧ s11 = .bool false ∧ Row wx g 54 (Msg.zero).cells ∧ Below w6.heap.size w6 wx)
      case first =>
        have b0 : Below w6.heap.size w6 w6.drew := below_drewN' (Below.refl _ _) 1
        refine wp_region_held_drew (S := (fun w => Row w gt 30 [va, vb, vc, vd, .slice none 0 0] ∧ Row w g6 43 (cells8 mst))) (by kernel_rfl) ⟨RT.out, R6.out⟩ (fun hHeld => ?_)
        refine take_run 0 (v := (.agg [va, vb, vc, vd, .slice none 0 0].toArray)) rfl (by kernel_rfl) (by kernel_rfl) (by kernel_rfl) (fun _ _ _ h => h) rfl ?_ hHeld ?_
        · intro w hSw; (try dsimp only at hSw); exact exec_load_row 30 (.tmp 5) rfl gt rfl 30 [va, vb, vc, vd, .slice none 0 0].toArray (0, 0) _ hSw.1 Tryd.underlying30 rfl HIF2.out
        try simp only [Act.put, List.setIfInBounds_toArray, List.set_cons_zero, List.set_cons_succ]
        refine take_run 1 (v := (.agg (cells8 mst).toArray)) rfl (by kernel_rfl) (by kernel_rfl) (by kernel_rfl) (fun _ _ _ h => h) rfl ?_ hHeld ?_
        · intro w hSw; (try dsimp only at hSw); exact exec_load_row 43 (.tmp 6) rfl g6 rfl 43 (cells8 mst).toArray (0, 0) _ hSw.2 Tryd.underlying43 rfl HIK2.out
        try simp only [Act.put, List.setIfInBounds_toArray, List.set_cons_zero, List.set_cons_succ]
        refine take_two 2 7 rfl rfl (by kernel_rfl) rfl rfl (fun K hK => ?_) (fun K hK => ?_)
        · go_simp
          refine (volume_any mst HMS.out _ (HG6.out.step b0)).mono ?_
          rintro er wv1 ⟨rfl, hbx⟩
          have b_wv1 : Below w6.heap.size w6 wv1 := b0.trans (Below.mono hbx b0.size)
          rw [HVF.out]
          have hx_wv1 := hbx
          clear hbx
          try dsimp only
          try clear hHeld
          refine hK.out _ _ ⟨RT.out.below b_wv1 RT.out.lt, R6.out.below b_wv1 R6.out.lt⟩ (fun hHeld => ?_)
          clear hK K
          try simp only [Act.put, List.setIfInBounds_toArray, List.set_cons_zero, List.set_cons_succ]
          refine take_two 3 7 rfl rfl (by kernel_rfl) rfl rfl (fun K hK => ?_) (fun K hK => ?_)
          · go_simp
            refine (forgery_any (encF mst) mk ls lf va vb vc vd _ _ (encF_len _) HMK.out HLS.out HLF.out HLSN.out HLFN.out (HG6.out.step b_wv1) (own_below HOS.out b_wv1 (Nat.le_refl _)) (own_below HOF.out b_wv1 (Nat.le_refl _))).mono ?_
            intro er wf1 hres
            obtain ⟨rfl, hbx⟩ := HF.out _ _ _ hres
            have b_wf1 : Below w6.heap.size w6 wf1 := b_wv1.trans (Below.mono hbx b_wv1.size)
            have hx_wf1 := hbx
            clear hbx hres
            try dsimp only
            try clear hHeld
            refine hK.out _ _ ⟨RT.out.below b_wf1 RT.out.lt, R6.out.below b_wf1 R6.out.lt⟩ (fun hHeld => ?_)
            clear hK K
            try simp only [Act.put, List.setIfInBounds_toArray, List.set_cons_zero, List.set_cons_succ]
            refine take_run 4 (v := ?_) rfl (by kernel_rfl) (by kernel_rfl) (by kernel_rfl) (fun _ _ _ h => h) rfl ?_ hHeld ?_
            rotate_left
            · intro w hSw; (try dsimp only at hSw); go_simp <;> with_reducible rfl
            try simp only [Act.put, List.setIfInBounds_toArray, List.set_cons_zero, List.set_cons_succ]
            refine take_run 5 (v := ?_) rfl (by kernel_rfl) (by kernel_rfl) (by kernel_rfl) (fun _ _ _ h => h) rfl ?_ hHeld ?_
            rotate_left
            · intro w hSw; (try dsimp only at hSw); go_simp <;> with_reducible rfl
            try simp only [Act.put, List.setIfInBounds_toArray, List.set_cons_zero, List.set_cons_succ]
            refine take_run 6 (v := ?_) rfl (by kernel_rfl) (by kernel_rfl) (by kernel_rfl) (fun _ _ _ h => h) rfl ?_ hHeld ?_
            rotate_left
            · intro w hSw; (try dsimp only at hSw); go_simp <;> with_reducible rfl
            try simp only [Act.put, List.setIfInBounds_toArray, List.set_cons_zero, List.set_cons_succ]
            refine take_call 7 rfl (by kernel_rfl) rfl (fun K hK => ?_)
            have b_wa : Below w6.heap.size w6 (wf1.alloc (.cells Msg.zero.cells.toArray 54)) := Below.alloc b_wf1 (Below.size b_wf1) _
            have ra : Row (wf1.alloc (.cells Msg.zero.cells.toArray 54)) wf1.heap.size 54 Msg.zero.cells := heap_alloc_new _ _
            go_simp
            try clear hHeld
            refine hK.out _ (wf1.alloc (.cells Msg.zero.cells.toArray 54)) ⟨RT.out.below b_wa RT.out.lt, R6.out.below b_wa R6.out.lt⟩ (fun hHeld => ?_)
            clear hK K
            try simp only [Act.put, List.setIfInBounds_toArray, List.set_cons_zero, List.set_cons_succ]
            obtain ⟨wa, hwa⟩ : ∃ wa, wa = (wf1.alloc (.cells Msg.zero.cells.toArray 54)) := ⟨_, rfl⟩
            obtain ⟨ga, hga⟩ : ∃ g, g = wf1.heap.size := ⟨_, rfl⟩
            rw [← hwa] at b_wa ra hHeld ⊢
            rw [← hga] at ra ⊢
            have hle : w6.heap.size ≤ ga := by rw [hga]; first | exact Below.size b_wf1 | exact Nat.le_refl _
            clear hwa hga
            refine take_call 8 rfl (by kernel_rfl) rfl (fun K hK => ?_)
            refine wp_store_whole 54 (.tmp 10) (.tmp 30) rfl ga 54 Msg.zero.cells (Msg.zero).cells rfl rfl ra HIr.out (by first | exact HZr.out | rfl) (Msg.one _) ?_
            intro wz rz gz
            have bz : Below w6.heap.size w6 wz := b_wa.grown gz b_wa.size (fun k hk => by cases hk; exact hle)
            try dsimp only
            try clear hHeld
            refine hK.out _ _ ⟨RT.out.below bz RT.out.lt, R6.out.below bz R6.out.lt⟩ (fun hHeld => ?_)
            clear hK K
            try simp only [Act.put]
            refine take_run 9 (v := ?_) rfl (by kernel_rfl) (by kernel_rfl) (by kernel_rfl) (fun _ _ _ h => h) rfl ?_ hHeld ?_
            rotate_left
            · intro w hSw; (try dsimp only at hSw); go_simp <;> with_reducible rfl
            try simp only [Act.put, List.setIfInBounds_toArray, List.set_cons_zero, List.set_cons_succ]
            refine wpAnyH_done (by kernel_rfl) ?_ _
            try clear hHeld
            go_wp2
            go_meet
            case rel => exact ⟨ga, rfl, rfl, rz, bz⟩
          · have b_wa : Below w6.heap.size w6 (wv1.alloc (.cells Msg.zero.cells.toArray 54)) := Below.alloc b_wv1 (Below.size b_wv1) _
            have ra : Row (wv1.alloc (.cells Msg.zero.cells.toArray 54)) wv1.heap.size 54 Msg.zero.cells := heap_alloc_new _ _
            go_simp
            try clear hHeld
            refine hK.out _ (wv1.alloc (.cells Msg.zero.cells.toArray 54)) ⟨RT.out.below b_wa RT.out.lt, R6.out.below b_wa R6.out.lt⟩ (fun hHeld => ?_)
            clear hK K
            try simp only [Act.put, List.setIfInBounds_toArray, List.set_cons_zero, List.set_cons_succ]
            obtain ⟨wa, hwa⟩ : ∃ wa, wa = (wv1.alloc (.cells Msg.zero.cells.toArray 54)) := ⟨_, rfl⟩
            obtain ⟨ga, hga⟩ : ∃ g, g = wv1.heap.size := ⟨_, rfl⟩
            rw [← hwa] at b_wa ra hHeld ⊢
            rw [← hga] at ra ⊢
            have hle : w6.heap.size ≤ ga := by rw [hga]; first | exact Below.size b_wv1 | exact Nat.le_refl _
            clear hwa hga
            refine take_call 3 rfl (by kernel_rfl) rfl (fun K hK => ?_)
            go_simp
            refine (forgery_any (encF mst) mk ls lf va vb vc vd _ _ (encF_len _) HMK.out HLS.out HLF.out HLSN.out HLFN.out (HG6.out.step b_wa) (own_below HOS.out b_wa (Nat.le_refl _)) (own_below HOF.out b_wa (Nat.le_refl _))).mono ?_
            intro er wf1 hres
            obtain ⟨rfl, hbx⟩ := HF.out _ _ _ hres
            have b_wf1 : Below w6.heap.size w6 wf1 := b_wa.trans (Below.mono hbx b_wa.size)
            have hx_wf1 := hbx
            clear hbx hres
            try dsimp only
            try clear hHeld
            refine hK.out _ _ ⟨RT.out.below b_wf1 RT.out.lt, R6.out.below b_wf1 R6.out.lt⟩ (fun hHeld => ?_)
            clear hK K
            try simp only [Act.put, List.setIfInBounds_toArray, List.set_cons_zero, List.set_cons_succ]
            have ra1 := ra.step hx_wf1
            refine take_run 4 (v := ?_) rfl (by kernel_rfl) (by kernel_rfl) (by kernel_rfl) (fun _ _ _ h => h) rfl ?_ hHeld ?_
            rotate_left
            · intro w hSw; (try dsimp only at hSw); go_simp <;> with_reducible rfl
            try simp only [Act.put, List.setIfInBounds_toArray, List.set_cons_zero, List.set_cons_succ]
            refine take_run 5 (v := ?_) rfl (by kernel_rfl) (by kernel_rfl) (by kernel_rfl) (fun _ _ _ h => h) rfl ?_ hHeld ?_
            rotate_left
            · intro w hSw; (try dsimp only at hSw); go_simp <;> with_reducible rfl
            try simp only [Act.put, List.setIfInBounds_toArray, List.set_cons_zero, List.set_cons_succ]
            refine take_run 6 (v := ?_) rfl (by kernel_rfl) (by kernel_rfl) (by kernel_rfl) (fun _ _ _ h => h) rfl ?_ hHeld ?_
            rotate_left
            · intro w hSw; (try dsimp only at hSw); go_simp <;> with_reducible rfl
            try simp only [Act.put, List.setIfInBounds_toArray, List.set_cons_zero, List.set_cons_succ]
            refine take_call 8 rfl (by kernel_rfl) rfl (fun K hK => ?_)
            refine wp_store_whole 54 (.tmp 10) (.tmp 30) rfl ga 54 Msg.zero.cells (Msg.zero).cells rfl rfl ra1 HIr.out (by first | exact HZr.out | rfl) (Msg.one _) ?_
            intro wz rz gz
            have bz : Below w6.heap.size w6 wz := b_wf1.grown gz b_wf1.size (fun k hk => by cases hk; exact hle)
            try dsimp only
            try clear hHeld
            refine hK.out _ _ ⟨RT.out.below bz RT.out.lt, R6.out.below bz R6.out.lt⟩ (fun hHeld => ?_)
            clear hK K
            try simp only [Act.put]
            refine take_run 9 (v := ?_) rfl (by kernel_rfl) (by kernel_rfl) (by kernel_rfl) (fun _ _ _ h => h) rfl ?_ hHeld ?_
            rotate_left
            · intro w hSw; (try dsimp only at hSw); go_simp <;> with_reducible rfl
            try simp only [Act.put, List.setIfInBounds_toArray, List.set_cons_zero, List.set_cons_succ]
            refine wpAnyH_done (by kernel_rfl) ?_ _
            try clear hHeld
            go_wp2
            go_meet
            case rel => exact ⟨ga, rfl, rfl, rz, bz⟩
        · have b_wa : Below w6.heap.size w6 (w6.drew.alloc (.cells Msg.zero.cells.toArray 54)) := Below.alloc b0 (Below.size b0) _
          have ra : Row (w6.drew.alloc (.cells Msg.zero.cells.toArray 54)) w6.heap.size 54 Msg.zero.cells := heap_alloc_new _ _
          go_simp
          try clear hHeld
          refine hK.out _ (w6.drew.alloc (.cells Msg.zero.cells.toArray 54)) ⟨RT.out.below b_wa RT.out.lt, R6.out.below b_wa R6.out.lt⟩ (fun hHeld => ?_)
          clear hK K
          try simp only [Act.put, List.setIfInBounds_toArray, List.set_cons_zero, List.set_cons_succ]
          obtain ⟨wa, hwa⟩ : ∃ wa, wa = (w6.drew.alloc (.cells Msg.zero.cells.toArray 54)) := ⟨_, rfl⟩
          obtain ⟨ga, hga⟩ : ∃ g, g = w6.heap.size := ⟨_, rfl⟩
          rw [← hwa] at b_wa ra hHeld ⊢
          rw [← hga] at ra ⊢
          have hle : w6.heap.size ≤ ga := by rw [hga]; first | exact Below.size b0 | exact Nat.le_refl _
          clear hwa hga
          refine take_call 2 rfl (by kernel_rfl) rfl (fun K hK => ?_)
          go_simp
          refine (volume_any mst HMS.out _ (HG6.out.step b_wa)).mono ?_
          rintro er wv1 ⟨rfl, hbx⟩
          have b_wv1 : Below w6.heap.size w6 wv1 := b_wa.trans (Below.mono hbx b_wa.size)
          rw [HVF.out]
          have hx_wv1 := hbx
          clear hbx
          try dsimp only
          try clear hHeld
          refine hK.out _ _ ⟨RT.out.below b_wv1 RT.out.lt, R6.out.below b_wv1 R6.out.lt⟩ (fun hHeld => ?_)
          clear hK K
          try simp only [Act.put, List.setIfInBounds_toArray, List.set_cons_zero, List.set_cons_succ]
          refine take_call 3 rfl (by kernel_rfl) rfl (fun K hK => ?_)
          go_simp
          refine (forgery_any (encF mst) mk ls lf va vb vc vd _ _ (encF_len _) HMK.out HLS.out HLF.out HLSN.out HLFN.out (HG6.out.step b_wv1) (own_below HOS.out b_wv1 (Nat.le_refl _)) (own_below HOF.out b_wv1 (Nat.le_refl _))).mono ?_
          intro er wf1 hres
          obtain ⟨rfl, hbx⟩ := HF.out _ _ _ hres
          have b_wf1 : Below w6.heap.size w6 wf1 := b_wv1.trans (Below.mono hbx b_wv1.size)
          have hx_wf1 := hbx
          clear hbx hres
          try dsimp only
          try clear hHeld
          refine hK.out _ _ ⟨RT.out.below b_wf1 RT.out.lt, R6.out.below b_wf1 R6.out.lt⟩ (fun hHeld => ?_)
          clear hK K
          try simp only [Act.put, List.setIfInBounds_toArray, List.set_cons_zero, List.set_cons_succ]
          have ra1 := (ra.step hx_wv1).step hx_wf1
          refine take_run 4 (v := ?_) rfl (by kernel_rfl) (by kernel_rfl) (by kernel_rfl) (fun _ _ _ h => h) rfl ?_ hHeld ?_
          rotate_left
          · intro w hSw; (try dsimp only at hSw); go_simp <;> with_reducible rfl
          try simp only [Act.put, List.setIfInBounds_toArray, List.set_cons_zero, List.set_cons_succ]
          refine take_run 5 (v := ?_) rfl (by kernel_rfl) (by kernel_rfl) (by kernel_rfl) (fun _ _ _ h => h) rfl ?_ hHeld ?_
          rotate_left
          · intro w hSw; (try dsimp only at hSw); go_simp <;> with_reducible rfl
          try simp only [Act.put, List.setIfInBounds_toArray, List.set_cons_zero, List.set_cons_succ]
          refine take_run 6 (v := ?_) rfl (by kernel_rfl) (by kernel_rfl) (by kernel_rfl) (fun _ _ _ h => h) rfl ?_ hHeld ?_
          rotate_left
          · intro w hSw; (try dsimp only at hSw); go_simp <;> with_reducible rfl
          try simp only [Act.put, List.setIfInBounds_toArray, List.set_cons_zero, List.set_cons_succ]
          refine take_call 8 rfl (by kernel_rfl) rfl (fun K hK => ?_)
          refine wp_store_whole 54 (.tmp 10) (.tmp 30) rfl ga 54 Msg.zero.cells (Msg.zero).cells rfl rfl ra1 HIr.out (by first | exact HZr.out | rfl) (Msg.one _) ?_
          intro wz rz gz
          have bz : Below w6.heap.size w6 wz := b_wf1.grown gz b_wf1.size (fun k hk => by cases hk; exact hle)
          try dsimp only
          try clear hHeld
          refine hK.out _ _ ⟨RT.out.below bz RT.out.lt, R6.out.below bz R6.out.lt⟩ (fun hHeld => ?_)
          clear hK K
          try simp only [Act.put]
          refine take_run 9 (v := ?_) rfl (by kernel_rfl) (by kernel_rfl) (by kernel_rfl) (fun _ _ _ h => h) rfl ?_ hHeld ?_
          rotate_left
          · intro w hSw; (try dsimp only at hSw); go_simp <;> with_reducible rfl
          try simp only [Act.put, List.setIfInBounds_toArray, List.set_cons_zero, List.set_cons_succ]
          refine wpAnyH_done (by kernel_rfl) ?_ _
          try clear hHeld
          go_wp2
          go_meet
          case rel => exact ⟨ga, rfl, rfl, rz, bz⟩
      case rest =>
        obtain ⟨g10, rfl, rfl, r10, hbx⟩ := hcut
        rename World => w7
        have R10 := Lib.hid r10
        have B7 := Lib.hid (B6.out.trans (hbx.mono B6.out.size))
        have HG7 := Lib.hid (HG.out.step B7.out)
        have heq := fun w => eql_msg w Msg.zero Msg.zero zero_ok zero_ok
        have hdm : decide (Msg.zero = Msg.zero) = true := by simp
        clear r10 hbx
        go_wp2_with (first
          | (refine wpList_want rfl (exec_load_row 54 (.tmp 10) rfl g10 rfl 54 Msg.zero.cells.toArray (0, 0) _ R10.out Tryd.underlying54 rfl HIr2.out) ?_)
          | (refine wpList_want rfl (exec_build0 54 rfl Msg.zero.cells.toArray built_msg0 _) ?_))
        refine (lives_any w7 HG7.out).mono ?_
        rintro er w8 ⟨rfl, hb8⟩
        have B8' := Lib.hid (B7.out.trans (hb8.mono B7.out.size))
        clear hb8
        go_wp2
        go_ret
        exact ⟨rfl, B8'.out⟩
end Go.Proofs.YtpobkoiaidgedaaDoor
