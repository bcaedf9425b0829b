/- The examples of the chapter: they hold. -/
import Derived.Test.YtpobkoiaidgedaaDoorSiP
import Derived.Test.YtpobkoiaidgedaaDoorSiM
namespace Go.Proofs.YtpobkoiaidgedaaDoor
open Go.RowKit

theorem sha_ab : shaF [98#8] ≠ shaF [97#8] := by decide +kernel
theorem digs0 {w : World} : Digs w (.slice none 0 0) [] [] := ⟨rfl, fun i x h => by simp at h, rfl, .inl ⟨rfl, rfl⟩⟩
theorem digs1 {w : World} {g : Nat} {x : Dig} {cs : List Value} (hr : Row w g 41 cs) (hx : DigIs w w.heap.size x cs) : Digs w (.slice (some ⟨g, 0, none⟩) 1 1) [x] [cs] := by
  have hl : cs.length = 33 := hx.len
  refine ⟨rfl, fun i y hy => ?_, ?_⟩
  · cases i with
    | zero => simp at hy; subst hy; exact ⟨cs, rfl, hx⟩
    | succ i => simp at hy
  · have e : [cs].flatten = cs := by simp
    rw [e]
    exact row_own (Nat.zero_le _) hr (Nat.le_refl _) (by decide) (by rw [hl]) (by rw [show 1 * 33 = 33 from rfl]; exact List.take_of_length_le (by rw [hl]; exact Nat.le_refl _))
theorem msgs0 {w : World} : w.ownsRow 0 54 67 (.slice none 0 0) ([] : List Msg).length (([] : List Msg).map Msg.cells).flatten := ⟨rfl, .inl ⟨rfl, rfl⟩⟩
theorem msgs1 {w : World} {g : Nat} {m : Msg} (hr : Row w g 54 m.cells) (hm : m.ok) : w.ownsRow 0 54 67 (.slice (some ⟨g, 0, none⟩) 1 1) [m].length ([m].map Msg.cells).flatten := by
  have e : ([m].map Msg.cells).flatten = m.cells := by simp
  rw [e]
  exact row_own (Nat.zero_le _) hr (Nat.le_refl _) (by decide) (by rw [Msg.len hm]) (by rw [show 1 * 67 = 67 from rfl]; exact List.take_of_length_le (by rw [Msg.len hm]; exact Nat.le_refl _))
/-- The message whose tag's first byte is one more. -/
def Msg.bump (m : Msg) : Msg := { m with t := m.t.set 0 (m.t.getD 0 0 + 1#8) }
theorem Msg.bump_ok {m : Msg} (h : m.ok) : m.bump.ok := ⟨h.1, h.2.1, h.2.2.1, by show (List.set _ _ _).length = 32; rw [List.length_set]; exact h.2.2.2⟩
theorem forg_made (mk : List B8) (i x v y : B8) : forgB mk [] (msgOf mk i x v y false) = true := by
  have h : hmacF mk (msgOf mk i x v y false).body = (msgOf mk i x v y false).t := rfl
  unfold forgB
  rw [h]; simp
theorem forg_sealed (mk : List B8) (m : Msg) : forgB mk [m] m = false := by
  unfold forgB Msg.same
  simp
theorem forg_bump (mk : List B8) (m : Msg) (h : hmacF mk m.body = m.t) (hm : m.ok) : forgB mk [] m.bump = false := by
  have h1 : m.bump.body = m.body := rfl
  have h2 : ¬ m.t = m.bump.t := fun e => by
    have e2 : m.t[0]? = (m.t.set 0 (m.t.getD 0 0 + 1#8))[0]? := congrArg (·[0]?) e
    have hl : 0 < m.t.length := by rw [hm.2.2.2]; omega
    rw [List.getElem?_set_self hl, List.getElem?_eq_getElem hl] at e2
    have e3 : m.t[0] = m.t[0] + 1#8 := by
      have := Option.some.inj e2
      rw [List.getD_eq_getElem?_getD, List.getElem?_eq_getElem hl] at this
      exact this
    generalize m.t[0] = b at e3
    revert e3
    revert b
    decide
  unfold forgB
  rw [h1, h]
  simp [h2]
theorem col_self (x : Dig) : colB x x = false := by unfold colB; simp
theorem col_two (x y : Dig) (h : shaF y.b ≠ y.d) : colB x y = false := by unfold colB; simp [h]


theorem ColP.none_ {lm ll : List Dig} {w w' : World} {e : Ending} (h : ColP lm ll w e w') (hf : ∀ y ∈ ll, ∀ z ∈ lm, colB z y = false) : e = .returned (.tuple #[.slice none 0 0, .slice none 0 0, .bool false]) ∧ Below w.heap.size w w' := by
  obtain ⟨h | h, hb⟩ := h
  · obtain ⟨k, i, y, x, _, _, _, _, h1, h2, h3, _⟩ := h
    rw [hf y (List.mem_of_getElem? h1) x (List.mem_of_getElem? h2)] at h3
    cases h3
  · exact ⟨h.2, hb⟩
theorem ForgP.none_ {mk : List B8} {ls lf : List Msg} {w w' : World} {e : Ending} (h : ForgP mk ls lf w e w') (hf : ∀ y ∈ lf, forgB mk ls y = false) : e = .returned (.tuple #[.agg Msg.zero.cells.toArray, .bool false]) ∧ Below w.heap.size w w' := by
  obtain ⟨h | h, hb⟩ := h
  · obtain ⟨k, x, h1, h2, _⟩ := h
    rw [hf x (List.mem_of_getElem? h1)] at h2
    cases h2
  · exact ⟨h.2, hb⟩
theorem ForgP.one {mk : List B8} {ls : List Msg} {m : Msg} {w w' : World} {e : Ending} (h : ForgP mk ls [m] w e w') (hf : forgB mk ls m = true) : e = .returned (.tuple #[.agg m.cells.toArray, .bool true]) ∧ Below w.heap.size w w' := by
  obtain ⟨h | h, hb⟩ := h
  · obtain ⟨k, x, h1, h2, _, h4⟩ := h
    have : x = m := by simpa using List.mem_of_getElem? h1
    subst this
    exact ⟨h4, hb⟩
  · rw [h.1 m (by simp)] at hf
    cases hf
theorem row_mid1 {w : World} {g : Nat} {t : TypeId} {A B : List B8} (h : Row w g t (cells8 (A ++ B))) {o : Nat} (ho : o = A.length) : w.rangeAt g o (cells8 B) := by
  rw [cells8_app, ← List.append_nil (cells8 B)] at h
  exact h.mid (by rw [cells8_len]; exact ho)
theorem row_ne {w : World} {g k : Nat} {t t' : TypeId} {L L' : List Value} (h : Row w g t L) (h' : Row w k t' L') (hne : t ≠ t') : g ≠ k := fun e => by
  subst e
  unfold Row at h h'
  rw [h] at h'
  cases h'
  exact hne rfl
theorem splice_one (v : Value) (a b : List Value) (h : a.length = b.length) : splice (v :: a) 1 b = v :: b := by
  unfold splice
  rw [List.drop_of_length_le (by simp; omega)]
  simp
theorem dig_of {w : World} {B : Nat} {v : Value} {b d : List B8} (o : Own8 w B v b) (hb : b.length ≤ 1000) (hd : d.length = 32) : DigIs w w.heap.size ⟨b, d⟩ (v :: cells8 d) := DigO.is ⟨hd, hb, v, rfl, o⟩
theorem own8_one {w : World} {B : Nat} {v : Value} {b d : List B8} (o : Own8 w B v b) : ∀ u ∈ v :: cells8 d, u.oneCell' = true := by
  obtain ⟨A, c, rfl, _⟩ := o.slice
  intro u hu
  rcases List.mem_cons.1 hu with rfl | hu
  · rfl
  · exact cells8_ones _ _ hu
theorem b8_add1 (b : B8) : IntKind.u8.wrap (bv b + 1) = bv (b + 1#8) := by
  rw [wrap_u8]; unfold bv; rw [BitVec.toNat_add]; simp
theorem b8_sub1 (b : B8) : IntKind.u8.wrap (bv (b + 1#8) - 1) = bv b := by
  rw [wrap_u8]; unfold bv; rw [BitVec.toNat_add]
  have := b.isLt
  simp
  omega

set_option maxRecDepth 100000 in
set_option maxHeartbeats 32000000 in
theorem lives_any (w : World) (hG : Glob w) :
    Calls Tryd.prog 9 #[] w fun e w' => e = .returned (.bool true) ∧ Below w.heap.size w w' := by
  have HG := Lib.hid hG
  clear hG
  obtain ⟨z, hz⟩ : ∃ z : List B8, z = List.replicate 32 0 := ⟨_, rfl⟩
  have HB := Lib.hid (show Tryd.prog.built 43 [] = some (cells8 z).toArray by rw [hz]; exact build_key0)
  have HZ : Hid (z.length = 32) := Lib.hid (by rw [hz]; exact key0_len)
  clear hz
  go_enter Tryd.func9, Tryd.ntmps9
  go_wp2_with (refine wpList_build_as rfl _ _ rfl _ _ HB.out (by kernel_rfl) ?_)
  refine (volume_any z HZ.out w HG.out).mono ?_
  rintro er w1 ⟨rfl, hb1⟩
  obtain ⟨ek, hek⟩ : ∃ ek, ek = encF z := ⟨_, rfl⟩
  obtain ⟨mk, hmk⟩ : ∃ mk, mk = macF z := ⟨_, rfl⟩
  have hv : volF z = ek ++ mk := by rw [hek, hmk]; rfl
  have HEK : Hid (ek.length = 16) := Lib.hid (by rw [hek]; exact encF_len z)
  have HMK : Hid (mk.length = 32) := Lib.hid (by rw [hmk]; exact macF_len z)
  have hkl : (cells8 (ek ++ mk)).length = 48 := by rw [cells8_len, List.length_append, HEK.out, HMK.out]
  have HIV := Lib.hid (show (Tryd.prog.info? 58).map (·.size) = some (cells8 (ek ++ mk)).length by rw [hkl]; kernel_rfl)
  have HIV2 := Lib.hid (show (Tryd.prog.info? 58).map (·.size) = some (cells8 (ek ++ mk)).toArray.size by rw [List.size_toArray, hkl]; kernel_rfl)
  have HIK := Lib.hid (show (Tryd.prog.info? 43).map (·.size) = some (cells8 mk).length by rw [cells8_len, HMK.out]; kernel_rfl)
  have HZV := Lib.hid (show (cells8 (List.replicate 48 0)).length = (cells8 (ek ++ mk)).length by rw [cells8_len, hkl]; rfl)
  have HIZ : Hid ((Tryd.prog.info? 54).map (·.size) = some Msg.zero.cells.length) := Lib.hid (by kernel_rfl)
  have HZ1 := Lib.hid (all_oneCell_toArray (Msg.one Msg.zero))
  have HI33 : Hid ((Tryd.prog.info? 41).map (fun i => (i.zero.isSome, i.size)) = some (true, 33)) := Lib.hid (by kernel_rfl)
  have HI67 : Hid ((Tryd.prog.info? 54).map (fun i => (i.zero.isSome, i.size)) = some (true, 67)) := Lib.hid (by kernel_rfl)
  rw [hv]
  have S1 : Hid (Row (w1.alloc (.cells (cells8 (List.replicate 48 0)).toArray 58)) w1.heap.size 58 (cells8 (List.replicate 48 0))) := Lib.hid (heap_alloc_new _ _)
  have BB := Lib.hid hb1
  clear hek hmk hv hkl hb1
  go_upto_region 2 with (refine Row.store (g := w1.heap.size) (t := 58) (L := cells8 (List.replicate 48 0)) (M := cells8 (ek ++ mk)) S1.out rfl 58 (.tmp 1) (.tmp 23) rfl rfl rfl HIV.out HZV.out (cells8_one _) ?_; rintro w2 hw2 rk; have b_w2 : Below w1.heap.size w1 w2 := (by rw [hw2]; exact ((Below.refl _ _).alloc (Nat.le_refl _) _).grown (grown_setRow _ _ _) (by simp) (fun k hk => by cases hk; exact Nat.le_refl _)); clear hw2)
  obtain ⟨gk, hgk⟩ : ∃ g, g = w1.heap.size := ⟨_, rfl⟩
  rw [← hgk] at rk ⊢
  have BB_1 := Lib.hid (BB.out.trans (b_w2.mono BB.out.size))
  clear BB
  have RK := Lib.hid rk
  clear hgk S1 rk b_w2
  go_wp2_with (fail)
  refine (collision_any [] [] [] [] _ _ _ _ _ w2 (HG.out.step BB_1.out) (by decide) (by decide) digs0 digs0).mono ?_
  intro er w3 hres
  obtain ⟨rfl, hb⟩ := hres.none_ (fun y hy => by simp at hy)
  clear hres
  have BB_2 := Lib.hid (BB_1.out.trans (hb.mono BB_1.out.size))
  have RK_2 := Lib.hid (RK.out.step hb)
  clear BB_1 RK
  clear hb
  go_wp2_with (refine wpList_load_row rfl 58 (.tmp 1) rfl gk rfl 58 (cells8 (ek ++ mk)).toArray (0, 0) _ RK_2.out Tryd.underlying58 rfl HIV2.out ?_)
  refine (forgery_any ek mk [] [] _ _ _ _ _ w3 HEK.out HMK.out (fun x h => by simp at h) (fun x h => by simp at h) (by decide) (by decide) (HG.out.step BB_2.out) msgs0 msgs0).mono ?_
  intro er w4 hres
  obtain ⟨rfl, hb⟩ := hres.none_ (fun y hy => by simp at hy)
  clear hres
  have BB_3 := Lib.hid (BB_2.out.trans (hb.mono BB_2.out.size))
  have RK_3 := Lib.hid (RK_2.out.step hb)
  clear BB_2 RK_2
  clear hb
  have SX : Hid (Row (w4.alloc (.cells Msg.zero.cells.toArray 54)) w4.heap.size 54 Msg.zero.cells) := Lib.hid (heap_alloc_new _ _)
  go_upto_region 4 with (refine Row.store (g := w4.heap.size) (t := 54) (L := Msg.zero.cells) (M := Msg.zero.cells) SX.out rfl 54 (.tmp 5) (.tmp 34) rfl rfl rfl HIZ.out rfl HZ1.out ?_; rintro w5 hw5 r5; have b_w5 : Below w4.heap.size w4 w5 := (by rw [hw5]; exact ((Below.refl _ _).alloc (Nat.le_refl _) _).grown (grown_setRow _ _ _) (by simp) (fun k hk => by cases hk; exact Nat.le_refl _)); clear hw5)
  obtain ⟨g5, hg5⟩ : ∃ g, g = w4.heap.size := ⟨_, rfl⟩
  rw [← hg5] at r5 ⊢
  have BB_4 := Lib.hid (BB_3.out.trans (b_w5.mono BB_3.out.size))
  have RK_4 := Lib.hid (RK_3.out.step b_w5)
  clear BB_3 RK_3
  clear hg5 SX r5 b_w5
  have hcv := fun (w : World) (C : Array Value) (n c : Nat) => Lib.run_convert_bytes_const (P := Tryd.prog) w 34 5 C n c Tryd.underlying34 Tryd.underlying5
  go_wp2_with (fail)
  refine (dOf_any (some ⟨w5.heap.size, 0, none⟩) 1 1 [97#8] false _ (litRd (w := w5) [97#8] 5 (1, 2)) (by decide) (by decide)).mono ?_
  rintro er w6 ⟨cs1, rfl, hd1, hb6⟩
  have hd1' : DigO w6 (w5.heap.size + 1) ⟨[97#8], shaF [97#8]⟩ cs1 := hd1.mono (by simp)
  obtain ⟨_, _, v1, hcs1, o1⟩ := hd1'
  have hcs1' : cs1 = v1 :: cells8 (shaF [97#8]) := hcs1
  have O1 := Lib.hid o1
  have HC1 := Lib.hid hcs1'
  have y6 : Below w5.heap.size w5 w6 := below_alloc1 hb6
  clear hd1 hcs1 hcs1' o1 hb6
  have BB_5 := Lib.hid (BB_4.out.trans (y6.mono BB_4.out.size))
  have RK_5 := Lib.hid (RK_4.out.step y6)
  clear BB_4 RK_4
  clear y6
  go_wp2_with (fail)
  refine (dOf_any (some ⟨w6.heap.size, 0, none⟩) 1 1 [98#8] false _ (litRd (w := w6) [98#8] 5 (1, 2)) (by decide) (by decide)).mono ?_
  rintro er w7 ⟨cs2, rfl, hd2, hb7⟩
  have hd2' : DigO w7 (w6.heap.size + 1) ⟨[98#8], shaF [98#8]⟩ cs2 := hd2.mono (by simp)
  obtain ⟨_, _, v2, hcs2, o2⟩ := hd2'
  have hcs2' : cs2 = v2 :: cells8 (shaF [98#8]) := hcs2
  have O2 := Lib.hid o2
  have HC2 := Lib.hid hcs2'
  have y7 : Below w6.heap.size w6 w7 := below_alloc1 hb7
  clear hd2 hcs2 hcs2' o2 hb7
  have BB_6 := Lib.hid (BB_5.out.trans (y7.mono BB_5.out.size))
  have RK_6 := Lib.hid (RK_5.out.step y7)
  have O1_6 := Lib.hid (O1.out.below y7 (Nat.le_refl _))
  clear BB_5 RK_5 O1
  clear y7
  have HLd1 : Hid (cs1.length = 33) := Lib.hid (by rw [HC1.out, List.length_cons, cells8_len, shaF_len])
  have HOd1 : Hid (∀ u ∈ cs1, u.oneCell' = true) := Lib.hid (by rw [HC1.out]; exact own8_one O1_6.out)
  have HId1 := Lib.hid (show (Tryd.prog.info? 41).map (·.size) = some cs1.length by rw [HLd1.out]; kernel_rfl)
  have HId1b := Lib.hid (show (Tryd.prog.info? 41).map (·.size) = some cs1.toArray.size by rw [List.size_toArray, HLd1.out]; kernel_rfl)
  have HZd1 := Lib.hid (show zDig.length = cs1.length by rw [HLd1.out]; rfl)
  have HAd1 := Lib.hid (all_oneCell_toArray HOd1.out)
  have HLd2 : Hid (cs2.length = 33) := Lib.hid (by rw [HC2.out, List.length_cons, cells8_len, shaF_len])
  have HOd2 : Hid (∀ u ∈ cs2, u.oneCell' = true) := Lib.hid (by rw [HC2.out]; exact own8_one O2.out)
  have HId2 := Lib.hid (show (Tryd.prog.info? 41).map (·.size) = some cs2.length by rw [HLd2.out]; kernel_rfl)
  have HId2b := Lib.hid (show (Tryd.prog.info? 41).map (·.size) = some cs2.toArray.size by rw [List.size_toArray, HLd2.out]; kernel_rfl)
  have HZd2 := Lib.hid (show zDig.length = cs2.length by rw [HLd2.out]; rfl)
  have HAd2 := Lib.hid (all_oneCell_toArray HOd2.out)
  have T7 : Hid (Row ((w7.alloc (.cells zDig.toArray 41)).alloc (.cells zDig.toArray 41)) w7.heap.size 41 zDig) := by
    unfold Hid; rw [Row, ((Below.refl _ _).alloc (Nat.le_refl _) _).block w7.heap.size (by simp)]; exact heap_alloc_new _ _
  have T8 : Hid (Row ((w7.alloc (.cells zDig.toArray 41)).alloc (.cells zDig.toArray 41)) (w7.heap.size + 1) 41 zDig) := Lib.hid (heap_new_at (by simp))
  have hba : Below w7.heap.size w7 ((w7.alloc (.cells zDig.toArray 41)).alloc (.cells zDig.toArray 41)) := below_alloc2 (Below.refl _ _)
  have hw7 := BB_6.out.size
  clear hcv
  go_upto_region 5 with (first
    | (refine Row.store (g := w7.heap.size) (t := 41) (L := zDig) (M := cs1) T7.out rfl 41 (.tmp 7) (.tmp 39) rfl rfl rfl HId1.out HZd1.out HAd1.out ?_; rintro wa hwa ra; have rb0 : Row wa (w7.heap.size + 1) 41 zDig := (by rw [hwa]; exact T8.out.other (Nat.succ_ne_self _) _); have ba : Below w7.heap.size w7 wa := (by rw [hwa]; exact hba.grown (grown_setRow _ _ _) hba.size (fun k hk => by cases hk; exact Nat.le_refl _)); clear hwa)
    | (refine Row.store (g := w7.heap.size + 1) (t := 41) (L := zDig) (M := cs2) rb0 rfl 41 (.tmp 8) (.tmp 43) rfl rfl rfl HId2.out HZd2.out HAd2.out ?_; rintro w8 hw8 r8; have r7 : Row w8 w7.heap.size 41 cs1 := (by rw [hw8]; exact ra.other (Nat.succ_ne_self _).symm _); have b78 : Below w7.heap.size w7 w8 := (by rw [hw8]; exact ba.grown (grown_setRow _ _ _) ba.size (fun k hk => by cases hk; exact Nat.le_succ _)); clear hw8))
  obtain ⟨g8, hg8⟩ : ∃ g, g = w7.heap.size + 1 := ⟨_, rfl⟩
  rw [← hg8] at r8 ⊢
  obtain ⟨g7, hg7⟩ : ∃ g, g = w7.heap.size := ⟨_, rfl⟩
  rw [← hg7] at r7 ⊢
  have NE78 : Hid (g7 ≠ g8) := Lib.hid (by omega)
  have NB_R8 : Hid (w.heap.size ≤ g8) := Lib.hid (by omega)
  have R7 := Lib.hid r7
  have R8 := Lib.hid r8
  have BB_7 := Lib.hid (BB_6.out.trans (b78.mono BB_6.out.size))
  have RK_7 := Lib.hid (RK_6.out.step b78)
  have O1_7 := Lib.hid (O1_6.out.below b78 (Nat.le_refl _))
  have O2_7 := Lib.hid (O2.out.below b78 (Nat.le_refl _))
  clear BB_6 RK_6 O1_6 O2
  clear hg7 hg8 r7 r8 b78 ra rb0 ba hba T7 T8 hw7
  go_wp2_with (first
    | (refine wpList_load_row rfl 41 (.tmp 7) rfl g7 rfl 41 (cs1).toArray (0, 0) _ R7.out Tryd.underlying41 rfl HId1b.out ?_)
    | (refine wpList_lit1 rfl 26 41 (.tmp 45) rfl (cs1) 33 rfl Tryd.underlying26 HI33.out HLd1.out (by decide) (by decide) ?_; have RX : Hid (Row (w8.alloc (.cells cs1.toArray 41)) g7 41 (cs1)) := Lib.hid (R7.out.step ((Below.refl _ _).alloc (Nat.le_refl _) _)))
    | (refine wpList_load_row rfl 41 (.tmp 7) rfl g7 rfl 41 (cs1).toArray (0, 0) _ RX.out Tryd.underlying41 rfl HId1b.out ?_)
    | (refine wpList_lit1 rfl 26 41 (.tmp 47) rfl (cs1) 33 rfl Tryd.underlying26 HI33.out HLd1.out (by decide) (by decide) ?_))
  obtain ⟨wL, hwL⟩ : ∃ wL, wL = ((w8.alloc (.cells cs1.toArray 41)).alloc (.cells cs1.toArray 41)) := ⟨_, rfl⟩
  have bL : Below w8.heap.size w8 wL := by rw [hwL]; exact below_alloc2 (Below.refl _ _)
  have rA : Row wL w8.heap.size 41 (cs1) := by rw [hwL, Row, ((Below.refl _ _).alloc (Nat.le_refl _) _).block w8.heap.size (by simp)]; exact heap_alloc_new _ _
  have rB : Row wL (w8.heap.size + 1) 41 (cs1) := by rw [hwL]; exact heap_new_at (by simp)
  rw [← hwL]
  clear hwL
  clear RX
  have BB_8 := Lib.hid (BB_7.out.trans (bL.mono BB_7.out.size))
  have RK_8 := Lib.hid (RK_7.out.step bL)
  have O1_8 := Lib.hid (O1_7.out.below bL (Nat.le_refl _))
  have O2_8 := Lib.hid (O2_7.out.below bL (Nat.le_refl _))
  have R7_8 := Lib.hid (R7.out.step bL)
  have R8_8 := Lib.hid (R8.out.step bL)
  clear BB_7 RK_7 O1_7 O2_7 R7 R8
  refine (collision_any [(⟨[97#8], shaF [97#8]⟩ : Dig)] [(⟨[97#8], shaF [97#8]⟩ : Dig)] [cs1] [cs1] _ _ _ _ _ wL (HG.out.step BB_8.out) (by decide) (by decide) (digs1 rA (by rw [HC1.out]; exact dig_of O1_8.out (by decide) (shaF_len _))) (digs1 rB (by rw [HC1.out]; exact dig_of O1_8.out (by decide) (shaF_len _)))).mono ?_
  intro er w9 hres
  obtain ⟨rfl, hb9⟩ := hres.none_ (fun y hy z hz => by
    simp only [List.mem_singleton] at hy hz
    rw [hy, hz]; exact col_self _)
  clear hres rA rB bL
  have BB_9 := Lib.hid (BB_8.out.trans (hb9.mono BB_8.out.size))
  have RK_9 := Lib.hid (RK_8.out.step hb9)
  have O1_9 := Lib.hid (O1_8.out.below hb9 (Nat.le_refl _))
  have O2_9 := Lib.hid (O2_8.out.below hb9 (Nat.le_refl _))
  have R7_9 := Lib.hid (R7_8.out.step hb9)
  have R8_9 := Lib.hid (R8_8.out.step hb9)
  clear BB_8 RK_8 O1_8 O2_8 R7_8 R8_8
  clear hb9
  have HID := Lib.hid (show (Tryd.prog.info? 39).map (·.size) = some (cells8 (shaF [97#8])).length by rw [cells8_len, shaF_len]; kernel_rfl)
  have R7m : Hid (w9.rangeAt g7 1 (cells8 (shaF [97#8]))) := by
    have h := R7_9.out
    rw [HC1.out] at h
    exact h.mid1
  have HFT : Hid (1 + (cells8 (shaF [97#8])).length ≤ cs2.length) := Lib.hid (by rw [cells8_len, shaF_len, HLd2.out]; decide)
  obtain ⟨cs3, hcs3⟩ : ∃ cs3, cs3 = v2 :: cells8 (shaF [97#8]) := ⟨_, rfl⟩
  have HC3 := Lib.hid hcs3
  have HSP : Hid (splice cs2 1 (cells8 (shaF [97#8])) = cs3) := Lib.hid (by rw [HC2.out, HC3.out]; exact splice_one _ _ _ (by rw [cells8_len, cells8_len, shaF_len, shaF_len]))
  clear hcs3
  go_upto_region 7 with (first
    | (refine wpList_load_mid rfl 39 (.tmp 54) rfl g7 1 rfl (cells8 (shaF [97#8])) _ R7m.out Tryd.underlying39 rfl HID.out ?_)
    | (refine wpList_store_splice rfl 39 (.tmp 56) (.tmp 55) rfl g8 1 41 cs2 (cells8 (shaF [97#8])) rfl rfl R8_9.out HID.out HFT.out (cells8_ones _) ?_; intro w10 r8 gr8))
  rw [HSP.out] at r8
  have BB_10 := Lib.hid (BB_9.out.grown gr8 BB_9.out.size (fun k hk => by cases hk; exact NB_R8.out))
  have RK_10 := Lib.hid (row_k RK_9.out gr8 (row_ne RK_9.out R8_9.out (by decide)))
  have O1_10 : Hid (Own8 _ _ _ _) := Lib.hid (World.ownsRow.kept O1_9.out gr8 (.inr (own_off O1_9.out R8_9.out (by decide))))
  have O2_10 : Hid (Own8 _ _ _ _) := Lib.hid (World.ownsRow.kept O2_9.out gr8 (.inr (own_off O2_9.out R8_9.out (by decide))))
  have R7_10 := Lib.hid (row_k R7_9.out gr8 NE78.out)
  have R8_10 := Lib.hid r8
  clear BB_9 RK_9 O1_9 O2_9 R7_9 R8_9
  clear r8 gr8 R7m HFT HSP HId2 HId2b HZd2 HAd2 HOd2 HLd2
  have HLd3 : Hid (cs3.length = 33) := Lib.hid (by rw [HC3.out, List.length_cons, cells8_len, shaF_len])
  have HOd3 : Hid (∀ u ∈ cs3, u.oneCell' = true) := Lib.hid (by rw [HC3.out]; exact own8_one O2_10.out)
  have HId3 := Lib.hid (show (Tryd.prog.info? 41).map (·.size) = some cs3.length by rw [HLd3.out]; kernel_rfl)
  have HId3b := Lib.hid (show (Tryd.prog.info? 41).map (·.size) = some cs3.toArray.size by rw [List.size_toArray, HLd3.out]; kernel_rfl)
  have HZd3 := Lib.hid (show zDig.length = cs3.length by rw [HLd3.out]; rfl)
  have HAd3 := Lib.hid (all_oneCell_toArray HOd3.out)
  go_wp2_with (first
    | (refine wpList_load_row rfl 41 (.tmp 7) rfl g7 rfl 41 (cs1).toArray (0, 0) _ R7_10.out Tryd.underlying41 rfl HId1b.out ?_)
    | (refine wpList_lit1 rfl 26 41 (.tmp 58) rfl (cs1) 33 rfl Tryd.underlying26 HI33.out HLd1.out (by decide) (by decide) ?_; have RX : Hid (Row (w10.alloc (.cells cs1.toArray 41)) g8 41 (cs3)) := Lib.hid (R8_10.out.step ((Below.refl _ _).alloc (Nat.le_refl _) _)))
    | (refine wpList_load_row rfl 41 (.tmp 8) rfl g8 rfl 41 (cs3).toArray (0, 0) _ RX.out Tryd.underlying41 rfl HId3b.out ?_)
    | (refine wpList_lit1 rfl 26 41 (.tmp 60) rfl (cs3) 33 rfl Tryd.underlying26 HI33.out HLd3.out (by decide) (by decide) ?_))
  obtain ⟨wL, hwL⟩ : ∃ wL, wL = ((w10.alloc (.cells cs1.toArray 41)).alloc (.cells cs3.toArray 41)) := ⟨_, rfl⟩
  have bL : Below w10.heap.size w10 wL := by rw [hwL]; exact below_alloc2 (Below.refl _ _)
  have rA : Row wL w10.heap.size 41 (cs1) := by rw [hwL, Row, ((Below.refl _ _).alloc (Nat.le_refl _) _).block w10.heap.size (by simp)]; exact heap_alloc_new _ _
  have rB : Row wL (w10.heap.size + 1) 41 (cs3) := by rw [hwL]; exact heap_new_at (by simp)
  rw [← hwL]
  clear hwL
  clear RX
  have BB_11 := Lib.hid (BB_10.out.trans (bL.mono BB_10.out.size))
  have RK_11 := Lib.hid (RK_10.out.step bL)
  have O1_11 := Lib.hid (O1_10.out.below bL (Nat.le_refl _))
  have O2_11 := Lib.hid (O2_10.out.below bL (Nat.le_refl _))
  have R7_11 := Lib.hid (R7_10.out.step bL)
  have R8_11 := Lib.hid (R8_10.out.step bL)
  clear BB_10 RK_10 O1_10 O2_10 R7_10 R8_10
  refine (collision_any [(⟨[97#8], shaF [97#8]⟩ : Dig)] [(⟨[98#8], shaF [97#8]⟩ : Dig)] [cs1] [cs3] _ _ _ _ _ wL (HG.out.step BB_11.out) (by decide) (by decide) (digs1 rA (by rw [HC1.out]; exact dig_of O1_11.out (by decide) (shaF_len _))) (digs1 rB (by rw [HC3.out]; exact dig_of O2_11.out (by decide) (shaF_len _)))).mono ?_
  intro er w11 hres
  obtain ⟨rfl, hb9⟩ := hres.none_ (fun y hy z hz => by
    simp only [List.mem_singleton] at hy hz
    rw [hy, hz]; exact col_two _ _ sha_ab)
  clear hres rA rB bL
  have BB_12 := Lib.hid (BB_11.out.trans (hb9.mono BB_11.out.size))
  have RK_12 := Lib.hid (RK_11.out.step hb9)
  have O1_12 := Lib.hid (O1_11.out.below hb9 (Nat.le_refl _))
  have O2_12 := Lib.hid (O2_11.out.below hb9 (Nat.le_refl _))
  have R7_12 := Lib.hid (R7_11.out.step hb9)
  have R8_12 := Lib.hid (R8_11.out.step hb9)
  clear BB_11 RK_11 O1_11 O2_11 R7_11 R8_11
  clear hb9
  clear R7_12
  clear R8_12
  clear O1_12
  clear O2_12
  go_wp2_with (refine wpList_load_mid rfl 43 (.tmp 68) rfl gk 16 rfl (cells8 mk) _ (row_mid1 RK_12.out HEK.out.symm) Tryd.underlying43 rfl HIK.out ?_)
  refine (mOf_any mk HMK.out 3#8 0#8 9#8 1#8 false w11).mono ?_
  rintro er w12 ⟨rfl, hb⟩
  obtain ⟨m, hm⟩ : ∃ m, m = msgOf mk 3#8 0#8 9#8 1#8 false := ⟨_, rfl⟩
  have HF1 : Hid (forgB mk [] m = true) := Lib.hid (by rw [hm]; exact forg_made _ _ _ _ _)
  have HTG : Hid (hmacF mk m.body = m.t) := Lib.hid (by rw [hm]; rfl)
  have HOK : Hid m.ok := Lib.hid (by rw [hm]; exact msgOf_ok _ _ _ _ _ _)
  rw [← hm]
  have HIm := Lib.hid (show (Tryd.prog.info? 54).map (·.size) = some m.cells.length by rw [Msg.len HOK.out]; kernel_rfl)
  have HIm2 := Lib.hid (show (Tryd.prog.info? 54).map (·.size) = some m.cells.toArray.size by rw [List.size_toArray, Msg.len HOK.out]; kernel_rfl)
  have HZm := Lib.hid (show Msg.zero.cells.length = m.cells.length by rw [Msg.len HOK.out]; rfl)
  have HAm := Lib.hid (all_oneCell_toArray (Msg.one m))
  have HLm := Lib.hid (Msg.len HOK.out)
  clear hm
  have BB_13 := Lib.hid (BB_12.out.trans (hb.mono BB_12.out.size))
  have RK_13 := Lib.hid (RK_12.out.step hb)
  clear BB_12 RK_12
  clear hb
  have hw12 := BB_13.out.size
  have SX : Hid (Row (w12.alloc (.cells Msg.zero.cells.toArray 54)) w12.heap.size 54 Msg.zero.cells) := Lib.hid (heap_alloc_new _ _)
  go_upto_region 9 with (refine Row.store (g := w12.heap.size) (t := 54) (L := Msg.zero.cells) (M := m.cells) SX.out rfl 54 (.tmp 15) (.tmp 70) rfl rfl rfl HIm.out HZm.out HAm.out ?_; rintro w13 hw13 r15; have b_w13 : Below w12.heap.size w12 w13 := (by rw [hw13]; exact ((Below.refl _ _).alloc (Nat.le_refl _) _).grown (grown_setRow _ _ _) (by simp) (fun k hk => by cases hk; exact Nat.le_refl _)); clear hw13)
  obtain ⟨g15, hg15⟩ : ∃ g, g = w12.heap.size := ⟨_, rfl⟩
  rw [← hg15] at r15 ⊢
  have BB_14 := Lib.hid (BB_13.out.trans (b_w13.mono BB_13.out.size))
  have RK_14 := Lib.hid (RK_13.out.step b_w13)
  clear BB_13 RK_13
  have R15 := Lib.hid r15
  clear SX r15 b_w13
  have NB_R15 : Hid (w.heap.size ≤ g15) := Lib.hid (by omega)
  clear hg15 hw12
  go_wp2_with (first
    | (refine wpList_load_row rfl 54 (.tmp 15) rfl g15 rfl 54 (m.cells).toArray (0, 0) _ R15.out Tryd.underlying54 rfl HIm2.out ?_)
    | (refine wpList_lit1 rfl 27 54 (.tmp 72) rfl (m.cells) 67 rfl Tryd.underlying27 HI67.out HLm.out (by decide) (by decide) ?_; have RKx : Hid (Row (w13.alloc (.cells (m.cells).toArray 54)) gk 58 (cells8 (ek ++ mk))) := Lib.hid (RK_14.out.step ((Below.refl _ _).alloc (Nat.le_refl _) _)))
    | (refine wpList_load_row rfl 58 (.tmp 1) rfl gk rfl 58 (cells8 (ek ++ mk)).toArray (0, 0) _ RKx.out Tryd.underlying58 rfl HIV2.out ?_))
  obtain ⟨wL, hwL⟩ : ∃ wL, wL = (w13.alloc (.cells m.cells.toArray 54)) := ⟨_, rfl⟩
  have bL : Below w13.heap.size w13 wL := by rw [hwL]; exact (Below.refl _ _).alloc (Nat.le_refl _) _
  have rA : Row wL w13.heap.size 54 (m.cells) := by rw [hwL]; exact heap_alloc_new _ _
  rw [← hwL]
  clear hwL
  clear RKx
  have BB_15 := Lib.hid (BB_14.out.trans (bL.mono BB_14.out.size))
  have RK_15 := Lib.hid (RK_14.out.step bL)
  have R15_15 := Lib.hid (R15.out.step bL)
  clear BB_14 RK_14 R15
  refine (forgery_any ek mk [] [m] _ _ _ _ _ wL HEK.out HMK.out (fun x h => by simp at h) (fun x h => by simp only [List.mem_singleton] at h; rw [h]; exact HOK.out) (by simp) (by simp) (HG.out.step BB_15.out) msgs0 (msgs1 rA HOK.out)).mono ?_
  intro er w14 hres
  obtain ⟨rfl, hb⟩ := hres.one HF1.out
  clear hres bL rA
  have BB_16 := Lib.hid (BB_15.out.trans (hb.mono BB_15.out.size))
  have RK_16 := Lib.hid (RK_15.out.step hb)
  have R15_16 := Lib.hid (R15_15.out.step hb)
  clear BB_15 RK_15 R15_15
  clear hb
  have LT15 := Lib.hid R15_16.out.lt
  have SX : Hid (Row (w14.alloc (.cells Msg.zero.cells.toArray 54)) w14.heap.size 54 Msg.zero.cells) := Lib.hid (heap_alloc_new _ _)
  go_upto_region 10 with (refine Row.store (g := w14.heap.size) (t := 54) (L := Msg.zero.cells) (M := m.cells) SX.out rfl 54 (.tmp 16) (.tmp 77) rfl rfl rfl HIm.out HZm.out HAm.out ?_; rintro w15 hw15 r16; have b_w15 : Below w14.heap.size w14 w15 := (by rw [hw15]; exact ((Below.refl _ _).alloc (Nat.le_refl _) _).grown (grown_setRow _ _ _) (by simp) (fun k hk => by cases hk; exact Nat.le_refl _)); clear hw15)
  obtain ⟨g16, hg16⟩ : ∃ g, g = w14.heap.size := ⟨_, rfl⟩
  rw [← hg16] at r16 ⊢
  have BB_17 := Lib.hid (BB_16.out.trans (b_w15.mono BB_16.out.size))
  have RK_17 := Lib.hid (RK_16.out.step b_w15)
  have R15_17 := Lib.hid (R15_16.out.step b_w15)
  clear BB_16 RK_16 R15_16
  have R16 := Lib.hid r16
  clear SX r16 b_w15
  have NE16 : Hid (g16 ≠ g15) := Lib.hid (by rw [hg16]; exact fun e => absurd LT15.out (by rw [e]; exact Nat.lt_irrefl _))
  clear hg16 LT15
  go_wp2_with (first
    | (refine wpList_load_row rfl 54 (.tmp 15) rfl g15 rfl 54 (m.cells).toArray (0, 0) _ R15_17.out Tryd.underlying54 rfl HIm2.out ?_)
    | (refine wpList_lit1 rfl 27 54 (.tmp 80) rfl (m.cells) 67 rfl Tryd.underlying27 HI67.out HLm.out (by decide) (by decide) ?_; have R15x : Hid (Row (w15.alloc (.cells (m.cells).toArray 54)) g15 54 (m.cells)) := Lib.hid (R15_17.out.step ((Below.refl _ _).alloc (Nat.le_refl _) _)); have RK0 : Hid (Row (w15.alloc (.cells (m.cells).toArray 54)) gk 58 (cells8 (ek ++ mk))) := Lib.hid (RK_17.out.step ((Below.refl _ _).alloc (Nat.le_refl _) _)))
    | (refine wpList_load_row rfl 54 (.tmp 15) rfl g15 rfl 54 (m.cells).toArray (0, 0) _ R15x.out Tryd.underlying54 rfl HIm2.out ?_)
    | (refine wpList_lit1 rfl 27 54 (.tmp 82) rfl (m.cells) 67 rfl Tryd.underlying27 HI67.out HLm.out (by decide) (by decide) ?_; have RKx : Hid (Row ((w15.alloc (.cells (m.cells).toArray 54)).alloc (.cells (m.cells).toArray 54)) gk 58 (cells8 (ek ++ mk))) := Lib.hid (RK0.out.step ((Below.refl _ _).alloc (Nat.le_refl _) _)))
    | (refine wpList_load_row rfl 58 (.tmp 1) rfl gk rfl 58 (cells8 (ek ++ mk)).toArray (0, 0) _ RKx.out Tryd.underlying58 rfl HIV2.out ?_))
  obtain ⟨wL, hwL⟩ : ∃ wL, wL = ((w15.alloc (.cells m.cells.toArray 54)).alloc (.cells m.cells.toArray 54)) := ⟨_, rfl⟩
  have bL : Below w15.heap.size w15 wL := by rw [hwL]; exact below_alloc2 (Below.refl _ _)
  have rA : Row wL w15.heap.size 54 (m.cells) := by rw [hwL, Row, ((Below.refl _ _).alloc (Nat.le_refl _) _).block w15.heap.size (by simp)]; exact heap_alloc_new _ _
  have rB : Row wL (w15.heap.size + 1) 54 (m.cells) := by rw [hwL]; exact heap_new_at (by simp)
  rw [← hwL]
  clear hwL
  clear RKx RK0 R15x
  have BB_18 := Lib.hid (BB_17.out.trans (bL.mono BB_17.out.size))
  have RK_18 := Lib.hid (RK_17.out.step bL)
  have R15_18 := Lib.hid (R15_17.out.step bL)
  have R16_18 := Lib.hid (R16.out.step bL)
  clear BB_17 RK_17 R15_17 R16
  refine (forgery_any ek mk [m] [m] _ _ _ _ _ wL HEK.out HMK.out (fun x h => by simp only [List.mem_singleton] at h; rw [h]; exact HOK.out) (fun x h => by simp only [List.mem_singleton] at h; rw [h]; exact HOK.out) (by simp) (by simp) (HG.out.step BB_18.out) (msgs1 rB HOK.out) (msgs1 rA HOK.out)).mono ?_
  intro er w16 hres
  obtain ⟨rfl, hb⟩ := hres.none_ (fun y hy => by simp only [List.mem_singleton] at hy; rw [hy]; exact forg_sealed _ _)
  clear hres bL rA rB
  have BB_19 := Lib.hid (BB_18.out.trans (hb.mono BB_18.out.size))
  have RK_19 := Lib.hid (RK_18.out.step hb)
  have R15_19 := Lib.hid (R15_18.out.step hb)
  have R16_19 := Lib.hid (R16_18.out.step hb)
  clear BB_18 RK_18 R15_18 R16_18
  clear hb
  have SX : Hid (Row (w16.alloc (.cells Msg.zero.cells.toArray 54)) w16.heap.size 54 Msg.zero.cells) := Lib.hid (heap_alloc_new _ _)
  go_upto_region 11 with (refine Row.store (g := w16.heap.size) (t := 54) (L := Msg.zero.cells) (M := Msg.zero.cells) SX.out rfl 54 (.tmp 18) (.tmp 87) rfl rfl rfl HIZ.out rfl HZ1.out ?_; rintro w17 hw17 r18; have b_w17 : Below w16.heap.size w16 w17 := (by rw [hw17]; exact ((Below.refl _ _).alloc (Nat.le_refl _) _).grown (grown_setRow _ _ _) (by simp) (fun k hk => by cases hk; exact Nat.le_refl _)); clear hw17)
  obtain ⟨g18, hg18⟩ : ∃ g, g = w16.heap.size := ⟨_, rfl⟩
  rw [← hg18] at r18 ⊢
  have BB_20 := Lib.hid (BB_19.out.trans (b_w17.mono BB_19.out.size))
  have RK_20 := Lib.hid (RK_19.out.step b_w17)
  have R15_20 := Lib.hid (R15_19.out.step b_w17)
  have R16_20 := Lib.hid (R16_19.out.step b_w17)
  clear BB_19 RK_19 R15_19 R16_19
  clear hg18 SX r18 b_w17
  obtain ⟨tb, htb⟩ : ∃ tb, m.t[0]? = some tb := ⟨_, List.getElem?_eq_getElem (by rw [HOK.out.2.2.2]; omega)⟩
  have HTB := Lib.hid htb
  have ct : w17.cell? ⟨g15, 35, none⟩ = some (.int .u8 (bv tb)) := R15_20.out.cell (Msg.tagCell (q := 0) HOK.out.2.2.1 htb)
  have ft := R15_20.out.free 35
  have hadd := b8_add1 tb
  clear htb
  go_upto_region 12 with (fail)
  obtain ⟨w18, hw18⟩ : ∃ w18, w18 = (w17.setCell ⟨g15, 35, none⟩ (.int .u8 (bv (tb + 1#8)))) := ⟨_, rfl⟩
  have gr15 : w17.grownBy w18 (some g15) := by rw [hw18]; exact setCell_grown w17 g15 35 _
  have r15 : Row w18 g15 54 m.bump.cells := by
    rw [hw18]
    have h := R15_20.out.setCell (i := 35) (.int .u8 (bv (tb + 1#8)))
    rw [Msg.setTag (m := m) (q := 0) (tb + 1#8) HOK.out.2.2.1] at h
    have e : m.t.getD 0 0 = tb := by rw [List.getD_eq_getElem?_getD, HTB.out]; rfl
    unfold Msg.bump
    rw [e]; exact h
  rw [← hw18]
  clear hw18 ct ft hadd
  have BB_21 := Lib.hid (BB_20.out.grown gr15 BB_20.out.size (fun k hk => by cases hk; exact NB_R15.out))
  have RK_21 := Lib.hid (row_k RK_20.out gr15 (row_ne RK_20.out R15_20.out (by decide)))
  have R15_21 := Lib.hid r15
  have R16_21 := Lib.hid (row_k R16_20.out gr15 NE16.out)
  clear BB_20 RK_20 R15_20 R16_20
  clear r15 gr15
  have HOB : Hid m.bump.ok := Lib.hid (Msg.bump_ok HOK.out)
  have HIb2 := Lib.hid (show (Tryd.prog.info? 54).map (·.size) = some m.bump.cells.toArray.size by rw [List.size_toArray, Msg.len HOB.out]; kernel_rfl)
  have HLb := Lib.hid (Msg.len HOB.out)
  go_wp2_with (first
    | (refine wpList_load_row rfl 54 (.tmp 15) rfl g15 rfl 54 (m.bump.cells).toArray (0, 0) _ R15_21.out Tryd.underlying54 rfl HIb2.out ?_)
    | (refine wpList_lit1 rfl 27 54 (.tmp 96) rfl (m.bump.cells) 67 rfl Tryd.underlying27 HI67.out HLb.out (by decide) (by decide) ?_; have RKx : Hid (Row (w18.alloc (.cells (m.bump.cells).toArray 54)) gk 58 (cells8 (ek ++ mk))) := Lib.hid (RK_21.out.step ((Below.refl _ _).alloc (Nat.le_refl _) _)))
    | (refine wpList_load_row rfl 58 (.tmp 1) rfl gk rfl 58 (cells8 (ek ++ mk)).toArray (0, 0) _ RKx.out Tryd.underlying58 rfl HIV2.out ?_))
  obtain ⟨wL, hwL⟩ : ∃ wL, wL = (w18.alloc (.cells m.bump.cells.toArray 54)) := ⟨_, rfl⟩
  have bL : Below w18.heap.size w18 wL := by rw [hwL]; exact (Below.refl _ _).alloc (Nat.le_refl _) _
  have rA : Row wL w18.heap.size 54 (m.bump.cells) := by rw [hwL]; exact heap_alloc_new _ _
  rw [← hwL]
  clear hwL
  clear RKx
  have BB_22 := Lib.hid (BB_21.out.trans (bL.mono BB_21.out.size))
  have RK_22 := Lib.hid (RK_21.out.step bL)
  have R15_22 := Lib.hid (R15_21.out.step bL)
  have R16_22 := Lib.hid (R16_21.out.step bL)
  clear BB_21 RK_21 R15_21 R16_21
  refine (forgery_any ek mk [] [m.bump] _ _ _ _ _ wL HEK.out HMK.out (fun x h => by simp at h) (fun x h => by simp only [List.mem_singleton] at h; rw [h]; exact HOB.out) (by simp) (by simp) (HG.out.step BB_22.out) msgs0 (msgs1 rA HOB.out)).mono ?_
  intro er w19 hres
  obtain ⟨rfl, hb⟩ := hres.none_ (fun y hy => by simp only [List.mem_singleton] at hy; rw [hy]; exact forg_bump _ _ HTG.out HOK.out)
  clear hres bL rA
  have BB_23 := Lib.hid (BB_22.out.trans (hb.mono BB_22.out.size))
  have RK_23 := Lib.hid (RK_22.out.step hb)
  have R15_23 := Lib.hid (R15_22.out.step hb)
  have R16_23 := Lib.hid (R16_22.out.step hb)
  clear BB_22 RK_22 R15_22 R16_22
  clear hb
  have SX : Hid (Row (w19.alloc (.cells Msg.zero.cells.toArray 54)) w19.heap.size 54 Msg.zero.cells) := Lib.hid (heap_alloc_new _ _)
  go_upto_region 13 with (refine Row.store (g := w19.heap.size) (t := 54) (L := Msg.zero.cells) (M := Msg.zero.cells) SX.out rfl 54 (.tmp 20) (.tmp 101) rfl rfl rfl HIZ.out rfl HZ1.out ?_; rintro w20 hw20 r20; have b_w20 : Below w19.heap.size w19 w20 := (by rw [hw20]; exact ((Below.refl _ _).alloc (Nat.le_refl _) _).grown (grown_setRow _ _ _) (by simp) (fun k hk => by cases hk; exact Nat.le_refl _)); clear hw20)
  obtain ⟨g20, hg20⟩ : ∃ g, g = w19.heap.size := ⟨_, rfl⟩
  rw [← hg20] at r20 ⊢
  have BB_24 := Lib.hid (BB_23.out.trans (b_w20.mono BB_23.out.size))
  have RK_24 := Lib.hid (RK_23.out.step b_w20)
  have R15_24 := Lib.hid (R15_23.out.step b_w20)
  have R16_24 := Lib.hid (R16_23.out.step b_w20)
  clear BB_23 RK_23 R15_23 R16_23
  clear hg20 SX r20 b_w20
  have ct : w20.cell? ⟨g15, 35, none⟩ = some (.int .u8 (bv (tb + 1#8))) := by
    refine R15_24.out.cell (Msg.tagCell (m := m.bump) (q := 0) HOB.out.2.2.1 ?_)
    have e : m.t.getD 0 0 = tb := by rw [List.getD_eq_getElem?_getD, HTB.out]; rfl
    show (m.t.set 0 (m.t.getD 0 0 + 1#8))[0]? = _
    rw [e, List.getElem?_set_self (by rw [HOK.out.2.2.2]; omega)]
  have ft := R15_24.out.free 35
  have hsub := b8_sub1 tb
  go_upto_region 14 with (fail)
  obtain ⟨w21, hw21⟩ : ∃ w21, w21 = (w20.setCell ⟨g15, 35, none⟩ (.int .u8 (bv tb))) := ⟨_, rfl⟩
  have gr15 : w20.grownBy w21 (some g15) := by rw [hw21]; exact setCell_grown w20 g15 35 _
  have r15 : Row w21 g15 54 m.cells := by
    rw [hw21]
    have h := R15_24.out.setCell (i := 35) (.int .u8 (bv tb))
    rw [Msg.setTag (m := m.bump) (q := 0) tb HOB.out.2.2.1] at h
    have e2 : m.t.set 0 tb = m.t := by
      apply List.ext_getElem?
      intro j
      rw [List.getElem?_set]
      split
      · rename_i hj; subst hj
        rw [HTB.out, if_pos (by rw [HOK.out.2.2.2]; omega)]
      · rfl
    have e : ({ m.bump with t := m.bump.t.set 0 tb } : Msg) = m := by
      show ({ m with t := (m.t.set 0 (m.t.getD 0 0 + 1#8)).set 0 tb } : Msg) = m
      rw [List.set_set, e2]
    rw [e] at h
    exact h
  rw [← hw21]
  clear hw21 ct ft hsub
  have BB_25 := Lib.hid (BB_24.out.grown gr15 BB_24.out.size (fun k hk => by cases hk; exact NB_R15.out))
  have RK_25 := Lib.hid (row_k RK_24.out gr15 (row_ne RK_24.out R15_24.out (by decide)))
  have R15_25 := Lib.hid r15
  have R16_25 := Lib.hid (row_k R16_24.out gr15 NE16.out)
  clear BB_24 RK_24 R15_24 R16_24
  clear r15 gr15
  have heq := fun w => eql_msg w m m HOK.out HOK.out
  have hdm : decide (m = m) = true := by simp
  go_wp2_with (first
    | (refine wpList_want rfl (exec_load_row 54 (.tmp 16) rfl g16 rfl 54 m.cells.toArray (0, 0) _ R16_25.out Tryd.underlying54 rfl HIm2.out) ?_)
    | (refine wpList_want rfl (exec_load_row 54 (.tmp 15) rfl g15 rfl 54 m.cells.toArray (0, 0) _ R15_25.out Tryd.underlying54 rfl HIm2.out) ?_))
  go_ret
  exact ⟨rfl, BB_25.out⟩
end Go.Proofs.YtpobkoiaidgedaaDoor
