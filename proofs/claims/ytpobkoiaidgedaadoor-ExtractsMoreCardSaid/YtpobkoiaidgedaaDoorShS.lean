/- HMAC: the reference's. -/
import Derived.Test.YtpobkoiaidgedaaDoorShR
namespace Go.Proofs.YtpobkoiaidgedaaDoor
open Go.RowKit

/-- What v owns is not what u owns. -/
def Sep (v u : Value) : Prop := v.ownBlock = none ∨ v.ownBlock ≠ u.ownBlock
theorem Own8.keptBy {w w' : World} {base : Nat} {v u : Value} {L : List B8} (h : Own8 w base v L) (hg : w.grownBy w' u.ownBlock) (hs : Sep v u) : Own8 w' base v L := World.ownsRow.kept h hg hs
theorem Sep.new {w : World} {base : Nat} {v u u' : Value} {L : List B8} (h : Own8 w base v L) (hs : Sep v u) (hu : u'.ownBlock = u.ownBlock ∨ ∃ s, u'.ownBlock = some s ∧ w.heap.size ≤ s) : Sep v u' := by
  rcases hu with e | ⟨s, e, hs⟩
  · unfold Sep; rw [e]; exact hs
  · right; rw [e]; intro e2
    have := (World.ownsRow.lt h _ e2).2
    omega
theorem Sep.swap {v u : Value} (h : Sep v u) : Sep u v := by
  rcases h with h | h
  · cases hu : u.ownBlock with
    | none => exact .inl hu
    | some g => right; rw [hu, h]; simp
  · exact .inr fun e => h e.symm
theorem wpList_app8s {w : World} {ops : Array Oper} {rest : List Oper} {o : Oper} {a : Act} {Q : Exit → Act → World → Prop} (hgd : o.guard = none) (s x : Operand)
    (ho : o.op = .call { callee := .builtin .append, args := #[s, x], argTypes := #[34, 34] })
    (base : Nat) (v : Value) (L : List B8) (hs : a.eval s = v) (hown : Own8 w base v L)
    (B : Nat) (A : Option Addr) (m c : Nat) (q : List B8) (hx : a.eval x = .slice A m c) (hr : Rd w B 1 A m (cells8 q))
    (h63 : L.length + q.length ≤ 2000000000) (hbase : base ≤ w.heap.size)
    (h : ∀ v' w', Own8 w' base v' (L ++ q) → w.grownBy w' v.ownBlock → (v'.ownBlock = v.ownBlock ∨ v'.ownBlock = some w.heap.size) → wpList Tryd.prog ops Q rest (a.put o.dst v') w') : wpList Tryd.prog ops Q (o :: rest) a w := by
  obtain ⟨i0, hi, hz0, hz1, hz2⟩ := info_parts info_u8p
  have hm : m = q.length := hr.len8
  subst hm
  refine wpList_append_rd w hgd s x 34 ho base 5 i0 _ 1 1 Tryd.underlying34 hi hz0 hz1 hz2 rfl (by decide) v L.length _ hs hown B A _ c _ hx hr (cells8_ones _) (by unfold maxLen; omega) (by omega) hbase ?_
  intro v' w' h1 h2 h3
  refine h v' w' ?_ h2 h3
  unfold Own8
  rw [cells8_app, List.length_append]
  exact h1
theorem lit8g {w : World} {t : TypeId} (b : B8) : Rd (w.alloc (.cells #[.int .u8 (bv b)] t)) (w.alloc (.cells #[.int .u8 (bv b)] t)).heap.size 1 (some ⟨w.heap.size, 0, none⟩) 1 (cells8 [b]) := lit8 b _ rfl
theorem takex (l : List B8) (j : Nat) (b : B8) (h : l[j]? = some b) : l.take j ++ [b] = l.take (j + 1) := by
  obtain ⟨hj, h⟩ := List.getElem?_eq_some_iff.1 h
  rw [List.take_succ_eq_append_getElem hj, h]
theorem xorC_at (K : List B8) (c : B8) (j : Nat) (b : B8) (h : K[j]? = some b) : (xorC K c)[j]? = some (b ^^^ c) := by simp [xorC, h]
theorem nil_len {v : Value} {w : World} {base : Nat} {L : List B8} (h : Own8 w base v L) : nilLen v = L.length := by
  obtain ⟨A, c, rfl, _⟩ := h.slice; rfl

set_option maxRecDepth 100000 in
set_option maxHeartbeats 2000000 in
theorem refBlock_any (A : Option Addr) (c : Nat) (k : List B8) (w : World) (hr : Rd w w.heap.size 1 A k.length (cells8 k)) (hk : k.length ≤ 64) :
    Calls Tryd.prog 39 #[.slice A k.length c] w fun e w' => ∃ v, e = .returned v ∧ Own8 w' w.heap.size v (keyB k) ∧ Below w.heap.size w w' := by
  have HK := Lib.hid hk
  have HR := Lib.hid hr
  have hd : decide (64 < k.length) = false := by simp; omega
  have hd2 : ¬ (64 < (k.length : Int)) := by omega
  clear hk hr
  go_enter Tryd.func39, Tryd.ntmps39
  have hba := (Below.refl w.heap.size w).alloc (Nat.le_refl _) (.cells #[] 5)
  have ho : Own8 (w.alloc (.cells #[] 5)) w.heap.size (.slice (some ⟨w.heap.size, 0, none⟩) 0 0) [] := Own8.lit [] rfl (Nat.le_refl _) (by decide)
  go_wp2_with (at_builtin; refine wpList_app8 rfl (.tmp 5) (.tmp 6) rfl w.heap.size _ [] rfl ho _ _ _ _ k rfl (HR.out.below hba (Nat.le_refl _)) ?c1 ?c2 ?_)
  case c1 => have := HK.out; simp; omega
  intro v1 w1 o1 gr1
  have b1 : Below w.heap.size w w1 := ho.belowG hba gr1 (Nat.le_refl _) hba.size
  clear ho hba gr1
  have o1' : Own8 w1 w.heap.size v1 (k ++ List.replicate 0 0) := by simpa using o1
  have O1 := Lib.hid o1'
  clear o1 o1'
  go_wp2
  go_loopw [3] (fun v wr => ∃ j : Nat, j ≤ 64 - k.length ∧ Own8 wr w.heap.size v (k ++ List.replicate j 0) ∧ Below w.heap.size w wr) (fun v _ => 64 - nilLen v)
  case atStart => exact ⟨0, Nat.zero_le _, O1.out, b1⟩
  case round =>
    clear O1 b1
    obtain ⟨j, hj, ho, hb⟩ := hrel
    obtain ⟨Ar, cr, rfl, hcr, hcm, hrr⟩ := ho.slice
    have hlj : (k ++ List.replicate j (0 : B8)).length = k.length + j := by simp
    obtain ⟨m, hm⟩ : ∃ m, m = k.length + j := ⟨_, rfl⟩
    have HO : Hid (Own8 wr w.heap.size (.slice Ar m cr) (k ++ List.replicate j 0)) := by unfold Hid; rw [hm, ← hlj]; exact ho
    rw [hlj, ← hm]
    have HM := Lib.hid hm
    have HLJ := Lib.hid hlj
    clear ho hlj hcr hcm hrr hd hd2
    by_cases hlt : m < 64
    · have hdm : decide ((m : Int) < 64) = true := by simp; omega
      have hmi : (m : Int) < 64 := by omega
      have hj1 : Hid (j + 1 ≤ 64 - k.length) := by unfold Hid; omega
      have HL := Lib.hid (lit8 (w := wr) (t := 5) 0#8 0 rfl)
      have hba := (Below.refl wr.heap.size wr).alloc (Nat.le_refl _) (.cells #[.int .u8 0] 5)
      clear hm
      go_wp2_with (at_builtin; refine wpList_app8 rfl (.tmp 19) (.tmp 20) rfl w.heap.size _ (k ++ List.replicate j 0) rfl (HO.out.below hba (Nat.le_refl _)) _ _ _ _ [0#8] rfl HL.out ?d2 ?d3 ?_)
      case d2 => have := HK.out; have := hj1.out; rw [HLJ.out]; simp only [List.length_cons, List.length_nil]; omega
      case d3 => exact Nat.le_trans hb.size hba.size
      intro v2 w2 o2 gr2
      have b2 : Below w.heap.size w w2 := (HO.out.below hba (Nat.le_refl _)).belowG (hb.trans (hba.mono hb.size)) gr2 (Nat.le_refl _) (Nat.le_trans hb.size hba.size)
      have o2' : Own8 w2 w.heap.size v2 (k ++ List.replicate (j + 1) 0) := by rw [List.replicate_succ', ← List.append_assoc]; simpa using o2
      have O2 := Lib.hid o2'
      clear o2 o2' gr2 hba hb
      go_wp2
      go_roundw
      case rel => exact ⟨j + 1, hj1.out, O2.out, b2⟩
      case measure =>
        rw [nil_len O2.out]
        have := HM.out; have := hj1.out
        simp only [nilLen, List.length_append, List.length_replicate]
        omega
    · have hdm : decide ((m : Int) < 64) = false := by simp; omega
      have hmi : ¬ (m : Int) < 64 := by omega
      have e : k ++ List.replicate j 0 = keyB k := by unfold keyB; rw [show j = 64 - k.length by omega]
      have HO2 : Hid (Own8 wr w.heap.size (.slice Ar m cr) (keyB k)) := by unfold Hid; rw [← e]; exact HO.out
      clear hm e HO HLJ
      go_wp2
      go_ret
      exact ⟨_, rfl, HO2.out, hb⟩

set_option maxRecDepth 100000 in
set_option maxHeartbeats 600000 in
theorem refMac_any (A : Option Addr) (c : Nat) (k : List B8) (A2 : Option Addr) (n c2 : Nat) (m : List B8) (w : World) (hrk : Rd w w.heap.size 1 A k.length (cells8 k)) (hk : k.length ≤ 64) (hrm : Rd w w.heap.size 1 A2 n (cells8 m)) (hm : m.length < 800000000) :
    Calls Tryd.prog 21 #[.slice A k.length c, .slice A2 n c2] w fun e w' => e = .returned (.agg (cells8 (hmacF k m)).toArray) ∧ Below w.heap.size w w' := by
  obtain rfl : n = m.length := hrm.len8
  have HM := Lib.hid hm
  have HRM := Lib.hid hrm
  have HI2 := Lib.hid (show (Tryd.prog.info? 39).map (·.size) = some (cells8 (hmacF k m)).length by rw [cells8_len, hmac_len]; kernel_rfl)
  have HI3 := Lib.hid (show (Tryd.prog.info? 39).map (·.size) = some (cells8 (hmacF k m)).toArray.size by rw [List.size_toArray, cells8_len, hmac_len]; kernel_rfl)
  have HZ := Lib.hid (show (cells8 (List.replicate 32 0)).length = (cells8 (hmacF k m)).length by rw [cells8_len, cells8_len, hmac_len]; rfl)
  obtain ⟨K, hK⟩ : ∃ K, K = keyB k := ⟨_, rfl⟩
  have HKL := Lib.hid (show K.length = 64 by rw [hK]; exact keyB_len k hk)
  have HHM : Hid (hmacF k m = shaF (xorC K 0x5c ++ shaF (xorC K 0x36 ++ m))) := by unfold Hid; rw [hK]; rfl
  have HKK := Lib.hid hK
  clear hm hrm hK
  go_enter Tryd.func21, Tryd.ntmps21
  go_upto_region 1 with (fail)
  change Code.wp _ _ _ _ (w.alloc (.cells (cells8 (List.replicate 32 0)).toArray 39))
  obtain ⟨wz, hwz⟩ : ∃ wz, wz = (w.alloc (.cells (cells8 (List.replicate 32 0)).toArray 39)) := ⟨_, rfl⟩
  obtain ⟨g4, h4⟩ : ∃ g, g = w.heap.size := ⟨_, rfl⟩
  have hb : Below w.heap.size w wz := by rw [hwz]; exact (Below.refl _ _).alloc (Nat.le_refl _) _
  have r4 : Row wz g4 39 (cells8 (List.replicate 32 0)) := by rw [hwz, h4]; exact heap_alloc_new _ _
  have hg4w : w.heap.size ≤ g4 := by omega
  rw [← hwz, ← h4]
  clear hwz h4
  go_wp2_with fail
  refine (refBlock_any A c k _ ((hrk.below hb (Nat.le_refl _)).mono hb.size) hk).mono ?_
  rintro e w1 ⟨vk, rfl, ok, hb1⟩
  obtain ⟨Ak, ck, rfl, _, _, hrk1⟩ := ok.slice
  rw [← HKK.out, HKL.out] at hrk1
  rw [← HKK.out, HKL.out]
  have r41 := r4.step hb1
  have b1 := hb.trans (hb1.mono hb.size)
  have HRK := Lib.hid hrk1
  have hg41 := r41.lt
  clear ok hb1 hrk1 hrk hb r4
  go_wp2
  go_loopw [6, 7, 8] (fun v u i wr => ∃ j : Nat, j ≤ 64 ∧ i = .int .i64 (j : Int) ∧ Own8 wr w1.heap.size v ((xorC K 0x36#8).take j) ∧ Own8 wr w1.heap.size u ((xorC K 0x5c#8).take j) ∧ Sep v u ∧ Below w1.heap.size w1 wr) (fun _ _ i _ => 64 - (intOf i).toNat)
  case atStart => exact ⟨0, Nat.zero_le _, rfl, Own8.nil, Own8.nil, .inl rfl, Below.refl _ _⟩
  case round =>
    obtain ⟨j, hj, rfl, ov, ou, hsep, hbr⟩ := hrel
    by_cases hlt : j < 64
    · have hjn : (j : Int) < 64 := by omega
      have hd : decide ((j : Int) < 64) = true := by simp; omega
      have hjl : j < K.length := by rw [HKL.out]; exact hlt
      obtain ⟨ad, rfl, had, ca⟩ := HRK.out.at8 hjl
      obtain ⟨x, hx⟩ : ∃ x, K[j]? = some x := ⟨_, List.getElem?_eq_getElem hjl⟩
      rw [show K[j] = x from (List.getElem?_eq_some_iff.1 hx).2] at ca
      have c0 := (hbr.cell (p := ad.add j) (by rw [add_block]; exact had)).trans ca
      have hx1 : bits .xor .u8 (bv x) 54 = bv (x ^^^ 0x36#8) := b_xor x 0x36#8
      have hx2 : bits .xor .u8 (bv x) 92 = bv (x ^^^ 0x5c#8) := b_xor x 0x5c#8
      have T1 := Lib.hid (takex _ j _ (xorC_at K 0x36#8 j x hx))
      have T2 := Lib.hid (takex _ j _ (xorC_at K 0x5c#8 j x hx))
      have HL36 : Hid (((xorC K 0x36#8).take j).length ≤ 64) := Nat.le_trans (List.length_take_le _ _) hj
      have HL5C : Hid (((xorC K 0x5c#8).take j).length ≤ 64) := Nat.le_trans (List.length_take_le _ _) hj
      have hsr := hbr.size
      have HOV := Lib.hid ov
      have HOU := Lib.hid ou
      have HSEP := Lib.hid hsep
      have hba := (Below.refl wr.heap.size wr).alloc (Nat.le_refl _) (.cells #[.int .u8 (bv (x ^^^ 0x36#8))] 5)
      clear hx ca ov ou hsep hjl
      go_wp2_with (at_builtin; refine wpList_app8s rfl (.tmp 16) (.tmp 22) rfl w1.heap.size _ ((xorC K 0x36#8).take j) rfl (HOV.out.below hba (Nat.le_refl _)) _ _ _ _ [x ^^^ 0x36#8] rfl (lit8g _) ?d2 ?d3 ?_)
      case d2 => have := HL36.out; simp only [List.length_cons, List.length_nil]; omega
      case d3 => exact Nat.le_trans hsr hba.size
      intro v1 w2 o1 gr1 hob1
      rw [T1.out] at o1
      have b2 : Below w1.heap.size w1 w2 := (HOV.out.below hba (Nat.le_refl _)).belowG (hbr.trans (hba.mono hsr)) gr1 (Nat.le_refl _) (Nat.le_trans hsr hba.size)
      have ou1 : Own8 w2 w1.heap.size _ _ := (HOU.out.below hba (Nat.le_refl _)).keptBy gr1 HSEP.out.swap
      have hsep1 : Sep _ v1 := Sep.new (HOU.out.below hba (Nat.le_refl _)) HSEP.out.swap (hob1.imp id fun h => ⟨_, h, by simp⟩)
      have c1 := (b2.cell (p := ad.add j) (by rw [add_block]; exact had)).trans ((hbr.cell (p := ad.add j) (by rw [add_block]; exact had)).symm.trans c0)
      have hs2 := b2.size
      have O1 := Lib.hid o1
      have OU1 := Lib.hid ou1
      have SEP1 := Lib.hid hsep1
      have hba2 := (Below.refl w2.heap.size w2).alloc (Nat.le_refl _) (.cells #[.int .u8 (bv (x ^^^ 0x5c#8))] 5)
      clear o1 ou1 hsep1 gr1 hob1 hba hbr c0 HOV HOU HSEP hsr
      go_wp2_with (at_builtin; refine wpList_app8s rfl (.tmp 24) (.tmp 30) rfl w1.heap.size _ ((xorC K 0x5c#8).take j) rfl (OU1.out.below hba2 (Nat.le_refl _)) _ _ _ _ [x ^^^ 0x5c#8] rfl (lit8g _) ?d2 ?d3 ?_)
      case d2 => have := HL5C.out; simp only [List.length_cons, List.length_nil]; omega
      case d3 => exact Nat.le_trans hs2 hba2.size
      intro u1 w3 o2 gr2 hob2
      rw [T2.out] at o2
      have b3 : Below w1.heap.size w1 w3 := (OU1.out.below hba2 (Nat.le_refl _)).belowG (b2.trans (hba2.mono hs2)) gr2 (Nat.le_refl _) (Nat.le_trans hs2 hba2.size)
      have ov2 : Own8 w3 w1.heap.size v1 _ := (O1.out.below hba2 (Nat.le_refl _)).keptBy gr2 SEP1.out.swap
      have hsep2 : Sep v1 u1 := Sep.new (O1.out.below hba2 (Nat.le_refl _)) SEP1.out.swap (hob2.imp id fun h => ⟨_, h, by simp⟩)
      clear gr2 hob2 hba2 b2 c1 O1 OU1 SEP1 hs2
      have OV2 := Lib.hid ov2
      have O2 := Lib.hid o2
      clear ov2 o2
      go_wp2
      go_roundw
      case rel => exact ⟨j + 1, by omega, by go_num, OV2.out, O2.out, hsep2, b3⟩
      case measure => simp [intOf]; omega
    · obtain rfl : j = 64 := by omega
      have hd : decide ((64 : Int) < 64) = false := by decide
      rw [show ((64 : Nat) : Int) = 64 from rfl]
      rw [List.take_of_length_le (by rw [xorC_len, HKL.out]; exact Nat.le_refl _)] at ov ou
      have hsr := hbr.size
      have HOV := Lib.hid ov
      have HOU := Lib.hid ou
      have HSEP := Lib.hid hsep
      have r4 := r41.below hbr hg41
      have bb := b1.trans (hbr.mono b1.size)
      have hrm := HRM.out.below bb (Nat.le_refl _)
      have hrm' := Lib.hid hrm
      clear ov ou hsep hrm
      go_wp2_with (at_builtin; refine wpList_app8s rfl (.tmp 32) (.tmp 33) rfl w1.heap.size _ (xorC K 0x36#8) rfl HOV.out _ _ _ _ m rfl hrm'.out ?d2 hsr ?_)
      case d2 => rw [xorC_len, HKL.out]; have := HM.out; omega
      intro v1 w2 o1 gr1 hob1
      have b2 : Below w1.heap.size w1 w2 := HOV.out.belowG hbr gr1 (Nat.le_refl _) hsr
      have ou1 : Own8 w2 w1.heap.size _ _ := HOU.out.keptBy gr1 HSEP.out.swap
      have r42 := r41.below b2 hg41
      have bb2 := b1.trans (b2.mono b1.size)
      have hs2 := b2.size
      obtain ⟨Av, cv, rfl, _, _, hrv⟩ := o1.slice
      obtain ⟨n1, hn1⟩ : ∃ n, n = (xorC K 0x36#8 ++ m).length := ⟨_, rfl⟩
      rw [← hn1] at hrv ⊢
      have OU1 := Lib.hid ou1
      have HRV := Lib.hid hrv
      clear o1 ou1 gr1 hob1 hn1 HOV HOU HSEP r4 bb hrm' hsr hbr hrv
      go_wp2_with fail
      refine (refSum_any Av _ cv (xorC K 0x36#8 ++ m) _ HRV.out (by rw [List.length_append, xorC_len, HKL.out]; have := HM.out; omega)).mono ?_
      rintro e w3 ⟨rfl, hb3⟩
      have r43 := r42.step hb3
      have ou3 := OU1.out.below hb3 (Nat.le_refl _)
      have b3 : Below w1.heap.size w1 w3 := b2.trans (hb3.mono hs2)
      have bb3 := bb2.trans (hb3.mono bb2.size)
      have hs3 := b3.size
      obtain ⟨D, hD⟩ : ∃ D, D = shaF (xorC K 0x36#8 ++ m) := ⟨_, rfl⟩
      rw [← hD]
      have HDL := Lib.hid (show D.length = 32 by rw [hD]; exact shaF_len _)
      have HDD := Lib.hid hD
      have HI4 := Lib.hid (show (Tryd.prog.info? 39).map (·.size) = some (cells8 D).length by rw [cells8_len, HDL.out]; kernel_rfl)
      have HZ4 := Lib.hid (show (cells8 (List.replicate 32 0)).length = (cells8 D).length by rw [cells8_len, cells8_len, HDL.out]; rfl)
      have OU3 := Lib.hid ou3
      have S0 : Hid (Row (w3.alloc (.cells (cells8 (List.replicate 32 0)).toArray 39)) w3.heap.size 39 (cells8 (List.replicate 32 0))) := Lib.hid (heap_alloc_new _ _)
      have hg43 := r43.lt
      clear ou3 hD r42 hb3 OU1 bb2 b2 HRV hs2
      go_upto_region 9 with (refine Row.store (g := w3.heap.size) (t := 39) (L := cells8 (List.replicate 32 0)) (M := cells8 D) S0.out rfl 39 (.tmp 9) (.tmp 35) rfl rfl rfl HI4.out HZ4.out (cells8_one _) ?_; rintro w4 hw4 r9; have b34 : Below w3.heap.size w3 w4 := (by rw [hw4]; exact ((Below.refl _ _).alloc (Nat.le_refl _) _).grown (grown_setRow _ _ _) (by simp) (fun k hk => by cases hk; exact Nat.le_refl _)); clear hw4)
      obtain ⟨g9, hg9⟩ : ∃ g, g = w3.heap.size := ⟨_, rfl⟩
      rw [← hg9] at r9 ⊢
      have r44 := r43.step b34
      have bb4 := bb3.trans (b34.mono bb3.size)
      have ou4 := Lib.hid (OU3.out.below b34 (Nat.le_refl _))
      have hs4 := Nat.le_trans hs3 b34.size
      have hr9 := r9.rdAll
      rw [HDL.out] at hr9
      have HR9 := Lib.hid hr9
      clear hg9 S0 HI4 HZ4 b34 r43 OU3 bb3 b3 hr9 hs3
      try simp only [Act.put]
      go_wp2_with (at_builtin; refine wpList_app8s rfl (.tmp 36) (.tmp 37) rfl w1.heap.size _ (xorC K 0x5c#8) rfl ou4.out _ _ _ _ D rfl HR9.out ?d2 hs4 ?_)
      case d2 => rw [xorC_len, HKL.out, HDL.out]; omega
      intro u2 w5 o2 gr2 hob2
      have b45 : Below w1.heap.size w4 w5 := ou4.out.belowG (Below.refl _ _) gr2 (Nat.le_refl _) hs4
      have r45 := r44.below b45 hg41
      have bb5 := bb4.trans (b45.mono b1.size)
      obtain ⟨Au, cu, rfl, _, _, hru⟩ := o2.slice
      obtain ⟨n2, hn2⟩ : ∃ n, n = (xorC K 0x5c#8 ++ D).length := ⟨_, rfl⟩
      rw [← hn2] at hru ⊢
      have HRU := Lib.hid hru
      clear o2 gr2 hob2 hn2 ou4 r44 bb4 b45 hs4 hru
      go_wp2_with fail
      refine (refSum_any Au _ cu (xorC K 0x5c#8 ++ D) _ HRU.out (by rw [List.length_append, xorC_len, HKL.out, HDL.out]; omega)).mono ?_
      rintro e w6 ⟨rfl, hb6⟩
      have r46 := r45.step hb6
      have bb6 := bb5.trans (hb6.mono bb5.size)
      have e9 : shaF (xorC K 0x5c#8 ++ D) = hmacF k m := HHM.out ▸ HDD.out ▸ rfl
      rw [e9]
      clear hb6 r45 bb5 e9 HRU
      go_wp2_with (refine Row.store (g := g4) (t := 39) (L := cells8 (List.replicate 32 0)) (M := cells8 (hmacF k m)) r46 rfl 39 (.tmp 4) (.tmp 39) rfl rfl rfl HI2.out HZ.out (cells8_one _) ?_; rintro wF hwF rF; have bF : Below w.heap.size w wF := (by rw [hwF]; exact bb6.grown (grown_setRow _ _ _) bb6.size (fun k hk => by cases hk; exact hg4w)); clear hwF)
      refine bodyPost_ret (v := .agg (cells8 (hmacF k m)).toArray) (results_cell_row Tryd.results21 _ wF g4 39 _ (0, 0) _ rfl rF Tryd.underlying39 rfl HI3.out) rfl ⟨rfl, bF⟩
end Go.Proofs.YtpobkoiaidgedaaDoor
