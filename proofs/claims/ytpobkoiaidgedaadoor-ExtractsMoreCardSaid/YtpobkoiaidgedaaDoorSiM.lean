/- The first collision: a map of the elements made by their digest, then the first loaded one. -/
import Derived.Test.YtpobkoiaidgedaaDoorSjA
import Derived.Test.YtpobkoiaidgedaaDoorSiN
namespace Go.Proofs.YtpobkoiaidgedaaDoor
open Go.RowKit

/-- The bytes of the first collision, copied; or none. -/
def ColP (lm ll : List Dig) (w : World) (e : Ending) (w' : World) : Prop :=
  ((∃ (k i : Nat) (y x : Dig) (A1 A2 : Option Addr) (c1 c2 : Nat), ll[k]? = some y ∧ lm[i]? = some x ∧ colB x y = true ∧ (∀ (j : Nat) (z : Dig), j < i → lm[j]? = some z → colB z y = false) ∧ (∀ (j : Nat) (y' : Dig), j < k → ll[j]? = some y' → ∀ z ∈ lm, colB z y' = false) ∧ e = .returned (.tuple #[.slice A1 x.b.length c1, .slice A2 y.b.length c2, .bool true]) ∧ Rd w' w'.heap.size 1 A1 x.b.length (cells8 x.b) ∧ Rd w' w'.heap.size 1 A2 y.b.length (cells8 y.b)) ∨
    ((∀ y ∈ ll, ∀ z ∈ lm, colB z y = false) ∧ e = .returned (.tuple #[.slice none 0 0, .slice none 0 0, .bool false]))) ∧ Below w.heap.size w w'

theorem wpList_makeMap {P : Program} {ops : Array Oper} {rest : List Oper} {o : Oper} {a : Act} {w : World} {Q : Exit → Act → World → Prop} (hg : o.guard = none) (t : TypeId) (ho : o.op = .makeMap t none) (h : wpList P ops Q rest (a.put o.dst (.map (some w.heap.size))) (w.alloc (.map #[] 0))) : wpList P ops Q (o :: rest) a w := by
  refine wpList_run hg ?_ h
  unfold execOp
  simp only [ho]
  rfl
set_option maxRecDepth 100000 in
set_option maxHeartbeats 8000000 in
theorem collision_any (lm ll : List Dig) (xm xl : List (List Value)) (vm vs vl vf vp : Value) (w : World) (hG : Glob w) (hln : lm.length < 1000000) (hfn : ll.length < 1000000) (hdm : Digs w vm lm xm) (hdl : Digs w vl ll xl) :
    Calls Tryd.prog 8 #[.agg #[vm, vs, vl, vf, vp]] w (ColP lm ll w) := by
  obtain ⟨Am, cm, hvm, _, _⟩ := own_slice hdm.2.2
  obtain ⟨Al, cl, hvl, _, _⟩ := own_slice hdl.2.2
  have HVM := Lib.hid hvm
  have HVL := Lib.hid hvl
  obtain ⟨nm, hnm⟩ : ∃ n, n = lm.length := ⟨_, rfl⟩
  obtain ⟨nl, hnl⟩ : ∃ n, n = ll.length := ⟨_, rfl⟩
  have hnmI : (nm : Int) < 1000000 := by omega
  have hnlI : (nl : Int) < 1000000 := by omega
  rw [hvm, hvl, ← hnm, ← hnl]
  have HNM := Lib.hid hnm
  have HNL := Lib.hid hnl
  clear hln hfn hvm hvl hnm hnl
  go_enter Tryd.func8, Tryd.ntmps8
  go_upto_region 1 with (fail)
  obtain ⟨wz, hwz⟩ : ∃ wz, wz = (w.alloc (.cells #[.slice Am nm cm, vs, .slice Al nl cl, vf, vp] 30)) := ⟨_, rfl⟩
  obtain ⟨g1, h1⟩ : ∃ g, g = w.heap.size := ⟨_, rfl⟩
  have hb : Below w.heap.size w wz := by rw [hwz]; exact (Below.refl _ _).alloc (Nat.le_refl _) _
  have r1z : Row wz g1 30 [.slice Am nm cm, vs, .slice Al nl cl, vf, vp] := by rw [hwz, h1]; exact heap_alloc_new _ _
  have HDM := Lib.hid (hdm.step hb)
  have HDL := Lib.hid (hdl.step hb)
  have HB := Lib.hid hb
  have R1Z := Lib.hid r1z
  have HG := Lib.hid (hG.step hb)
  rw [← hwz, ← h1]
  clear hwz h1 hdm hdl hb hG
  have c0 : wz.cell? ⟨g1, 0, none⟩ = some (.slice Am nm cm) := r1z.cell rfl
  clear r1z
  go_upto_region 2 with (refine wpList_makeMap rfl _ rfl ?_)
  change Code.wp _ _ _ _ (wz.alloc (.map #[] 0))
  obtain ⟨wm, hwm⟩ : ∃ wm, wm = (wz.alloc (.map #[] 0)) := ⟨_, rfl⟩
  obtain ⟨r, hr⟩ : ∃ r, r = wz.heap.size := ⟨_, rfl⟩
  have hbm : Below wz.heap.size wz wm := by rw [hwm]; exact (Below.refl _ _).alloc (Nat.le_refl _) _
  have c1 : wm.cell? ⟨g1, 0, none⟩ = some (.slice Am nm cm) := (hbm.cell (p := ⟨g1, 0, none⟩) R1Z.out.lt).trans c0
  have hM0 : GrpM wm (r + 1) r [] [] := GrpM.nil (by rw [hwm, hr]; exact heap_alloc_new _ _)
  rw [← hwm, ← hr]
  have HR := Lib.hid hr
  clear hwm hr c0
  go_wp2
  go_loopw [7, 8, 17] (fun _ _ v wr => ∃ (k : Nat) (kvs : KV), k ≤ nm ∧ v = .int .i64 (k : Int) ∧ GrpM wr (r + 1) r kvs ((lm.zip xm).take k) ∧ Below wz.heap.size wz wr) (fun _ _ v _ => nm - (intOf v).toNat)
  case atStart => exact ⟨0, [], Nat.zero_le _, rfl, hM0, hbm⟩
  case round =>
    clear hM0 hbm
    obtain ⟨k, kvs, hk, rfl, hgm, hbz⟩ := hrel
    have HGM := Lib.hid hgm
    have HBZ := Lib.hid hbz
    clear hgm
    by_cases hlt : k < nm
    · have hd : decide ((k : Int) < (nm : Int)) = true := by simp; omega
      have hkn : (k : Int) < (nm : Int) := by omega
      obtain ⟨x, hxk⟩ : ∃ x, lm[k]? = some x := ⟨_, List.getElem?_eq_getElem (by rw [← HNM.out]; exact hlt)⟩
      obtain ⟨xcs, hck, hxis⟩ := HDM.out.2.1 k x hxk
      obtain ⟨gs, cp, hvs, hgs, hrg⟩ := own_elem HDM.out.2.2 HDM.out.lens k xcs hck (by rw [← HNM.out]; exact hlt)
      have hA : Am = some ⟨gs, 0, none⟩ ∧ cm = cp := by
        have h := HVM.out.symm.trans hvs
        injection h with a b c
        exact ⟨a, c⟩
      obtain ⟨rfl, rfl⟩ := hA
      have HCL := Lib.hid hxis.len
      have HC1 := Lib.hid (all_oneCell_toArray hxis.one)
      have HCO := Lib.hid hxis.one
      obtain ⟨hxd, hxb, Ax, cx, hxcs, hxc1, hxc2, hrx⟩ := hxis
      have hrgw : wr.rangeAt gs (k * 33) xcs := fun j u hu => (hbz.cell (p := ⟨gs, k * 33 + j, none⟩) hgs).trans (hrg j u hu)
      have HCS := Lib.hid (show (Tryd.prog.info? 41).map (·.size) = some xcs.length by rw [HCL.out]; kernel_rfl)
      have HCS2 := Lib.hid (show (Tryd.prog.info? 41).map (·.size) = some xcs.toArray.size by rw [List.size_toArray, HCL.out]; kernel_rfl)
      have HZC := Lib.hid (show zDig.length = xcs.length by rw [HCL.out]; rfl)
      have S0 : Hid (Row (wr.alloc (.cells zDig.toArray 41)) wr.heap.size 41 zDig) := Lib.hid (heap_alloc_new _ _)
      have HRG := Lib.hid hrgw
      have HXK := Lib.hid hxk
      have HCK := Lib.hid hck
      have HXB := Lib.hid hxb
      have HXC := Lib.hid (And.intro hxc1 hxc2)
      have HXS := Lib.hid hxcs
      have HRX := Lib.hid hrx
      clear hgs hrg hrgw hvs hxk hck hxd hxb hxcs hxc1 hxc2 hrx hbz
      go_upto_region 5 with (first
        | (refine wpList_load_mid rfl 41 (.tmp 19) rfl gs (k * 33) rfl xcs _ HRG.out Tryd.underlying41 rfl HCS.out ?_)
        | (refine Row.store (g := wr.heap.size) (t := 41) (L := zDig) (M := xcs) S0.out rfl 41 (.tmp 7) (.tmp 20) rfl rfl rfl HCS.out HZC.out HC1.out ?_; rintro w2 hw2 r7; have b12 : Below wr.heap.size wr w2 := (by rw [hw2]; exact ((Below.refl _ _).alloc (Nat.le_refl _) _).grown (grown_setRow _ _ _) (by simp) (fun k hk => by cases hk; exact Nat.le_refl _)); clear hw2))
      obtain ⟨g7, hg7⟩ : ∃ g, g = wr.heap.size := ⟨_, rfl⟩
      rw [← hg7] at r7 ⊢
      have c7 : w2.cell? ⟨g7, 0, none⟩ = some (.slice Ax x.b.length cx) := r7.cell (by rw [HXS.out]; rfl)
      have b2 := HBZ.out.trans (b12.mono HBZ.out.size)
      have B12 := Lib.hid b12
      have R7 := Lib.hid r7
      clear hg7 S0 HRG c1 hd b12 r7
      try simp only [Act.put]
      go_wp2_with (fail)
      refine (of_any (some ⟨w2.heap.size, 0, none⟩) 1 1 _ [x.b] _ (HG.out.step (b2.trans (((Below.refl _ _).alloc (Nat.le_refl _) _).mono b2.size))) rfl (Rd.lit1 (cs := [.slice Ax x.b.length cx]) rfl rfl) (Parts.cons ((HRX.out.step b2).step ((Below.refl _ _).alloc (Nat.le_refl _) _)) HXC.out.1 HXC.out.2 Parts.nil) (by have := HXB.out; simp; omega) (by omega)).mono ?_
      rintro e w3 ⟨rfl, hbx⟩
      rw [show [x.b].flatten = x.b from by simp]
      have y3 : Below w2.heap.size w2 w3 := below_alloc1 hbx
      have B3 := Lib.hid (B12.out.trans (y3.mono B12.out.size))
      have R73 := Lib.hid (R7.out.step y3)
      have hd32 : (shaF x.b).length = 32 := shaF_len _
      have HI8 := Lib.hid (show (Tryd.prog.info? 39).map (·.size) = some (cells8 (shaF x.b)).length by rw [cells8_len, hd32]; kernel_rfl)
      have HI82 := Lib.hid (show (Tryd.prog.info? 39).map (·.size) = some (cells8 (shaF x.b)).toArray.size by rw [List.size_toArray, cells8_len, hd32]; kernel_rfl)
      have HZ8 := Lib.hid (show (cells8 (List.replicate 32 0)).length = (cells8 (shaF x.b)).length by rw [cells8_len, cells8_len, hd32]; rfl)
      have S8 : Hid (Row (w3.alloc (.cells (cells8 (List.replicate 32 0)).toArray 39)) w3.heap.size 39 (cells8 (List.replicate 32 0))) := Lib.hid (heap_alloc_new _ _)
      have H32 := Lib.hid hd32
      clear hbx y3 c7 b2 R7 B12 hd32
      go_upto_region 6 with (refine Row.store (g := w3.heap.size) (t := 39) (L := cells8 (List.replicate 32 0)) (M := cells8 (shaF x.b)) S8.out rfl 39 (.tmp 8) (.tmp 24) rfl rfl rfl HI8.out HZ8.out (cells8_one _) ?_; rintro w4 hw4 r8; have b34 : Below w3.heap.size w3 w4 := (by rw [hw4]; exact ((Below.refl _ _).alloc (Nat.le_refl _) _).grown (grown_setRow _ _ _) (by simp) (fun k hk => by cases hk; exact Nat.le_refl _)); clear hw4)
      obtain ⟨g8, hg8⟩ : ∃ g, g = w3.heap.size := ⟨_, rfl⟩
      rw [← hg8] at r8 ⊢
      have R8 := Lib.hid r8
      have R74 := Lib.hid (R73.out.step b34)
      have B4 := Lib.hid (B3.out.trans (b34.mono B3.out.size))
      have HIP : Hid ((Tryd.prog.info? 41).map (fun i => (i.zero.isSome, i.size)) = some (true, 33)) := Lib.hid (by kernel_rfl)
      have B5 := Lib.hid ((Below.refl w4.heap.size w4).alloc (Nat.le_refl _) (.cells xcs.toArray 41))
      have HG5 := Lib.hid (HGM.out.step (B4.out.trans (B5.out.mono B4.out.size)))
      have HL5 : Hid (Rd (w4.alloc (.cells xcs.toArray 41)) (w4.alloc (.cells xcs.toArray 41)).heap.size 33 (some ⟨w4.heap.size, 0, none⟩) 1 xcs) := Lib.hid (Rd.lit1 rfl (by rw [HCL.out]))
      have HRS : Hid (r < w4.heap.size) := Lib.hid (Nat.lt_of_lt_of_le HGM.out.map.lt B4.out.size)
      have HLN : Hid ((grpD ((lm.zip xm).take k) (shaF x.b)).length ≤ k) := Lib.hid (Nat.le_trans (List.length_filter_le _ _) (by rw [List.length_take]; exact Nat.min_le_left _ _))
      have HKN := Lib.hid hkn
      clear hg8 S8 R73 B3 r8 b34
      try simp only [Act.put]
      go_wp2_with (first
        | (refine wpList_load_row rfl 39 (.tmp 8) rfl g8 rfl 39 (cells8 (shaF x.b)).toArray (0, 0) _ R8.out Tryd.underlying39 rfl HI82.out ?_)
        | (refine wpList_load_row rfl 41 (.tmp 7) rfl g7 rfl 41 xcs.toArray (0, 0) _ R74.out Tryd.underlying41 rfl HCS2.out ?_)
        | (refine wpList_lit1 rfl 26 41 (.tmp 28) rfl xcs 33 rfl Tryd.underlying26 HIP.out HCL.out (by decide) (by decide) ?_)
        | (refine wpList_mapEntry8 rfl (.tmp 25) (.tmp 26) rfl r kvs (shaF x.b) rfl rfl HG5.out.map HG5.out.keys H32.out ?_; intro i w6 m6 f6 gr6; have M6 := Lib.hid m6; have F6 := Lib.hid f6; have G6 := Lib.hid gr6; clear m6 f6 gr6; have O6 := Lib.hid (World.ownsRow.kept (HG5.out.own (shaF x.b) H32.out) G6.out (own_ne_low (HG5.out.own (shaF x.b) H32.out) (Nat.lt_succ_self r))); have L6 := Lib.hid (HL5.out.grown G6.out (Nat.le_refl _) (fun ad h => by cases h; intro h2; injection h2 with h2; exact absurd h2 (Nat.ne_of_gt HRS.out))))
        | (at_builtin; obtain ⟨i0, hi0, hz0, hz1, hz2⟩ := info_parts info_digp; refine wpList_append_rd w6 rfl (.tmp 27) (.tmp 29) 26 rfl (r + 1) 41 i0 _ 33 56 Tryd.underlying26 hi0 hz0 hz1 hz2 rfl (by decide) _ _ _ rfl O6.out _ _ 1 1 xcs rfl L6.out HCO.out ?ap1 ?ap2 ?ap3 ?_))
      case ap1 => have := HLN.out; have := HKN.out; unfold maxLen; omega
      case ap2 => have := HLN.out; have := HKN.out; omega
      case ap3 => have := G6.out.size; have := HRS.out; have := B5.out.size; omega
      intro v7 w7 o7 gr7 hv7
      have hne7 : some r ≠ (valK kvs (shaF x.b)).ownBlock := fun e => by have := (World.ownsRow.lt O6.out r e.symm).1; omega
      have M7 : Hid (MapIs w7 r (putK kvs (shaF x.b))) := Lib.hid ((grown_block gr7 M6.out.lt hne7).trans M6.out)
      have HIX := Lib.hid (findK_at _ _ _ _ _ F6.out).2
      have O7 := Lib.hid o7
      have G7 := Lib.hid gr7
      have HV7 := Lib.hid hv7
      clear o7 gr7 hv7 hne7
      go_wp2_with (refine wpList_entryStore8 rfl (.tmp 25) (.tmp 32) (.tmp 31) rfl r i _ (shaF x.b) _ v7 rfl rfl rfl M7.out HIX.out ?_; intro w8 m8 gr8)
      have HP := Lib.hid (GrpM.put (p := (x, xcs)) HG5.out (Nat.lt_succ_self r) F6.out G6.out O7.out G7.out HV7.out m8 gr8)
      have hbF : Below wz.heap.size wz w8 := by
        have hrz : r = wz.heap.size := HR.out
        have b5 := (HBZ.out.trans (B4.out.mono HBZ.out.size)).trans (B5.out.mono (HBZ.out.trans (B4.out.mono HBZ.out.size)).size)
        have b6 := b5.grown G6.out b5.size (fun k hk => by cases hk; omega)
        have b7 := b6.grown G7.out b6.size (fun k hk => by have := (World.ownsRow.lt O6.out k hk).1; omega)
        exact b7.grown gr8 b7.size (fun k hk => by cases hk; omega)
      clear m8 gr8
      go_roundw
      case rel => exact ⟨k + 1, _, by omega, by go_num, by rw [zip_take lm xm k x xcs HXK.out HCK.out]; exact HP.out, hbF⟩
      case measure => simp [intOf]; omega
    · have hkn : k = nm := by omega
      have hd : decide ((k : Int) < (nm : Int)) = false := by simp; omega
      have HGA : Hid (GrpM wr (r + 1) r kvs (lm.zip xm)) := by
        unfold Hid
        have h := HGM.out
        rwa [List.take_of_length_le (by rw [List.length_zip, HDM.out.1, Nat.min_self, hkn, HNM.out]; exact Nat.le_refl _)] at h
      have r1 := R1Z.out.below HBZ.out R1Z.out.lt
      have c2 : wr.cell? ⟨g1, 2, none⟩ = some (.slice Al nl cl) := r1.cell rfl
      clear hkn HGM hbz hk c1 r1
      rename World => w1
      go_wp2
      go_loopw [10, 11, 12, 37] (fun _ _ _ v wx => ∃ q : Nat, q ≤ nl ∧ v = .int .i64 (q : Int) ∧ (∀ (j : Nat) (y' : Dig), j < q → ll[j]? = some y' → ∀ z ∈ lm, colB z y' = false) ∧ Below w1.heap.size w1 wx) (fun _ _ _ v _ => nl - (intOf v).toNat)
      case atStart => exact ⟨0, Nat.zero_le _, rfl, fun j y h => absurd h (Nat.not_lt_zero _), Below.refl _ _⟩
      case round =>
        obtain ⟨q, hq, rfl, hno, hbw⟩ := hrel
        have HNO := Lib.hid hno
        have HBW := Lib.hid hbw
        clear hno c2 hd hlt
        by_cases hlt : q < nl
        · have hd : decide ((q : Int) < (nl : Int)) = true := by simp; omega
          have hqn : (q : Int) < (nl : Int) := by omega
          obtain ⟨y, hyq⟩ : ∃ y, ll[q]? = some y := ⟨_, List.getElem?_eq_getElem (by rw [← HNL.out]; exact hlt)⟩
          obtain ⟨ycs, hyc, hyis⟩ := HDL.out.2.1 q y hyq
          obtain ⟨gl, cp, hvs, hgs, hrg⟩ := own_elem HDL.out.2.2 HDL.out.lens q ycs hyc (by rw [← HNL.out]; exact hlt)
          have hA : Al = some ⟨gl, 0, none⟩ ∧ cl = cp := by
            have h := HVL.out.symm.trans hvs
            injection h with a b c
            exact ⟨a, c⟩
          obtain ⟨rfl, rfl⟩ := hA
          have HYIS := Lib.hid hyis
          obtain ⟨hyd, hyb, Ay, cy, rfl, hyc1, hyc2, hry⟩ := hyis
          have bzr := HBZ.out.trans (hbw.mono HBZ.out.size)
          have hrgw : wr.rangeAt gl (q * 33) (.slice Ay y.b.length cy :: cells8 y.d) := fun j u hu => (bzr.cell (p := ⟨gl, q * 33 + j, none⟩) hgs).trans (hrg j u hu)
          have hlen : (Value.slice Ay y.b.length cy :: cells8 y.d).length = 33 := by simp [cells8_len, hyd]
          have HMC := Lib.hid (show (Tryd.prog.info? 41).map (·.size) = some (Value.slice Ay y.b.length cy :: cells8 y.d).length by rw [hlen]; kernel_rfl)
          have HZC := Lib.hid (show zDig.length = (Value.slice Ay y.b.length cy :: cells8 y.d).length by rw [hlen]; rfl)
          have HC1 : Hid ((Value.slice Ay y.b.length cy :: cells8 y.d).toArray.all (·.oneCell') = true) := Lib.hid (dig_one _ _ _ _)
          have HI39 := Lib.hid (show (Tryd.prog.info? 39).map (·.size) = some (cells8 y.d).length by rw [cells8_len, hyd]; kernel_rfl)
          have S0 : Hid (Row (wr.alloc (.cells zDig.toArray 41)) wr.heap.size 41 zDig) := Lib.hid (heap_alloc_new _ _)
          have HRG := Lib.hid hrgw
          have HYQ := Lib.hid hyq
          have HYD := Lib.hid hyd
          have HYB := Lib.hid hyb
          have HYC := Lib.hid (And.intro hyc1 hyc2)
          have HRYZ := Lib.hid hry
          have BZR := Lib.hid bzr
          clear hgs hrg hrgw hvs hyq hyc hlen hyd hyb hyc1 hyc2 hry hbw bzr
          go_upto_region 11 with (first
            | (refine wpList_load_mid rfl 41 (.tmp 39) rfl gl (q * 33) rfl (.slice Ay y.b.length cy :: cells8 y.d) _ HRG.out Tryd.underlying41 rfl HMC.out ?_)
            | (refine Row.store (g := wr.heap.size) (t := 41) (L := zDig) (M := (.slice Ay y.b.length cy :: cells8 y.d)) S0.out rfl 41 (.tmp 10) (.tmp 40) rfl rfl rfl HMC.out HZC.out HC1.out ?_; rintro w2 hw2 ra; have b12 : Below wr.heap.size wr w2 := (by rw [hw2]; exact ((Below.refl _ _).alloc (Nat.le_refl _) _).grown (grown_setRow _ _ _) (by simp) (fun k hk => by cases hk; exact Nat.le_refl _)); clear hw2))
          obtain ⟨ga, hga⟩ : ∃ g, g = wr.heap.size := ⟨_, rfl⟩
          rw [← hga] at ra ⊢
          have b2 := BZR.out.trans (b12.mono BZR.out.size)
          have BW2 := Lib.hid (HBW.out.trans (b12.mono HBW.out.size))
          have ca : w2.cell? ⟨ga, 0, none⟩ = some (.slice Ay y.b.length cy) := ra.cell rfl
          have HRY := Lib.hid (HRYZ.out.step b2)
          have RA := Lib.hid ra
          have hneq := fun w => neq_digest w (shaF y.b) y.d (shaF_len _) HYD.out
          obtain ⟨by0, hby⟩ : ∃ b, b = decide (shaF y.b = y.d) := ⟨_, rfl⟩
          rw [← hby] at hneq
          have HBY := Lib.hid hby
          clear hga S0 b12 HRG hd ra hby
          try simp only [Act.put]
          refine wp_region_held_drew (S := (fun w => w.cell? ⟨ga, 0, none⟩ = some (.slice Ay y.b.length cy) ∧ Row w ga 41 (.slice Ay y.b.length cy :: cells8 y.d))) (by kernel_rfl) ⟨ca, RA.out⟩ (fun hHeld => ?_)
          refine take_run 0 (v := ?_) rfl (by kernel_rfl) (by kernel_rfl) (by kernel_rfl) (fun _ _ _ h => h) rfl ?_ hHeld ?_
          rotate_left
          · intro w hSw; (try dsimp only at hSw); go_simp <;> with_reducible rfl
          try simp only [Act.put, List.setIfInBounds_toArray, List.set_cons_zero, List.set_cons_succ]
          refine take_run 1 (v := ?_) rfl (by kernel_rfl) (by kernel_rfl) (by kernel_rfl) (fun _ _ _ h => h) rfl ?_ hHeld ?_
          rotate_left
          · intro w hSw; (try dsimp only at hSw); go_simp <;> with_reducible rfl
          try simp only [Act.put, List.setIfInBounds_toArray, List.set_cons_zero, List.set_cons_succ]
          refine take_run 4 (v := ?_) rfl (by kernel_rfl) (by kernel_rfl) (by kernel_rfl) (fun _ _ _ h => h) rfl ?_ hHeld ?_
          rotate_left
          · intro w hSw; (try dsimp only at hSw); go_simp <;> with_reducible rfl
          try simp only [Act.put, List.setIfInBounds_toArray, List.set_cons_zero, List.set_cons_succ]
          refine take_run 5 (v := (.agg (cells8 y.d).toArray)) rfl (by kernel_rfl) (by kernel_rfl) (by kernel_rfl) (fun _ _ _ h => h) rfl ?_ hHeld ?_
          · intro w hSw; (try dsimp only at hSw); exact exec_load_mid 39 (.tmp 45) rfl ga 1 rfl (cells8 y.d) _ (hSw.2.mid1) Tryd.underlying39 rfl HI39.out
          try simp only [Act.put, List.setIfInBounds_toArray, List.set_cons_zero, List.set_cons_succ]
          refine take_call 2 rfl (by kernel_rfl) rfl (fun K hK => ?_)
          go_simp
          refine hK.out _ _ ⟨keep_cl (below_drewN' ((Below.refl _ _).alloc (Nat.le_refl _) _) 1) ca, RA.out.step (below_drewN' ((Below.refl _ _).alloc (Nat.le_refl _) _) 1)⟩ (fun hHeld => ?_)
          clear hK K
          try simp only [Act.put, List.setIfInBounds_toArray, List.set_cons_zero, List.set_cons_succ]
          refine take_call 3 rfl (by kernel_rfl) rfl (fun K hK => ?_)
          go_simp
          refine (of_any (some ⟨w2.heap.size, 0, none⟩) 1 1 _ [y.b] _ (HG.out.step (below_drewN' (b2.alloc b2.size _) 1)) rfl (Rd.drew (Rd.lit1 (cs := [.slice Ay y.b.length cy]) rfl rfl)) (Parts.cons (HRY.out.step (below_drewN' ((Below.refl _ _).alloc (Nat.le_refl _) _) 1)) HYC.out.1 HYC.out.2 Parts.nil) (by have := HYB.out; simp; omega) (by omega)).mono ?_
          rintro e w3 ⟨rfl, hbx⟩
          rw [show [y.b].flatten = y.b from by simp]
          have y3 : Below w2.heap.size w2 w3 := below_alloc1 (below_of_drew hbx)
          clear hbx
          try dsimp only
          try clear hHeld
          refine hK.out _ _ ⟨keep_cl y3 ca, RA.out.step y3⟩ (fun hHeld => ?_)
          clear hK K
          try simp only [Act.put, List.setIfInBounds_toArray, List.set_cons_zero, List.set_cons_succ]
          refine take_run 6 (v := ?_) rfl (by kernel_rfl) (by kernel_rfl) (by kernel_rfl) (fun _ _ _ h => h) rfl ?_ hHeld ?_
          rotate_left
          · intro w hSw; (try dsimp only at hSw); go_simp <;> with_reducible rfl
          try simp only [Act.put, List.setIfInBounds_toArray, List.set_cons_zero, List.set_cons_succ]
          refine wpAnyH_done (by kernel_rfl) ?_ _
          try clear hHeld
          have b3 := b2.trans (y3.mono b2.size)
          have BW3 := Lib.hid (BW2.out.trans (y3.mono BW2.out.size))
          have RA3 := Lib.hid (RA.out.step y3)
          have hneq0 : True := trivial
          clear hneq ca b2 y3 HRY RA hneq0 BW2
          cases by0 with
          | false =>
            have HF : Hid (∀ z ∈ lm, colB z y = false) := by
              unfold Hid; intro z _; unfold colB; rw [← HBY.out]; rfl
            simp only [Bool.not_false]
            go_wp2
            go_roundw
            case rel => exact ⟨q + 1, by omega, by go_num, fun j y' hj hy => by
              rcases Nat.lt_or_ge j q with h | h
              · exact HNO.out j y' h hy
              · have e : j = q := by omega
                subst e
                have := hy.symm.trans HYQ.out
                cases this; exact HF.out, BW3.out⟩
            case measure => simp [intOf]; omega
          | true =>
            simp only [Bool.not_true]
            have HM3 := Lib.hid (HGA.out.step BW3.out)
            have HO3 := Lib.hid (own_mono (HM3.out.own y.d HYD.out) (Nat.zero_le _))
            go_wp2_with (first
              | (refine wpList_load_mid rfl 39 (.tmp 50) rfl ga 1 rfl (cells8 y.d) _ (RA3.out.mid1) Tryd.underlying39 rfl HI39.out ?_)
              | (refine wpList_lookup8 rfl (.tmp 49) (.tmp 51) rfl r kvs y.d rfl rfl HM3.out.map HM3.out.keys HYD.out ?_)
              | (go_at_call 18; fail))
            have hgl : (grpD (lm.zip xm) y.d).length ≤ lm.length := Nat.le_trans (List.length_filter_le _ _) (by rw [List.length_zip]; exact Nat.min_le_left _ _)
            have hin : ∀ c ∈ (grpD (lm.zip xm) y.d).map (·.2), c ∈ xm := fun c hc => by
              obtain ⟨p, hp, rfl⟩ := List.mem_map.1 hc
              have hp2 : p ∈ lm.zip xm := (List.mem_filter.1 (show p ∈ (lm.zip xm).filter _ from hp)).1
              exact (List.of_mem_zip hp2).2
            have hone : ∀ c ∈ xm, ∀ u ∈ c, u.oneCell' = true := fun c hc => by
              obtain ⟨i, hi⟩ := List.getElem?_of_mem hc
              have hil : i < lm.length := by rw [← HDM.out.1]; exact (List.getElem?_eq_some_iff.1 hi).1
              obtain ⟨cs, h1, h2⟩ := HDM.out.2.1 i lm[i] (List.getElem?_eq_getElem hil)
              rw [hi] at h1; cases h1
              exact h2.one
            refine (firstD ((grpD (lm.zip xm) y.d).map (·.1)) ((grpD (lm.zip xm) y.d).map (·.2)) (fun x => !decide (x.b = y.b)) (valK kvs y.d) ga w3 (by rw [List.length_map]; have := HNM.out; omega) (by rw [List.length_map, List.length_map]) (fun c hc => HDM.out.lens c (hin c hc)) (fun c hc => hone c (hin c hc)) (by rw [List.length_map]; exact HO3.out) (fun i x cs hx hcs w' hb' => by
              obtain ⟨j, hj1, hj2⟩ := grpD_at lm xm y.d i x cs hx hcs
              obtain ⟨cs', h1, h2⟩ := HDM.out.2.1 j x hj1
              rw [hj2] at h1; cases h1
              exact cl19_any x y cs _ ga _ w' ((h2.step b3).step hb') ((HYIS.out.step b3).step hb') (RA3.out.below hb' RA3.out.lt))).mono ?_
            rintro e w4f ⟨hres, hb4⟩
            have y4 : Below w3.heap.size w3 w4f := hb4
            have RA4 := Lib.hid (RA3.out.step y4)
            have b4 := b3.trans (y4.mono b3.size)
            have BW4 := Lib.hid (BW3.out.trans (y4.mono BW3.out.size))
            have S11 : Hid (Row (w4f.alloc (.cells zDig.toArray 41)) w4f.heap.size 41 zDig) := Lib.hid (heap_alloc_new _ _)
            clear hb4 y4 hgl hin hone HO3 RA3 BW3 b3 HM3
            rcases hres with ⟨kk, x, cs, hx, hxc, hp, hno2, rfl⟩ | ⟨hall, rfl⟩
            · have HFF := Lib.hid (first_filter (fun x => decide (shaF x.b = y.d)) (fun x : Dig => !decide (x.b = y.b)) lm kk x (by rw [← grpD_fst lm xm HDM.out.1 y.d]; exact hx) hp (fun j z hj hz => hno2 j z hj (by rw [grpD_fst lm xm HDM.out.1 y.d]; exact hz)))
              obtain ⟨jx, hjx, hjc⟩ := grpD_at lm xm y.d kk x cs hx hxc
              obtain ⟨cs', h1, h2⟩ := HDM.out.2.1 jx x hjx
              have hcs : cs' = cs := by rw [hjc] at h1; cases h1; rfl
              subst hcs
              have HP := Lib.hid hp
              have HCL := Lib.hid h2.len
              have HC1 := Lib.hid (all_oneCell_toArray h2.one)
              obtain ⟨hxd, hxb, Ax, cx, hxcs, hxc1, hxc2, hrx⟩ := h2
              have HXB := Lib.hid hxb
              have HXS := Lib.hid hxcs
              have HRX := Lib.hid (hrx.step b4)
              have HRY4f := Lib.hid (HRYZ.out.step b4)
              have HCS := Lib.hid (show (Tryd.prog.info? 41).map (·.size) = some cs'.length by rw [HCL.out]; kernel_rfl)
              have HZC := Lib.hid (show zDig.length = cs'.length by rw [HCL.out]; rfl)
              clear hx hxc hp hno2 hjx hjc h1 hxd hxb hxcs hxc1 hxc2 hrx b4
              go_upto_region 14 with (refine Row.store (g := w4f.heap.size) (t := 41) (L := zDig) (M := cs') S11.out rfl 41 (.tmp 11) (.tmp 55) rfl rfl rfl HCS.out HZC.out HC1.out ?_; rintro w4 hw4 rb; have b44 : Below w4f.heap.size w4f w4 := (by rw [hw4]; exact ((Below.refl _ _).alloc (Nat.le_refl _) _).grown (grown_setRow _ _ _) (by simp) (fun k hk => by cases hk; exact Nat.le_refl _)); clear hw4)
              obtain ⟨gb, hgb⟩ : ∃ g, g = w4f.heap.size := ⟨_, rfl⟩
              rw [← hgb] at rb ⊢
              have cb4 : w4.cell? ⟨gb, 0, none⟩ = some (.slice Ax x.b.length cx) := rb.cell (by rw [HXS.out]; rfl)
              have ca4 : w4.cell? ⟨ga, 0, none⟩ = some (.slice Ay y.b.length cy) := (RA4.out.step b44).cell rfl
              have HRX4 := Lib.hid (HRX.out.step b44)
              have HRY4 := Lib.hid (HRY4f.out.step b44)
              have BW5 := Lib.hid (BW4.out.trans (b44.mono BW4.out.size))
              clear hgb rb b44 S11
              try simp only [Act.put]
              refine wp_region_held_drew (S := (fun w => w.cell? ⟨gb, 0, none⟩ = some (.slice Ax x.b.length cx) ∧ w.cell? ⟨ga, 0, none⟩ = some (.slice Ay y.b.length cy))) (by kernel_rfl) ⟨cb4, ca4⟩ (fun hHeld => ?_)
              refine take_run 0 (v := ?_) rfl (by kernel_rfl) (by kernel_rfl) (by kernel_rfl) (fun _ _ _ h => h) rfl ?_ hHeld ?_
              rotate_left
              · intro w hSw; (try dsimp only at hSw); go_simp <;> with_reducible rfl
              try simp only [Act.put, List.setIfInBounds_toArray, List.set_cons_zero, List.set_cons_succ]
              refine take_run 1 (v := ?_) rfl (by kernel_rfl) (by kernel_rfl) (by kernel_rfl) (fun _ _ _ h => h) rfl ?_ hHeld ?_
              rotate_left
              · intro w hSw; (try dsimp only at hSw); go_simp <;> with_reducible rfl
              try simp only [Act.put, List.setIfInBounds_toArray, List.set_cons_zero, List.set_cons_succ]
              refine take_run 3 (v := ?_) rfl (by kernel_rfl) (by kernel_rfl) (by kernel_rfl) (fun _ _ _ h => h) rfl ?_ hHeld ?_
              rotate_left
              · intro w hSw; (try dsimp only at hSw); go_simp <;> with_reducible rfl
              try simp only [Act.put, List.setIfInBounds_toArray, List.set_cons_zero, List.set_cons_succ]
              refine take_run 4 (v := ?_) rfl (by kernel_rfl) (by kernel_rfl) (by kernel_rfl) (fun _ _ _ h => h) rfl ?_ hHeld ?_
              rotate_left
              · intro w hSw; (try dsimp only at hSw); go_simp <;> with_reducible rfl
              try simp only [Act.put, List.setIfInBounds_toArray, List.set_cons_zero, List.set_cons_succ]
              refine take_call 2 rfl (by kernel_rfl) rfl (fun K hK => ?_)
              go_simp
              refine (copied_any Ax _ cx x.b _ (Rd.drew HRX4.out) (by have := HXB.out; omega)).mono ?_
              rintro e w5 ⟨A1, c1, rfl, _, _, hr1, hbx⟩
              have y5 : Below w4.heap.size w4 w5 := below_of_drew hbx
              clear hbx
              try dsimp only
              try clear hHeld
              refine hK.out _ _ ⟨keep_cl y5 cb4, keep_cl y5 ca4⟩ (fun hHeld => ?_)
              clear hK K
              try simp only [Act.put, List.setIfInBounds_toArray, List.set_cons_zero, List.set_cons_succ]
              refine take_call 5 rfl (by kernel_rfl) rfl (fun K hK => ?_)
              go_simp
              refine (copied_any Ay _ cy y.b _ (HRY4.out.step y5) (by have := HYB.out; omega)).mono ?_
              rintro e w6 ⟨A2, c2, rfl, _, _, hr2, hbx⟩
              have y6 : Below w5.heap.size w5 w6 := hbx
              clear hbx
              try dsimp only
              try clear hHeld
              refine hK.out _ _ ⟨keep_cl y6 (keep_cl y5 cb4), keep_cl y6 (keep_cl y5 ca4)⟩ (fun hHeld => ?_)
              clear hK K
              try simp only [Act.put, List.setIfInBounds_toArray, List.set_cons_zero, List.set_cons_succ]
              refine take_run 6 (v := ?_) rfl (by kernel_rfl) (by kernel_rfl) (by kernel_rfl) (fun _ _ _ h => h) rfl ?_ hHeld ?_
              rotate_left
              · intro w hSw; (try dsimp only at hSw); go_simp <;> with_reducible rfl
              try simp only [Act.put, List.setIfInBounds_toArray, List.set_cons_zero, List.set_cons_succ]
              refine take_run 7 (v := ?_) rfl (by kernel_rfl) (by kernel_rfl) (by kernel_rfl) (fun _ _ _ h => h) rfl ?_ hHeld ?_
              rotate_left
              · intro w hSw; (try dsimp only at hSw); go_simp <;> with_reducible rfl
              try simp only [Act.put, List.setIfInBounds_toArray, List.set_cons_zero, List.set_cons_succ]
              refine take_run 8 (v := ?_) rfl (by kernel_rfl) (by kernel_rfl) (by kernel_rfl) (fun _ _ _ h => h) rfl ?_ hHeld ?_
              rotate_left
              · intro w hSw; (try dsimp only at hSw); go_simp <;> with_reducible rfl
              try simp only [Act.put, List.setIfInBounds_toArray, List.set_cons_zero, List.set_cons_succ]
              refine wpAnyH_done (by kernel_rfl) ?_ _
              try clear hHeld
              have hr1 := hr1.step y6
              have BWF := Lib.hid (HB.out.trans ((HBZ.out.trans ((BW5.out.trans ((y5.trans (y6.mono y5.size)).mono BW5.out.size)).mono HBZ.out.size)).mono HB.out.size))
              clear ca4 cb4 y5 y6
              obtain ⟨jj, hj1, hj2, hj3⟩ := HFF.out
              have hcol : colB x y = true := by
                unfold colB; rw [← HBY.out]
                have h2 : decide (shaF x.b = y.d) = true := hj2
                rw [h2, HP.out]; rfl
              have hcol2 : ∀ (j : Nat) (z : Dig), j < jj → lm[j]? = some z → colB z y = false := fun j z hj hz => by
                have h := hj3 j z hj hz
                unfold colB; rw [← HBY.out, Bool.true_and, Bool.and_comm]; exact h
              have HC := Lib.hid (And.intro hcol hcol2)
              have HJ1 := Lib.hid hj1
              clear hcol hcol2 hj1 hj2 hj3 HFF
              go_wp2
              refine bodyPost_ret (v := .tuple #[.slice A1 x.b.length c1, .slice A2 y.b.length c2, .bool true]) (by simp [results, Tryd.results8]) rfl ⟨.inl ⟨q, jj, y, x, A1, A2, c1, c2, HYQ.out, HJ1.out, HC.out.1, HC.out.2, HNO.out, rfl, hr1, hr2⟩, BWF.out⟩
            · have HF : Hid (∀ z ∈ lm, colB z y = false) := by
                unfold Hid; intro z hz
                unfold colB; rw [← HBY.out, Bool.true_and]
                by_cases e : shaF z.b = y.d
                · have hm : z ∈ (grpD (lm.zip xm) y.d).map (·.1) := by
                    rw [grpD_fst lm xm HDM.out.1 y.d]
                    exact List.mem_filter.2 ⟨hz, by simp [e]⟩
                  have h3 : (!decide (z.b = y.b)) = false := hall z hm
                  rw [h3]; rfl
                · simp [e]
              have HIZ := Lib.hid (show (Tryd.prog.info? 41).map (·.size) = some zDig.length by kernel_rfl)
              clear hall b4 RA4
              go_wp2_with (refine Row.store (g := w4f.heap.size) (t := 41) (L := zDig) (M := zDig) S11.out rfl 41 (.tmp 11) (.tmp 55) rfl rfl rfl HIZ.out rfl (all_oneCell_toArray zDig_one) ?_; rintro w4 hw4 rb; have b44 : Below w4f.heap.size w4f w4 := (by rw [hw4]; exact ((Below.refl _ _).alloc (Nat.le_refl _) _).grown (grown_setRow _ _ _) (by simp) (fun k hk => by cases hk; exact Nat.le_refl _)); clear hw4)
              have BW5 := Lib.hid (BW4.out.trans (b44.mono BW4.out.size))
              clear rb b44
              go_roundw
              case rel => exact ⟨q + 1, by omega, by go_num, fun j y' hj hy => by
                rcases Nat.lt_or_ge j q with h | h
                · exact HNO.out j y' h hy
                · have e : j = q := by omega
                  subst e
                  have := hy.symm.trans HYQ.out
                  cases this; exact HF.out, BW5.out⟩
              case measure => simp [intOf]; omega
        · have hqn : q = nl := by omega
          have hd : decide ((q : Int) < (nl : Int)) = false := by simp; omega
          have HQN := Lib.hid hqn
          have BWF := Lib.hid (HB.out.trans ((HBZ.out.trans (hbw.mono HBZ.out.size)).mono HB.out.size))
          clear hqn hbw
          go_wp2
          refine bodyPost_ret (v := .tuple #[.slice none 0 0, .slice none 0 0, .bool false]) (by simp [results, Tryd.results8]) rfl ⟨.inr ⟨fun y hy => by
            obtain ⟨j, hj⟩ := List.getElem?_of_mem hy
            exact HNO.out j y (by rw [HQN.out, HNL.out]; exact (List.getElem?_eq_some_iff.1 hj).1) hj, rfl⟩, BWF.out⟩
end Go.Proofs.YtpobkoiaidgedaaDoor
