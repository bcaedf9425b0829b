/- The law's bytes with a digest. -/
import Derived.Test.YtpobkoiaidgedaaDoorSiL
namespace Go.Proofs.YtpobkoiaidgedaaDoor
open Go.RowKit

def digF (b : List B8) (bad : Bool) : Dig := ⟨b.take 40, shaF (if bad then b.take 40 ++ [0#8] else b.take 40)⟩
theorem Rd.take8 {w : World} {B n : Nat} {A : Option Addr} {l : List B8} (h : Rd w B 1 A n (cells8 l)) (k : Nat) (hk : k ≤ n) : Rd w B 1 A k (cells8 (l.take k)) := by
  have hl := h.len8
  refine ⟨by rw [cells8_len, List.length_take]; omega, fun h0 => ?_⟩
  obtain ⟨ad, e, hb, hc⟩ := h.2 (by omega)
  refine ⟨ad, e, hb, ?_⟩
  have h2 := hc.take k
  rw [cells8, List.map_take]
  exact h2
theorem build_dig32 (A : Option Addr) (n c : Nat) (a0 a1 a2 a3 a4 a5 a6 a7 a8 a9 a10 a11 a12 a13 a14 a15 a16 a17 a18 a19 a20 a21 a22 a23 a24 a25 a26 a27 a28 a29 a30 a31 : B8) : Tryd.prog.built 41 [(0, .slice A n c), (1, .agg (cells8 [a0, a1, a2, a3, a4, a5, a6, a7, a8, a9, a10, a11, a12, a13, a14, a15, a16, a17, a18, a19, a20, a21, a22, a23, a24, a25, a26, a27, a28, a29, a30, a31]).toArray)] = some (Value.slice A n c :: cells8 [a0, a1, a2, a3, a4, a5, a6, a7, a8, a9, a10, a11, a12, a13, a14, a15, a16, a17, a18, a19, a20, a21, a22, a23, a24, a25, a26, a27, a28, a29, a30, a31]).toArray := by
  kernel_rfl
theorem build_dig (s : Value) (hs : ∃ A n c, s = .slice A n c) (d : List B8) (hd : d.length = 32) : Tryd.prog.built 41 [(0, s), (1, .agg (cells8 d).toArray)] = some (s :: cells8 d).toArray := by
  obtain ⟨A, n, c, rfl⟩ := hs
  match d, hd with
  | [a0, a1, a2, a3, a4, a5, a6, a7, a8, a9, a10, a11, a12, a13, a14, a15, a16, a17, a18, a19, a20, a21, a22, a23, a24, a25, a26, a27, a28, a29, a30, a31], _ => exact build_dig32 A n c a0 a1 a2 a3 a4 a5 a6 a7 a8 a9 a10 a11 a12 a13 a14 a15 a16 a17 a18 a19 a20 a21 a22 a23 a24 a25 a26 a27 a28 a29 a30 a31

/-- A value put together is this one, its parts named. -/
theorem wpList_build_as {P : Program} {ops : Array Oper} {rest : List Oper} {o : Oper} {a : Act} {w : World} {Q : Exit → Act → World → Prop} (hg : o.guard = none) (t : TypeId) (parts : Array (Nat × Operand)) (ho : o.op = .build t parts)
    (ps : List (Nat × Value)) (cells : Array Value) (hf : P.built t ps = some cells) (hp : (parts.map fun (i, x) => (i, a.eval x)).toList = ps)
    (h : wpList P ops Q rest (a.put o.dst (.agg cells)) w) : wpList P ops Q (o :: rest) a w :=
  wpList_build_is hg t parts ho cells (by rw [hp]; exact hf) h

/-- The cells of bytes of the call's own with a digest. -/
def DigO (w : World) (B : Nat) (x : Dig) (cs : List Value) : Prop :=
  x.d.length = 32 ∧ x.b.length ≤ 1000 ∧ ∃ v, cs = v :: cells8 x.d ∧ Own8 w B v x.b
theorem DigO.is {w : World} {B : Nat} {x : Dig} {cs : List Value} (h : DigO w B x cs) : DigIs w w.heap.size x cs := by
  obtain ⟨h1, h2, v, rfl, o⟩ := h
  obtain ⟨A', c', rfl, h3, h4, h5⟩ := o.slice
  exact ⟨h1, h2, _, _, rfl, h3, h4, h5⟩
theorem DigO.below {w w' : World} {B C : Nat} {x : Dig} {cs : List Value} (h : DigO w B x cs) (hb : Below C w w') (hC : w.heap.size ≤ C) : DigO w' B x cs := by
  obtain ⟨h1, h2, v, h3, o⟩ := h
  exact ⟨h1, h2, v, h3, o.below hb hC⟩
theorem DigO.mono {w : World} {B B' : Nat} {x : Dig} {cs : List Value} (h : DigO w B x cs) (hB : B' ≤ B) : DigO w B' x cs := by
  obtain ⟨h1, h2, v, h3, o⟩ := h
  exact ⟨h1, h2, v, h3, o.mono hB⟩
theorem own8_set {w : World} {B g : Nat} {v : Value} {l : List B8} (o : Own8 w B v l) (hg : g < B) (M : Array Value) : Own8 (w.setRow g M) B v l := by
  refine World.ownsRow.kept o (grown_setRow w g M) ?_
  rcases h : v.ownBlock with _ | k
  · exact .inl rfl
  · refine .inr (fun e => ?_)
    have := (World.ownsRow.lt o k h).1
    cases e; omega
theorem dig_one (A : Option Addr) (n c : Nat) (d : List B8) : (Value.slice A n c :: cells8 d).toArray.all (·.oneCell') = true := by
  refine all_oneCell_toArray ?_
  intro v hv
  rcases List.mem_cons.1 hv with rfl | hv
  · rfl
  · exact cells8_ones d v hv
theorem slice8_to (A : Option Addr) (n cd h : Nat) (hh : h ≤ cd) (w : World) : (Instr.sliceAt 34 (.slice A n cd) none (some (.int .i64 (h : Int))) none).run Tryd.prog w = .ok (.slice A h cd) w := by
  have hs : (sizeOf 5).run Tryd.prog w = .ok 1 w := by kernel_rfl
  have hu : Tryd.prog.underlying 34 = some (.slice (Tryd.prog.elem 34)) := by kernel_rfl
  have he : Tryd.prog.elem 34 = 5 := by kernel_rfl
  have h1 := run_slice_h (P := Tryd.prog) w 34 A n cd hu .i64 h (by omega) (by omega)
  rw [run_sliceAt_slice _ _ _ _ _ _ hu, h1, he, hs]
  have hm : Option.map (fun x : Addr => x.add (0 * 1)) A = A := by cases A <;> simp [Addr.add]
  simp [sliced]
  intro _
  simpa using hm

set_option maxRecDepth 100000 in
set_option maxHeartbeats 2000000 in
theorem dOf_any (A : Option Addr) (n c : Nat) (b : List B8) (bad : Bool) (w : World) (hr : Rd w w.heap.size 1 A n (cells8 b)) (hc : n ≤ c) (hcm : c ≤ maxLen) :
    Calls Tryd.prog 14 #[.agg #[.slice A n c, .bool bad]] w fun e w' => ∃ cs, e = .returned (.agg cs.toArray) ∧ DigO w' w.heap.size (digF b bad) cs ∧ Below w.heap.size w w' := by
  obtain rfl : n = b.length := hr.len8
  have HR := Lib.hid hr
  have HC := Lib.hid hc
  obtain ⟨n, hn⟩ : ∃ n, n = b.length := ⟨_, rfl⟩
  rw [← hn]
  have hn63 : (n : Int) ≤ 9223372036854775807 := by unfold maxLen at hcm; omega
  obtain ⟨p, hp⟩ : ∃ p, p = Nat.min 40 n := ⟨_, rfl⟩
  have hp40 : p ≤ 40 := by rw [hp]; exact Nat.min_le_left _ _
  have hpn : p ≤ n := by rw [hp]; exact Nat.min_le_right _ _
  have hpc : (p : Int) ≤ (c : Int) := by omega
  have hmin : min (40 : Int) (n : Int) = (p : Int) := by
    rw [hp]; show min (40 : Int) (n : Int) = ((min 40 n : Nat) : Int); omega
  have HPP := Lib.hid hp
  have HN := Lib.hid hn
  have HPN := Lib.hid hpn
  have HP40 := Lib.hid hp40
  have hsl := fun w => slice8_to A n c p (by omega) w
  clear hr hc hcm hp hn hpn hp40 hpc
  go_enter Tryd.func14, Tryd.ntmps14
  have hba : Below w.heap.size w ((w.alloc (.cells #[.slice A n c, .bool bad] 63)).alloc (.cells zDig.toArray 41)) := below_alloc2 (Below.refl _ _)
  have htk : Hid (b.take 40 = b.take p) := by
    unfold Hid; rw [HPP.out, HN.out]
    show b.take 40 = b.take (min 40 b.length)
    rcases Nat.le_total 40 b.length with h | h
    · rw [Nat.min_eq_left h]
    · rw [Nat.min_eq_right h, List.take_of_length_le h, List.take_length]
  have HRP := Lib.hid ((HR.out.take8 p (by have := HPN.out; have := HN.out; omega)).below hba (Nat.le_refl _))
  have HPL : Hid ((b.take p).length = p) := by unfold Hid; rw [List.length_take, ← HN.out]; have := HPN.out; omega
  go_wp2_with (at_builtin; refine wpList_app8 rfl (.tmp 4) (.tmp 11) rfl (w.heap.size + 2) _ [] rfl Own8.nil w.heap.size _ _ _ (b.take p) rfl HRP.out ?r2 ?r3 ?_)
  case r2 => rw [HPL.out]; have := HP40.out; simp; omega
  case r3 => simp
  intro v1 w1 o1 gr1
  obtain ⟨wz, hwz⟩ : ∃ wz, wz = ((w.alloc (.cells #[.slice A n c, .bool bad] 63)).alloc (.cells zDig.toArray 41)) := ⟨_, rfl⟩
  have hsz : wz.heap.size = w.heap.size + 2 := by rw [hwz]; simp
  have r1z : Row wz w.heap.size 63 [.slice A n c, .bool bad] := by
    rw [hwz, Row, ((Below.refl _ _).alloc (Nat.le_refl _) _).block w.heap.size (by simp)]; exact heap_alloc_new _ _
  have r2z : Row wz (w.heap.size + 1) 41 zDig := by rw [hwz]; exact heap_new_at (by simp)
  have bz1 : Below (w.heap.size + 2) wz w1 := (Own8.nil (w := wz)).belowG (Below.refl _ _) (by rw [hwz]; exact gr1) (Nat.le_refl _) (by omega)
  rw [← hwz] at hba
  have b1 : Below w.heap.size w w1 := hba.trans (bz1.mono (by omega))
  have r2 := r2z.below bz1 (by omega)
  have cb : w1.cell? ⟨w.heap.size, 1, none⟩ = some (.bool bad) := (r1z.below bz1 (by omega)).cell rfl
  have o1' : Own8 w1 (w.heap.size + 2) v1 (b.take p) := o1
  obtain ⟨A1, c1, rfl, hc1, hc1m, hr1⟩ := o1'.slice
  rw [HPL.out] at hc1 hr1 ⊢
  have HO1 := Lib.hid o1'
  have HR1 := Lib.hid hr1
  have HC1 := Lib.hid (And.intro hc1 hc1m)
  clear o1 o1' gr1 hwz r1z r2z HRP hba hc1 hc1m hr1 bz1 hsl hmin hsz
  cases bad with
  | false =>
    go_wp2_with (fail)
    refine (refSum_any A1 p c1 (b.take p) _ HR1.out (by rw [HPL.out]; have := HP40.out; omega)).mono ?_
    rintro e w2 ⟨rfl, hb2⟩
    have hd32 : (shaF (b.take p)).length = 32 := shaF_len _
    have HPB := Lib.hid (build_dig (.slice A1 p c1) ⟨_, _, _, rfl⟩ (shaF (b.take p)) hd32)
    have r22 := r2.step hb2
    have cs33 : (Value.slice A1 p c1 :: cells8 (shaF (b.take p))).length = 33 := by rw [List.length_cons, cells8_len, hd32]
    have HI := Lib.hid (show (Tryd.prog.info? 41).map (·.size) = some (Value.slice A1 p c1 :: cells8 (shaF (b.take p))).length by rw [cs33]; kernel_rfl)
    have HZ := Lib.hid (show zDig.length = (Value.slice A1 p c1 :: cells8 (shaF (b.take p))).length by rw [cs33]; rfl)
    have H1 := Lib.hid (show (Value.slice A1 p c1 :: cells8 (shaF (b.take p))).toArray.all (·.oneCell') = true from dig_one _ _ _ _)
    go_wp2_with (first
      | (refine wpList_build_as rfl _ _ rfl _ _ HPB.out (by kernel_rfl) ?_)
      | (refine r22.store rfl _ _ _ rfl rfl rfl HI.out HZ.out H1.out ?_; intro w3 hw3 s3))
    have o3 := own8_set (HO1.out.below hb2 (Nat.le_refl _)) (g := w.heap.size + 1) (by omega) (Value.slice A1 p c1 :: cells8 (shaF (b.take p))).toArray
    rw [← hw3] at o3
    have hb3 : Below w.heap.size w w3 := by
      rw [hw3]; exact (b1.trans (hb2.mono b1.size)).grown (grown_setRow _ _ _) (b1.trans (hb2.mono b1.size)).size (fun k hk => by cases hk; omega)
    refine bodyPost_ret (v := .agg (Value.slice A1 p c1 :: cells8 (shaF (b.take p))).toArray) (results_cell_row Tryd.results14 _ w3 (w.heap.size + 1) 41 _ (0, 0) _ rfl s3 Tryd.underlying41 rfl (by rw [List.size_toArray]; exact HI.out)) rfl ⟨_, rfl, ?_, hb3⟩
    have hdd : digF b false = ⟨b.take p, shaF (b.take p)⟩ := by unfold digF; rw [htk.out]; rfl
    rw [hdd]
    exact ⟨hd32, (by show (b.take p).length ≤ 1000; rw [HPL.out]; have := HP40.out; omega), _, rfl, Own8.mono (L := b.take p) (base := w.heap.size + 2) (by have h := o3; rwa [HPL.out] at h) (Nat.le_add_right _ _)⟩
  | true =>
    go_wp2_with (at_builtin; refine wpList_app8 rfl _ (.tmp 16) rfl w1.heap.size (.slice none 0 0) [] rfl Own8.nil w1.heap.size _ _ _ (b.take p) rfl HR1.out ?s2 ?s3 ?_)
    case s2 => rw [HPL.out]; have := HP40.out; simp; omega
    case s3 => simp
    intro v2 w2 o2 gr2
    have bz2 : Below w1.heap.size w1 w2 := (Own8.nil (w := w1)).belowG (Below.refl _ _) gr2 (Nat.le_refl _) (Nat.le_refl _)
    have o2' : Own8 w2 w1.heap.size v2 (b.take p) := o2
    have HO2 := Lib.hid o2'
    clear o2 o2' gr2
    have HL := Lib.hid (lit8 (w := w2) (t := 5) 0#8 0 rfl)
    have hba := (Below.refl w2.heap.size w2).alloc (Nat.le_refl _) (.cells #[.int .u8 0] 5)
    go_wp2_with (at_builtin; refine wpList_app8 rfl (.tmp 17) (.tmp 18) rfl w1.heap.size _ (b.take p) rfl ?d1 _ _ _ _ [0#8] rfl HL.out ?d2 ?d3 ?_)
    case d1 => exact HO2.out.below hba (Nat.le_refl _)
    case d2 => rw [HPL.out]; have := HP40.out; simp; omega
    case d3 => exact Nat.le_trans bz2.size hba.size
    intro v3 w3 o3 gr3
    have bz3 : Below w1.heap.size w1 w3 := (HO2.out.below hba (Nat.le_refl _)).belowG (bz2.trans (hba.mono bz2.size)) gr3 (Nat.le_refl _) (Nat.le_trans bz2.size hba.size)
    obtain ⟨A3, c3, rfl, hc3, hc3m, hr3⟩ := o3.slice
    have hl3 : (b.take p ++ [0#8]).length = p + 1 := by rw [List.length_append, HPL.out]; rfl
    rw [hl3] at hr3 ⊢
    have HR3 := Lib.hid hr3
    have HO3 := Lib.hid (HO1.out.below bz3 (Nat.le_refl _))
    have b3 := b1.trans (bz3.mono b1.size)
    have r23 := r2.step bz3
    clear hc3 hc3m hr3 o3 gr3 hba HL bz2 bz3 HO2 HO1 HR1 b1 r2 cb
    go_wp2_with (fail)
    refine (refSum_any A3 (p + 1) c3 (b.take p ++ [0#8]) _ HR3.out (by rw [hl3]; have := HP40.out; omega)).mono ?_
    rintro e w4 ⟨rfl, hb4⟩
    have hd32 : (shaF (b.take p ++ [0#8])).length = 32 := shaF_len _
    have HPB := Lib.hid (build_dig (.slice A1 p c1) ⟨_, _, _, rfl⟩ (shaF (b.take p ++ [0#8])) hd32)
    have r22 := r23.step hb4
    have cs33 : (Value.slice A1 p c1 :: cells8 (shaF (b.take p ++ [0#8]))).length = 33 := by rw [List.length_cons, cells8_len, hd32]
    have HI := Lib.hid (show (Tryd.prog.info? 41).map (·.size) = some (Value.slice A1 p c1 :: cells8 (shaF (b.take p ++ [0#8]))).length by rw [cs33]; kernel_rfl)
    have HZ := Lib.hid (show zDig.length = (Value.slice A1 p c1 :: cells8 (shaF (b.take p ++ [0#8]))).length by rw [cs33]; rfl)
    have H1 := Lib.hid (show (Value.slice A1 p c1 :: cells8 (shaF (b.take p ++ [0#8]))).toArray.all (·.oneCell') = true from dig_one _ _ _ _)
    go_wp2_with (first
      | (refine wpList_build_as rfl _ _ rfl _ _ HPB.out (by kernel_rfl) ?_)
      | (refine r22.store rfl _ _ _ rfl rfl rfl HI.out HZ.out H1.out ?_; intro w5 hw5 s5))
    have o5 := own8_set (HO3.out.below hb4 (Nat.le_refl _)) (g := w.heap.size + 1) (by omega) (Value.slice A1 p c1 :: cells8 (shaF (b.take p ++ [0#8]))).toArray
    rw [← hw5] at o5
    have hb5 : Below w.heap.size w w5 := by
      rw [hw5]; exact (b3.trans (hb4.mono b3.size)).grown (grown_setRow _ _ _) (b3.trans (hb4.mono b3.size)).size (fun k hk => by cases hk; omega)
    refine bodyPost_ret (v := .agg (Value.slice A1 p c1 :: cells8 (shaF (b.take p ++ [0#8]))).toArray) (results_cell_row Tryd.results14 _ w5 (w.heap.size + 1) 41 _ (0, 0) _ rfl s5 Tryd.underlying41 rfl (by rw [List.size_toArray]; exact HI.out)) rfl ⟨_, rfl, ?_, hb5⟩
    have hdd : digF b true = ⟨b.take p, shaF (b.take p ++ [0#8])⟩ := by unfold digF; rw [htk.out]; rfl
    rw [hdd]
    exact ⟨hd32, (by show (b.take p).length ≤ 1000; rw [HPL.out]; have := HP40.out; omega), _, rfl, Own8.mono (L := b.take p) (base := w.heap.size + 2) (by have h := o5; rwa [HPL.out] at h) (Nat.le_add_right _ _)⟩
end Go.Proofs.YtpobkoiaidgedaaDoor
