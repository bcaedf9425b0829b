/- The reference's digest. -/
import Derived.Test.YtmciknpgbbjomaaGreatDoorShN
namespace Go.Proofs.YtmciknpgbbjomaaGreatDoor
open Go.RowKit

def nilLen : Value → Nat
  | .slice _ n _ => n
  | _ => 0
/-- After i whole words and j bytes of the next one. -/
def outJ (l : List W) (i j : Nat) : List B8 := splice (outL l i) (4 * i) ((beB (l.getD i 0).toNat 4).take j)

theorem outJ_zero (l : List W) (i : Nat) : outJ l i 0 = outL l i := by simp [outJ, splice]
theorem outJ_all (l : List W) (i : Nat) (hl : l.length = 8) (hi : i < 8) : outJ l i 4 = outL l (i + 1) := by
  rw [outJ, List.take_of_length_le (by rw [beB_len]; exact Nat.le_refl _), outL_step l i hl hi]
theorem splice_succ {α : Type} (L q : List α) (o j : Nat) (b : α) (hb : q[j]? = some b) (ho : o + q.length ≤ L.length) : (splice L o (q.take j)).set (o + j) b = splice L o (q.take (j + 1)) := by
  obtain ⟨hj, hb⟩ := List.getElem?_eq_some_iff.1 hb
  have h1 : (q.take j).length = j := by rw [List.length_take]; omega
  have h2 : (q.take (j + 1)).length = j + 1 := by rw [List.length_take]; omega
  have h3 : (L.take o ++ q.take j).length = o + j := by rw [List.length_append, List.length_take, h1]; omega
  unfold splice
  rw [h1, h2, ← List.append_assoc, List.set_append_right _ _ (by omega), h3, Nat.sub_self, List.drop_eq_getElem_cons (show o + j < L.length by omega), List.set_cons_zero, List.take_succ_eq_append_getElem hj, hb]
  simp [Nat.add_assoc]
theorem outJ_set (l : List W) (i j : Nat) (hl : l.length = 8) (hi : i < 8) (b : B8) (hb : (beB (l.getD i 0).toNat 4)[j]? = some b) : (cells8 (outJ l i j)).set (4 * i + j) (.int .u8 (bv b)) = cells8 (outJ l i (j + 1)) := by
  have h := splice_succ (outL l i) (beB (l.getD i 0).toNat 4) (4 * i) j b hb (by rw [outL_len _ _ hl (by omega), beB_len]; omega)
  rw [outJ, outJ, ← h, cells8, cells8, List.map_set]
theorem rep_snoc2 (L : List B8) (j : Nat) : L ++ 0x80#8 :: (List.replicate j 0#8 ++ [0#8]) = L ++ 0x80#8 :: List.replicate (j + 1) 0#8 := by
  rw [List.replicate_succ']

theorem slice8_run (ad : Addr) (n cd l h : Nat) (hl : l < h) (hh : h ≤ cd) (w : World) : (Instr.sliceAt 22 (.slice (some ad) n cd) (some (.int .i64 (l : Int))) (some (.int .i64 (h : Int))) none).run Tryz.prog w = .ok (.slice (some (ad.add l)) (h - l) (cd - l)) w := by
  have hs : (sizeOf 5).run Tryz.prog w = .ok 1 w := by kernel_rfl
  have hu : Tryz.prog.underlying 22 = some (.slice (Tryz.prog.elem 22)) := by kernel_rfl
  have he : Tryz.prog.elem 22 = 5 := by kernel_rfl
  have h1 := run_slice_lh (P := Tryz.prog) w 22 (some ad) n cd hu .i64 .i64 l h (by omega) (by omega) (by omega)
  rw [run_sliceAt_slice _ _ _ _ _ _ hu, h1, he, hs]
  simp [sliced, show ¬ cd = l by omega]

set_option maxRecDepth 100000 in
set_option maxHeartbeats 2000000 in
theorem refSum_any (A : Option Addr) (n c : Nat) (L : List B8) (w : World) (hr : Rd w w.heap.size 1 A n (cells8 L)) (hm : L.length < 900000000) :
    Calls Tryz.prog 54 #[.slice A n c] w fun e w' => e = .returned (.agg (cells8 (shaF L)).toArray) ∧ Below w.heap.size w w' := by
  obtain rfl : n = L.length := hr.len8
  have HM := Lib.hid hm
  have HR := Lib.hid hr
  clear hm hr
  go_enter Tryz.func54, Tryz.ntmps54
  go_upto_region 1 with (fail)
  change Code.wp _ _ _ _ (w.alloc (.cells (cells8 (List.replicate 32 0)).toArray 49))
  obtain ⟨wz, hwz⟩ : ∃ wz, wz = (w.alloc (.cells (cells8 (List.replicate 32 0)).toArray 49)) := ⟨_, rfl⟩
  obtain ⟨g2, h2⟩ : ∃ g, g = w.heap.size := ⟨_, rfl⟩
  have hb : Below w.heap.size w wz := by rw [hwz]; exact (Below.refl _ _).alloc (Nat.le_refl _) _
  have r2 : Row wz g2 49 (cells8 (List.replicate 32 0)) := by rw [hwz, h2]; exact heap_alloc_new _ _
  have hg2 : w.heap.size ≤ g2 := by omega
  have hwg : wz.heap.size = w.heap.size + 1 := by rw [hwz]; simp
  rw [← hwz, ← h2]
  clear hwz
  obtain ⟨B, hB⟩ : ∃ B, B = wz.heap.size := ⟨_, rfl⟩
  have hgB : g2 < B := by omega
  have hwB : w.heap.size ≤ B := by omega
  have HB := Lib.hid hB
  clear hB h2 hwg
  go_wp2_with (at_builtin; refine wpList_app8 rfl (.tmp 11) (.tmp 12) rfl B _ [] rfl ?c1 _ _ _ _ L rfl (HR.out.below (hb.alloc (by rw [← HB.out]; exact hwB) _) (Nat.le_refl _)) ?c2 ?c3 ?_)
  case c1 => exact Own8.lit [] rfl (by rw [HB.out]; exact Nat.le_refl _) (by decide)
  case c2 => have := HM.out; simp; omega
  case c3 => rw [HB.out]; simp
  intro v1 w1 o1 gr1
  have b1 : Below B wz w1 := (Own8.lit (w := wz) (base := B) [] rfl (by rw [HB.out]; exact Nat.le_refl _) (by decide)).belowG ((Below.refl B wz).alloc (by rw [← HB.out]; exact Nat.le_refl _) _) gr1 (Nat.le_refl _) (by rw [HB.out]; simp)
  have hs1 : B ≤ w1.heap.size := by have := b1.size; have := HB.out; omega
  clear gr1
  have HL := Lib.hid (lit8 (w := w1) (t := 5) 0x80#8 128 rfl)
  have hba := (Below.refl w1.heap.size w1).alloc (Nat.le_refl _) (.cells #[.int .u8 128] 5)
  go_wp2_with (at_builtin; refine wpList_app8 rfl (.tmp 13) (.tmp 14) rfl B _ L rfl ?d1 _ _ _ _ [0x80#8] rfl HL.out ?d2 ?d3 ?_)
  case d1 => exact o1.below hba (Nat.le_refl _)
  case d2 => have := HM.out; simp; omega
  case d3 => exact Nat.le_trans hs1 hba.size
  intro v2 w2 o2 gr2
  have b2 : Below B wz w2 := (o1.below hba (Nat.le_refl _)).belowG (b1.trans (hba.mono hs1)) gr2 (Nat.le_refl _) (Nat.le_trans hs1 hba.size)
  have hs2 : B ≤ w2.heap.size := by have := b2.size; have := HB.out; omega
  have O2 := Lib.hid o2
  clear gr2 b1 hba HL o1 o2
  go_wp2
  go_loopw [3] (fun v wr => ∃ (j : Nat), j ≤ zpad L.length ∧ Own8 wr B v (L ++ 0x80#8 :: List.replicate j 0#8) ∧ Below B wz wr) (fun v _ => L.length + 1 + zpad L.length - nilLen v)
  case atStart => exact ⟨0, Nat.zero_le _, O2.out, b2⟩
  case round =>
    clear b2 O2 hs2
    obtain ⟨j, hj, ho, hbr⟩ := hrel
    have hsr : B ≤ wr.heap.size := by have := hbr.size; have := HB.out; omega
    obtain ⟨Ar, cr, rfl, hcr, hcm, hrr⟩ := ho.slice
    have hlj : (L ++ 0x80#8 :: List.replicate j 0#8).length = L.length + 1 + j := by simp; omega
    obtain ⟨m, hm⟩ : ∃ m, m = L.length + 1 + j := ⟨_, rfl⟩
    obtain ⟨a, ha⟩ : ∃ a, a = m % 64 := ⟨_, rfl⟩
    have hma : (m : Int) % 64 = (a : Int) := by omega
    rw [hlj, ← hm] at hcr hrr
    have HMJ := Lib.hid hm
    have HA := Lib.hid ha
    have HLJ := Lib.hid hlj
    have HJ := Lib.hid hj
    have HO : Hid (Own8 wr B (.slice Ar m cr) (L ++ 0x80#8 :: List.replicate j 0#8)) := by unfold Hid; rw [hm, ← hlj]; exact ho
    have HC := Lib.hid hcr
    have HCM := Lib.hid hcm
    have HRR := Lib.hid hrr
    rw [hlj, ← hm]
    clear hm ha hlj hj ho hcr hcm hrr
    by_cases h56 : a = 56
    · subst h56
      rw [show ((56 : Nat) : Int) = 56 from rfl] at hma
      obtain ⟨wq, hwq⟩ : ∃ wq, wq = wr := ⟨_, rfl⟩
      rw [← hwq] at HO HRR hbr hsr ⊢
      clear hwq
      have hjz : j = zpad L.length := by have := HMJ.out; have := HA.out; have h1 := HJ.out; unfold zpad at h1 ⊢; omega
      subst hjz
      obtain ⟨m8, hm8⟩ : ∃ m, m = 8 * L.length := ⟨_, rfl⟩
      have hm0 : (L.length : Int) < 900000000 := by have := HM.out; omega
      have hw8 : 8 * (L.length : Int) = (m8 : Int) := by omega
      have HM8 := Lib.hid hm8
      have hmi : 0 ≤ (m : Int) := by omega
      clear hm8
      go_wp2_with fail
      clear hm0 hw8
      with_reducible refine (putR64_any m8 (by have := HM.out; have := HM8.out; omega) _).mono ?_
      rintro e w1 ⟨gp, rfl, hrp, hgp, hb1⟩
      have o1 := HO.out.below hb1 (Nat.le_refl _)
      have b1 := hbr.trans (hb1.mono hsr)
      have hs1 : B ≤ w1.heap.size := Nat.le_trans hsr hb1.size
      have hrp2 := Lib.hid hrp.rdAll
      clear hbr hb1 hgp hrp
      go_wp2_with (at_builtin; refine wpList_app8 rfl (.tmp 23) (.tmp 28) rfl B _ _ rfl o1 _ _ _ _ (beB m8 8) rfl hrp2.out ?d2 ?d3 ?_)
      case d2 => have := HM.out; have := HLJ.out; have := HJ.out; have := zpad_lt L.length; rw [HLJ.out, beB_len]; omega
      case d3 => exact hs1
      intro v2 w2 o2 gr2
      have b2 : Below B wz w2 := o1.belowG b1 gr2 (Nat.le_refl _) hs1
      have hs2 : B ≤ w2.heap.size := by have := b2.size; have := HB.out; omega
      have e2 : L ++ 0x80#8 :: List.replicate (zpad L.length) 0#8 ++ beB m8 8 = L ++ padB L.length := by
        rw [padB_eq _ (by have := HM.out; omega), ← HM8.out, List.append_assoc]; rfl
      have o2' : Own8 w2 B v2 (L ++ padB L.length) := by rw [← e2]; first | exact o2 | simpa using o2
      obtain ⟨D, hD⟩ : ∃ D, D = L ++ padB L.length := ⟨_, rfl⟩
      rw [← hD] at o2'
      have hsh : Hid (shaF L = bytes4 (blocksW iv0 (D.length / 64) D).list) := by unfold Hid; rw [shaF_eq, hD]
      have hD64 : Hid (D.length % 64 = 0) := by
        unfold Hid; rw [hD, padB_eq _ (by have := HM.out; omega)]
        simp only [List.length_append, List.length_cons, List.length_replicate, beB_len]; unfold zpad; omega
      have hDl : Hid (D.length < 900000200) := by
        unfold Hid; rw [hD, padB_eq _ (by have := HM.out; omega)]; have := HM.out; have := zpad_lt L.length
        simp only [List.length_append, List.length_cons, List.length_replicate, beB_len]; omega
      obtain ⟨Ad, cd, rfl, hcd, hcdm, hrd⟩ := o2'.slice
      have r22 : Row w2 g2 49 (cells8 (List.replicate 32 0)) := r2.below b2 hgB
      have bb2 := hb.trans (b2.mono hwB)
      clear o2 o2' gr2 e2 hD o1 b1 hs1 hrp2 r2 hb HO HRR HC HCM HJ HLJ HA HMJ hsr hma hmi
      have HCD := Lib.hid hcd
      have HCDM := Lib.hid hcdm
      clear hcd hcdm
      go_wp2_with fail
      refine (constants_any _).mono ?_
      rintro e w3 ⟨rfl, hb3⟩
      have r23 := r22.step hb3
      have bb3 := bb2.trans (hb3.mono bb2.size)
      have hrd3 := hrd.step hb3
      clear r22 bb2 hb3 hrd b2 hs2
      have hg23 := r23.lt
      have S0 : Hid (Row ((w3.alloc (.cells (zeros32 64).toArray 274)).alloc (.cells (zeros32 8).toArray 263)) w3.heap.size 274 (zeros32 64)) := Lib.hid (((Below.refl _ _).alloc (Nat.le_refl _) _).block w3.heap.size (by simp) |>.trans (heap_alloc_new _ _))
      have S1 : Hid (Row ((w3.alloc (.cells (zeros32 64).toArray 274)).alloc (.cells (zeros32 8).toArray 263)) (w3.heap.size + 1) 263 (zeros32 8)) := Lib.hid (heap_new_at (by simp))
      have BY3 : Hid (Below w3.heap.size w3 ((w3.alloc (.cells (zeros32 64).toArray 274)).alloc (.cells (zeros32 8).toArray 263))) := Lib.hid (below_alloc2 (Below.refl _ _))
      have hwg5 : w.heap.size ≤ w3.heap.size := bb3.size
      go_upto_region 6 with (first
        | (refine Row.store (g := w3.heap.size) (t := 274) (L := zeros32 64) (M := cells32 kWords) S0.out rfl 274 (.tmp 4) (.tmp 32) rfl rfl rfl (by kernel_rfl) rfl (cells32_one _) ?_; rintro w4 hw4 r4; have b4 : Below w3.heap.size w3 w4 := (by rw [hw4]; exact BY3.out.grown (grown_setRow _ _ _) BY3.out.size (fun k hk => by cases hk; exact Nat.le_refl _)); have s4 : Row w4 (w3.heap.size + 1) 263 (zeros32 8) := (by rw [hw4]; exact S1.out.other (by omega) _); clear hw4 r4)
        | (refine Row.store (g := w3.heap.size + 1) (t := 263) (L := zeros32 8) (M := iv0.cells) s4 rfl 263 (.tmp 5) (.tmp 33) rfl rfl rfl (by kernel_rfl) rfl (cells32_one _) ?_; rintro w5 hw5 r5; have b5 : Below w3.heap.size w3 w5 := (by rw [hw5]; exact b4.grown (grown_setRow _ _ _) b4.size (fun k hk => by cases hk; exact Nat.le_succ _)); clear hw5 s4 b4))
      obtain ⟨g5, hg5⟩ : ∃ g, g = w3.heap.size + 1 := ⟨_, rfl⟩
      rw [← hg5] at r5 ⊢
      have hgw5 : w.heap.size ≤ g5 := by omega
      have hg25 : g2 < g5 := by omega
      have r25 := r23.step b5
      have bb5 := bb3.trans (b5.mono bb3.size)
      have hrd5 : Rd w5 g5 1 Ad D.length (cells8 D) := (hrd3.below b5 (Nat.le_refl _)).mono (by omega)
      clear hg5 S0 S1 BY3 hwg5 hg23 r23 bb3 hrd3 b5
      -- LOOP2
      have hg5l : g5 ≤ w5.heap.size := Nat.le_of_lt r5.lt
      have hrd5' : Rd w5 g5 1 Ad D.length (cells8 D) := hrd5
      go_wp2
      go_loopw [6] (fun i wr => ∃ k : Nat, k ≤ D.length / 64 ∧ i = .int .i64 ((64 * k : Nat) : Int) ∧ Row wr g5 263 (blocksW iv0 k D).cells ∧ Below g5 w5 wr) (fun i _ => D.length - (intOf i).toNat)
      case atStart => exact ⟨0, Nat.zero_le _, rfl, r5, Below.refl _ _⟩
      case round =>
        clear r5
        obtain ⟨k, hk, rfl, r5, hbl⟩ := hrel
        obtain ⟨q, hq⟩ : ∃ q, q = 64 * k := ⟨_, rfl⟩
        rw [← hq]
        obtain ⟨st, hst⟩ : ∃ st, st = blocksW iv0 k D := ⟨_, rfl⟩
        rw [← hst] at r5
        by_cases hlt : k < D.length / 64
        · obtain ⟨q2, hq2⟩ : ∃ q2, q2 = q + 64 := ⟨_, rfl⟩
          have hql : q < D.length := by omega
          have hd : decide (q < D.length) = true := by simp; omega
          have hd' : (q : Int) < (D.length : Int) := by omega
          have hw2 : IntKind.i64.wrap ((q : Int) + 64) = (q2 : Int) := by rw [IntKind.wrap_i64]; have := hDl.out; omega
          obtain ⟨ad, rfl, had, _⟩ := hrd5'.2 (by omega)
          have hsl := slice8_run ad D.length cd q q2 (by omega) (by have := HCD.out; omega)
          have HRD := Lib.hid (hrd5'.sub8 q 64 (by omega) (by omega))
          have hnx : Hid ((compW st ((D.drop q).take 64)) = blocksW iv0 (k + 1) D) := by unfold Hid; rw [blocks_snoc, hst, hq]
          have HQ := Lib.hid hq
          have HQ2 := Lib.hid (show 64 ≤ cd - q ∧ q2 = q + 64 from ⟨by have := HCD.out; omega, hq2⟩)
          have hq22 : q2 - q = 64 := by omega
          rw [hq22] at hsl
          clear hq hq2 hst had hq22
          go_upto_region 9 with (fail)
          refine wp_region_held_drew (S := (fun _ => True)) (by kernel_rfl) trivial (fun hHeld => ?_)
          refine take_run 1 (v := ?_) rfl (by kernel_rfl) (by kernel_rfl) (by kernel_rfl) (fun _ _ _ h => h) rfl ?_ hHeld ?_
          rotate_left
          · intro w hSw; (try dsimp only at hSw); go_simp <;> with_reducible rfl
          try simp only [Act.put, List.setIfInBounds_toArray, List.set_cons_zero, List.set_cons_succ]
          refine take_run 2 (v := ?_) rfl (by kernel_rfl) (by kernel_rfl) (by kernel_rfl) (fun _ _ _ h => h) rfl ?_ hHeld ?_
          rotate_left
          · intro w hSw; (try dsimp only at hSw); go_simp <;> with_reducible rfl
          try simp only [Act.put, List.setIfInBounds_toArray, List.set_cons_zero, List.set_cons_succ]
          refine take_run 3 (v := ?_) rfl (by kernel_rfl) (by kernel_rfl) (by kernel_rfl) (fun _ _ _ h => h) rfl ?_ hHeld ?_
          rotate_left
          · intro w hSw; (try dsimp only at hSw); go_simp <;> with_reducible rfl
          try simp only [Act.put, List.setIfInBounds_toArray, List.set_cons_zero, List.set_cons_succ]
          refine take_run 4 (v := ?_) rfl (by kernel_rfl) (by kernel_rfl) (by kernel_rfl) (fun _ _ _ h => h) rfl ?_ hHeld ?_
          rotate_left
          · intro w hSw; (try dsimp only at hSw); go_simp <;> with_reducible rfl
          try simp only [Act.put, List.setIfInBounds_toArray, List.set_cons_zero, List.set_cons_succ]
          refine take_run 5 (v := ?_) rfl (by kernel_rfl) (by kernel_rfl) (by kernel_rfl) (fun _ _ _ h => h) rfl ?_ hHeld ?_
          rotate_left
          · intro w hSw; (try dsimp only at hSw); go_simp <;> with_reducible rfl
          try simp only [Act.put, List.setIfInBounds_toArray, List.set_cons_zero, List.set_cons_succ]
          refine take_call 0 rfl (by kernel_rfl) rfl (fun K hK => ?_)
          refine wp_exec (exec_load_row 263 (.tmp 5) rfl g5 rfl 263 st.cells.toArray (0, 0) _ r5 Tryz.underlying263 rfl (by kernel_rfl)) ?_
          try dsimp only
          refine hK.out _ _ trivial (fun hHeld => ?_)
          clear hK K
          try simp only [Act.put, List.setIfInBounds_toArray, List.set_cons_zero, List.set_cons_succ]
          refine take_call 6 rfl (by kernel_rfl) rfl (fun K hK => ?_)
          go_simp
          with_reducible refine (refCompress_any st (some (ad.add q)) (cd - q) ((D.drop q).take 64) _ ?cr ?cc).mono ?_
          case cr => exact (HRD.out.below hbl (Nat.le_refl _)).mono (Nat.le_trans hg5l hbl.size)
          case cc => have := HQ2.out; omega
          rintro e w6 ⟨rfl, hbx⟩
          have y6 : Below wr.heap.size wr w6 := below_of_drew hbx
          clear hbx
          have r56 := r5.step y6
          try dsimp only
          refine hK.out _ _ trivial (fun hHeld => ?_)
          clear hK K
          try simp only [Act.put, List.setIfInBounds_toArray, List.set_cons_zero, List.set_cons_succ]
          refine take_call 7 rfl (by kernel_rfl) rfl (fun K hK => ?_)
          refine wp_store_whole 263 (.tmp 5) (.tmp 46) rfl g5 263 st.cells (compW st ((D.drop q).take 64)).cells rfl rfl r56 (by rw [S8.cells_len]; kernel_rfl) (by rw [S8.cells_len, S8.cells_len]) (fun v hv => by simp only [S8.cells, cells32, List.mem_map] at hv; obtain ⟨_, _, rfl⟩ := hv; rfl) ?_
          intro w7 r57 gr7
          have b7 : Below g5 w5 w7 := (hbl.trans (y6.mono (Nat.le_of_lt r5.lt))).grown gr7 (Nat.le_of_lt (Nat.lt_of_lt_of_le r5.lt y6.size)) (fun k hk => by cases hk; exact Nat.le_refl _)
          try dsimp only
          refine hK.out _ _ trivial (fun hHeld => ?_)
          clear hK K
          try simp only [Act.put]
          refine wpAnyH_done (by kernel_rfl) ?_ _
          go_wp2
          go_roundw
          case rel => exact ⟨k + 1, by omega, by rw [show ((64 * (k + 1) : Nat) : Int) = (q2 : Int) by have := HQ.out; have := HQ2.out.2; omega], by rw [← hnx.out]; exact r57, b7⟩
          case measure => have := HQ.out; have := HQ2.out.2; have := hd'; simp [intOf]; omega
        · have hkk : k = D.length / 64 := by omega
          have hqD : q = D.length := by have := hD64.out; omega
          have hd : decide (q < D.length) = false := by simp; omega
          have hsh2 : Hid (shaF L = bytes4 st.list) := by unfold Hid; rw [hsh.out, hst, hkk]
          have HQD := Lib.hid hqD
          clear hqD hkk hst hq hlt hk hrd5' hrd5
          go_upto_region 11 with (fail)
          change Code.wp _ _ _ _ (wr.alloc (.cells (cells8 (outL st.list 0)).toArray 49))
          obtain ⟨w7, hw7⟩ : ∃ x, x = wr.alloc (.cells (cells8 (outL st.list 0)).toArray 49) := ⟨_, rfl⟩
          obtain ⟨g7, hg7⟩ : ∃ g, g = wr.heap.size := ⟨_, rfl⟩
          have b57 : Below wr.heap.size wr w7 := by rw [hw7]; exact (Below.refl _ _).alloc (Nat.le_refl _) _
          have bb7 : Below w.heap.size w w7 := (bb5.trans (hbl.mono hgw5)).trans (b57.mono (by have := bb5.size; have := hbl.size; omega))
          have r57 := r5.step b57
          have r27 : Row w7 g2 49 (cells8 (List.replicate 32 0)) := (r25.below hbl hg25).step b57
          have r77 : Row w7 g7 49 (cells8 (outL st.list 0)) := by rw [hw7, hg7]; exact heap_alloc_new _ _
          have hg57 : g5 < g7 := by have := r5.lt; omega
          have hg27 : g2 < g7 := by omega
          have hwg7 : w.heap.size ≤ g7 := by omega
          rw [← hw7, ← hg7]
          clear hw7 hg7 b57 r5 hbl
          go_wp2
          go_loopw [8, 9, 10] (fun i _ _ wr => ∃ k : Nat, k ≤ 8 ∧ i = .int .i64 (k : Int) ∧ Row wr g7 49 (cells8 (outL st.list k)) ∧ Below g7 w7 wr) (fun i _ _ _ => 8 - (intOf i).toNat)
          case atStart => exact ⟨0, Nat.zero_le _, rfl, r77, Below.refl _ _⟩
          case round =>
            clear r77
            obtain ⟨k, hk, rfl, r7, hb7⟩ := hrel
            have r5 := r57.below hb7 hg57
            by_cases hlt : k < 8
            · have hd2 : decide ((k : Int) < 8) = true := by simp; omega
              have hkb : (k : Int) < 8 := by omega
              have c5 := r5.cell (l_cell st.list k hlt)
              obtain ⟨x, hx⟩ : ∃ x, x = st.list.getD k 0 := ⟨_, rfl⟩
              rw [← hx] at c5
              have HX := Lib.hid hx
              clear hx
              go_wp2_with fail
              with_reducible refine (putR32_any x _).mono ?_
              rintro e w8 ⟨gp, rfl, hrp, hgp, hb8⟩
              have r78 := r7.step hb8
              have hgp7 : g7 < gp := Nat.lt_of_lt_of_le r7.lt hgp
              have b78 : Below g7 w7 w8 := hb7.trans (hb8.mono (Nat.le_of_lt r7.lt))
              have hl4 := beB_len x.toNat 4
              rw [hl4]
              have HL4 := Lib.hid hl4
              clear hl4 c5 r5 r7 hb7 hb8 hgp hd2 hkb
              go_wp2
              obtain ⟨wo, hwo⟩ : ∃ wo : World, wo = wr := ⟨_, rfl⟩
              clear hwo
              go_loopw [10] (fun i wr => ∃ j : Nat, j ≤ 4 ∧ i = .int .i64 (j : Int) ∧ Row wr g7 49 (cells8 (outJ st.list k j)) ∧ Row wr gp 5 (cells8 (beB x.toNat 4)) ∧ Below g7 w7 wr) (fun i _ => 4 - (intOf i).toNat)
              case atStart => exact ⟨0, Nat.zero_le _, rfl, by rw [outJ_zero]; exact r78, hrp, b78⟩
              case round =>
                clear r78 hrp b78
                obtain ⟨j, hj, rfl, r7, rp, hb⟩ := hrel
                by_cases hlj : j < 4
                · have hd3 : decide ((j : Int) < 4) = true := by simp; omega
                  have hjb : (j : Int) < 4 := by omega
                  obtain ⟨p, hp⟩ : ∃ p, p = 4 * k + j := ⟨_, rfl⟩
                  have hw3 : 4 * (k : Int) + (j : Int) = (p : Int) := by omega
                  have hp32 : (p : Int) < 32 := by omega
                  obtain ⟨b, hbj⟩ : ∃ b, (beB x.toNat 4)[j]? = some b := ⟨_, List.getElem?_eq_getElem (by rw [HL4.out]; exact hlj)⟩
                  have cp : wr.cell? ⟨gp, j, none⟩ = some (.int .u8 (bv b)) := rp.cell (by rw [cells8, List.getElem?_map, hbj]; rfl)
                  have f7 := r7.free p
                  obtain ⟨v0, h0⟩ : ∃ v0, (cells8 (outJ st.list k j))[p]? = some (.int .u8 (bv v0)) := by
                    have hlen : (outJ st.list k j).length = 32 := by rw [outJ, splice_len _ _ _ (by rw [outL_len _ _ rfl (by omega), List.length_take, beB_len]; omega), outL_len _ _ rfl (by omega)]
                    refine ⟨(outJ st.list k j)[p]'(by omega), ?_⟩
                    rw [cells8, List.getElem?_map, List.getElem?_eq_getElem (by omega)]; rfl
                  have c7 := r7.cell h0
                  have r7n := r7.setCell (i := p) (.int .u8 (bv b))
                  have rpn : Row (wr.setCell ⟨g7, p, none⟩ (.int .u8 (bv b))) gp 5 (cells8 (beB x.toNat 4)) := (heap_setCell_other _ _ _ _ (show gp ≠ g7 by omega)).trans rp
                  rw [hp, outJ_set st.list k j rfl hlt b (by rw [← HX.out]; exact hbj), ← hp] at r7n
                  have R7 := Lib.hid r7n
                  have RP := Lib.hid rpn
                  have HP := Lib.hid hp
                  clear hp hbj h0 r7n rpn r7 rp
                  go_wp2
                  go_roundw
                  case rel => exact ⟨j + 1, by omega, by go_num, R7.out, RP.out, hb.setCell (Nat.le_refl _) _⟩
                  case measure => simp [intOf]; omega
                · obtain rfl : j = 4 := by omega
                  have hd3 : decide ((4 : Int) < 4) = false := by decide
                  rw [show ((4 : Nat) : Int) = 4 from rfl]
                  rw [outJ_all st.list k rfl hlt] at r7
                  go_wp2
                  go_roundw
                  case rel => exact ⟨k + 1, by omega, by go_num, r7, hb⟩
                  case measure => simp [intOf]; omega
            · obtain rfl : k = 8 := by omega
              have hd2 : decide ((8 : Int) < 8) = false := by decide
              rw [show ((8 : Nat) : Int) = 8 from rfl]
              rw [outL_all _ rfl, ← hsh2.out] at r7
              have hl32 := shaF_len L
              have HI2 := Lib.hid (show (Tryz.prog.info? 49).map (·.size) = some (cells8 (shaF L)).length by rw [cells8_len, hl32]; kernel_rfl)
              have HI3 := Lib.hid (show (Tryz.prog.info? 49).map (·.size) = some (cells8 (shaF L)).toArray.size by rw [List.size_toArray, cells8_len, hl32]; kernel_rfl)
              have HZ := Lib.hid (show (cells8 (List.replicate 32 0)).length = (cells8 (shaF L)).length by rw [cells8_len, cells8_len, hl32]; rfl)
              have r2 := r27.below hb7 hg27
              have b9 := bb7.trans (hb7.mono hwg7)
              clear hl32 r5 hb7
              go_wp2_with (first
                | (refine wpList_load_row rfl 49 (.tmp 7) rfl g7 rfl 49 (cells8 (shaF L)).toArray (0, 0) _ r7 Tryz.underlying49 rfl HI3.out ?_)
                | (refine Row.store (g := g2) (t := 49) (L := cells8 (List.replicate 32 0)) (M := cells8 (shaF L)) r2 rfl 49 (.tmp 2) (.tmp 68) rfl rfl rfl HI2.out HZ.out (cells8_one _) ?_; rintro wF hwF rF; have bF : Below w.heap.size w wF := (by rw [hwF]; exact b9.grown (grown_setRow _ _ _) b9.size (fun k hk => by cases hk; exact hg2)); clear hwF))
              refine bodyPost_ret (v := .agg (cells8 (shaF L)).toArray) (results_cell_row Tryz.results54 _ wF g2 49 _ (0, 0) _ rfl rF Tryz.underlying49 rfl HI3.out) rfl ⟨rfl, bF⟩
    · have hne : ((a : Int) == 56) = false := by simp; omega
      have hne2 : ¬ (a : Int) = 56 := by omega
      have hj1 : Hid (j + 1 ≤ zpad L.length) := by unfold Hid; have := HMJ.out; have := HA.out; have h1 := HJ.out; unfold zpad at h1 ⊢; omega
      have HL := Lib.hid (lit8 (w := wr) (t := 5) 0#8 0 rfl)
      have hba := (Below.refl wr.heap.size wr).alloc (Nat.le_refl _) (.cells #[.int .u8 0] 5)
      have hmi : 0 ≤ (m : Int) := by omega
      go_wp2_with (at_builtin; refine wpList_app8 rfl (.tmp 20) (.tmp 21) rfl B _ (L ++ 0x80#8 :: List.replicate j 0#8) rfl ?d1 _ _ _ _ [0#8] rfl HL.out ?d2 ?d3 ?_)
      case d1 => exact HO.out.below hba (Nat.le_refl _)
      case d2 => have := HM.out; have := HLJ.out; have := HJ.out; have := zpad_lt L.length; rw [HLJ.out]; simp only [List.length_cons, List.length_nil]; omega
      case d3 => exact Nat.le_trans hsr hba.size
      intro v2 w2 o2 gr2
      have b2 : Below B wz w2 := (HO.out.below hba (Nat.le_refl _)).belowG (hbr.trans (hba.mono hsr)) gr2 (Nat.le_refl _) (Nat.le_trans hsr hba.size)
      rw [rep_snoc2] at o2
      have O2 := Lib.hid o2
      clear o2 gr2 hba hbr
      go_wp2
      go_roundw
      case rel => exact ⟨j + 1, hj1.out, O2.out, b2⟩
      case measure =>
        obtain ⟨A2, c2, rfl, _⟩ := O2.out.slice
        have := HMJ.out; have := hj1.out; have := HLJ.out
        simp only [nilLen, List.length_append, List.length_cons, List.length_replicate]
        omega
end Go.Proofs.YtmciknpgbbjomaaGreatDoor
