/- The program's State: Write. -/
import Derived.Test.YtbkpgmlibiclfaaGreatDoorShJ
namespace Go.Proofs.YtbkpgmlibiclfaaGreatDoor
open Go.RowKit

/-- A struct is stored into a row. -/
theorem run_store_row {P : Program} {w : World} (ty : TypeId) (g o : Nat) (t : TypeId) (L cs : List Value) (hg : Row w g t L) (hi : (P.info? ty).map (·.size) = some cs.length) (hfit : o + cs.length ≤ L.length) (h1 : ∀ v ∈ cs, v.oneCell' = true) :
    (Instr.storeAt ty (.pointer (some ⟨g, o, none⟩)) (.agg cs.toArray)).run P w = .ok () (w.setRow g (splice L o cs).toArray) := by
  have hst := run_storeCells_at P g o t cs 0 L.toArray w hg (by simpa using hfit) h1
  cases hq : P.info? ty with
  | none => simp [hq] at hi
  | some i =>
    have hs : i.size = cs.length := by simpa [hq] using hi
    simp only [Nat.add_zero] at hst
    simp [Instr.storeAt, Instr.sureAddr, storeVar, sizeOf, typeInfo, hq, Value.cells, hs, hst, splice]

theorem wpList_store_splice {P : Program} {w : World} {ops : Array Oper} {rest : List Oper} {op : Oper} {a : Act} {Q : Exit → Act → World → Prop} (hgd : op.guard = none) (ty : TypeId) (x y : Operand) (ho : op.op = .store ty x y)
    (g o : Nat) (t : TypeId) (L cs : List Value) (hx : a.eval x = .pointer (some ⟨g, o, none⟩)) (hy : a.eval y = .agg cs.toArray) (hg : Row w g t L) (hi : (P.info? ty).map (·.size) = some cs.length) (hfit : o + cs.length ≤ L.length) (h1 : ∀ v ∈ cs, v.oneCell' = true)
    (h : ∀ w', Row w' g t (splice L o cs) → w.grownBy w' (some g) → wpList P ops Q rest (a.put op.dst undef) w') : wpList P ops Q (op :: rest) a w :=
  wpList_plain hgd fun _ hK => by
    unfold Oper.wp execOp
    simp only [ho, hx, hy, Sem.run_bind, Sem.run_pure, Result.andThen_ok, run_store_row ty g o t L cs hg hi hfit h1]
    exact hK _ _ (h _ hg.set (grown_setRow _ _ _))

theorem u64_wrap (m n : Nat) (h : m + n < 18446744073709551616) : IntKind.u64.wrap ((m : Int) + (n : Int)) = ((m + n : Nat) : Int) := by
  rw [IntKind.wrap_u64]; omega
/-- The length of a slice. -/
def lenV : Value → Nat
  | .slice _ n _ => n
  | _ => 0
theorem Rd.tail8 {w : World} {B n c : Nat} {ad : Addr} {l : List B8} (h : Rd w B 1 (some ad) n (cells8 l)) (k : Nat) (hk : k ≤ n) (hc : n ≤ c) : Rd w B 1 (if c = k then some ad else some (ad.add k)) (n - k) (cells8 (l.drop k)) := by
  have hl := h.len8
  by_cases hm : n - k = 0
  · refine ⟨by rw [cells8_len, List.length_drop]; omega, fun h0 => by omega⟩
  · rw [if_neg (by omega)]
    have := h.sub8 k (n - k) (by omega) (by omega)
    rwa [List.take_of_length_le (by rw [List.length_drop]; omega)] at this
set_option maxRecDepth 100000 in
set_option maxHeartbeats 4000000 in
theorem write_any (L p : List B8) (cs : List Value) (A : Option Addr) (c : Nat) (w : World) (hG : Glob w) (hs : Sta L cs) (hr : Rd w w.heap.size 1 A p.length (cells8 p)) (hc : p.length ≤ c) (hc2 : c ≤ maxLen) (hm : L.length + p.length < 1000000000) :
    Calls Tryz.prog 164 #[.agg cs.toArray, .slice A p.length c] w fun e w' => ∃ cs', e = .returned (.agg cs'.toArray) ∧ Sta (L ++ p) cs' ∧ Below w.heap.size w w' := by
  have HM := Lib.hid hm
  have HC := Lib.hid hc2
  have hlen := hs.len
  clear hm hc2
  go_enter Tryz.func164, Tryz.ntmps164
  go_upto_region 1 with (fail)
  change Code.wp _ _ _ _ ((w.alloc (.cells cs.toArray 339)).alloc (.cells st0.toArray 339))
  obtain ⟨wz, hwz⟩ : ∃ wz, wz = ((w.alloc (.cells cs.toArray 339)).alloc (.cells st0.toArray 339)) := ⟨_, rfl⟩
  obtain ⟨g2, h2⟩ : ∃ g, g = w.heap.size := ⟨_, rfl⟩
  obtain ⟨g4, h4⟩ : ∃ g, g = w.heap.size + 1 := ⟨_, rfl⟩
  have hb : Below w.heap.size w wz := by rw [hwz]; exact below_alloc2 (Below.refl _ _)
  have r2 : Row wz g2 339 cs := by
    rw [hwz, h2, Row, ((Below.refl _ _).alloc (Nat.le_refl _) _).block w.heap.size (by simp)]; exact heap_alloc_new _ _
  have r4 : Row wz g4 339 st0 := by rw [hwz, h4]; exact heap_new_at (by simp)
  have hg2 : w.heap.size ≤ g2 := by omega
  have hg24 : g2 ≠ g4 := by omega
  have hg4 : w.heap.size ≤ g4 := by omega
  rw [← hwz, ← h4, ← h2]
  replace hr : Rd wz w.heap.size 1 A p.length (cells8 p) := hr.below hb (Nat.le_refl _)
  have hG0 := hG
  clear hG
  clear hwz h2 h4
  have c0 : wz.cell? ⟨g2, 0, none⟩ = some (.bool true) := by
    obtain ⟨r, _, _, rfl⟩ := hs
    exact stC_c0 r2
  go_wp2
  clear c0
  go_loopw [1, 5, 6] (fun x _ _ wr => ∃ (k : Nat) (A : Option Addr) (c : Nat) (cs : List Value), k ≤ p.length ∧ x = .slice A (p.length - k) c ∧ p.length - k ≤ c ∧ c ≤ maxLen ∧ Rd wr w.heap.size 1 A (p.length - k) (cells8 (p.drop k)) ∧ Sta (L ++ p.take k) cs ∧ Row wr g2 339 cs ∧ Row wr g4 339 st0 ∧ Below w.heap.size w wr) (fun x _ _ _ => lenV x)
  case atStart =>
    exact ⟨0, A, c, cs, Nat.zero_le _, rfl, hc, HC.out, hr, by simpa using hs, r2, r4, hb⟩
  case round =>
    clear hr hs r2 r4 hb hc HC
    obtain ⟨k, A, c, cs, hk, rfl, hkc, hcm, hr, hs, r2, r4, hb⟩ := hrel
    by_cases hlt : k < p.length
    · obtain ⟨ad, rfl, had, hcl⟩ := hr.2 (by omega)
      obtain ⟨r, hr64, hrt, rfl⟩ := hs
      have hml : (L ++ p.take k).length = L.length + k := by simp; omega
      obtain ⟨D, hD⟩ : ∃ D, D = L ++ p.take k := ⟨_, rfl⟩
      rw [← hD] at r2 hrt hml
      obtain ⟨m, hm⟩ : ∃ m, m = D.length := ⟨_, rfl⟩
      obtain ⟨s, hsd⟩ : ∃ s, s = blocksW iv0 (m / 64) D := ⟨_, rfl⟩
      obtain ⟨a, ha⟩ : ∃ a, a = m % 64 := ⟨_, rfl⟩
      obtain ⟨n, hn⟩ : ∃ n, n = Nat.min (p.length - k) (64 - a) := ⟨_, rfl⟩
      obtain ⟨q, hq⟩ : ∃ q, q = (p.drop k).take n := ⟨_, rfl⟩
      have ha64 : a < 64 := by omega
      have hnle : n ≤ p.length - k := by rw [hn]; exact Nat.min_le_left _ _
      have hnle2 : n ≤ 64 - a := by rw [hn]; exact Nat.min_le_right _ _
      have hn0 : 0 < n := by rw [hn]; exact Nat.lt_min.2 ⟨by omega, by omega⟩
      have hql : q.length = n := by rw [hq]; simp; omega
      rw [← hm, ← hsd] at r2
      have c73 := stC_cm r2 hr64
      have f73 := r2.free 73
      have hs4 : (a : Int) ≤ 64 := by omega
      have hs5 : (a : Int) < 64 := by omega
      have hs6 : ¬ 64 = a := by omega
      have hma : (m : Int) % 64 = (a : Int) := by omega
      have hkl : ((p.length - k : Nat) : Int) > 0 := by omega
      have HD := Lib.hid hD
      have HMD := Lib.hid hm
      have HSD := Lib.hid hsd
      have HA := Lib.hid ha
      have HN := Lib.hid hn
      have HQ := Lib.hid hq
      have HML := Lib.hid hml
      clear hD hm hsd ha hn hq hml
      have cpy := copy_ex (P := Tryz.prog) (w := wr) 24 24 3 5 1 Tryz.underlying24 (by kernel_rfl) g2 (9 + a) (64 - a) (64 - a) (p.length - k) c n (some ⟨g2, 9 + a, none⟩) (some ad) _ (cells8 q) 339 r2 HN.out (by rw [cells8_len, hql, Nat.mul_one]) (fun _ => rfl) (fun _ => ⟨ad, rfl, by have h2 := hcl.take n; rw [HQ.out]; rw [cells8, List.map_take]; exact h2⟩) (by rw [stC_len _ _ _ _ hr64, cells8_len, hql]; omega) (by intro v hv; simp only [cells8, List.mem_map] at hv; obtain ⟨_, _, rfl⟩ := hv; rfl)
      obtain ⟨w5, hr5, r5, gr5⟩ := cpy
      rw [stC_rest _ _ _ _ _ _ hr64 (by omega)] at r5
      have b5 : Below w.heap.size w w5 := hb.grown gr5 hb.size (fun k hk => by cases hk; exact hg2)
      have r45 : Row w5 g4 339 st0 := (gr5.block _ r4.lt (fun e => hg24 (by cases e; rfl))).trans r4
      have rr5 : Rd w5 w.heap.size 1 (some ad) (p.length - k) (cells8 (p.drop k)) := hr.below ((Below.refl w.heap.size wr).grown gr5 hb.size (fun k hk => by cases hk; exact hg2)) (Nat.le_refl _)
      have hr'64 : (splice r a q).length = 64 := by rw [splice_len _ _ _ (by omega)]; exact hr64
      have d73 := stC_cm r5 hr'64
      have e73 := r5.free 73
      have hwrap := u64_wrap m n (by have := HML.out; have := HM.out; have := HMD.out; omega)
      have r6 := r5.setCell (i := 73) (.int .u64 ((m : Int) + (n : Int)))
      rw [stC_many _ _ _ _ _ hr'64, ← Int.natCast_add, ← stC, Int.natCast_add] at r6
      have r46 : Row (w5.setCell ⟨g2, 73, none⟩ (.int .u64 ((m : Int) + (n : Int)))) g4 339 st0 := (heap_setCell_other _ _ _ _ hg24.symm).trans r45
      have b6 := b5.setCell (p := ⟨g2, 73, none⟩) hg2 (.int .u64 ((m : Int) + (n : Int)))
      have rr6 : Rd (w5.setCell ⟨g2, 73, none⟩ (.int .u64 ((m : Int) + (n : Int)))) w.heap.size 1 (some ad) (p.length - k) (cells8 (p.drop k)) := rr5.below ((Below.refl w.heap.size w5).setCell (p := ⟨g2, 73, none⟩) hg2 _) (Nat.le_refl _)
      have R6 := Lib.hid r6
      have R46 := Lib.hid r46
      have B6 := Lib.hid b6
      have RR6 := Lib.hid rr6
      have HS := Lib.hid hrt
      have HR5 := Lib.hid hr5
      have HQL := Lib.hid hql
      have HR64 := Lib.hid hr64
      have HR64' := Lib.hid hr'64
      have HKC := Lib.hid hkc
      have HCM := Lib.hid hcm
      have HN0 := Lib.hid hn0
      have HNL := Lib.hid hnle
      have HNL2 := Lib.hid hnle2
      clear r6 r46 b6 rr6 hrt hr5 hql hr64 hr'64 hkc hcm hcl hr hb r2 r4 r5 gr5 b5 r45 rr5 hn0 hnle hnle2 hwrap had
      go_upto_region 5 with (fail)
      go_upto_region 6 with (refine wpList_copy_run rfl (.tmp 20) (.tmp 21) 24 24 rfl _ _ rfl rfl HR5.out ?_)
      have hmn : (m : Int) + (n : Int) < 18446744073709551616 := by have := HML.out; have := HM.out; have := HMD.out; have := HNL.out; omega
      go_upto_region 7 with (fail)
      clear hmn
      have hnk : (n : Int) ≤ ((p.length - k : Nat) : Int) := by have := HNL.out; omega
      obtain ⟨w6, hw6⟩ : ∃ x, x = w5.setCell ⟨g2, 73, none⟩ (.int .u64 ((m : Int) + (n : Int))) := ⟨_, rfl⟩
      have r6 := R6.out
      have r46 := R46.out
      have b6 := B6.out
      have rr6 := RR6.out
      rw [← hw6] at r6 r46 b6 rr6 ⊢
      clear R6 R46 B6 RR6 hw6 HR5 d73 e73 c73 f73
      go_upto_region 8 with (fail)
      have r'n : Rd w6 w.heap.size 1 (if c = n then some ad else some (ad.add n)) (p.length - k - n) (cells8 ((p.drop k).drop n)) := rr6.tail8 n HNL.out HKC.out
      rw [List.drop_drop] at r'n
      obtain ⟨A', hA'⟩ : ∃ x, x = (if c = n then some ad else some (ad.add n)) := ⟨_, rfl⟩
      rw [← hA'] at r'n ⊢
      clear hA' rr6
      have HRN := Lib.hid r'n
      clear r'n hnk
      have hG6 := hG0.step b6
      have HDQ : Hid (D ++ q = L ++ p.take (k + n)) := by unfold Hid; rw [HD.out, HQ.out, List.take_add, List.append_assoc]
      obtain ⟨r', hr'⟩ : ∃ r', r' = splice r a q := ⟨_, rfl⟩
      rw [← hr'] at r6 HR64'
      have HR' := Lib.hid hr'
      clear hr'
      by_cases hfull : a + n = 64
      · have hd : decide ((a : Int) + (n : Int) = 64) = true := by simp; omega
        have hfi : (a : Int) + (n : Int) = 64 := by omega
        have hsta : Hid (Sta (L ++ p.take (k + n)) (stC true (compW s r') r' (m + n))) := by
          have h1 := sta_full D q r HR64.out HS.out (by have := HA.out; have := HMD.out; have := HQL.out; omega)
          rw [HQL.out, ← HMD.out, ← HSD.out, ← HA.out, ← HR'.out, HDQ.out] at h1
          exact h1
        have HI := Lib.hid (show (Tryz.prog.info? 337).map (·.size) = some (cells8 r').length by rw [cells8_len, HR64'.out]; kernel_rfl)
        have hHs := stC_hs r6
        have hRs := stC_rs r6
        go_upto_region 9 with (fail)
        refine wp_region_lit ?_
        go_wp2_with (first
          | (refine wpList_load_mid rfl 336 (.tmp 36) rfl g2 1 rfl s.cells _ hHs Tryz.underlying336 rfl (by kernel_rfl) ?_)
          | (refine wpList_load_mid rfl 337 (.tmp 38) rfl g2 9 rfl (cells8 r') _ hRs Tryz.underlying337 rfl HI.out ?_)
          | (go_at_call 210; fail))
        clear hHs hRs hd hfi
        refine (compress_any s r' HR64'.out _ hG6.1).mono ?_
        rintro e w7 ⟨rfl, hb7⟩
        have r7 := r6.step hb7
        have r47 := r46.step hb7
        have b7 := b6.trans (hb7.mono b6.size)
        have rn7 := HRN.out.below (hb7.mono b6.size) (Nat.le_refl _)
        have hlen7 := stC_len true s r' (m + n) HR64'.out
        clear r6 r46 b6 hb7 hG6 HI
        go_wp2_with (refine wpList_store_splice rfl 336 (.tmp 41) (.tmp 40) rfl g2 1 339 (stC true s r' (m + n)) (compW s r').cells rfl rfl r7 (by kernel_rfl) (by rw [hlen7, S8.cells_len]; omega) (fun v hv => by simp only [S8.cells, cells32, List.mem_map] at hv; obtain ⟨_, _, rfl⟩ := hv; rfl) ?_; intro w8 r8 g8)
        rw [stC_h] at r8
        have b8 : Below w.heap.size w w8 := b7.grown g8 b7.size (fun k hk => by cases hk; exact hg2)
        have r48 : Row w8 g4 339 st0 := (g8.block _ r47.lt (fun e => hg24 (by cases e; rfl))).trans r47
        have rn8 : Rd w8 w.heap.size 1 A' (p.length - k - n) (cells8 (p.drop (k + n))) := rn7.below ((Below.refl w.heap.size w7).grown g8 b7.size (fun k hk => by cases hk; exact hg2)) (Nat.le_refl _)
        clear r7 r47 b7 rn7 hlen7 g8
        simp only [Act.put]
        go_roundw
        case rel => exact ⟨k + n, A', c - n, _, by have := HNL.out; omega, by rw [Nat.sub_sub], by have := HKC.out; omega, by have := HCM.out; omega, by rw [← Nat.sub_sub]; exact rn8, hsta.out, r8, r48, b8⟩
        case measure => have := HN0.out; have := HNL.out; simp [lenV]; omega
      · have hd : decide ((a : Int) + (n : Int) = 64) = false := by simp; omega
        obtain ⟨e, he⟩ : ∃ e, e = a + n := ⟨_, rfl⟩
        have hlt64 : e < 64 := by have := HNL2.out; omega
        have hfi : (a : Int) + (n : Int) = (e : Int) := by omega
        have hfe : ((e : Int) == 64) = false := by simp; omega
        clear he hfull hd
        have hsta : Hid (Sta (L ++ p.take (k + n)) (stC true s r' (m + n))) := by
          have h1 := sta_part D q r HR64.out HS.out (by have := HA.out; have := HMD.out; have := HQL.out; have := HNL2.out; omega)
          rw [HQL.out, ← HMD.out, ← HSD.out, ← HA.out, ← HR'.out, HDQ.out] at h1
          exact h1
        go_wp2
        go_roundw
        case rel => exact ⟨k + n, A', c - n, _, by have := HNL.out; omega, by rw [Nat.sub_sub], by have := HKC.out; omega, by have := HCM.out; omega, by rw [← Nat.sub_sub]; exact HRN.out, hsta.out, r6, r46, b6⟩
        case measure => have := HN0.out; have := HNL.out; simp [lenV]; omega
    · have hkp : k = p.length := by omega
      have hd : decide (((p.length - k : Nat) : Int) > 0) = false := by simp; omega
      have hz : p.length - k = 0 := by omega
      have hl74 := hs.len
      rw [hz]
      have HKP := Lib.hid hkp
      clear hkp hz
      have hone : cs.toArray.all (·.oneCell') = true := by obtain ⟨r, _, _, rfl⟩ := hs; exact stC_one _ _ _ _
      have HI := Lib.hid (show (Tryz.prog.info? 339).map (·.size) = some cs.length by rw [hl74]; kernel_rfl)
      have HZ := Lib.hid (show st0.length = cs.length by rw [hl74]; rfl)
      have HI2 := Lib.hid (show (Tryz.prog.info? 339).map (·.size) = some cs.toArray.size by rw [List.size_toArray, hl74]; kernel_rfl)
      clear hl74
      go_wp2_with (first
        | (refine wpList_load_row rfl 339 (.tmp 2) rfl g2 rfl 339 cs.toArray (0, 0) _ r2 Tryz.underlying339 rfl HI2.out ?_)
        | (refine Row.store (g := g4) (t := 339) (L := st0) (M := cs) r4 rfl 339 (.tmp 4) (.tmp 42) rfl rfl rfl HI.out HZ.out hone ?_; rintro wF hwF rF; have bF : Below w.heap.size w wF := (by rw [hwF]; exact hb.grown (grown_setRow _ _ _) hb.size (fun k hk => by cases hk; exact hg4)); clear hwF))
      refine bodyPost_ret (v := .agg cs.toArray) (results_cell_row Tryz.results164 _ wF g4 339 _ (0, 0) _ rfl rF Tryz.underlying339 rfl HI2.out) rfl ⟨cs, rfl, ?_, bF⟩
      have h1 := hs
      rw [HKP.out, List.take_length] at h1
      exact h1
end Go.Proofs.YtbkpgmlibiclfaaGreatDoor
