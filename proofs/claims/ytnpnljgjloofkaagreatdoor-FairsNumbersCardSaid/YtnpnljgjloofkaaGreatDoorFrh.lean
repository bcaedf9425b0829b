/- A configuration with programs out of plain data (layer 30). -/
import Derived.Test.YtnpnljgjloofkaaGreatDoorFrg
namespace Go.Proofs.YtnpnljgjloofkaaGreatDoor
open Go.RowKit

theorem ArgP.step {w w' : World} {A : Option Addr} {n : Nat} {l : List LV} (h : ArgP w w.heap.size A n l) (hb : Below w.heap.size w w') : ArgP w' w'.heap.size A n l := ⟨h.1.step hb, fun p hp => (h.2 p hp).step hb⟩
/-- plain data of a configuration with programs, as its cells -/
structure CV where
  a0 : B8
  a1 : B8
  a2 : B8
  a3 : B8
  a4 : B8
  a5 : B8
  a6 : B8
  A : Option Addr
  n : Nat
  c : Nat
def CV.cells (x : CV) : List Value := [.int .u8 (bv x.a0), .int .u8 (bv x.a1), .int .u8 (bv x.a2), .int .u8 (bv x.a3), .int .u8 (bv x.a4), .int .u8 (bv x.a5), .int .u8 (bv x.a6), .slice x.A x.n x.c]
theorem results_two2 {P : Program} {fn : Func} {p q : Tmp} {ty : TypeId} (h : fn.results = #[.cell p ty, .tmp q]) (tmps : Array Value) (w : World) (g : Nat) (t : TypeId) (cs : Array Value) (fr : Nat × Nat) (d : TypeDesc)
    (hp : tmps.getD p undef = .pointer (some ⟨g, 0, none⟩)) (hg : w.heap[g]? = some (.cells cs t fr))
    (hu : P.underlying ty = some d) (hd : (match d with | .struct _ | .array _ _ => true | _ => false) = true) (hi : (P.info? ty).map (·.size) = some cs.size) :
    (results fn tmps).run P w = .ok (.tuple #[.agg cs, tmps.getD q undef]) w := by
  have hp' : tmps[p]?.getD undef = .pointer (some ⟨g, 0, none⟩) := by simpa using hp
  simp [results, h, hp', asAddr, run_loadVar_row w g t ty cs fr d hg hu hd hi]
def CfgOk (g : Cfg) : Prop := g.ms.length = 32 ∧ (1 ≤ g.bl ∧ g.bl ≤ 20) ∧ (1 ≤ g.sh ∧ g.sh ≤ 2) ∧ (1 ≤ g.cl ∧ g.cl ≤ 3)
theorem config_any8 (x : CV) (w : World) :
    Calls Tryz.prog 22 #[.agg #[.int .u8 (bv x.a0), .int .u8 (bv x.a1), .int .u8 (bv x.a2), .int .u8 (bv x.a3), .int .u8 (bv x.a4), .int .u8 (bv x.a5), .int .u8 (bv x.a6), .slice x.A x.n x.c]] w
      fun e w' => ∃ g : Cfg, e = .returned (.agg g.cells.toArray) ∧ CfgOk g ∧ Below w.heap.size w w' :=
  (config_any x.a0.toNat x.a1.toNat x.a2.toNat x.a3.toNat x.a4.toNat x.a5.toNat x.a0.isLt x.a1.isLt x.a2.isLt x.a3.isLt x.a4.isLt x.a5.isLt x.a6 x.A x.n x.c w).mono fun _ _ ⟨g, h1, h2, h3, h4, h5, h6⟩ => ⟨g, h1, ⟨h2, h3, h4, h5⟩, h6⟩
set_option maxRecDepth 100000 in
set_option maxHeartbeats 8000000 in
theorem cOf_any (x : CV) (l : List LV) (w : World) (hr : ArgP w w.heap.size x.A x.n l) :
    Calls Tryz.prog 10 #[.agg #[.int .u8 (bv x.a0), .int .u8 (bv x.a1), .int .u8 (bv x.a2), .int .u8 (bv x.a3), .int .u8 (bv x.a4), .int .u8 (bv x.a5), .int .u8 (bv x.a6), .slice x.A x.n x.c]] w
      fun e w' => ∃ (g : Cfg) (A : Option Addr) (n c : Nat), e = .returned (.tuple #[.agg g.cells.toArray, .slice A n c]) ∧ CfgOk g ∧ Below w.heap.size w w' := by
  have HR := Lib.hid hr
  have HC := fun (W : World) => config_any8 x W
  clear hr
  obtain ⟨i0, hi, hz0, hz1, hz2⟩ := info_parts info_op
  obtain ⟨j0, hj, hy0, hy1, hy2⟩ := info_parts info_ops
  go_enter Tryz.func10, Tryz.ntmps10
  go_upto_region 1 with (fail)
  change Code.wp _ _ _ _ ((w.alloc (.cells #[.int .u8 (bv x.a0), .int .u8 (bv x.a1), .int .u8 (bv x.a2), .int .u8 (bv x.a3), .int .u8 (bv x.a4), .int .u8 (bv x.a5), .int .u8 (bv x.a6), .slice x.A x.n x.c] 26)).alloc (.cells zCfg.toArray 35))
  obtain ⟨w2, hw2⟩ : ∃ w2, w2 = ((w.alloc (.cells #[.int .u8 (bv x.a0), .int .u8 (bv x.a1), .int .u8 (bv x.a2), .int .u8 (bv x.a3), .int .u8 (bv x.a4), .int .u8 (bv x.a5), .int .u8 (bv x.a6), .slice x.A x.n x.c] 26)).alloc (.cells zCfg.toArray 35)) := ⟨_, rfl⟩
  rw [← hw2]
  obtain ⟨g, hg⟩ : ∃ g, g = w.heap.size := ⟨_, rfl⟩
  have b2 : Below w.heap.size w w2 := by rw [hw2]; exact below_alloc2 (Below.refl _ _)
  have rC : Row w2 g 26 [.int .u8 (bv x.a0), .int .u8 (bv x.a1), .int .u8 (bv x.a2), .int .u8 (bv x.a3), .int .u8 (bv x.a4), .int .u8 (bv x.a5), .int .u8 (bv x.a6), .slice x.A x.n x.c] := by
    rw [hw2, hg]; exact ((Below.refl _ _).alloc (Nat.le_refl _) _).block w.heap.size (by simp) |>.trans (heap_alloc_new _ _)
  have rR : Row w2 (g + 1) 35 zCfg := by rw [hw2, hg]; exact heap_new_at (by simp)
  have hsz : w2.heap.size = g + 2 := by rw [hw2, hg]; simp
  rw [← hg]
  have HG := Lib.hid hg
  have B2 := Lib.hid b2
  have RC := Lib.hid rC
  have RR := Lib.hid rR
  have HSZ := Lib.hid hsz
  have d0 := rC.cell (i := 0) rfl
  have d1 := rC.cell (i := 1) rfl
  have d2 := rC.cell (i := 2) rfl
  have d3 := rC.cell (i := 3) rfl
  have d4 := rC.cell (i := 4) rfl
  have d5 := rC.cell (i := 5) rfl
  have d6 := rC.cell (i := 6) rfl
  have d7 := rC.cell (i := 7) rfl
  clear hw2 hg b2 rC rR hsz
  go_upto_region 2 with (first
    | (go_at_call 22; refine (HC _).mono ?_; rintro e w3 ⟨q, rfl, hq, hb3⟩; have HQ := Lib.hid hq; have b3 : Below w.heap.size w w3 := B2.out.trans (hb3.mono B2.out.size); have RC3 : Row w3 g _ _ := RC.out.below hb3 (by have := HSZ.out; omega); have RR3 : Row w3 (g + 1) _ _ := RR.out.below hb3 (by have := HSZ.out; omega); obtain ⟨cs, hcs⟩ : ∃ cs, cs = q.cells := ⟨_, rfl⟩; rw [← hcs]; have HI : Hid ((Tryz.prog.info? 35).map (·.size) = some cs.length) := Lib.hid (by rw [hcs]; exact cfg_info q hq.1); have H1 : Hid (cs.toArray.all (·.oneCell') = true) := Lib.hid (by rw [hcs]; exact cfg_one q); have HL : Hid (cs.length = 39) := Lib.hid (by rw [hcs]; exact cfg_len q hq.1); have HCS := Lib.hid hcs; have HK : Hid (g + 2 ≤ w3.heap.size) := Lib.hid (by have := hb3.size; have := HSZ.out; omega); clear hcs hq hb3 d0 d1 d2 d3 d4 d5 d6 d7)
    | (refine wpList_newCfg rfl rfl ?_; rintro w4 hw4; have RA : Row w4 w3.heap.size 35 zCfg := (by rw [hw4]; exact heap_alloc_new _ _); have b4 : Below w.heap.size w w4 := (by rw [hw4]; exact b3.alloc b3.size _); have RC4 : Row w4 g _ _ := (by rw [hw4]; exact (heap_alloc_old _ _ (by have := HK.out; omega)).trans RC3); have RR4 : Row w4 (g + 1) _ _ := (by rw [hw4]; exact (heap_alloc_old _ _ (by have := HK.out; omega)).trans RR3); have hs4 : w4.heap.size = w3.heap.size + 1 := (by rw [hw4]; simp); have HS4 := Lib.hid hs4; clear hw4 hs4 RC3 RR3 b3)
    | (refine Row.store RA rfl 35 (.tmp 4) (.tmp 12) rfl rfl rfl HI.out (by rw [HL.out]; rfl) H1.out ?_; rintro w5 hw5 r5; have b5 : Below w.heap.size w w5 := (by rw [hw5]; exact b4.grown (grown_setRow _ _ _) b4.size (fun k hk => by cases hk; have := HK.out; have := HG.out; omega)); have RC5 : Row w5 g _ _ := (by rw [hw5]; exact RC4.other (by have := HK.out; omega) _); have RR5 : Row w5 (g + 1) _ _ := (by rw [hw5]; exact RR4.other (by have := HK.out; omega) _); clear hw5 RA b4 RC4 RR4))
  have HP := pOf_any x.A x.n x.c l w5 (HR.out.step b5)
  have z7 : w5.cell? ⟨g, 7, none⟩ = some (.slice x.A x.n x.c) := RC5.cell rfl
  go_upto_region 3 with (first | (go_at_call 23; refine HP.mono ?_; rintro e w6 ⟨v, ps, rfl, hrow, hb6⟩))
  have b6 : Below w.heap.size w w6 := b5.trans (hb6.mono b5.size)
  have hlt5 := r5.lt
  have r6 := r5.below hb6 hlt5
  have RR6 := RR5.below hb6 RR5.lt
  have hrow' := RowP.below hrow (Below.refl w6.heap.size w6) (Nat.le_refl _)
  obtain ⟨vA, vc, rfl, _, _⟩ := own_slice hrow.2.2
  have HROW := Lib.hid hrow
  have R6 := Lib.hid r6
  have S6 := Lib.hid RR6
  have B6 := Lib.hid b6
  have HB56 := Lib.hid (Nat.lt_of_lt_of_le hlt5 hb6.size)
  clear hrow hrow' r6 RR6 b6 hb6 hlt5 r5 RC5 RR5 b5 HP z7
  go_wp2
  go_loopw [6, 7] (fun u i wr => ∃ k : Nat, i = .int .i64 k ∧ (k : Int) ≤ q.cl ∧ Below w6.heap.size w6 wr ∧ ∃ xs : List Value, wr.ownsRow w6.heap.size 66 1 u k xs) (fun _ i _ => q.cl.toNat - (intOf i).toNat)
  case atStart => exact ⟨0, rfl, by have := HQ.out.2.2.2; simp; omega, Below.refl _ _, [], World.ownsRow_nil _ _ _ _⟩
  case round =>
    obtain ⟨k, rfl, hk, hb, xs, hown⟩ := hrel
    obtain ⟨wo, hwo⟩ : ∃ wo, wo = wr := ⟨wr, rfl⟩
    subst hwo
    have k3 : cs[3]? = some (.int .i64 q.cl) := by rw [HCS.out]; rfl
    have h3 : wo.cell? ⟨w3.heap.size, 3, none⟩ = some (.int .i64 q.cl) := (R6.out.below hb HB56.out).cell k3
    have HB := Lib.hid hb
    have HOWN := Lib.hid hown
    clear hb hown k3
    by_cases hkc : (k : Int) < q.cl
    · have hd1 : decide ((k : Int) < q.cl) = true := by simpa using hkc
      go_wp2
      go_loopw [8, 9] (fun u i wi => ∃ j : Nat, i = .int .i64 j ∧ j ≤ 3 ∧ Below wo.heap.size wo wi ∧ ∃ ys : List Value, wi.ownsRow wo.heap.size 65 3 u j ys) (fun _ i _ => 4 - (intOf i).toNat)
      case atStart => exact ⟨0, rfl, by omega, Below.refl _ _, [], World.ownsRow_nil _ _ _ _⟩
      case round =>
        obtain ⟨j, rfl, hj3, hb2, ys, hown2⟩ := hrel
        have HB2 := Lib.hid hb2
        have HOWN2 := Lib.hid hown2
        have hb6r : Below w6.heap.size w6 wr := HB.out.trans (hb2.mono HB.out.size)
        have hrow := RowP.below HROW.out hb6r (Nat.le_refl _)
        have HROW2 := Lib.hid hrow
        have r4 := R6.out.below hb6r HB56.out
        have g0 : wr.cell? ⟨w3.heap.size, 0, none⟩ = some (.int .i64 q.bl) := r4.cell (by rw [HCS.out]; rfl)
        have hlt : w3.heap.size < wr.heap.size := r4.lt
        have HL4 := Lib.hid r4
        clear hb2 hown2 hb6r hrow r4
        by_cases hkn : k < ps.length
        · have hd2 : decide ((k : Int) < (ps.length : Int)) = true := by simp; omega
          obtain ⟨vA2, vc2, hv2, _, hrd⟩ := own_slice HROW2.out.2.2
          obtain ⟨ad, hA, had, c0⟩ := hrd.atP hkn
          have hp := HROW2.out.2.1 ps[k] (List.getElem_mem _)
          generalize hpk : ps[k] = pk at c0 hp
          obtain ⟨pA, pn, pc, po⟩ := pk
          obtain ⟨pA2, pc2, hv3, _, hrd2⟩ := own_slice hp.2
          have HPO := Lib.hid hrd2.lenO
          have HPL := Lib.hid hp.1
          have e1 : pA2 = pA ∧ pc2 = pc := by
            have := hv3
            simp only [PgV.val, Value.slice.injEq] at this
            exact ⟨this.1.symm, this.2.2.symm⟩
          obtain ⟨rfl, rfl⟩ := e1
          have e2 : vA2 = vA := by
            have := hv2
            simp only [Value.slice.injEq] at this
            exact this.1.symm
          subst e2
          subst hA
          clear hv2 hv3
          by_cases hjp : j < pn
          · have hd3 : decide ((j : Int) < (pn : Int)) = true := by simp; omega
            obtain ⟨ad2, hA2, had2, c1, c2, c3⟩ := hrd2.atO (k := j) (by have := HPO.out; simp at this ⊢; omega)
            subst hA2
            generalize hoj : po[j]'(by have := HPO.out; simp at this ⊢; omega) = oj at c1 c2 c3
            have g1 : q.bl ≠ 0 := by have := HQ.out.2.1; omega
            have HCD : Hid (wr.heap.size = wr.heap.size) := Lib.hid rfl
            have hj3' : j < 3 := by have := HPL.out; have := HPO.out; simp at *; omega
            by_cases hgt : oj.i > q.bl
            · have hd4 : decide (oj.i > q.bl) = true := by simpa using hgt
              go_wp2_with (at_builtin; refine wpList_append_rd _ rfl (.tmp 55) (.tmp 57) _ rfl wo.heap.size 65 i0 _ 3 40 Tryz.underlying66 hi hz0 hz1 hz2 rfl (by decide) _ _ _ rfl ((HOWN2.out.alloc _).alloc _) _ _ 1 _ [.int .u8 oj.k, .int .i64 (Int.tmod oj.i q.bl), .slice oj.A oj.n oj.c] rfl (Rd.lit1 ?ac0 rfl) ?ac1 ?ac2 ?ac3 ?ac4 ?_)
              case ac1 => first | exact ⟨rfl, rfl, rfl⟩ | exact fun u hu => (by simp only [List.mem_cons, List.not_mem_nil, or_false] at hu; rcases hu with h | h | h <;> (rw [h]; rfl))
              case ac2 => unfold maxLen; omega
              case ac3 => omega
              case ac4 => have := HB2.out.size; simp; omega
              intro v' w7 hown' hgrow hat
              have hbt' := below_grown ((HB2.out.alloc HB2.out.size _).alloc (by have := HB2.out.size; simp; omega) _) hgrow (by have := HB2.out.size; simp; omega) ((HOWN2.out.alloc _).alloc _)
              clear hgrow hat
              go_wp2
              go_roundw
              case rel => exact ⟨j + 1, by go_num, by omega, hbt', _, hown'⟩
              case measure => simp [intOf]; omega
            · have hd4 : decide (oj.i > q.bl) = false := by simpa using hgt
              go_wp2_with (at_builtin; refine wpList_append_rd _ rfl (.tmp 55) (.tmp 57) _ rfl wo.heap.size 65 i0 _ 3 40 Tryz.underlying66 hi hz0 hz1 hz2 rfl (by decide) _ _ _ rfl ((HOWN2.out.alloc _).alloc _) _ _ 1 _ [.int .u8 oj.k, .int .i64 oj.i, .slice oj.A oj.n oj.c] rfl (Rd.lit1 ?bc0 rfl) ?bc1 ?bc2 ?bc3 ?bc4 ?_)
              case bc1 => first | exact ⟨rfl, rfl, rfl⟩ | exact fun u hu => (by simp only [List.mem_cons, List.not_mem_nil, or_false] at hu; rcases hu with h | h | h <;> (rw [h]; rfl))
              case bc2 => unfold maxLen; omega
              case bc3 => omega
              case bc4 => have := HB2.out.size; simp; omega
              intro v' w7 hown' hgrow hat
              have hbt' := below_grown ((HB2.out.alloc HB2.out.size _).alloc (by have := HB2.out.size; simp; omega) _) hgrow (by have := HB2.out.size; simp; omega) ((HOWN2.out.alloc _).alloc _)
              clear hgrow hat
              go_wp2
              go_roundw
              case rel => exact ⟨j + 1, by go_num, by omega, hbt', _, hown'⟩
              case measure => simp [intOf]; omega
          · have hd3 : decide ((j : Int) < (pn : Int)) = false := by simp; omega
            obtain ⟨eA, ec, rfl, _, _⟩ := own_slice HOWN2.out
            have OUT : wr.ownsRow w6.heap.size 66 1 _ k xs := own_below HOWN.out HB2.out (Nat.le_refl _)
            have hbt : Below w6.heap.size w6 wr := HB.out.trans (HB2.out.mono HB.out.size)
            have hk3 : k < 3 := by have := HQ.out.2.2.2; omega
            clear g0 hlt
            go_wp2_with (at_builtin; refine wpList_append_rd _ rfl (.tmp 59) (.tmp 61) _ rfl w6.heap.size 66 j0 _ 1 24 Tryz.underlying36 hj hy0 hy1 hy2 rfl (by decide) _ _ _ rfl (OUT.alloc _) _ _ 1 _ [.slice eA j ec] rfl (Rd.lit1 ?dc0 rfl) ?dc1 ?dc2 ?dc3 ?dc4 ?_)
            case dc0 => first | rfl | simp
            case dc1 => first | rfl | exact fun u hu => (by rw [List.mem_singleton.1 hu]; rfl)
            case dc2 => unfold maxLen; omega
            case dc3 => omega
            case dc4 => have := hbt.size; simp; omega
            intro v' w7 hown' hgrow hat
            have hbt' := below_grown (hbt.alloc hbt.size _) hgrow (by have := hbt.size; simp; omega) (OUT.alloc _)
            clear hgrow hat OUT hbt
            go_wp2
            go_roundw
            case rel => exact ⟨k + 1, by go_num, by omega, hbt', _, hown'⟩
            case measure => simp [intOf]; omega
        · have hd2 : decide ((k : Int) < (ps.length : Int)) = false := by simp; omega
          obtain ⟨eA, ec, rfl, _, _⟩ := own_slice HOWN2.out
          have OUT : wr.ownsRow w6.heap.size 66 1 _ k xs := own_below HOWN.out HB2.out (Nat.le_refl _)
          have hbt : Below w6.heap.size w6 wr := HB.out.trans (HB2.out.mono HB.out.size)
          have hk3 : k < 3 := by have := HQ.out.2.2.2; omega
          clear g0 hlt
          go_wp2_with (at_builtin; refine wpList_append_rd _ rfl (.tmp 59) (.tmp 61) _ rfl w6.heap.size 66 j0 _ 1 24 Tryz.underlying36 hj hy0 hy1 hy2 rfl (by decide) _ _ _ rfl (OUT.alloc _) _ _ 1 _ [.slice eA j ec] rfl (Rd.lit1 ?ec0 rfl) ?ec1 ?ec2 ?ec3 ?ec4 ?_)
          case ec0 => first | rfl | simp
          case ec1 => first | rfl | exact fun u hu => (by rw [List.mem_singleton.1 hu]; rfl)
          case ec2 => unfold maxLen; omega
          case ec3 => omega
          case ec4 => have := hbt.size; simp; omega
          intro v' w7 hown' hgrow hat
          have hbt' := below_grown (hbt.alloc hbt.size _) hgrow (by have := hbt.size; simp; omega) (OUT.alloc _)
          clear hgrow hat OUT hbt
          go_wp2
          go_roundw
          case rel => exact ⟨k + 1, by go_num, by omega, hbt', _, hown'⟩
          case measure => simp [intOf]; omega
    · have hd1 : decide ((k : Int) < q.cl) = false := by simpa using hkc
      have rX := R6.out.below HB.out HB56.out
      have sX := S6.out.below HB.out (by have := HB56.out; have := HK.out; omega)
      obtain ⟨lA, lc, rfl, _, _⟩ := own_slice HOWN.out
      have bX : Below w.heap.size w wo := B6.out.trans (HB.out.mono B6.out.size)
      go_upto_region 16 with (fail)
      refine wp_region_lit ?_
      refine wpList_load_row rfl 35 (.tmp 4) rfl w3.heap.size rfl 35 cs.toArray (0, 0) _ rX Tryz.underlying35 rfl (by rw [List.size_toArray]; exact HI.out) ?_
      go_wp2_with (first | (refine Row.store sX rfl 35 (.tmp 2) (.tmp 63) rfl rfl rfl HI.out (by rw [HL.out]; rfl) H1.out ?_; rintro wF hwF rF; have bF : Below w.heap.size w wF := (by rw [hwF]; exact bX.grown (grown_setRow _ _ _) bX.size (fun k hk => by cases hk; have := HG.out; omega)); clear hwF rX sX bX))
      exact bodyPost_ret (v := .tuple #[.agg cs.toArray, .slice lA k lc]) (results_two2 Tryz.results10 _ _ (g + 1) 35 cs.toArray (0, 0) _ rfl rF Tryz.underlying35 rfl (by rw [List.size_toArray]; exact HI.out)) rfl (by first | exact ⟨q, ⟨lA, k, lc, by rw [HCS.out]⟩, HQ.out, bF⟩ | exact ⟨q, lA, k, lc, by rw [HCS.out], HQ.out, bF⟩)
end Go.Proofs.YtnpnljgjloofkaaGreatDoor
