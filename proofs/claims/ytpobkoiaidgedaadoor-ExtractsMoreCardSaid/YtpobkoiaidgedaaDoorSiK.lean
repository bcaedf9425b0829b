/- The reference's Forgery. -/
import Derived.Test.YtpobkoiaidgedaaDoorSiJ
namespace Go.Proofs.YtpobkoiaidgedaaDoor
open Go.RowKit

def RForgP (mk : List B8) (ls lf : List Msg) (w : World) (e : Ending) (w' : World) : Prop :=
  ((∃ (k : Nat) (x : Msg), lf[k]? = some x ∧ forgB mk ls x = true ∧ (∀ (j : Nat) (y : Msg), j < k → lf[j]? = some y → forgB mk ls y = false) ∧ e = .returned (.int .i64 (k : Int))) ∨ ((∀ y ∈ lf, forgB mk ls y = false) ∧ e = .returned (.int .i64 (-1)))) ∧ Below w.heap.size w w'
theorem any_take {α : Type} (p : α → Bool) (l : List α) (k : Nat) (x : α) (h : l[k]? = some x) : (l.take (k + 1)).any p = ((l.take k).any p || p x) := by
  obtain ⟨hk, rfl⟩ := List.getElem?_eq_some_iff.1 h
  rw [List.take_succ_eq_append_getElem hk, List.any_append]; simp
theorem forgB_ref (mk : List B8) (ls : List Msg) (m : Msg) : (!(ls.any fun x => x.same m) && decide (m.t = hmacF mk m.body)) = forgB mk ls m := by
  unfold forgB
  rw [Bool.and_comm]
  congr 1
  rw [Bool.eq_iff_iff, decide_eq_true_iff, decide_eq_true_iff]
  exact eq_comm

set_option maxRecDepth 100000 in
set_option maxHeartbeats 8000000 in
theorem refForgery_any (mk : List B8) (ls lf : List Msg) (vm vs vl vf vp : Value) (w : World) (hmk : mk.length = 32) (hls : ∀ x ∈ ls, x.ok) (hlf : ∀ x ∈ lf, x.ok) (hln : ls.length < 1000000) (hfn : lf.length < 1000000)
    (hos : w.ownsRow 0 54 67 vs ls.length (ls.map Msg.cells).flatten) (hof : w.ownsRow 0 54 67 vf lf.length (lf.map Msg.cells).flatten) :
    Calls Tryd.prog 11 #[.agg #[vm, vs, vl, vf, vp], .agg (cells8 mk).toArray] w (RForgP mk ls lf w) := by
  have HKM := Lib.hid hmk
  have HLS := Lib.hid hls
  have HLF := Lib.hid hlf
  have HIM := Lib.hid (fun (x : Msg) (hx : x.ok) => (show (Tryd.prog.info? 54).map (·.size) = some x.cells.length by rw [Msg.len hx]; kernel_rfl))
  have HIM2 := Lib.hid (fun (x : Msg) (hx : x.ok) => (show (Tryd.prog.info? 54).map (·.size) = some x.cells.toArray.size by rw [List.size_toArray, Msg.len hx]; kernel_rfl))
  have HIB := Lib.hid (fun (x : Msg) (hx : x.ok) => (show (Tryd.prog.info? 52).map (·.size) = some (cells8 x.d).length by rw [cells8_len, hx.2.2.1]; kernel_rfl))
  have HIK := Lib.hid (show (Tryd.prog.info? 43).map (·.size) = some (cells8 mk).toArray.size by rw [List.size_toArray, cells8_len, hmk]; kernel_rfl)
  obtain ⟨As, cs, hvs, _, _⟩ := own_slice hos
  obtain ⟨Af, cf, hvf, _, _⟩ := own_slice hof
  have HVS := Lib.hid hvs
  have HVF := Lib.hid hvf
  obtain ⟨ns, hns⟩ : ∃ n, n = ls.length := ⟨_, rfl⟩
  obtain ⟨nf, hnf⟩ : ∃ n, n = lf.length := ⟨_, rfl⟩
  have hnsI : (ns : Int) < 1000000 := by omega
  have hnfI : (nf : Int) < 1000000 := by omega
  rw [hvs, hvf, ← hns, ← hnf]
  have HNS := Lib.hid hns
  have HNF := Lib.hid hnf
  clear hmk hls hlf hln hfn hvs hvf hns hnf
  go_enter Tryd.func11, Tryd.ntmps11
  go_upto_region 1 with (fail)
  obtain ⟨wz, hwz⟩ : ∃ wz, wz = ((w.alloc (.cells #[vm, .slice As ns cs, vl, .slice Af nf cf, vp] 30)).alloc (.cells (cells8 mk).toArray 43)) := ⟨_, rfl⟩
  obtain ⟨g2, h2⟩ : ∃ g, g = w.heap.size := ⟨_, rfl⟩
  obtain ⟨g3, h3⟩ : ∃ g, g = w.heap.size + 1 := ⟨_, rfl⟩
  have hb : Below w.heap.size w wz := by rw [hwz]; exact below_alloc2 (Below.refl _ _)
  have r2z : Row wz g2 30 [vm, .slice As ns cs, vl, .slice Af nf cf, vp] := by
    have h0 : Row (w.alloc (.cells #[vm, .slice As ns cs, vl, .slice Af nf cf, vp] 30)) w.heap.size 30 [vm, .slice As ns cs, vl, .slice Af nf cf, vp] := heap_alloc_new _ _
    rw [hwz, h2]; exact h0.step ((Below.refl _ _).alloc (Nat.le_refl _) _)
  have r3z : Row wz g3 43 (cells8 mk) := by rw [hwz, h3]; exact heap_new_at (by simp)
  have HOS := Lib.hid (own_below hos hb (Nat.le_refl _))
  have HOF := Lib.hid (own_below hof hb (Nat.le_refl _))
  have HB := Lib.hid hb
  have R2Z := Lib.hid r2z
  have R3Z := Lib.hid r3z
  rw [← hwz, ← h3, ← h2]
  clear hwz h2 h3 hos hof hb r2z r3z
  go_wp2
  go_loopw [5, 6, 7, 8, 9] (fun i _ _ _ _ wr => ∃ q : Nat, q ≤ nf ∧ i = .int .i64 (q : Int) ∧ (∀ (j : Nat) (y : Msg), j < q → lf[j]? = some y → forgB mk ls y = false) ∧ Below wz.heap.size wz wr) (fun i _ _ _ _ _ => nf - (intOf i).toNat)
  case atStart => exact ⟨0, Nat.zero_le _, rfl, fun j y h => absurd h (Nat.not_lt_zero _), Below.refl _ _⟩
  case round =>
    obtain ⟨q, hq, rfl, hno, hbz⟩ := hrel
    have HNO := Lib.hid hno
    clear hno
    have r2 := R2Z.out.below hbz R2Z.out.lt
    have c3 : wr.cell? ⟨g2, 3, none⟩ = some (.slice Af nf cf) := r2.cell rfl
    by_cases hlt : q < nf
    · have hd : decide ((q : Int) < (nf : Int)) = true := by simp; omega
      have hqn : (q : Int) < (nf : Int) := by omega
      obtain ⟨m, hmq⟩ : ∃ m, lf[q]? = some m := ⟨_, List.getElem?_eq_getElem (by rw [← HNF.out]; exact hlt)⟩
      have hmok := HLF.out m (List.mem_of_getElem? hmq)
      obtain ⟨gf, cp, hvs, hgs, hrg⟩ := own_elem HOF.out (fun c hc => by obtain ⟨x, hx, rfl⟩ := List.mem_map.1 hc; exact Msg.len (HLF.out x hx)) q m.cells (by rw [List.getElem?_map, hmq]; rfl) (by rw [← HNF.out]; exact hlt)
      have hA : Af = some ⟨gf, 0, none⟩ ∧ cf = cp := by
        have h := HVF.out.symm.trans hvs
        injection h with a b c
        exact ⟨a, c⟩
      obtain ⟨rfl, rfl⟩ := hA
      have hrgw : wr.rangeAt gf (q * 67) m.cells := fun j u hu => (hbz.cell (p := ⟨gf, q * 67 + j, none⟩) hgs).trans (hrg j u hu)
      have HMC := Lib.hid (HIM.out m hmok)
      have HMC2 := Lib.hid (HIM2.out m hmok)
      have HZC := Lib.hid (show Msg.zero.cells.length = m.cells.length by rw [Msg.len hmok]; rfl)
      have HC1 := Lib.hid (all_oneCell_toArray (Msg.one m))
      have S0 : Hid (Row (wr.alloc (.cells Msg.zero.cells.toArray 54)) wr.heap.size 54 Msg.zero.cells) := Lib.hid (heap_alloc_new _ _)
      have HRG := Lib.hid hrgw
      have HMQ := Lib.hid hmq
      have HMOK := Lib.hid hmok
      clear hgs hrg hrgw hvs hmq hmok r2
      go_upto_region 5 with (first
        | (refine wpList_load_mid rfl 54 (.tmp 20) rfl gf (q * 67) rfl m.cells _ HRG.out Tryd.underlying54 rfl HMC.out ?_)
        | (refine Row.store (g := wr.heap.size) (t := 54) (L := Msg.zero.cells) (M := m.cells) S0.out rfl 54 (.tmp 6) (.tmp 21) rfl rfl rfl HMC.out HZC.out HC1.out ?_; rintro w2 hw2 r6; have b12 : Below wr.heap.size wr w2 := (by rw [hw2]; exact ((Below.refl _ _).alloc (Nat.le_refl _) _).grown (grown_setRow _ _ _) (by simp) (fun k hk => by cases hk; exact Nat.le_refl _)); clear hw2))
      obtain ⟨g6, hg6⟩ : ∃ g, g = wr.heap.size := ⟨_, rfl⟩
      rw [← hg6] at r6 ⊢
      have bz2 := hbz.trans (b12.mono hbz.size)
      obtain ⟨w2', hw2'⟩ : ∃ x, x = w2 := ⟨_, rfl⟩
      rw [← hw2'] at r6 bz2 ⊢
      have R6 := Lib.hid r6
      have BZ2 := Lib.hid bz2
      clear hg6 S0 b12 hbz HRG c3 hw2' hd r6 bz2
      try simp only [Act.put]
      go_wp2
      obtain ⟨wo, hwo⟩ : ∃ wo : World, wo = wr := ⟨_, rfl⟩
      clear hwo
      go_loopw [7, 8, 9] (fun b i _ wr => ∃ k : Nat, k ≤ ns ∧ i = .int .i64 (k : Int) ∧ b = .bool ((ls.take k).any fun x => x.same m) ∧ Row wr g6 54 m.cells ∧ Below wz.heap.size wz wr) (fun _ i _ _ => ns - (intOf i).toNat)
      case atStart => exact ⟨0, Nat.zero_le _, rfl, rfl, R6.out, BZ2.out⟩
      case round =>
        clear R6 BZ2
        obtain ⟨k, hk, rfl, rfl, r6, hbz⟩ := hrel
        have r2 := R2Z.out.below hbz R2Z.out.lt
        have c1 : wr.cell? ⟨g2, 1, none⟩ = some (.slice As ns cs) := r2.cell rfl
        obtain ⟨mb, hmb⟩ : ∃ mb, mb = ((ls.take k).any fun x => x.same m) := ⟨_, rfl⟩
        rw [← hmb]
        by_cases hlk : k < ns
        · have hd : decide ((k : Int) < (ns : Int)) = true := by simp; omega
          have hkn : (k : Int) < (ns : Int) := by omega
          obtain ⟨x, hxk⟩ : ∃ x, ls[k]? = some x := ⟨_, List.getElem?_eq_getElem (by rw [← HNS.out]; exact hlk)⟩
          have hxok := HLS.out x (List.mem_of_getElem? hxk)
          obtain ⟨gs, cp, hvs, hgs, hrg⟩ := own_elem HOS.out (fun c hc => by obtain ⟨x, hx, rfl⟩ := List.mem_map.1 hc; exact Msg.len (HLS.out x hx)) k x.cells (by rw [List.getElem?_map, hxk]; rfl) (by rw [← HNS.out]; exact hlk)
          have hA : As = some ⟨gs, 0, none⟩ ∧ cs = cp := by
            have h := HVS.out.symm.trans hvs
            injection h with a b c
            exact ⟨a, c⟩
          obtain ⟨rfl, rfl⟩ := hA
          have hrgw : wr.rangeAt gs (k * 67) x.cells := fun j u hu => (hbz.cell (p := ⟨gs, k * 67 + j, none⟩) hgs).trans (hrg j u hu)
          have HXC := Lib.hid (HIM.out x hxok)
          have HZX := Lib.hid (show Msg.zero.cells.length = x.cells.length by rw [Msg.len hxok]; rfl)
          have HX1 := Lib.hid (all_oneCell_toArray (Msg.one x))
          have S0 : Hid (Row (wr.alloc (.cells Msg.zero.cells.toArray 54)) wr.heap.size 54 Msg.zero.cells) := Lib.hid (heap_alloc_new _ _)
          have HRG := Lib.hid hrgw
          have HTK : Hid ((ls.take (k + 1)).any (fun x => x.same m) = (mb || x.same m)) := by unfold Hid; rw [any_take _ ls k x hxk, hmb]
          have HSM : Hid (x.same m = (decide (x.i = m.i) && (decide (x.x = m.x ∧ x.v = m.v) && decide (x.d = m.d)))) := rfl
          have HBx := Lib.hid (HIB.out x hxok)
          have HBm := Lib.hid (HIB.out m HMOK.out)
          have hq3 := fun w => eql_block w x.d m.d hxok.2.2.1 HMOK.out.2.2.1
          have hq2 := fun w => eql_nonce w x.x m.x x.v m.v
          clear hgs hrg hrgw hvs hxk hxok r2 hmb
          go_upto_region 10 with (first
            | (refine wpList_load_mid rfl 54 (.tmp 32) rfl gs (k * 67) rfl x.cells _ HRG.out Tryd.underlying54 rfl HXC.out ?_)
            | (refine Row.store (g := wr.heap.size) (t := 54) (L := Msg.zero.cells) (M := x.cells) S0.out rfl 54 (.tmp 9) (.tmp 33) rfl rfl rfl HXC.out HZX.out HX1.out ?_; rintro w3 hw3 r9; have b13 : Below wr.heap.size wr w3 := (by rw [hw3]; exact ((Below.refl _ _).alloc (Nat.le_refl _) _).grown (grown_setRow _ _ _) (by simp) (fun k hk => by cases hk; exact Nat.le_refl _)); clear hw3))
          obtain ⟨g9, hg9⟩ : ∃ g, g = wr.heap.size := ⟨_, rfl⟩
          rw [← hg9] at r9 ⊢
          replace r6 := r6.step b13
          have b9 := hbz.trans (b13.mono hbz.size)
          have c9 : w3.cell? ⟨g9, 0, none⟩ = some (.int .i64 (x.i : Int)) := r9.cell rfl
          have c6 : w3.cell? ⟨g6, 0, none⟩ = some (.int .i64 (m.i : Int)) := r6.cell rfl
          clear hg9 S0 b13 hbz HRG c1 hd
          try simp only [Act.put]
          cases mb with
          | true =>
            clear hq2 hq3
            go_wp2
            go_roundw
            case rel => exact ⟨k + 1, by omega, by go_num, by rw [HTK.out]; rfl, r6, b9⟩
            case measure => simp [intOf]; omega
          | false =>
          by_cases q1 : x.i = m.i
          · have q1' : ((x.i : Int) == (m.i : Int)) = true := by simp [q1]
            by_cases q2 : x.x = m.x ∧ x.v = m.v
            · have q2' : decide (x.x = m.x ∧ x.v = m.v) = true := by simp [q2]
              obtain ⟨qd, hqd⟩ : ∃ b, b = decide (x.d = m.d) := ⟨_, rfl⟩
              have QV : Hid (x.same m = qd) := by unfold Hid; rw [HSM.out, q2', hqd]; simp [q1]
              rw [q2'] at hq2
              rw [← hqd] at hq3
              clear q1 q2 q2' hqd
              go_wp2_with (first
              | (refine wpList_want rfl (exec_load_mid 51 (.tmp 42) rfl g9 1 rfl (nonC x.x x.v) _ r9.nonceAt Tryd.underlying51 rfl (by kernel_rfl)) ?_)
              | (refine wpList_want rfl (exec_load_mid 51 (.tmp 44) rfl g6 1 rfl (nonC m.x m.v) _ r6.nonceAt Tryd.underlying51 rfl (by kernel_rfl)) ?_)
              | (refine wpList_want rfl (exec_load_mid 52 (.tmp 49) rfl g9 3 rfl (cells8 x.d) _ r9.dataAt Tryd.underlying52 rfl HBx.out) ?_)
              | (refine wpList_want rfl (exec_load_mid 52 (.tmp 51) rfl g6 3 rfl (cells8 m.d) _ r6.dataAt Tryd.underlying52 rfl HBm.out) ?_))
              go_roundw
              case rel => exact ⟨k + 1, by omega, by go_num, by rw [HTK.out, QV.out, Bool.false_or], r6, b9⟩
              case measure => simp [intOf]; omega
            · have q2' : decide (x.x = m.x ∧ x.v = m.v) = false := by simp [q2]
              have QV : Hid (x.same m = false) := by unfold Hid; rw [HSM.out, q2']; simp
              rw [q2'] at hq2
              clear q1 q2 q2'
              go_wp2_with (first
              | (refine wpList_want rfl (exec_load_mid 51 (.tmp 42) rfl g9 1 rfl (nonC x.x x.v) _ r9.nonceAt Tryd.underlying51 rfl (by kernel_rfl)) ?_)
              | (refine wpList_want rfl (exec_load_mid 51 (.tmp 44) rfl g6 1 rfl (nonC m.x m.v) _ r6.nonceAt Tryd.underlying51 rfl (by kernel_rfl)) ?_))
              go_roundw
              case rel => exact ⟨k + 1, by omega, by go_num, by rw [HTK.out, QV.out, Bool.false_or], r6, b9⟩
              case measure => simp [intOf]; omega
          · have q1' : ((x.i : Int) == (m.i : Int)) = false := by simp; omega
            have q1'' : ¬ (x.i : Int) = (m.i : Int) := by omega
            have QV : Hid (x.same m = false) := by unfold Hid; rw [HSM.out]; simp [q1]
            clear q1 hq2 hq3
            go_wp2
            go_roundw
            case rel => exact ⟨k + 1, by omega, by go_num, by rw [HTK.out, QV.out, Bool.false_or], r6, b9⟩
            case measure => simp [intOf]; omega
        · have hkn : k = ns := by omega
          have hd : decide ((k : Int) < (ns : Int)) = false := by simp; omega
          have HMB : Hid (mb = (ls.any fun x => x.same m)) := by unfold Hid; rw [hmb, hkn, HNS.out, List.take_length]
          have r3 := R3Z.out.below hbz R3Z.out.lt
          clear hkn r2 hmb
          cases mb with
          | true =>
            have HFB : Hid (forgB mk ls m = false) := by unfold Hid forgB; rw [← HMB.out]; simp
            go_wp2
            go_roundw
            case rel => exact ⟨q + 1, by omega, by go_num, fun j y hj hy => by
              rcases Nat.lt_or_ge j q with h | h
              · exact HNO.out j y h hy
              · have e : j = q := by omega
                subst e
                have := hy.symm.trans HMQ.out
                cases this; exact HFB.out, hbz⟩
            case measure => simp [intOf]; omega
          | false =>
            go_wp2_with (first
              | (refine wpList_want rfl (exec_load_row 54 (.tmp 6) rfl g6 rfl 54 m.cells.toArray (0, 0) _ r6 Tryd.underlying54 rfl HMC2.out) ?_)
              | (refine wpList_want rfl (exec_load_row 43 (.tmp 3) rfl g3 rfl 43 (cells8 mk).toArray (0, 0) _ r3 Tryd.underlying43 rfl HIK.out) ?_)
              | (go_at_call 23; fail))
            refine (accepted_any m HMOK.out mk HKM.out _).mono ?_
            rintro e w4 ⟨rfl, hx⟩
            have b4 := hbz.trans (hx.mono hbz.size)
            obtain ⟨acc, hacc⟩ : ∃ a, a = decide (m.t = hmacF mk m.body) := ⟨_, rfl⟩
            have HFB : Hid (forgB mk ls m = acc) := by unfold Hid; rw [← forgB_ref, ← HMB.out, hacc]; rfl
            rw [← hacc]
            clear hx hbz r6 r3 hacc c1
            cases acc with
            | true =>
              go_wp2
              go_ret
              exact ⟨.inl ⟨q, m, HMQ.out, HFB.out, HNO.out, rfl⟩, HB.out.trans (b4.mono HB.out.size)⟩
            | false =>
              go_wp2
              go_roundw
              case rel => exact ⟨q + 1, by omega, by go_num, fun j y hj hy => by
                rcases Nat.lt_or_ge j q with h | h
                · exact HNO.out j y h hy
                · have e : j = q := by omega
                  subst e
                  have := hy.symm.trans HMQ.out
                  cases this; exact HFB.out, b4⟩
              case measure => simp [intOf]; omega
    · have hqn : q = nf := by omega
      have hd : decide ((q : Int) < (nf : Int)) = false := by simp; omega
      have HQ := Lib.hid hqn
      clear hqn r2
      go_wp2
      go_ret
      refine ⟨.inr ⟨fun y hy => ?_, rfl⟩, HB.out.trans (hbz.mono HB.out.size)⟩
      obtain ⟨j, hj⟩ := List.getElem?_of_mem hy
      exact HNO.out j y (by rw [HQ.out, HNF.out]; exact (List.getElem?_eq_some_iff.1 hj).1) hj
end Go.Proofs.YtpobkoiaidgedaaDoor
