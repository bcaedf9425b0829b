/- Cycle: the walk. -/
import Derived.Test.YtfdfadebfdmdgaaLkU
import Derived.Deep.LoopGhost
import Derived.Deep.RegionHeld3
namespace Go.Proofs.Ytfdfadebfdmdgaa
open Go.RowKit Go.Maps

def slLen : Value → Nat
  | .slice _ n _ => n
  | _ => 0
theorem slLen_slice (A : Option Addr) (n c : Nat) : slLen (.slice A n c) = n := rfl
theorem lookup_val {D : DataW Nat} {x c to : Int} (h : D.atKey (.int .i64 x) (.lit (.int .i64 0)) = .lit (.int .i64 c)) (h2 : ∀ z, D.atKey (.int .i64 x) z = .lit (.int .i64 to)) : c = to := by
  rw [h2] at h; injection h with h; injection h with _ h; exact h.symm
theorem cyc_none {p : Int → Option Int} {s cur : Int} {way : List Int} {q : Nat} (hq : q < 16) (h : p cur = none) : cycWalk p s (16 - q) cur way = none := by
  rw [show 16 - q = (15 - q) + 1 by omega, cycWalk, h]
theorem cyc_hit {p : Int → Option Int} {s cur : Int} {way : List Int} {q : Nat} (hq : q < 16) (h : p cur = some s) : cycWalk p s (16 - q) cur way = some way := by
  rw [show 16 - q = (15 - q) + 1 by omega, cycWalk, h]; simp
theorem cyc_back {p : Int → Option Int} {s cur to : Int} {way : List Int} {q : Nat} (hq : q < 16) (h : p cur = some to) (hne : ¬ to = s) (ha : way.any (fun y => to == y) = true) : cycWalk p s (16 - q) cur way = none := by
  rw [show 16 - q = (15 - q) + 1 by omega, cycWalk, h]; simp only []; rw [if_neg hne, if_pos ha]
theorem cyc_on {p : Int → Option Int} {s cur to : Int} {way : List Int} {q : Nat} (hq : q < 16) (h : p cur = some to) (hne : ¬ to = s) (ha : way.any (fun y => to == y) = false) : cycWalk p s (16 - q) cur way = cycWalk p s (16 - (q + 1)) to (way ++ [to]) := by
  rw [show 16 - q = (15 - q) + 1 by omega, cycWalk, h]; simp only []; rw [if_neg hne, if_neg (by rw [ha]; simp), show 16 - (q + 1) = 15 - q by omega]
theorem nodup_snoc {l : List Int} {x : Int} (h : l.Nodup) (ha : l.any (fun y => x == y) = false) : (l ++ [x]).Nodup := by
  rw [List.nodup_append]
  refine ⟨h, by simp, ?_⟩
  intro a ha2 b hb e
  have hb2 : b = x := by simpa using hb
  subst hb2; subst e
  have := List.any_eq_false.1 ha a ha2
  simp at this

theorem map_apart {H : Type} {P : Program} {k : TypeId} {R : Value → Option (DataW H × List MemPlace)} {w : World} {b m : Nat} {D : DataW H} {B e size n c g : Nat} {xs : List Value} (hr : w.ownsRow B e size (.slice (some ⟨g, 0, none⟩) n c) n xs) (h : w.ownsMap P k R b m D) : some b ≠ (Value.slice (some ⟨g, 0, none⟩) n c).ownBlock := by
  intro he
  obtain rfl : b = g := by simpa [Value.ownBlock] using he
  obtain ⟨es, clock, hb, _⟩ := h
  rcases own_row hr with ⟨h1, _⟩ | ⟨g', L, hA, _, hrow, _⟩
  · cases h1
  · obtain rfl : b = g' := by simpa using hA
    unfold Row at hrow
    rw [hb] at hrow; cases hrow

theorem lt_alloc (w : World) (o : Obj) : w.heap.size < (w.alloc o).heap.size := by simp
theorem cell_newest (w : World) (cs : Array Value) (t : TypeId) (i : Nat) {v : Value} (h : cs[i]? = some v) : (w.alloc (.cells cs t)).cell? ⟨w.heap.size, i, none⟩ = some v := cell_new rfl h
theorem ownsMap_below {H : Type} {P : Program} {k : TypeId} {R : Value → Option (DataW H × List MemPlace)} {w w' : World} {b n : Nat} {D : DataW H} (h : w.ownsMap P k R b n D) (hb : Below w.heap.size w w') : w'.ownsMap P k R b n D :=
  h.kept (row := none) ⟨hb.os, hb.tape, hb.output, hb.size, fun k hk _ => hb.block k hk⟩ (by simp)

theorem wf_small {a : Int} (h0 : 0 ≤ a) (h1 : a < 16) : (Lit.int .i64 a).wf = true := by
  have h2 : IntKind.i64.min = -9223372036854775808 := rfl
  have h3 : IntKind.i64.max = 9223372036854775807 := rfl
  show (decide (IntKind.i64.min ≤ a) && decide (a ≤ IntKind.i64.max)) = true
  rw [h2, h3]; simp; omega

set_option maxRecDepth 100000 in
set_option maxHeartbeats 8000000 in
theorem cycle_err (A B : Option Addr) (n c m d : Nat) (hs : List H3) (ws : List W3) (w : World) (hr : Rd w w.heap.size 3 A n (cells3 hs)) (hw : Rd w w.heap.size 3 B m (cellsW ws)) (hn : (n : Int) ≤ 1000000) (hm : (m : Int) ≤ 1000000) (hmd : m ≤ d) (h0 : cwF hs ws ≠ 0) :
    Calls Try.prog 12 #[.agg #[.slice A n c], .slice B m d] w fun e w' => e = .returned (.slice none 0 0) ∧ Below w.heap.size w w' := by
  have hb00 : Below w.heap.size w (w.alloc (.cells #[.slice A n c] 29)) := (Below.refl _ _).alloc (Nat.le_refl _) _
  have h1 : (cwF hs ws != 0) = true := by simpa using h0
  go_enter Try.func12, Try.ntmps12
  go_wp2
  go_step3
  go_wp2_with fail
  refine (checkWaits_any _ _ _ _ _ _ hs ws _ (hr.step hb00) (hw.step hb00) hn hm hmd).mono ?_
  rintro e w1 ⟨rfl, hb1⟩
  go_wp2
  rw [Exit.noGoto_ret]
  go_ret
  exact ⟨rfl, below_alloc1 hb1⟩

set_option maxRecDepth 100000 in
set_option maxHeartbeats 8000000 in
theorem cycle_ok (A B : Option Addr) (n c m d : Nat) (hs : List H3) (ws : List W3) (w : World) (hr : Rd w w.heap.size 3 A n (cells3 hs)) (hw : Rd w w.heap.size 3 B m (cellsW ws)) (hn : (n : Int) ≤ 1000000) (hm : (m : Int) ≤ 1000000) (hmd : m ≤ d) (h0 : cwF hs ws = 0) :
    Calls Try.prog 12 #[.agg #[.slice A n c], .slice B m d] w fun e w' => ∃ A' m', e = .returned (.slice A' m' m') ∧ Rd w' w'.heap.size 1 A' m' (cells1 (cycF hs ws)) ∧ Below w.heap.size w w' := by
  have HL := Lib.hid hw.lenW
  have HC := Lib.hid h0
  have HOK := Lib.hid (cw_ok h0)
  have hb00 : Below w.heap.size w (w.alloc (.cells #[.slice A n c] 29)) := (Below.refl _ _).alloc (Nat.le_refl _) _
  have hmm := @run_makeMap Try.prog
  have HB : Hid (∀ lv ix, 0 ≤ who lv ix hs ∧ who lv ix hs < 16) := fun lv ix => by
    obtain ⟨h1, _⟩ := cw_ok h0
    unfold who
    split
    · rename_i hh
      have : ¬ ownerF lv ix hs < 0 := fun h => by rw [(owner_held (check_valid h1) lv ix).2 h] at hh; cases hh
      exact ⟨by omega, owner_bound (check_valid h1) _ _⟩
    · omega
  have HW : Hid (∀ k (hk : k < ws.length), who ws[k].lv ws[k].ix hs = ownerF ws[k].lv ws[k].ix hs) := fun k hk => by
    obtain ⟨h1, h2⟩ := cw_ok h0
    unfold who
    split
    · rfl
    · rename_i hh
      have := (owner_held (check_valid h1) ws[k].lv ws[k].ix).1 (by simpa using hh)
      exact absurd this (h2 k hk).2.2
  clear h0
  go_enter Try.func12, Try.ntmps12
  go_wp2
  go_step3
  go_wp2_with fail
  refine (checkWaits_any _ _ _ _ _ _ hs ws _ (hr.step hb00) (hw.step hb00) hn hm hmd).mono ?_
  rintro e w1 ⟨rfl, hb1⟩
  rw [HC.out]
  go_wp2
  obtain ⟨wo, rfl⟩ : ∃ wo : World, wo = w1 := ⟨_, rfl⟩
  obtain ⟨g, hg⟩ : ∃ g, g = wo.heap.size := ⟨_, rfl⟩
  rw [← hg]
  have hg1 : w.heap.size + 1 ≤ g := by rw [hg]; have := hb1.size; simpa using this
  go_loopw [19] (fun i wr => ∃ (k : Nat) (D : DataW Nat), k ≤ m ∧ i = .int .i64 k ∧ wr.ownsMap Try.prog 3 (plainElem Try.prog 3) g k D ∧ Hid (MapIs D (nextP hs (ws.take k))) ∧ Below (w.heap.size + 1) (w.alloc (.cells #[.slice A n c] 29)) wr) (fun i _ => m - (intOf i).toNat)
  case atStart => exact ⟨0, .map [], Nat.zero_le _, rfl, by rw [hg]; exact World.ownsMap_made _ _ _ _, mapIs_empty, by rw [hg] at hg1; exact (by simpa using hb1 : Below (w.heap.size + 1) _ wo).alloc hg1 _⟩
  case round =>
    clear hg
    obtain ⟨k, D, hk, rfl, hown, hD, hb⟩ := hrel
    have h0 : wr.cell? ⟨w.heap.size, 0, none⟩ = some (.slice A n c) := cs_ hb (by omega) (by simp [go_sem])
    have hbw : Below w.heap.size w wr := below_alloc1 (by simpa using hb)
    have hsz : w.heap.size < wr.heap.size := lt_of_cell h0
    by_cases hlt : k < m
    · have hkl : k < ws.length := by have := HL.out; omega
      obtain ⟨bd, rfl, hbd, d0, d1, d2⟩ := (hw.below hbw (Nat.le_refl _)).atW hkl
      go_wp2_with fail
      obtain ⟨hv1, hv2, hv3⟩ := HOK.out.2 k hkl
      have hwt := valid_th hv1
      have hww := HB.out ws[k].lv ws[k].ix
      have hkey : keyOf Try.prog 3 (.int .i64 ws[k].th) = some (.int .i64 ws[k].th) := keyOf_int_mk Try.underlying3 (wf_small (by omega) (by omega))
      have hval : plainElem (H := Nat) Try.prog 3 (.int .i64 (who ws[k].lv ws[k].ix hs)) = some (.lit (.int .i64 (who ws[k].lv ws[k].ix hs)), []) := plainElem_int Try.underlying3 (wf_small (by omega) (by omega))
      have hal : Below wr.heap.size wr (wr.alloc (.cells #[.int .i64 ws[k].th, .int .i64 ws[k].lv, .int .i64 ws[k].ix] 45)) := (Below.refl _ _).alloc (Nat.le_refl _) _
      have hR : Rd (wr.alloc (.cells #[.int .i64 ws[k].th, .int .i64 ws[k].lv, .int .i64 ws[k].ix] 45)).drew (wr.alloc (.cells #[.int .i64 ws[k].th, .int .i64 ws[k].lv, .int .i64 ws[k].ix] 45)).drew.heap.size 3 A n (cells3 hs) := hr.step (hbw.trans ((below_drewN' hal 1).mono hbw.size))
      have j0 : (wr.alloc (.cells #[.int .i64 ws[k].th, .int .i64 ws[k].lv, .int .i64 ws[k].ix] 45)).cell? ⟨w.heap.size, 0, none⟩ = some (.slice A n c) := cs_ hal hsz h0
      have hgl := hown.lt
      have hg0 : some w.heap.size ≠ some g := fun h => by cases h; omega
      have hg2 : some wr.heap.size ≠ some g := fun h => by cases h; omega
      have hk6 : k < maxLen := by unfold maxLen; omega
      clear h0 d0 d1 d2
      go_region_held3 (fun w' => w'.cell? ⟨w.heap.size, 0, none⟩ = some (.slice A n c) ∧ w'.cell? ⟨wr.heap.size, 0, none⟩ = some (.int .i64 ws[k].th) ∧ w'.cell? ⟨wr.heap.size, 1, none⟩ = some (.int .i64 ws[k].lv) ∧ w'.cell? ⟨wr.heap.size, 2, none⟩ = some (.int .i64 ws[k].ix)) (go_keep)
        (first | (go_at_call 35; refine (owner_any A n c hs ws[k].lv ws[k].ix _ hR hn).mono ?_; rintro e w2 ⟨rfl, hb2⟩; have hb3 := below_of_drew hb2; have q0 := cs_ hb3 (Nat.lt_of_lt_of_le hsz hal.size) j0; have q1 := cs_ hb3 (lt_alloc _ _) (cell_newest _ _ _ 0 rfl); have q2 := cs_ hb3 (lt_alloc _ _) (cell_newest _ _ _ 1 rfl); have q3 := cs_ hb3 (lt_alloc _ _) (cell_newest _ _ _ 2 rfl); have hown2 := ownsMap_below hown (below_alloc1 hb3); obtain ⟨w3, hrun3, hown3, hg3⟩ := hown2.update lawI Try.underlying68 hk6 hkey hval; have p0 := hg3.cell q0 hg0; have p1 := hg3.cell q1 hg2; have p2 := hg3.cell q2 hg2; have p3 := hg3.cell q3 hg2))
      all_goals
        go_wp2
        go_roundw
        case rel =>
          refine ⟨k + 1, _, by omega, by go_num, hown3, mapIs_put hD.out _ _ fun x => ?_, ?_⟩
          · rw [nextP_snoc _ _ _ hkl hv2, HW.out k hkl]
          · exact (hb.trans ((below_alloc1 hb3).mono (by omega))).grown hg3 (by have := (below_alloc1 hb3).size; omega) (fun j hj => by cases hj; exact hg1)
        case measure => simp [intOf]; omega
    · have hkm : k = ws.length := by have := HL.out; omega
      have hD' : Hid (MapIs D (nextP hs ws)) := by unfold Hid; have := hD.out; rw [hkm, List.take_length] at this; exact this
      clear hD hkm
      obtain ⟨p, hp⟩ : ∃ p, p = nextP hs ws := ⟨_, rfl⟩
      obtain ⟨f, hf⟩ : ∃ f : Int → Int, f = fun th => forF hs th ws := ⟨_, rfl⟩
      have HCY : Hid (cycF hs ws = refCyc f) := by unfold Hid cycF; rw [if_pos HC.out, hf]
      have HP : Hid (∀ x y, p x = some y → 0 ≤ y ∧ y < 16) := fun x y h => next_bound HC.out (by rw [← hp]; exact h)
      have HEQ : Hid (∀ s : Nat, cycWalk p s 16 s [(s : Int)] = refWalk f s 16 s [(s : Int)]) := fun s => by
        refine cycWalk_eq p f s (by omega) ?_ ?_ 16 s [(s : Int)] ?_
        · intro x hx; rw [hf]; show forF hs x ws = -1; rw [forF_next, ← hp, hx]; rfl
        · intro x y hx
          refine ⟨?_, (HP.out x y hx).1⟩
          rw [hf]; show forF hs x ws = y; rw [forF_next, ← hp, hx]; rfl
        · intro x hx; left; simpa using hx
      rw [← hp] at hD'
      obtain ⟨i0, hi, hz0, hz1', hz2⟩ := info_parts info_int
      have hgl := hown.lt
      clear hp hf hbw h0
      go_wp2
      go_step3
      go_wp2
      obtain ⟨wp, hwp⟩ : ∃ wp : World, wp = wr := ⟨_, rfl⟩
      rw [← hwp]
      rw [← hwp] at hown hb
      clear hwp
      go_loopw [34] (fun i wr => ∃ s : Nat, s ≤ 16 ∧ i = .int .i64 s ∧ Hid (refFrom f (16 - s) s = refCyc f) ∧ wr.ownsMap Try.prog 3 (plainElem Try.prog 3) g k D ∧ Below (w.heap.size + 1) (w.alloc (.cells #[.slice A n c] 29)) wr) (fun i _ => 16 - (intOf i).toNat)
      case atStart => exact ⟨0, Nat.zero_le _, rfl, rfl, hown, hb⟩
      case round =>
        clear hown hb
        obtain ⟨s, hs16, rfl, hF, hown, hb⟩ := hrel
        have hsz : w.heap.size + 1 ≤ wr.heap.size := by have := hb.size; simpa using this
        by_cases hlt : s < 16
        · have hds : decide ((s : Int) < 16) = true := by simp; omega
          have hal : Below wr.heap.size wr (wr.alloc (.cells #[.int .i64 s] 3)) := (Below.refl _ _).alloc (Nat.le_refl _) _
          have hown0 := ownsMap_below hown hal
          have hb0 : Below (w.heap.size + 1) (w.alloc (.cells #[.slice A n c] 29)) (wr.alloc (.cells #[.int .i64 s] 3)) := hb.alloc hsz _
          go_wp2
          go_loopw [9] (fun v wx => ∃ (way : List Int) (cur : Int) (q : Nat), way.length = q + 1 ∧ way[q]? = some cur ∧ Hid (way.Nodup ∧ ∀ x ∈ way, 0 ≤ x ∧ x < 16) ∧ Hid (cycWalk p s (16 - q) cur way = cycWalk p s 16 s [(s : Int)]) ∧ wx.ownsRow (w.heap.size + 1) 3 1 v (q + 1) (cells1 way) ∧ wx.ownsMap Try.prog 3 (plainElem Try.prog 3) g k D ∧ Below (w.heap.size + 1) (w.alloc (.cells #[.slice A n c] 29)) wx) (fun v _ => 17 - slLen v)
          case atStart => exact ⟨[(s : Int)], s, 0, rfl, rfl, ⟨by simp, fun x hx => by have : x = s := by simpa using hx
                                                                                       omega⟩, rfl, lit_own rfl hsz, hown0, hb0⟩
          case round =>
            clear hown0 hb0 hown hb hsz hal
            obtain ⟨way, cur, q, hl, hcur, hN, hG, hrow, hown, hb⟩ := hrel
            have hq16 : q < 16 := by have := nodup_bound 16 way hN.out.1 hN.out.2; omega
            have hsz : w.heap.size + 1 ≤ wr.heap.size := by have := hb.size; simpa using this
            obtain ⟨Av, cv, rfl, hcv, hrd⟩ := own_slice hrow
            obtain ⟨gv, rfl, hBg, hgl, hcell⟩ := row_int hrow q cur hcur
            have hcr := hN.out.2 cur (List.mem_of_getElem? hcur)
            have hkey : keyOf Try.prog 3 (.int .i64 cur) = some (.int .i64 cur) := keyOf_int_mk Try.underlying3 (wf_small hcr.1 hcr.2)
            have s1 : (q : Int) < (q : Int) + 1 := by omega
            cases hpc : p cur with
            | none =>
              have hh : has D (.int .i64 cur) = false := (hD'.out.2 cur).1 hpc
              have HN := Lib.hid (cyc_none (s := s) (way := way) hq16 hpc)
              clear hpc
              go_wp2_with (at_lookup; refine wpList_lookup_own_ok_int _ rfl _ _ 68 rfl 3 3 .i64 lawI Try.underlying68 Try.underlying3 (zeroI _) g k D rfl hown _ _ rfl hkey ?_; intro c1 hat hwc)
              go_roundw
              case rel => exact ⟨s + 1, by omega, by go_num, (refFrom_on hlt ((HEQ.out s).symm.trans (hG.out.symm.trans HN.out))).symm.trans hF.out, hown, hb⟩
              case measure => simp [intOf]; omega
            | some to =>
              obtain ⟨hh, hvl⟩ := (hD'.out.2 cur).2 to hpc
              have hto := HP.out cur to hpc
              have HV := Lib.hid hvl
              have HPC := Lib.hid hpc
              clear hpc hvl
              by_cases he : to = (s : Int)
              · have hd : (to == (s : Int)) = true := by simpa using he
                have HE := Lib.hid he
                clear he
                go_wp2_with (first
                  | (at_lookup; refine wpList_lookup_own_ok_int _ rfl _ _ 68 rfl 3 3 .i64 lawI Try.underlying68 Try.underlying3 (zeroI _) g k D rfl hown _ _ rfl hkey ?_; intro c1 hat hwc; obtain rfl : to = c1 := (lookup_val hat HV.out).symm)
                  | (go_at_call 39; refine (clipInts_any _ _ _ hcv _).mono ?_; rintro e w2 ⟨rfl, rfl⟩))
                rw [Exit.noGoto_ret]
                go_ret
                refine ⟨_, q + 1, rfl, ?_, below_alloc1 (by simpa using hb)⟩
                rw [HCY.out, ← hF.out, refFrom_hit hlt ((HEQ.out s).symm.trans (hG.out.symm.trans (cyc_hit hq16 (by rw [HPC.out, HE.out]))))]
                exact hrd
              · have hd : (to == (s : Int)) = false := by simpa using he
                have hq6 : ((q + 1 : Nat) : Int) ≤ 1000000 := by omega
                cases ha : way.any (fun y => to == y)
                · have HN := Lib.hid (cyc_on (way := way) hq16 HPC.out he ha)
                  have HND := Lib.hid (nodup_snoc hN.out.1 ha)
                  have hone : ∀ u ∈ [Value.int .i64 to], u.oneCell' = true := by intro u hu; simp at hu; subst hu; rfl
                  have hmx : q + 1 + 1 ≤ maxLen := by unfold maxLen; omega
                  have hby : (q + 1 + 1) * 8 ≤ 140737488355328 := by omega
                  have hB : ∀ o, w.heap.size + 1 ≤ (wr.alloc o).heap.size := fun o => by simp; omega
                  have hbB : ∀ o, Below (w.heap.size + 1) (w.alloc (.cells #[.slice A n c] 29)) (wr.alloc o) := fun o => hb.alloc hsz _
                  clear he
                  go_wp2_with (first
                    | (at_lookup; refine wpList_lookup_own_ok_int _ rfl _ _ 68 rfl 3 3 .i64 lawI Try.underlying68 Try.underlying3 (zeroI _) g k D rfl hown _ _ rfl hkey ?_; intro c1 hat hwc; obtain rfl : to = c1 := (lookup_val hat HV.out).symm)
                    | (go_at_call 40; refine (containsI_any _ _ _ way to _ hrd hq6).mono ?_; rintro e w2 ⟨rfl, rfl⟩; rw [ha])
                    | (at_builtin; refine wpList_append_rd _ rfl (.tmp 63) (.tmp 65) _ rfl (w.heap.size + 1) 3 i0 _ 1 8 Try.underlying33 hi hz0 hz1' hz2 rfl (by decide) _ _ _ rfl (hrow.alloc _) _ _ 1 _ [.int .i64 to] rfl (Rd.lit1 rfl rfl) hone hmx hby (hB _) ?_; intro v' w2 hown' hgrow hat2; have hb4 := below_grown (hbB _) hgrow (hB _) (hrow.alloc _); have hmap4 := (hown.alloc _).kept hgrow (map_apart hrow hown); obtain ⟨A2, c2, rfl, hc2, hrd2⟩ := own_slice hown'))
                  go_roundw
                  case rel =>
                    refine ⟨way ++ [to], to, q + 1, by simp [hl], by rw [← hl]; simp, ⟨HND.out, fun x hx => ?_⟩, HN.out.symm.trans hG.out, by rw [cells1, List.map_append]; exact hown', hmap4, hb4⟩
                    rcases List.mem_append.1 hx with h | h
                    · exact hN.out.2 x h
                    · have : x = to := by simpa using h
                      omega
                  case measure => rw [slLen_slice, slLen_slice]; omega
                · have HN := Lib.hid (cyc_back (way := way) hq16 HPC.out he ha)
                  clear he
                  go_wp2_with (first
                    | (at_lookup; refine wpList_lookup_own_ok_int _ rfl _ _ 68 rfl 3 3 .i64 lawI Try.underlying68 Try.underlying3 (zeroI _) g k D rfl hown _ _ rfl hkey ?_; intro c1 hat hwc; obtain rfl : to = c1 := (lookup_val hat HV.out).symm)
                    | (go_at_call 40; refine (containsI_any _ _ _ way to _ hrd hq6).mono ?_; rintro e w2 ⟨rfl, rfl⟩; rw [ha]))
                  go_roundw
                  case rel => exact ⟨s + 1, by omega, by go_num, (refFrom_on hlt ((HEQ.out s).symm.trans (hG.out.symm.trans HN.out))).symm.trans hF.out, hown, hb⟩
                  case measure => simp [intOf]; omega
        · go_wp2
          have hs : s = 16 := by omega
          rw [Exit.noGoto_ret]
          go_ret
          exact ⟨none, 0, rfl, by rw [HCY.out, ← hF.out, hs]; exact Rd.none_, below_alloc1 (by simpa using hb)⟩

theorem cycle_any (A B : Option Addr) (n c m d : Nat) (hs : List H3) (ws : List W3) (w : World) (hr : Rd w w.heap.size 3 A n (cells3 hs)) (hw : Rd w w.heap.size 3 B m (cellsW ws)) (hn : (n : Int) ≤ 1000000) (hm : (m : Int) ≤ 1000000) (hmd : m ≤ d) :
    Calls Try.prog 12 #[.agg #[.slice A n c], .slice B m d] w fun e w' => ∃ A' m', e = .returned (.slice A' m' m') ∧ Rd w' w'.heap.size 1 A' m' (cells1 (cycF hs ws)) ∧ Below w.heap.size w w' := by
  by_cases h0 : cwF hs ws = 0
  · exact cycle_ok A B n c m d hs ws w hr hw hn hm hmd h0
  · refine (cycle_err A B n c m d hs ws w hr hw hn hm hmd h0).mono ?_
    rintro e w' ⟨rfl, hb⟩
    exact ⟨none, 0, rfl, by rw [cycF, if_neg h0]; exact Rd.none_, hb⟩
end Go.Proofs.Ytfdfadebfdmdgaa
