/- A list of programs out of plain data (layer 23). -/
import Derived.Test.YtnpnljgjloofkaaGreatDoorFre
import Derived.Test.YtnpnljgjloofkaaGreatDoorPck
namespace Go.Proofs.YtnpnljgjloofkaaGreatDoor
open Go.RowKit

theorem add_blk (ad : Addr) (k : Nat) : (ad.add k).block = ad.block := by unfold Addr.add; split <;> rfl
structure QV where
  a : B8
  b : B8
  d : B8
def QV.cells (q : QV) : List Value := [.int .u8 (bv q.a), .int .u8 (bv q.b), .int .u8 (bv q.d)]
def cellsQ (l : List QV) : List Value := l.flatMap QV.cells
theorem cellsQ_len (hs : List QV) : (cellsQ hs).length = hs.length * 3 := by
  induction hs with
  | nil => rfl
  | cons h t ih => simp only [cellsQ, List.flatMap_cons, List.length_append, List.length_cons] at ih ⊢; rw [ih]; simp [QV.cells]; omega
theorem cellsQ_drop (hs : List QV) (k : Nat) : (cellsQ hs).drop (k * 3) = cellsQ (hs.drop k) := by
  induction k generalizing hs with
  | zero => simp
  | succ k ih =>
    cases hs with
    | nil => simp [cellsQ]
    | cons h t =>
      have e : (k + 1) * 3 = 3 + k * 3 := by omega
      rw [e, ← List.drop_drop]
      have e2 : (cellsQ (h :: t)).drop 3 = cellsQ t := by simp [cellsQ, QV.cells]
      rw [e2, ih]; rfl
structure LV where
  A : Option Addr
  n : Nat
  c : Nat
  qs : List QV
def LV.val (p : LV) : Value := .slice p.A p.n p.c
def cellsL (l : List LV) : List Value := l.map LV.val
theorem cellsL_drop (l : List LV) (k : Nat) : (cellsL l).drop (k * 1) = cellsL (l.drop k) := by simp [cellsL]
theorem Rd.lenQ {w : World} {B n : Nat} {A : Option Addr} {l : List QV} (h : Rd w B 3 A n (cellsQ l)) : n = l.length := by
  have := h.1; rw [cellsQ_len] at this; omega
theorem Rd.lenL {w : World} {B n : Nat} {A : Option Addr} {l : List LV} (h : Rd w B 1 A n (cellsL l)) : n = l.length := by
  have := h.1; simp [cellsL] at this; omega
theorem Rd.atL {w : World} {B n : Nat} {A : Option Addr} {l : List LV} (h : Rd w B 1 A n (cellsL l)) {k : Nat} (hk : k < l.length) :
    ∃ ad, A = some ad ∧ ad.block < B ∧ w.cell? (ad.add k) = some (.slice l[k].A l[k].n l[k].c) := by
  have hn := h.lenL
  obtain ⟨ad, e, hl, hc⟩ := h.at_ (k := k) (by omega)
  rw [cellsL_drop, List.drop_eq_getElem_cons hk, Nat.mul_one] at hc
  exact ⟨ad, e, hl, hc.c0⟩
theorem Rd.atQ {w : World} {B n : Nat} {A : Option Addr} {l : List QV} (h : Rd w B 3 A n (cellsQ l)) {k : Nat} (hk : k < l.length) :
    ∃ ad, A = some ad ∧ ad.block < B ∧ w.cell? (ad.add (k * 3)) = some (.int .u8 (bv l[k].a)) ∧ w.cell? ⟨(ad.add (k * 3)).block, (ad.add (k * 3)).off + 1, none⟩ = some (.int .u8 (bv l[k].b)) ∧ w.cell? ⟨(ad.add (k * 3)).block, (ad.add (k * 3)).off + 2, none⟩ = some (.int .u8 (bv l[k].d)) := by
  have hn := h.lenQ
  obtain ⟨ad, e, hl, hc⟩ := h.at_ (k := k) (by omega)
  rw [cellsQ_drop, List.drop_eq_getElem_cons hk] at hc
  exact ⟨ad, e, hl, hc.c0, hc.c1, hc.c2⟩
/-- plain data of programs as they lie -/
def ArgP (w : World) (B : Nat) (A : Option Addr) (n : Nat) (l : List LV) : Prop := Rd w B 1 A n (cellsL l) ∧ ∀ p ∈ l, Rd w B 3 p.A p.n (cellsQ p.qs)
theorem ArgP.below {w w' : World} {B : Nat} {A : Option Addr} {n : Nat} {l : List LV} (h : ArgP w B A n l) (hb : Below B w w') (hB : B ≤ B) : ArgP w' B A n l := ⟨h.1.below hb hB, fun p hp => (h.2 p hp).below hb hB⟩
/-- a list of programs, each row the call's own -/
def RowP (w : World) (B : Nat) (v : Value) (ps : List PgV) : Prop :=
  ps.length ≤ 3 ∧ (∀ p ∈ ps, p.ops.length ≤ 3 ∧ w.ownsRow B 65 3 p.val p.n (cellsO p.ops)) ∧ w.ownsRow B 66 1 v ps.length (cellsP ps)
theorem RowP.below {w w' : World} {B C : Nat} {v : Value} {ps : List PgV} (h : RowP w B v ps) (hb : Below C w w') (hC : w.heap.size ≤ C) : RowP w' B v ps :=
  ⟨h.1, fun p hp => ⟨(h.2.1 p hp).1, own_below (h.2.1 p hp).2 hb hC⟩, own_below h.2.2 hb hC⟩
/-- rows of elements of different types lie apart -/
theorem own_apartT {w : World} {b b' e e' s s' n n' : Nat} {v v' : Value} {xs xs' : List Value} (h : w.ownsRow b e s v n xs) (h' : w.ownsRow b' e' s' v' n' xs') (hne : e ≠ e') : v.ownBlock = none ∨ v.ownBlock ≠ v'.ownBlock := by
  rcases h.2 with ⟨rfl, _⟩ | ⟨g, cap, cur, rfl, _, hh, _⟩
  · exact .inl rfl
  · right
    rcases h'.2 with ⟨rfl, _⟩ | ⟨g', cap', cur', rfl, _, hh', _⟩
    · intro h2; cases h2
    · intro h2
      have h3 : g = g' := by simpa [Value.ownBlock] using h2
      subst h3
      rw [hh] at hh'
      cases hh'
      exact hne rfl
/-- a list of programs with one more -/
theorem RowP.snoc {w w' : World} {B C j : Nat} {v v' : Value} {pA : Option Addr} {pc : Nat} {ps : List PgV} {os : List OpV} (h : RowP w B v ps) (hk : ps.length < 3) (hj : os.length = j) (hj3 : j ≤ 3) (hBC : B ≤ C)
    (hp : w.ownsRow C 65 3 (.slice pA j pc) j (cellsO os)) (hg : w.grownBy w' v.ownBlock) (ho : w'.ownsRow B 66 1 v' (ps.length + 1) (cellsP ps ++ [.slice pA j pc])) : RowP w' B v' (ps ++ [⟨pA, j, pc, os⟩]) := by
  refine ⟨by simp; omega, fun p hp' => ?_, ?_⟩
  · rw [List.mem_append, List.mem_singleton] at hp'
    rcases hp' with hp' | rfl
    · exact ⟨(h.2.1 p hp').1, World.ownsRow.kept (h.2.1 p hp').2 hg (own_apartT (h.2.1 p hp').2 h.2.2 (by decide))⟩
    · exact ⟨by show os.length ≤ 3; omega, own_mono (World.ownsRow.kept hp hg (own_apartT hp h.2.2 (by decide))) hBC⟩
  · have e : cellsP (ps ++ [⟨pA, j, pc, os⟩]) = cellsP ps ++ [.slice pA j pc] := by simp [cellsP, PgV.val]
    rw [e, List.length_append]; exact ho
theorem RowP.alloc {w : World} {B : Nat} {v : Value} {ps : List PgV} (h : RowP w B v ps) (o : Obj) : RowP (w.alloc o) B v ps := ⟨h.1, fun p hp => ⟨(h.2.1 p hp).1, (h.2.1 p hp).2.alloc o⟩, h.2.2.alloc o⟩
theorem info_op : (Tryz.prog.info? 65).map (fun i => (i.zero, i.size, i.bytes)) = some (some (.agg #[.int .u8 0, .int .i64 0, .slice none 0 0]), 3, 40) := by kernel_rfl
theorem info_ops : (Tryz.prog.info? 66).map (fun i => (i.zero, i.size, i.bytes)) = some (some (.slice none 0 0), 1, 24) := by kernel_rfl
theorem q_any8 (q : QV) (w : World) :
    Calls Tryz.prog 39 #[.agg #[.int .u8 (bv q.a), .int .u8 (bv q.b), .int .u8 (bv q.d)]] w fun e w' => (∃ v, e = .returned v ∧ OpIs v) ∧ Below w.heap.size w w' :=
  q_any q.a.toNat q.b.toNat q.a.isLt q.b.isLt q.d w
theorem OpIs.opv {v : Value} (h : OpIs v) : ∃ o : OpV, v = .agg o.cells.toArray := by
  obtain ⟨k, i, A, n, c, rfl⟩ := h
  exact ⟨⟨k, i, A, n, c⟩, rfl⟩
set_option maxRecDepth 100000 in
set_option maxHeartbeats 8000000 in
theorem pOf_any (A : Option Addr) (n c : Nat) (l : List LV) (w : World) (hr : ArgP w w.heap.size A n l) :
    Calls Tryz.prog 23 #[.agg #[.slice A n c]] w fun e w' => ∃ v ps, e = .returned v ∧ RowP w' w.heap.size v ps ∧ Below w.heap.size w w' := by
  have HR := Lib.hid hr
  have HL := Lib.hid hr.1.lenL
  obtain ⟨i0, hi, hz0, hz1, hz2⟩ := info_parts info_op
  obtain ⟨j0, hj, hy0, hy1, hy2⟩ := info_parts info_ops
  have HQ := fun (q : QV) (W : World) => q_any8 q W
  clear hr
  go_enter Tryz.func23, Tryz.ntmps23
  go_wp2
  go_loopw [3, 4] (fun v i wr => ∃ k : Nat, k ≤ 3 ∧ i = .int .i64 k ∧ Below (w.heap.size + 1) (w.alloc (.cells #[.slice A n c] 24)) wr ∧ ∃ ps : List PgV, ps.length = k ∧ RowP wr (w.heap.size + 1) v ps) (fun _ i _ => 3 - (intOf i).toNat)
  case atStart => exact ⟨0, Nat.zero_le _, rfl, Below.refl _ _, [], rfl, by simp, by simp, World.ownsRow_nil _ _ _ _⟩
  case round =>
    obtain ⟨k, hk, rfl, hb, ps, hps, hrow⟩ := hrel
    obtain ⟨wo, hwo⟩ : ∃ wo, wo = wr := ⟨wr, rfl⟩
    subst hwo
    have h0 : wo.cell? ⟨w.heap.size, 0, none⟩ = some (.slice A n c) := cs_ hb (by omega) (by simp [go_sem])
    have HB := Lib.hid hb
    have HROW := Lib.hid hrow
    have HPS := Lib.hid hps
    clear hb hrow hps
    by_cases hkn : k < n
    · have hd1 : decide ((k : Int) < (n : Int)) = true := by simp; omega
      by_cases hk3 : k < 3
      · have hd2 : decide ((k : Int) < 3) = true := by simp; omega
        have hkl : k < l.length := by have := HL.out; omega
        have HA := Lib.hid (HR.out.below (below_alloc1 (by simpa using HB.out)) (Nat.le_refl _))
        obtain ⟨ad, rfl, had, c0⟩ := HA.out.1.atL (k := k) hkl
        have HQR := Lib.hid (HA.out.2 l[k] (List.getElem_mem _))
        generalize hlk : l[k] = lk at c0 HQR
        obtain ⟨B, m, cc, qs⟩ := lk
        have HSZ : Hid (w.heap.size + 1 ≤ wo.heap.size) := Lib.hid (by have := HB.out.size; simpa using this)
        go_wp2
        go_loopw [5, 6] (fun u i wi => ∃ j : Nat, j ≤ 3 ∧ i = .int .i64 j ∧ Below wo.heap.size wo wi ∧ ∃ os : List OpV, os.length = j ∧ wi.ownsRow wo.heap.size 65 3 u j (cellsO os)) (fun _ i _ => 3 - (intOf i).toNat)
        case atStart => exact ⟨0, Nat.zero_le _, rfl, Below.refl _ _, [], rfl, World.ownsRow_nil _ _ _ _⟩
        case round =>
          obtain ⟨j, hj3, rfl, hb2, os, hos, hown⟩ := hrel
          have HB2 := Lib.hid hb2
          have HOS := Lib.hid hos
          have HOWN := Lib.hid hown
          have g0 : wr.cell? ⟨w.heap.size, 0, none⟩ = some (.slice (some ad) n c) := cs_ hb2 (by have := HSZ.out; omega) h0
          have g1 : wr.cell? (ad.add k) = some (.slice B m cc) := (hb2.cell (p := ad.add k) (by rw [add_blk]; have := HSZ.out; omega)).trans c0
          have HQ2 := Lib.hid (HQR.out.below hb2 (by have := HSZ.out; omega))
          have HM := Lib.hid HQ2.out.lenQ
          clear hb2 hos hown
          by_cases hjm : j < m
          · have hd3 : decide ((j : Int) < (m : Int)) = true := by simp; omega
            by_cases hj3' : j < 3
            · have hd4 : decide ((j : Int) < 3) = true := by simp; omega
              obtain ⟨ad2, rfl, had2, q0, q1, q2⟩ := HQ2.out.atQ (k := j) (by have := HM.out; simp at this ⊢; omega)
              generalize hqj : qs[j]'(by have := HM.out; simp at this ⊢; omega) = qj at q0 q1 q2
              go_wp2_with (first | (go_at_call 39; refine (HQ qj _).mono ?_; rintro e w2 ⟨⟨v, rfl, ok, oi, oA, on, oc, rfl⟩, hb3⟩; have own3 := own_below HOWN.out hb3 (Nat.le_refl _); have hb4 : Below wo.heap.size wo w2 := HB2.out.trans (hb3.mono HB2.out.size)) | (at_builtin; refine wpList_append_rd _ rfl (.tmp 32) (.tmp 42) _ rfl wo.heap.size 65 i0 _ 3 40 Tryz.underlying66 hi hz0 hz1 hz2 rfl (by decide) _ _ _ rfl (own3.alloc _) _ _ 1 _ [.int .u8 ok, .int .i64 oi, .slice oA on oc] rfl (Rd.lit1 ?c0 rfl) ?c1 ?c2 ?c3 ?c4 ?_))
              case c0 => first | rfl | simp
              case c1 => intro u hu; simp at hu; rcases hu with rfl | rfl | rfl <;> rfl
              case c2 => unfold maxLen; omega
              case c3 => omega
              case c4 => have := hb4.size; simp; omega
              intro v' w3 hown' hgrow hat
              have hb5 := below_grown (hb4.alloc hb4.size _) hgrow (by have := hb4.size; simp; omega) (own3.alloc _)
              clear hgrow hat hb4 own3 hb3
              go_wp2
              go_roundw
              case rel => exact ⟨j + 1, by omega, by go_num, hb5, os ++ [⟨ok, oi, oA, on, oc⟩], by simp [HOS.out], by
                have e : cellsO (os ++ [⟨ok, oi, oA, on, oc⟩]) = cellsO os ++ [.int .u8 ok, .int .i64 oi, .slice oA on oc] := by simp [cellsO, OpV.cells]
                rw [e]; exact hown'⟩
              case measure => simp [intOf]; omega
            · have hd4 : decide ((j : Int) < 3) = false := by simp; omega
              obtain ⟨pA, pc, rfl, _, _⟩ := own_slice HOWN.out
              have hrow2 : RowP wr (w.heap.size + 1) u3 ps := RowP.below HROW.out HB2.out (Nat.le_refl _)
              have hbt : Below (w.heap.size + 1) (w.alloc (.cells #[.slice (some ad) n c] 24)) wr := HB.out.trans (HB2.out.mono HSZ.out)
              go_wp2_with (at_builtin; refine wpList_append_rd _ rfl (.tmp 44) (.tmp 46) _ rfl (w.heap.size + 1) 66 j0 _ 1 24 Tryz.underlying36 hj hy0 hy1 hy2 rfl (by decide) _ _ _ rfl (hrow2.2.2.alloc _) _ _ 1 _ [.slice pA j pc] rfl (Rd.lit1 ?c0 rfl) ?c1 ?c2 ?c3 ?c4 ?_)
              case c0 => first | rfl | simp
              case c1 => intro u hu; simp at hu; rcases hu with rfl; rfl
              case c2 => have := hrow2.1; unfold maxLen; omega
              case c3 => have := hrow2.1; omega
              case c4 => have := hbt.size; simp at this ⊢; omega
              intro v' w3 hown' hgrow hat
              have hbt' := below_grown (hbt.alloc (by have := hbt.size; simpa using this) _) hgrow (by have := hbt.size; simp at this ⊢; omega) (hrow2.2.2.alloc _)
              have hrow3 := RowP.snoc (hrow2.alloc _) (by have := HPS.out; omega) HOS.out hj3 HSZ.out (HOWN.out.alloc _) hgrow hown'
              clear hgrow hat hown' hbt hrow2
              go_wp2
              go_roundw
              case rel => exact ⟨k + 1, by omega, by go_num, hbt', _, by simp [HPS.out], hrow3⟩
              case measure => simp [intOf]; omega
          · have hd3 : decide ((j : Int) < (m : Int)) = false := by simp; omega
            obtain ⟨pA, pc, rfl, _, _⟩ := own_slice HOWN.out
            have hrow2 : RowP wr (w.heap.size + 1) u3 ps := RowP.below HROW.out HB2.out (Nat.le_refl _)
            have hbt : Below (w.heap.size + 1) (w.alloc (.cells #[.slice (some ad) n c] 24)) wr := HB.out.trans (HB2.out.mono HSZ.out)
            go_wp2_with (at_builtin; refine wpList_append_rd _ rfl (.tmp 44) (.tmp 46) _ rfl (w.heap.size + 1) 66 j0 _ 1 24 Tryz.underlying36 hj hy0 hy1 hy2 rfl (by decide) _ _ _ rfl (hrow2.2.2.alloc _) _ _ 1 _ [.slice pA j pc] rfl (Rd.lit1 ?c0 rfl) ?c1 ?c2 ?c3 ?c4 ?_)
            case c0 => first | rfl | simp
            case c1 => intro u hu; simp at hu; rcases hu with rfl; rfl
            case c2 => have := hrow2.1; unfold maxLen; omega
            case c3 => have := hrow2.1; omega
            case c4 => have := hbt.size; simp at this ⊢; omega
            intro v' w3 hown' hgrow hat
            have hbt' := below_grown (hbt.alloc (by have := hbt.size; simpa using this) _) hgrow (by have := hbt.size; simp at this ⊢; omega) (hrow2.2.2.alloc _)
            have hrow3 := RowP.snoc (hrow2.alloc _) (by have := HPS.out; omega) HOS.out hj3 HSZ.out (HOWN.out.alloc _) hgrow hown'
            clear hgrow hat hown' hbt hrow2
            go_wp2
            go_roundw
            case rel => exact ⟨k + 1, by omega, by go_num, hbt', _, by simp [HPS.out], hrow3⟩
            case measure => simp [intOf]; omega
      · have hd2 : decide ((k : Int) < 3) = false := by simp; omega
        go_wp2
        go_ret
        exact ⟨_, _, rfl, ⟨HROW.out.1, fun p hp => ⟨(HROW.out.2.1 p hp).1, own_mono (HROW.out.2.1 p hp).2 (by omega)⟩, own_mono HROW.out.2.2 (by omega)⟩, below_alloc1 (by simpa using HB.out)⟩
    · have hd1 : decide ((k : Int) < (n : Int)) = false := by simp; omega
      go_wp2
      go_ret
      exact ⟨_, _, rfl, ⟨HROW.out.1, fun p hp => ⟨(HROW.out.2.1 p hp).1, own_mono (HROW.out.2.1 p hp).2 (by omega)⟩, own_mono HROW.out.2.2 (by omega)⟩, below_alloc1 (by simpa using HB.out)⟩
end Go.Proofs.YtnpnljgjloofkaaGreatDoor
