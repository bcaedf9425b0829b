/- The state in which T.Of goes on: the trace that grows, what it reads. -/
import Derived.Test.YtpobkoiaidgedaaDoorSjB
import Derived.Test.YtpobkoiaidgedaaDoorSeru
namespace Go.Proofs.YtpobkoiaidgedaaDoor
open Go.RowKit

/-- An element of Made or Loaded, of Sealed or Fetched, as it lies. -/
structure DE where
  A : Option Addr
  c : Nat
  b : List B8
  bad : Bool
def DE.cells (e : DE) : List Value := [.slice e.A e.b.length e.c, .bool e.bad]
def DE.ok (w : World) (e : DE) : Prop := e.b.length ≤ e.c ∧ e.c ≤ maxLen ∧ Rd w w.heap.size 1 e.A e.b.length (cells8 e.b)
structure ME where
  i : B8
  x : B8
  v : B8
  y : B8
  bad : Bool
def ME.cells (e : ME) : List Value := [.int .u8 (bv e.i), .int .u8 (bv e.x), .int .u8 (bv e.v), .int .u8 (bv e.y), .bool e.bad]
def DE.dig (e : DE) : Dig := digF e.b e.bad
def ME.msg (k : List B8) (e : ME) : Msg := msgOf k e.i e.x e.v e.y e.bad
theorem flatMap_drop {α : Type} (f : α → List Value) (s : Nat) (hs : ∀ x, (f x).length = s) : ∀ (l : List α) (k : Nat), (l.flatMap f).drop (k * s) = (l.drop k).flatMap f
  | [], k => by simp
  | x :: l, 0 => by simp
  | x :: l, k + 1 => by
    rw [List.flatMap_cons, List.drop_succ_cons, ← flatMap_drop f s hs l k, show (k + 1) * s = s + k * s by rw [Nat.succ_mul]; omega, ← List.drop_drop, List.drop_append_of_le_length (by rw [hs]; exact Nat.le_refl _), show List.drop s (f x) = [] from List.drop_of_length_le (by rw [hs]; exact Nat.le_refl _), List.nil_append]
theorem flatMap_len {α : Type} (f : α → List Value) (s : Nat) (hs : ∀ x, (f x).length = s) : ∀ (l : List α), (l.flatMap f).length = l.length * s
  | [] => by simp
  | x :: l => by rw [List.flatMap_cons, List.length_append, flatMap_len f s hs l, hs, List.length_cons, Nat.succ_mul]; omega
theorem Rd.atD {w : World} {B n : Nat} {A : Option Addr} {es : List DE} (h : Rd w B 2 A n (es.flatMap DE.cells)) {k : Nat} {e : DE} (he : es[k]? = some e) :
    ∃ ad, A = some ad ∧ ad.block < B ∧ w.cell? (ad.add (k * 2)) = some (.slice e.A e.b.length e.c) ∧ w.cell? ⟨(ad.add (k * 2)).block, (ad.add (k * 2)).off + 1, none⟩ = some (.bool e.bad) := by
  obtain ⟨hk, he⟩ := List.getElem?_eq_some_iff.1 he
  have hn : n = es.length := by have := h.1; rw [flatMap_len DE.cells 2 (fun _ => rfl)] at this; omega
  obtain ⟨ad, e1, hl, hc⟩ := h.at_ (k := k) (by omega)
  rw [flatMap_drop DE.cells 2 (fun _ => rfl), List.drop_eq_getElem_cons hk, he] at hc
  exact ⟨ad, e1, hl, hc.c0, hc.c1⟩
theorem Cells.c3 {w : World} {a : Addr} {v u t s : Value} {l : List Value} (h : Cells w a (s :: t :: u :: v :: l)) : w.cell? ⟨a.block, a.off + 3, none⟩ = some v := by
  rw [add_succ a 2]; exact h 3 v rfl
theorem Cells.c4 {w : World} {a : Addr} {v u t s r : Value} {l : List Value} (h : Cells w a (r :: s :: t :: u :: v :: l)) : w.cell? ⟨a.block, a.off + 4, none⟩ = some v := by
  rw [add_succ a 3]; exact h 4 v rfl
theorem Rd.atM {w : World} {B n : Nat} {A : Option Addr} {es : List ME} (h : Rd w B 5 A n (es.flatMap ME.cells)) {k : Nat} {e : ME} (he : es[k]? = some e) :
    ∃ ad, A = some ad ∧ ad.block < B ∧ w.cell? (ad.add (k * 5)) = some (.int .u8 (bv e.i)) ∧ w.cell? ⟨(ad.add (k * 5)).block, (ad.add (k * 5)).off + 1, none⟩ = some (.int .u8 (bv e.x)) ∧
      w.cell? ⟨(ad.add (k * 5)).block, (ad.add (k * 5)).off + 2, none⟩ = some (.int .u8 (bv e.v)) ∧ w.cell? ⟨(ad.add (k * 5)).block, (ad.add (k * 5)).off + 3, none⟩ = some (.int .u8 (bv e.y)) ∧
      w.cell? ⟨(ad.add (k * 5)).block, (ad.add (k * 5)).off + 4, none⟩ = some (.bool e.bad) := by
  obtain ⟨hk, he⟩ := List.getElem?_eq_some_iff.1 he
  have hn : n = es.length := by have := h.1; rw [flatMap_len ME.cells 5 (fun _ => rfl)] at this; omega
  obtain ⟨ad, e1, hl, hc⟩ := h.at_ (k := k) (by omega)
  rw [flatMap_drop ME.cells 5 (fun _ => rfl), List.drop_eq_getElem_cons hk, he] at hc
  exact ⟨ad, e1, hl, hc.c0, hc.c1, hc.c2, hc.c3, hc.c4⟩
theorem take_map {α β : Type} (f : α → β) (l : List α) (k : Nat) (x : α) (h : l[k]? = some x) : (l.take (k + 1)).map f = (l.take k).map f ++ [f x] := by
  obtain ⟨hj, h⟩ := List.getElem?_eq_some_iff.1 h
  rw [List.take_succ_eq_append_getElem hj, List.map_append, h]; rfl
theorem exec_lit1 {P : Program} {o : Oper} {ev : Operand → Value} {w : World} (t e : TypeId) (x : Operand) (ho : o.op = .buildSlice t 1 #[(0, x)]) (cs : List Value) (s : Nat) (hx : ev x = .agg cs.toArray) (hu : P.underlying t = some (.slice e)) (hi : (P.info? e).map (fun i => (i.zero.isSome, i.size)) = some (true, s)) (hl : cs.length = s) (h0 : 0 < s) (hs : s ≤ 1000000) :
    (execOp ev o).run P w = .ok (.value (.slice (some ⟨w.heap.size, 0, none⟩) 1 1)) (w.alloc (.cells cs.toArray e)) := by
  cases hie : P.info? e with
  | none => simp [hie] at hi
  | some ie =>
    simp only [hie, Option.map_some, Option.some.injEq, Prod.mk.injEq] at hi
    obtain ⟨z, hz⟩ := Option.isSome_iff_exists.1 hi.1
    have hsz := hi.2
    have hf := Great.fill_whole (s := s) h0 [.agg cs.toArray] ((Array.range (1 * ie.size)).map (z.cells[· % z.cells.size]!)) (fun v hv => by simp at hv; subst hv; simp [Value.cells, hl]) (by simp [hsz])
    have hf2 : Instr.fill (fun i => some (i * ie.size, ie.size)) ((Array.range (1 * ie.size)).map (z.cells[· % z.cells.size]!)) (#[(0, ev x)] : Array (Nat × Value)).toList = some cs.toArray := by
      rw [hsz]
      rw [hsz] at hf
      simp only [hx]
      simpa [Value.cells] using hf
    have hr := run_buildSlice (P := P) w t e 1 #[(0, ev x)] cs.toArray ie z hu hie hz (by rw [hsz]; omega) (by rw [hsz]; omega) hf2
    unfold execOp
    simp only [ho, Sem.run_bind, List.map_toArray, List.map_cons, List.map_nil, hr, Result.andThen_ok, Sem.run_pure]
theorem info_msgp : (Tryd.prog.info? 54).map (fun i => (i.zero, i.size, i.bytes)) = some (some (.agg Msg.zero.cells.toArray), 67, 88) := by kernel_rfl
def zTr : List Value := [.slice none 0 0, .slice none 0 0, .slice none 0 0, .slice none 0 0, .slice none 0 0]

/-- The trace grows in block g5; the inputs lie in g1, the result in g2, the key in g4. -/
structure TL (w0 : World) (g1 g2 g4 g5 : Nat) (ss : List Value) (mk : List B8) (w : World) (va vb vc vd : Value) (la lc : List Dig) (xa xc : List (List Value)) (lb ld : List Msg) : Prop where
  t : TSt w w0.heap.size g5 va vb vc vd la lc xa xc lb ld
  r1 : Row w g1 25 ss
  r2 : Row w g2 30 zTr
  r4 : Row w g4 43 (cells8 mk)
  b : Below w0.heap.size w0 w
section
variable {w0 w w' wB : World} {g1 g2 g4 g5 : Nat} {ss : List Value} {mk : List B8} {va vb vc vd v' : Value} {la lc : List Dig} {xa xc : List (List Value)} {lb ld : List Msg}
theorem TL.step (h : TL w0 g1 g2 g4 g5 ss mk w va vb vc vd la lc xa xc lb ld) (hb : Below w.heap.size w w') : TL w0 g1 g2 g4 g5 ss mk w' va vb vc vd la lc xa xc lb ld :=
  ⟨h.t.step hb, h.r1.step hb, h.r2.step hb, h.r4.step hb, h.b.trans (hb.mono h.b.size)⟩
theorem TL.appA {x : Dig} {cs : List Value} (h : TL w0 g1 g2 g4 g5 ss mk w va vb vc vd la lc xa xc lb ld) (hne : g1 ≠ g5 ∧ g2 ≠ g5 ∧ g4 ≠ g5 ∧ w0.heap.size ≤ g5) (gB : w.grownBy wB va.ownBlock) (hv : v'.ownBlock = va.ownBlock ∨ v'.ownBlock = some w.heap.size) (ho : wB.ownsRow w0.heap.size 41 33 v' (la.length + 1) (xa.flatten ++ cs)) (hx : DigO w w0.heap.size x cs) :
    TL w0 g1 g2 g4 g5 ss mk (wB.setCell ⟨g5, 0, none⟩ v') v' vb vc vd (la ++ [x]) lc (xa ++ [cs]) xc lb ld := by
  have gS := setCell_grown wB g5 0 v'
  have k1 := row_k (row_keep h.r1 gB (fun e => own_off h.t.a.2.2 h.r1 (by decide) e.symm)) gS hne.1
  have k2 := row_k (row_keep h.r2 gB (fun e => own_off h.t.a.2.2 h.r2 (by decide) e.symm)) gS hne.2.1
  have k4 := row_k (row_keep h.r4 gB (fun e => own_off h.t.a.2.2 h.r4 (by decide) e.symm)) gS hne.2.2.1
  have b1 := h.b.grown gB h.b.size (fun k hk => (World.ownsRow.lt h.t.a.2.2 k hk).1)
  exact ⟨TSt.appA (l' := [x]) (xs' := [cs]) h.t gB hv (by simpa using ho) rfl (fun i y hy => by
    cases i with
    | zero => simp at hy; subst hy; exact ⟨cs, rfl, hx⟩
    | succ i => simp at hy), k1, k2, k4, b1.grown gS b1.size (fun k hk => by cases hk; exact hne.2.2.2)⟩
theorem TL.appB {x : Msg} (h : TL w0 g1 g2 g4 g5 ss mk w va vb vc vd la lc xa xc lb ld) (hne : g1 ≠ g5 ∧ g2 ≠ g5 ∧ g4 ≠ g5 ∧ w0.heap.size ≤ g5) (gB : w.grownBy wB vb.ownBlock) (hv : v'.ownBlock = vb.ownBlock ∨ v'.ownBlock = some w.heap.size) (ho : wB.ownsRow w0.heap.size 54 67 v' (lb.length + 1) ((lb.map Msg.cells).flatten ++ x.cells)) (hx : x.ok) :
    TL w0 g1 g2 g4 g5 ss mk (wB.setCell ⟨g5, 1, none⟩ v') va v' vc vd la lc xa xc (lb ++ [x]) ld := by
  have gS := setCell_grown wB g5 1 v'
  have k1 := row_k (row_keep h.r1 gB (fun e => own_off h.t.b.2 h.r1 (by decide) e.symm)) gS hne.1
  have k2 := row_k (row_keep h.r2 gB (fun e => own_off h.t.b.2 h.r2 (by decide) e.symm)) gS hne.2.1
  have k4 := row_k (row_keep h.r4 gB (fun e => own_off h.t.b.2 h.r4 (by decide) e.symm)) gS hne.2.2.1
  have b1 := h.b.grown gB h.b.size (fun k hk => (World.ownsRow.lt h.t.b.2 k hk).1)
  exact ⟨TSt.appB (l' := [x]) h.t gB hv (by simpa using ho) (fun y hy => by simp at hy; subst hy; exact hx), k1, k2, k4, b1.grown gS b1.size (fun k hk => by cases hk; exact hne.2.2.2)⟩
theorem TL.appC {x : Dig} {cs : List Value} (h : TL w0 g1 g2 g4 g5 ss mk w va vb vc vd la lc xa xc lb ld) (hne : g1 ≠ g5 ∧ g2 ≠ g5 ∧ g4 ≠ g5 ∧ w0.heap.size ≤ g5) (gB : w.grownBy wB vc.ownBlock) (hv : v'.ownBlock = vc.ownBlock ∨ v'.ownBlock = some w.heap.size) (ho : wB.ownsRow w0.heap.size 41 33 v' (lc.length + 1) (xc.flatten ++ cs)) (hx : DigO w w0.heap.size x cs) :
    TL w0 g1 g2 g4 g5 ss mk (wB.setCell ⟨g5, 2, none⟩ v') va vb v' vd la (lc ++ [x]) xa (xc ++ [cs]) lb ld := by
  have gS := setCell_grown wB g5 2 v'
  have k1 := row_k (row_keep h.r1 gB (fun e => own_off h.t.c.2.2 h.r1 (by decide) e.symm)) gS hne.1
  have k2 := row_k (row_keep h.r2 gB (fun e => own_off h.t.c.2.2 h.r2 (by decide) e.symm)) gS hne.2.1
  have k4 := row_k (row_keep h.r4 gB (fun e => own_off h.t.c.2.2 h.r4 (by decide) e.symm)) gS hne.2.2.1
  have b1 := h.b.grown gB h.b.size (fun k hk => (World.ownsRow.lt h.t.c.2.2 k hk).1)
  exact ⟨TSt.appC (l' := [x]) (xs' := [cs]) h.t gB hv (by simpa using ho) rfl (fun i y hy => by
    cases i with
    | zero => simp at hy; subst hy; exact ⟨cs, rfl, hx⟩
    | succ i => simp at hy), k1, k2, k4, b1.grown gS b1.size (fun k hk => by cases hk; exact hne.2.2.2)⟩
theorem TL.appD {x : Msg} (h : TL w0 g1 g2 g4 g5 ss mk w va vb vc vd la lc xa xc lb ld) (hne : g1 ≠ g5 ∧ g2 ≠ g5 ∧ g4 ≠ g5 ∧ w0.heap.size ≤ g5) (gB : w.grownBy wB vd.ownBlock) (hv : v'.ownBlock = vd.ownBlock ∨ v'.ownBlock = some w.heap.size) (ho : wB.ownsRow w0.heap.size 54 67 v' (ld.length + 1) ((ld.map Msg.cells).flatten ++ x.cells)) (hx : x.ok) :
    TL w0 g1 g2 g4 g5 ss mk (wB.setCell ⟨g5, 3, none⟩ v') va vb vc v' la lc xa xc lb (ld ++ [x]) := by
  have gS := setCell_grown wB g5 3 v'
  have k1 := row_k (row_keep h.r1 gB (fun e => own_off h.t.d.2 h.r1 (by decide) e.symm)) gS hne.1
  have k2 := row_k (row_keep h.r2 gB (fun e => own_off h.t.d.2 h.r2 (by decide) e.symm)) gS hne.2.1
  have k4 := row_k (row_keep h.r4 gB (fun e => own_off h.t.d.2 h.r4 (by decide) e.symm)) gS hne.2.2.1
  have b1 := h.b.grown gB h.b.size (fun k hk => (World.ownsRow.lt h.t.d.2 k hk).1)
  exact ⟨TSt.appD (l' := [x]) h.t gB hv (by simpa using ho) (fun y hy => by simp at hy; subst hy; exact hx), k1, k2, k4, b1.grown gS b1.size (fun k hk => by cases hk; exact hne.2.2.2)⟩
end
end Go.Proofs.YtpobkoiaidgedaaDoor
