/- What a law's argument is; that the two forms agree on what is first. -/
import Derived.Test.YtpobkoiaidgedaaDoorSiQ
namespace Go.Proofs.YtpobkoiaidgedaaDoor
open Go.RowKit

/-- The argument of a law reads as these elements. -/
structure ArgT (w : World) (v : Value) (es1 es2 : List DE) (es3 es4 : List ME) : Prop where
  out : ∃ (A1 A2 A3 A4 : Option Addr) (n1 c1 n2 c2 n3 c3 n4 c4 : Nat), v = .agg #[.slice A1 n1 c1, .slice A2 n2 c2, .slice A3 n3 c3, .slice A4 n4 c4] ∧
    Rd w w.heap.size 2 A1 n1 (es1.flatMap DE.cells) ∧ (∀ e ∈ es1, e.ok w) ∧ Rd w w.heap.size 2 A2 n2 (es2.flatMap DE.cells) ∧ (∀ e ∈ es2, e.ok w) ∧
    Rd w w.heap.size 5 A3 n3 (es3.flatMap ME.cells) ∧ Rd w w.heap.size 5 A4 n4 (es4.flatMap ME.cells)
theorem DE.ok.step {w w' : World} {e : DE} (h : e.ok w) (hb : Below w.heap.size w w') : e.ok w' := ⟨h.1, h.2.1, h.2.2.step hb⟩
theorem ArgT.step {w w' : World} {v : Value} {es1 es2 : List DE} {es3 es4 : List ME} (h : ArgT w v es1 es2 es3 es4) (hb : Below w.heap.size w w') : ArgT w' v es1 es2 es3 es4 := by
  obtain ⟨A1, A2, A3, A4, n1, c1, n2, c2, n3, c3, n4, c4, hv, h1, h2, h3, h4, h5, h6⟩ := h.out
  exact ⟨A1, A2, A3, A4, n1, c1, n2, c2, n3, c3, n4, c4, hv, h1.step hb, fun e he => (h2 e he).step hb, h3.step hb, fun e he => (h4 e he).step hb, h5.step hb, h6.step hb⟩
/-- A trace of the call's own in new memory. -/
def TOut (es1 es2 : List DE) (es3 es4 : List ME) (w : World) (e : Ending) (w' : World) : Prop :=
  ∃ (va vb vc vd : Value) (xa xc : List (List Value)), e = .returned (.agg #[va, vb, vc, vd, .slice none 0 0]) ∧ RowD w' w.heap.size va ((es1.take 8).map DE.dig) xa ∧ RowM w' w.heap.size vb ((es3.take 8).map (ME.msg mk0)) ∧ RowD w' w.heap.size vc ((es2.take 8).map DE.dig) xc ∧ RowM w' w.heap.size vd ((es4.take 8).map (ME.msg mk0)) ∧ Sep va vc ∧ Sep vb vd ∧ Below w.heap.size w w'
theorem tOf_arg {v : Value} {es1 es2 : List DE} {es3 es4 : List ME} (w : World) (h : ArgT w v es1 es2 es3 es4) : Calls Tryd.prog 6 #[v] w (TOut es1 es2 es3 es4 w) := by
  obtain ⟨A1, A2, A3, A4, n1, c1, n2, c2, n3, c3, n4, c4, rfl, h1, h2, h3, h4, h5, h6⟩ := h.out
  exact tOf_any A1 A2 A3 A4 n1 c1 n2 c2 n3 c3 n4 c4 es1 es2 es3 es4 w h1 h2 h3 h4 h5 h6
theorem trace_one {w : World} {B : Nat} {va vb vc vd : Value} {la lc : List Dig} {xa xc : List (List Value)} {lb ld : List Msg} (ha : RowD w B va la xa) (hb : RowM w B vb lb) (hc : RowD w B vc lc xc) (hd : RowM w B vd ld) :
    [va, vb, vc, vd, Value.slice none 0 0].toArray.all (·.oneCell') = true := all_oneCell_toArray (by
  intro v hv
  obtain ⟨_, _, ha, _⟩ := own_slice ha.2.2
  obtain ⟨_, _, hb, _⟩ := own_slice hb.2
  obtain ⟨_, _, hc, _⟩ := own_slice hc.2.2
  obtain ⟨_, _, hd, _⟩ := own_slice hd.2
  simp only [List.mem_cons, List.not_mem_nil, or_false] at hv
  rcases hv with e | e | e | e | e
  · rw [e, ha]; rfl
  · rw [e, hb]; rfl
  · rw [e, hc]; rfl
  · rw [e, hd]; rfl
  · rw [e]; rfl)
theorem col_found {lm ll : List Dig} {w w' : World} {e : Ending} {k i : Nat} {y x : Dig} (hl : ll[k]? = some y) (hm : lm[i]? = some x) (hc : colB x y = true)
    (hn1 : ∀ (j : Nat) (z : Dig), j < i → lm[j]? = some z → colB z y = false) (hn2 : ∀ (j : Nat) (y' : Dig), j < k → ll[j]? = some y' → ∀ z ∈ lm, colB z y' = false) (h : ColP lm ll w e w') :
    ∃ (A1 A2 : Option Addr) (c1 c2 : Nat), e = .returned (.tuple #[.slice A1 x.b.length c1, .slice A2 y.b.length c2, .bool true]) ∧ Rd w' w'.heap.size 1 A1 x.b.length (cells8 x.b) ∧ Rd w' w'.heap.size 1 A2 y.b.length (cells8 y.b) ∧ Below w.heap.size w w' := by
  obtain ⟨h | h, hb⟩ := h
  · obtain ⟨k', i', y', x', A1, A2, c1, c2, hl', hm', hc', hn1', hn2', he, r1, r2⟩ := h
    have hk : k' = k := by
      rcases Nat.lt_trichotomy k' k with hlt | e | hlt
      · rw [hn2 k' y' hlt hl' x' (List.mem_of_getElem? hm')] at hc'; cases hc'
      · exact e
      · rw [hn2' k y hlt hl x (List.mem_of_getElem? hm)] at hc; cases hc
    subst hk
    have hy : y' = y := Option.some.inj (hl'.symm.trans hl)
    subst hy
    have hi : i' = i := by
      rcases Nat.lt_trichotomy i' i with hlt | e | hlt
      · rw [hn1 i' x' hlt hm'] at hc'; cases hc'
      · exact e
      · rw [hn1' i x hlt hm] at hc; cases hc
    subst hi
    have hx : x' = x := Option.some.inj (hm'.symm.trans hm)
    subst hx
    exact ⟨A1, A2, c1, c2, he, r1, r2, hb⟩
  · rw [h.1 y (List.mem_of_getElem? hl) x (List.mem_of_getElem? hm)] at hc
    cases hc
theorem forg_found {mk : List B8} {ls lf : List Msg} {w w' : World} {e : Ending} {k : Nat} {x : Msg} (hl : lf[k]? = some x) (hc : forgB mk ls x = true) (hn : ∀ (j : Nat) (y : Msg), j < k → lf[j]? = some y → forgB mk ls y = false) (h : ForgP mk ls lf w e w') :
    e = .returned (.tuple #[.agg x.cells.toArray, .bool true]) ∧ Below w.heap.size w w' := by
  obtain ⟨h | h, hb⟩ := h
  · obtain ⟨k', x', hl', hc', hn', he⟩ := h
    have hk : k' = k := by
      rcases Nat.lt_trichotomy k' k with hlt | e | hlt
      · rw [hn k' x' hlt hl'] at hc'; cases hc'
      · exact e
      · rw [hn' k x hlt hl] at hc; cases hc
    subst hk
    have hx : x' = x := Option.some.inj (hl'.symm.trans hl)
    subst hx
    exact ⟨he, hb⟩
  · rw [h.1 x (List.mem_of_getElem? hl)] at hc
    cases hc
end Go.Proofs.YtpobkoiaidgedaaDoor
