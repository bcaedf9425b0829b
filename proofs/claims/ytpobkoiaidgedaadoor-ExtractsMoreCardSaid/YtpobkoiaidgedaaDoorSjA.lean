/- Groups of elements by their digest: what the map of Collision holds. -/
import Derived.Test.YtpobkoiaidgedaaDoorSiL
import Derived.Great.BuildSlice
namespace Go.Proofs.YtpobkoiaidgedaaDoor
open Go.RowKit

abbrev DP := Dig × List Value
/-- The elements whose bytes have the digest d. -/
def grpD (lp : List DP) (d : List B8) : List DP := lp.filter fun p => decide (shaF p.1.b = d)
def GrpOwn (w : World) (B : Nat) (v : Value) (g : List DP) : Prop := w.ownsRow B 41 33 v g.length (g.map (·.2)).flatten
/-- Block r is a map that has for each digest a row of the elements with it; the rows lie apart. -/
structure GrpM (w : World) (B r : Nat) (kvs : KV) (lp : List DP) : Prop where
  map : MapIs w r kvs
  keys : Keys32 kvs
  own : ∀ d, d.length = 32 → GrpOwn w B (valK kvs d) (grpD lp d)
  sep : ∀ d d', d.length = 32 → d'.length = 32 → d ≠ d' → Sep (valK kvs d) (valK kvs d')

theorem grpD_snoc (lp : List DP) (p : DP) (d : List B8) : grpD (lp ++ [p]) d = if shaF p.1.b = d then grpD lp d ++ [p] else grpD lp d := by
  unfold grpD
  rw [List.filter_append]
  by_cases h : shaF p.1.b = d
  · rw [if_pos h]; simp [h]
  · rw [if_neg h]; simp [h]
theorem GrpM.nil {w : World} {B r : Nat} (h : MapIs w r []) : GrpM w B r [] [] :=
  ⟨h, fun p hp => by simp at hp, fun d _ => ⟨rfl, .inl ⟨rfl, rfl⟩⟩, fun d d' _ _ _ => .inl rfl⟩
theorem GrpM.step {w w' : World} {B r : Nat} {kvs : KV} {lp : List DP} (h : GrpM w B r kvs lp) (hb : Below w.heap.size w w') : GrpM w' B r kvs lp :=
  ⟨(hb.block r h.map.lt).trans h.map, h.keys, fun d hd => own_below (h.own d hd) hb (Nat.le_refl _), h.sep⟩
theorem own_ne_low {w : World} {B r e size n : Nat} {v : Value} {xs : List Value} (h : w.ownsRow B e size v n xs) (hr : r < B) : v.ownBlock = none ∨ v.ownBlock ≠ some r := by
  right
  intro e
  have := (World.ownsRow.lt h _ e).1
  omega
theorem grown_block {w w' : World} {k : Nat} {q : Option Nat} (h : w.grownBy w' q) (hk : k < w.heap.size) (hq : some k ≠ q) : w'.heap[k]? = w.heap[k]? := h.block k hk hq
/-- An element more: the map's entry is laid, its row grows, the entry is stored. -/
theorem GrpM.put {w wB wC wD : World} {B r i : Nat} {kvs : KV} {lp : List DP} {p : DP} {v' : Value} (h : GrpM w B r kvs lp) (hrB : r < B)
    (hi : findK (shaF p.1.b) (putK kvs (shaF p.1.b)) 0 = some (i, valK kvs (shaF p.1.b))) (gB : w.grownBy wB (some r))
    (oC : wC.ownsRow B 41 33 v' ((grpD lp (shaF p.1.b)).length + 1) (((grpD lp (shaF p.1.b)).map (·.2)).flatten ++ p.2)) (gC : wB.grownBy wC (valK kvs (shaF p.1.b)).ownBlock)
    (hv : v'.ownBlock = (valK kvs (shaF p.1.b)).ownBlock ∨ v'.ownBlock = some wB.heap.size)
    (mD : MapIs wD r ((putK kvs (shaF p.1.b)).set i (shaF p.1.b, v'))) (gD : wC.grownBy wD (some r)) :
    GrpM wD B r ((putK kvs (shaF p.1.b)).set i (shaF p.1.b, v')) (lp ++ [p]) := by
  obtain ⟨d, hd⟩ : ∃ d, d = shaF p.1.b := ⟨_, rfl⟩
  rw [← hd] at hi oC gC hv mD ⊢
  have h32 : d.length = 32 := by rw [hd]; exact shaF_len _
  have hval : ∀ d', valK ((putK kvs d).set i (d, v')) d' = if d' = d then v' else valK kvs d' := fun d' => by
    rw [valK_set d d' i _ v' hi, putK_val]
  have ownB : ∀ d', d'.length = 32 → GrpOwn wB B (valK kvs d') (grpD lp d') := fun d' h' => World.ownsRow.kept (h.own d' h') gB (own_ne_low (h.own d' h') hrB)
  refine ⟨mD, set_keys (putK_keys h.keys h32) h32, fun d' h' => ?_, fun d1 d2 h1 h2 hne => ?_⟩
  · rw [hval, grpD_snoc, ← hd]
    by_cases e : d' = d
    · subst e
      rw [if_pos rfl, if_pos rfl]
      have := World.ownsRow.kept oC gD (own_ne_low oC hrB)
      unfold GrpOwn
      rw [List.length_append, List.map_append, List.flatten_append, List.length_singleton]
      simpa using this
    · rw [if_neg e, if_neg (fun h => e h.symm)]
      have o1 := World.ownsRow.kept (ownB d' h') gC (h.sep d' d h' h32 e)
      exact World.ownsRow.kept o1 gD (own_ne_low o1 hrB)
  · have key : ∀ d', d'.length = 32 → d' ≠ d → Sep (valK kvs d') v' := fun d' h' e => by
      rcases hv with hv | hv
      · unfold Sep; rw [hv]; exact h.sep d' d h' h32 e
      · unfold Sep
        rcases hq : (valK kvs d').ownBlock with _ | q
        · exact .inl rfl
        · right
          rw [hv]
          have := (World.ownsRow.lt (ownB d' h') q hq).2
          intro e2
          injection e2 with e2
          omega
    rw [hval, hval]
    by_cases e1 : d1 = d
    · rw [if_pos e1, if_neg (fun h => hne (e1.trans h.symm))]
      exact (key d2 h2 (fun h => hne (e1.trans h.symm))).swap
    · rw [if_neg e1]
      by_cases e2 : d2 = d
      · rw [if_pos e2]; exact key d1 h1 e1
      · rw [if_neg e2]; exact h.sep d1 d2 h1 h2 hne

/-- The first of those that pass, seen in the whole list. -/
theorem first_filter {α : Type} (q p : α → Bool) : ∀ (l : List α) (k : Nat) (x : α), (l.filter q)[k]? = some x → p x = true → (∀ (j : Nat) (z : α), j < k → (l.filter q)[j]? = some z → p z = false) →
    ∃ i : Nat, l[i]? = some x ∧ q x = true ∧ ∀ (j : Nat) (z : α), j < i → l[j]? = some z → (q z && p z) = false
  | [], k, x, h, _, _ => by simp at h
  | a :: l, k, x, h, hp, hn => by
    by_cases hq : q a = true
    · rw [List.filter_cons_of_pos hq] at h hn
      cases k with
      | zero =>
        simp at h
        subst h
        exact ⟨0, rfl, hq, fun j z hj => absurd hj (Nat.not_lt_zero _)⟩
      | succ k =>
        rw [List.getElem?_cons_succ] at h
        obtain ⟨i, h1, h2, h3⟩ := first_filter q p l k x h hp (fun j z hj hz => hn (j + 1) z (by omega) (by rw [List.getElem?_cons_succ]; exact hz))
        refine ⟨i + 1, by rw [List.getElem?_cons_succ]; exact h1, h2, fun j z hj hz => ?_⟩
        cases j with
        | zero =>
          simp at hz
          subst hz
          rw [hn 0 a (by omega) rfl, Bool.and_false]
        | succ j => exact h3 j z (by omega) (by rw [List.getElem?_cons_succ] at hz; exact hz)
    · rw [List.filter_cons_of_neg hq] at h hn
      obtain ⟨i, h1, h2, h3⟩ := first_filter q p l k x h hp hn
      refine ⟨i + 1, by rw [List.getElem?_cons_succ]; exact h1, h2, fun j z hj hz => ?_⟩
      cases j with
      | zero =>
        simp at hz
        subst hz
        simp [hq]
      | succ j => exact h3 j z (by omega) (by rw [List.getElem?_cons_succ] at hz; exact hz)
theorem grpD_fst (lm : List Dig) (xm : List (List Value)) (hx : xm.length = lm.length) (d : List B8) : (grpD (lm.zip xm) d).map (·.1) = lm.filter fun x => decide (shaF x.b = d) := by
  unfold grpD
  have h : lm = (lm.zip xm).map (·.1) := by rw [List.map_fst_zip (by omega)]
  conv => rhs; rw [h]
  rw [List.filter_map]
  rfl
theorem grpD_at (lm : List Dig) (xm : List (List Value)) (d : List B8) (i : Nat) (x : Dig) (cs : List Value) (h1 : ((grpD (lm.zip xm) d).map (·.1))[i]? = some x) (h2 : ((grpD (lm.zip xm) d).map (·.2))[i]? = some cs) :
    ∃ j : Nat, lm[j]? = some x ∧ xm[j]? = some cs := by
  rw [List.getElem?_map] at h1 h2
  cases hp : (grpD (lm.zip xm) d)[i]? with
  | none => rw [hp] at h1; cases h1
  | some p =>
    rw [hp] at h1 h2
    simp at h1 h2
    have hm : p ∈ lm.zip xm := (List.mem_filter.1 (show p ∈ (lm.zip xm).filter _ from List.mem_of_getElem? hp)).1
    obtain ⟨j, hj⟩ := List.getElem?_of_mem hm
    rw [List.getElem?_zip_eq_some] at hj
    exact ⟨j, by rw [hj.1, h1], by rw [hj.2, h2]⟩
theorem zip_take {α β : Type} (l : List α) (m : List β) (k : Nat) (a : α) (b : β) (h1 : l[k]? = some a) (h2 : m[k]? = some b) : (l.zip m).take (k + 1) = (l.zip m).take k ++ [(a, b)] := by
  have h : (l.zip m)[k]? = some (a, b) := by rw [List.getElem?_zip_eq_some]; exact ⟨h1, h2⟩
  obtain ⟨hj, h⟩ := List.getElem?_eq_some_iff.1 h
  rw [List.take_succ_eq_append_getElem hj, h]

theorem info_digp : (Tryd.prog.info? 41).map (fun i => (i.zero, i.size, i.bytes)) = some (some (.agg zDig.toArray), 33, 56) := by kernel_rfl
theorem wpList_run {P : Program} {ops : Array Oper} {rest : List Oper} {o : Oper} {a : Act} {w w' : World} {Q : Exit → Act → World → Prop} {v : Value} (hg : o.guard = none) (hr : (execOp a.eval o).run P w = .ok (.value v) w') (h : wpList P ops Q rest (a.put o.dst v) w') : wpList P ops Q (o :: rest) a w :=
  wpList_plain hg fun K hK => by
    unfold Oper.wp
    rw [hr]
    exact hK _ _ h
theorem wpList_run0 {P : Program} {ops : Array Oper} {rest : List Oper} {o : Oper} {a : Act} {w w' : World} {Q : Exit → Act → World → Prop} (hg : o.guard = none) (hr : (execOp a.eval o).run P w = .ok .skip w') (h : wpList P ops Q rest (a.put o.dst undef) w') : wpList P ops Q (o :: rest) a w :=
  wpList_plain hg fun K hK => by
    unfold Oper.wp
    rw [hr]
    exact hK _ _ h
section
variable {ops : Array Oper} {rest : List Oper} {o : Oper} {a : Act} {w : World} {Q : Exit → Act → World → Prop}
theorem wpList_mapEntry8 (hg : o.guard = none) (m k : Operand) (ho : o.op = .mapEntry 69 m k) (r : Nat) (kvs : KV) (d : List B8) (hm : a.eval m = .map (some r)) (hk : a.eval k = .agg (cells8 d).toArray) (hM : MapIs w r kvs) (h32 : Keys32 kvs) (hd : d.length = 32)
    (h : ∀ (i : Nat) (w' : World), MapIs w' r (putK kvs d) → findK d (putK kvs d) 0 = some (i, valK kvs d) → w.grownBy w' (some r) → wpList Tryd.prog ops Q rest (a.put o.dst (.tuple #[valK kvs d, .int .i64 (i : Int)])) w') : wpList Tryd.prog ops Q (o :: rest) a w := by
  obtain ⟨i, w', h1, h2, h3, h4⟩ := run_mapEntry8 hM h32 d hd
  refine wpList_run hg ?_ (h i w' h2 h3 h4)
  unfold execOp
  simp only [ho, hm, hk, Sem.run_bind, h1, Result.andThen_ok, Sem.run_pure]
theorem wpList_entryStore8 (hg : o.guard = none) (m s x : Operand) (ho : o.op = .entryStore 69 m s x) (r i : Nat) (kvs : KV) (d : List B8) (v u : Value) (hm : a.eval m = .map (some r)) (hs : a.eval s = .int .i64 (i : Int)) (hx : a.eval x = u) (hM : MapIs w r kvs) (hi : kvs[i]? = some (d, v))
    (h : ∀ w' : World, MapIs w' r (kvs.set i (d, u)) → w.grownBy w' (some r) → wpList Tryd.prog ops Q rest (a.put o.dst undef) w') : wpList Tryd.prog ops Q (o :: rest) a w := by
  obtain ⟨w', h1, h2, h3⟩ := run_entryStore8 hM d i v u hi
  refine wpList_run0 hg ?_ (h w' h2 h3)
  unfold execOp
  simp only [ho, hm, hs, hx, Sem.run_bind, h1, Result.andThen_ok, Sem.run_pure]
theorem wpList_lookup8 (hg : o.guard = none) (m k : Operand) (ho : o.op = .lookup 69 m k false) (r : Nat) (kvs : KV) (d : List B8) (hm : a.eval m = .map (some r)) (hk : a.eval k = .agg (cells8 d).toArray) (hM : MapIs w r kvs) (h32 : Keys32 kvs) (hd : d.length = 32)
    (h : wpList Tryd.prog ops Q rest (a.put o.dst (valK kvs d)) w) : wpList Tryd.prog ops Q (o :: rest) a w := by
  refine wpList_run hg ?_ h
  unfold execOp
  simp only [ho, hm, hk, Sem.run_bind, run_lookup8 hM h32 d hd, Result.andThen_ok, Sem.run_pure]
/-- A literal slice of one element, its cells named. -/
theorem wpList_lit1 {P : Program} (hg : o.guard = none) (t e : TypeId) (x : Operand) (ho : o.op = .buildSlice t 1 #[(0, x)]) (cs : List Value) (s : Nat) (hx : a.eval x = .agg cs.toArray) (hu : P.underlying t = some (.slice e)) (hi : (P.info? e).map (fun i => (i.zero.isSome, i.size)) = some (true, s)) (hl : cs.length = s) (h0 : 0 < s) (hs : s ≤ 1000000)
    (h : wpList P ops Q rest (a.put o.dst (.slice (some ⟨w.heap.size, 0, none⟩) 1 1)) (w.alloc (.cells cs.toArray e))) : wpList P ops Q (o :: rest) a w := by
  cases hie : P.info? e with
  | none => simp [hie] at hi
  | some ie =>
    simp only [hie, Option.map_some, Option.some.injEq, Prod.mk.injEq] at hi
    obtain ⟨z, hz⟩ := Option.isSome_iff_exists.1 hi.1
    have hsz := hi.2
    refine wpList_buildSlice hg t e 1 _ ho cs.toArray ie z hu hie hz (by rw [hsz]; omega) (by rw [hsz]; omega) ?_ h
    have := Great.fill_whole (s := s) h0 [.agg cs.toArray] ((Array.range (1 * ie.size)).map (z.cells[· % z.cells.size]!)) (fun v hv => by simp at hv; subst hv; simp [Value.cells, hl]) (by simp [hsz])
    rw [hsz]
    rw [hsz] at this
    simp only [List.map_toArray, List.map_cons, List.map_nil, hx]
    simpa [Value.cells] using this
end
theorem Rd.grown {w w' : World} {B size n : Nat} {A : Option Addr} {xs : List Value} {q : Option Nat} (h : Rd w B size A n xs) (hg : w.grownBy w' q) (hB : B ≤ w.heap.size) (hq : ∀ ad, A = some ad → some ad.block ≠ q) : Rd w' B size A n xs :=
  ⟨h.1, fun hn => by
    obtain ⟨ad, e, hl, hc⟩ := h.2 hn
    exact ⟨ad, e, hl, hc.keep fun p hp => by unfold World.cell?; rw [grown_block hg (by rw [hp]; omega) (by rw [hp]; exact hq ad e)]⟩⟩
end Go.Proofs.YtpobkoiaidgedaaDoor
