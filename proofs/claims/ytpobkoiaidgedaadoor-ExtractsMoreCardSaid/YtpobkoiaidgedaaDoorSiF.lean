/- A map whose keys are digests. -/
import Derived.Test.YtpobkoiaidgedaaDoorSiE
namespace Go.Proofs.YtpobkoiaidgedaaDoor
open Go.RowKit

abbrev KV := List (List B8 × Value)
def mapE : KV → Nat → List MapEntry
  | [], _ => []
  | p :: ps, i => { key := .agg (cells8 p.1).toArray, val := p.2, born := i } :: mapE ps (i + 1)
/-- Block r is a map with these entries, in the order in which they came. -/
def MapIs (w : World) (r : Nat) (kvs : KV) : Prop := w.heap[r]? = some (.map (mapE kvs 0).toArray kvs.length)
def findK (k : List B8) : KV → Nat → Option (Nat × Value)
  | [], _ => none
  | p :: ps, i => if k = p.1 then some (i, p.2) else findK k ps (i + 1)
def Keys32 (kvs : KV) : Prop := ∀ p ∈ kvs, p.1.length = 32
def valK (kvs : KV) (k : List B8) : Value := ((findK k kvs 0).map (·.2)).getD (.slice none 0 0)

theorem mapE_snoc (kvs : KV) (p : List B8 × Value) (i : Nat) : mapE (kvs ++ [p]) i = mapE kvs i ++ [{ key := .agg (cells8 p.1).toArray, val := p.2, born := i + kvs.length }] := by
  induction kvs generalizing i with
  | nil => rfl
  | cons q kvs ih => simp only [List.cons_append, mapE, ih, List.length_cons]; congr 4; omega
theorem mapE_len (kvs : KV) (i : Nat) : (mapE kvs i).length = kvs.length := by
  induction kvs generalizing i with
  | nil => rfl
  | cons q kvs ih => simp [mapE, ih]
theorem mapE_get (kvs : KV) (i j : Nat) (p : List B8 × Value) (h : kvs[j]? = some p) : (mapE kvs i)[j]? = some { key := .agg (cells8 p.1).toArray, val := p.2, born := i + j } := by
  induction kvs generalizing i j with
  | nil => simp at h
  | cons q kvs ih =>
    cases j with
    | zero => simp at h; subst h; rfl
    | succ j => simp only [mapE, List.getElem?_cons_succ] at h ⊢; rw [ih (i + 1) j h]; congr 2; omega
theorem mapE_set (kvs : KV) (i j : Nat) (p : List B8 × Value) (hj : j < kvs.length) : mapE (kvs.set j p) i = (mapE kvs i).set j { key := .agg (cells8 p.1).toArray, val := p.2, born := i + j } := by
  induction kvs generalizing i j with
  | nil => simp at hj
  | cons q kvs ih =>
    cases j with
    | zero => rfl
    | succ j => simp only [List.set_cons_succ, mapE]; rw [ih (i + 1) j (by simpa using hj)]; congr 3; omega
theorem findK_at (k : List B8) (kvs : KV) (o i : Nat) (v : Value) (h : findK k kvs o = some (i, v)) : o ≤ i ∧ kvs[i - o]? = some (k, v) := by
  induction kvs generalizing o with
  | nil => simp [findK] at h
  | cons p kvs ih =>
    unfold findK at h
    by_cases e : k = p.1
    · rw [if_pos e] at h
      simp only [Option.some.injEq, Prod.mk.injEq] at h
      obtain ⟨rfl, rfl⟩ := h
      refine ⟨Nat.le_refl _, ?_⟩
      rw [Nat.sub_self, e]; rfl
    · rw [if_neg e] at h
      obtain ⟨h1, h2⟩ := ih (o + 1) h
      refine ⟨by omega, ?_⟩
      rw [show i - o = (i - (o + 1)) + 1 by omega, List.getElem?_cons_succ]
      exact h2
theorem findK_set (k : List B8) (kvs : KV) (o i : Nat) (v u : Value) (h : findK k kvs o = some (i, v)) : findK k (kvs.set (i - o) (k, u)) o = some (i, u) := by
  induction kvs generalizing o with
  | nil => simp [findK] at h
  | cons p kvs ih =>
    have h' := h
    unfold findK at h
    by_cases e : k = p.1
    · rw [if_pos e] at h
      simp only [Option.some.injEq, Prod.mk.injEq] at h
      obtain ⟨rfl, rfl⟩ := h
      rw [Nat.sub_self, List.set_cons_zero]
      simp [findK]
    · rw [if_neg e] at h
      have h1 := (findK_at k kvs (o + 1) i v h).1
      rw [show i - o = (i - (o + 1)) + 1 by omega, List.set_cons_succ, findK, if_neg e]
      exact ih (o + 1) h
theorem findK_other (k k' : List B8) (hk : k' ≠ k) (kvs : KV) (o j : Nat) (v u : Value) (h : kvs[j]? = some (k, v)) : findK k' (kvs.set j (k, u)) o = findK k' kvs o := by
  induction kvs generalizing o j with
  | nil => simp at h
  | cons p kvs ih =>
    cases j with
    | zero =>
      simp at h
      subst h
      rw [List.set_cons_zero, findK, findK, if_neg hk, if_neg hk]
    | succ j =>
      rw [List.set_cons_succ, findK, findK, ih (o + 1) j (by simpa using h)]
theorem findK_snoc (k k' : List B8) (kvs : KV) (o : Nat) (u : Value) (h : findK k kvs o = none) : findK k' (kvs ++ [(k, u)]) o = if k' = k then some (o + kvs.length, u) else findK k' kvs o := by
  induction kvs generalizing o with
  | nil => simp only [List.nil_append, findK, List.length_nil, Nat.add_zero]
  | cons p kvs ih =>
    unfold findK at h
    by_cases e : k = p.1
    · rw [if_pos e] at h; cases h
    · rw [if_neg e] at h
      rw [List.cons_append, findK, findK, ih (o + 1) h]
      by_cases e1 : k' = p.1
      · rw [if_pos e1, if_neg (by rw [e1]; exact fun h => e h.symm)]; simp [e1]
      · rw [if_neg e1]
        by_cases e2 : k' = k
        · rw [if_pos e2, if_pos e2]; simp; omega
        · rw [if_neg e2, if_neg e2, if_neg e1]

section
variable (w : World)
theorem check8 (b : Bool) (n : Nat) (l : List B8) (hl : l.length = 32) : (Instr.checkKey b (n + 2) 39 (.agg (cells8 l).toArray)).run Tryd.prog w = .ok () w := by
  have hu : Tryd.prog.underlying 39 = some (.array 32 5) := by kernel_rfl
  have hu8 : Tryd.prog.underlying 5 = some (.int .u8) := by kernel_rfl
  have hs : ∀ w, (sizeOf 5).run Tryd.prog w = .ok 1 w := fun w => by kernel_rfl
  simp only [Instr.checkKey, Sem.run_bind, run_underlying hu, Result.andThen_ok]
  simp only [Std.Legacy.Range.forIn_eq_forIn_range', Std.Legacy.Range.size, Nat.sub_zero, Nat.add_one_sub_one, Nat.div_one]
  have hlt : ∀ i ∈ List.range' 0 32, i < l.length := by intro i hi; rw [hl]; simp at hi; omega
  revert hlt
  generalize List.range' 0 32 = is
  intro hlt
  induction is with
  | nil => simp
  | cons i is ih =>
    have hi := hlt i (by simp)
    have hp := part_u8 w l i l[i] (List.getElem?_eq_getElem hi)
    simp only [List.forIn_cons, Sem.run_bind, hs, Nat.mul_one, hp, Result.andThen_ok, run_underlying hu8, Sem.run_pure]
    exact ih (fun j hj => hlt j (by simp [hj]))
theorem findAsk8 (k : List B8) (hk : k.length = 32) : ∀ (kvs : KV) (o : Nat), Keys32 kvs → (Instr.findAsking 39 (.agg (cells8 k).toArray) (mapE kvs o) o).run Tryd.prog w = .ok (findK k kvs o) w
  | [], o, _ => by simp [mapE, Instr.findAsking, findK]
  | p :: kvs, o, h => by
    have h1 : (Op.equal 39 (.agg (cells8 k).toArray) (.agg (cells8 p.1).toArray)).run Tryd.prog w = .ok (decide (k = p.1)) w := eqIn_arr w 9998 _ 32 (by kernel_rfl) k p.1 hk (h p (by simp))
    have ih := findAsk8 k hk kvs (o + 1) (fun q hq => h q (by simp [hq]))
    simp only [mapE, Instr.findAsking, Sem.run_bind, h1, Result.andThen_ok, findK]
    by_cases e : k = p.1
    · simp only [e, decide_true, if_true, Sem.run_pure]
    · simp only [e, decide_false, Bool.false_eq_true, if_false]; exact ih
theorem find8 (k : List B8) (hk : k.length = 32) (kvs : KV) (h : Keys32 kvs) : (Instr.findKey 39 (.agg (cells8 k).toArray) (mapE kvs 0)).run Tryd.prog w = .ok (findK k kvs 0) w := by
  have hu : Tryd.prog.underlying 39 = some (.array 32 5) := by kernel_rfl
  have ha := findAsk8 w k hk kvs 0 h
  unfold Instr.findKey
  simp only [Sem.run_bind, run_underlying hu, Result.andThen_ok]
  cases kvs with
  | nil => simp [mapE, Instr.findNow, findK]
  | cons p kvs => simp only [mapE, Instr.findNow, Instr.sameNow] at ha ⊢; exact ha
end
end Go.Proofs.YtpobkoiaidgedaaDoor
