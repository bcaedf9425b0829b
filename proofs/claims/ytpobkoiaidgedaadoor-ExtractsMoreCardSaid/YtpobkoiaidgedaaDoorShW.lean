/- Equality of arrays of bytes, of nonces, of messages. -/
import Derived.Test.YtpobkoiaidgedaaDoorShV
import Derived.ChangeKeysEq
import Derived.Laws.StructEq
namespace Go.Proofs.YtpobkoiaidgedaaDoor
open Go.RowKit

theorem wv_inj {x y : W} : wv x = wv y ↔ x = y := by
  constructor
  · intro h; unfold wv at h; exact BitVec.eq_of_toNat_eq (by omega)
  · rintro rfl; rfl
theorem bv_inj {x y : B8} : bv x = bv y ↔ x = y := by
  constructor
  · intro h; unfold bv at h; exact BitVec.eq_of_toNat_eq (by omega)
  · rintro rfl; rfl
theorem cells8_inj {a b : List B8} : cells8 a = cells8 b ↔ a = b := by
  constructor
  · intro h
    induction a generalizing b with
    | nil => cases b with
      | nil => rfl
      | cons y b => simp [cells8] at h
    | cons x a ih =>
      cases b with
      | nil => simp [cells8] at h
      | cons y b =>
        simp only [cells8, List.map_cons, List.cons.injEq] at h
        obtain ⟨h1, h2⟩ := h
        have h3 : bv x = bv y := by injection h1
        rw [bv_inj.1 h3, ih (b := b) h2]
  · rintro rfl; rfl

section
variable (w : World)
theorem und_u8 : ∃ k, Tryd.prog.underlying 5 = some (.int k) := ⟨.u8, by kernel_rfl⟩
theorem eqIn_u8 (d : Nat) (x y : B8) : (Op.equalIn (d + 1) 5 (.int .u8 (bv x)) (.int .u8 (bv y))).run Tryd.prog w = .ok (decide (x = y)) w := by
  have hu : Tryd.prog.underlying 5 = some (.int .u8) := by kernel_rfl
  have e : (bv x == bv y) = decide (x = y) := by rw [Bool.eq_iff_iff]; simp [bv_inj]
  simp only [Op.equalIn, Sem.run_bind, run_underlying hu, Result.andThen_ok, if_true, Sem.run_pure, e]
theorem eqIn_int (d : Nat) (t : TypeId) (k : IntKind) (hu : Tryd.prog.underlying t = some (.int k)) (x y : Int) : (Op.equalIn (d + 1) t (.int k x) (.int k y)).run Tryd.prog w = .ok (decide (x = y)) w := by
  have e : (x == y) = decide (x = y) := by rw [Bool.eq_iff_iff]; simp
  simp only [Op.equalIn, Sem.run_bind, run_underlying hu, Result.andThen_ok, if_true, Sem.run_pure, e]
theorem part_u8 (l : List B8) (j : Nat) (x : B8) (h : l[j]? = some x) : (part 5 (cells8 l).toArray j).run Tryd.prog w = .ok (.int .u8 (bv x)) w := by
  have h1 : ∀ w, (isAgg 5).run Tryd.prog w = .ok false w := fun w => by kernel_rfl
  have h2 : (cells8 l).toArray[j]? = some (.int .u8 (bv x)) := by simp [cells8, h]
  simp [part, h1, h2]
theorem eqItems8 (d : Nat) (a b : List B8) : ∀ is : List Nat, (∀ i ∈ is, i < a.length ∧ i < b.length) →
    (Op.eqItems (d + 1) 5 1 (cells8 a).toArray (cells8 b).toArray is).run Tryd.prog w = .ok (is.all fun i => decide (a.getD i 0 = b.getD i 0)) w
  | [], _ => by simp [Op.eqItems]
  | i :: is, h => by
    obtain ⟨ha, hb⟩ := h i (by simp)
    have h1 := part_u8 w a i (a.getD i 0) (by rw [List.getElem?_eq_getElem ha]; simp [List.getD, List.getElem?_eq_getElem ha])
    have h2 := part_u8 w b i (b.getD i 0) (by rw [List.getElem?_eq_getElem hb]; simp [List.getD, List.getElem?_eq_getElem hb])
    have ih := eqItems8 d a b is (fun j hj => h j (by simp [hj]))
    have h3 := eqIn_u8 w d (a.getD i 0) (b.getD i 0)
    simp only [Op.eqItems, Sem.run_bind, Nat.mul_one, h1, h2, h3, Result.andThen_ok, List.all_cons]
    by_cases e : a.getD i 0 = b.getD i 0
    · simp only [e, decide_true, Bool.not_true, Bool.false_eq_true, if_false, Bool.true_and]; exact ih
    · simp only [e, decide_false, Bool.not_false, if_true, Bool.false_and]; rfl
theorem all_range (a b : List B8) (n : Nat) (ha : a.length = n) (hb : b.length = n) : ((List.range n).all fun i => decide (a.getD i 0 = b.getD i 0)) = decide (a = b) := by
  rw [Bool.eq_iff_iff]
  simp only [List.all_eq_true, List.mem_range, decide_eq_true_eq]
  constructor
  · intro h
    apply List.ext_getElem (by omega)
    intro i h3 h4
    have := h i (by omega)
    simpa [List.getD, List.getElem?_eq_getElem h3, List.getElem?_eq_getElem h4] using this
  · rintro rfl _ _; rfl
theorem eqIn_arr (d : Nat) (t : TypeId) (n : Nat) (hu : Tryd.prog.underlying t = some (.array n 5)) (a b : List B8) (ha : a.length = n) (hb : b.length = n) : (Op.equalIn (d + 2) t (.agg (cells8 a).toArray) (.agg (cells8 b).toArray)).run Tryd.prog w = .ok (decide (a = b)) w := by
  obtain ⟨i0, hi, hz0, hz1, hz2⟩ := info_parts info_u8p
  have hc : Tryd.prog.cellsOf 5 = 1 := by kernel_rfl
  rw [run_equalIn_array w (d + 1) _ _ hu hi, hc, eqItems8 w d a b _ (fun i hi => by simp at hi; omega), all_range a b n ha hb]
theorem eql_of {t : TypeId} {x y : Array Value} {r : Bool} (h : (Op.equalIn 10000 t (.agg x) (.agg y)).run Tryd.prog w = .ok r w) : (binOp .eql t (.agg x) (.agg y)).run Tryd.prog w = .ok (.bool r) w := by
  have h' : (Op.equal t (.agg x) (.agg y)).run Tryd.prog w = .ok r w := h
  simp only [binOp]
  simp [h']
theorem neq_of {t : TypeId} {x y : Array Value} {r : Bool} (h : (Op.equalIn 10000 t (.agg x) (.agg y)).run Tryd.prog w = .ok r w) : (binOp .neq t (.agg x) (.agg y)).run Tryd.prog w = .ok (.bool (!r)) w := by
  have h' : (Op.equal t (.agg x) (.agg y)).run Tryd.prog w = .ok r w := h
  simp only [binOp]
  simp [h']
theorem eql_digest (a b : List B8) (ha : a.length = 32) (hb : b.length = 32) : (binOp .eql 39 (.agg (cells8 a).toArray) (.agg (cells8 b).toArray)).run Tryd.prog w = .ok (.bool (decide (a = b))) w := eql_of w (eqIn_arr w 9998 _ 32 (by kernel_rfl) a b ha hb)
theorem neq_digest (a b : List B8) (ha : a.length = 32) (hb : b.length = 32) : (binOp .neq 39 (.agg (cells8 a).toArray) (.agg (cells8 b).toArray)).run Tryd.prog w = .ok (.bool (!decide (a = b))) w := neq_of w (eqIn_arr w 9998 _ 32 (by kernel_rfl) a b ha hb)
theorem eql_block (a b : List B8) (ha : a.length = 32) (hb : b.length = 32) : (binOp .eql 52 (.agg (cells8 a).toArray) (.agg (cells8 b).toArray)).run Tryd.prog w = .ok (.bool (decide (a = b))) w := eql_of w (eqIn_arr w 9998 _ 32 (by kernel_rfl) a b ha hb)
end

/-- A message. -/
structure Msg where
  i : Nat
  x : W
  v : Nat
  d : List B8
  t : List B8
  deriving DecidableEq
def Msg.ok (m : Msg) : Prop := m.i < 4096 ∧ m.v < 18446744073709551616 ∧ m.d.length = 32 ∧ m.t.length = 32
def nonC (x : W) (v : Nat) : List Value := [.int .u32 (wv x), .int .u64 (v : Int)]
def Msg.cells (m : Msg) : List Value := .int .i64 (m.i : Int) :: (nonC m.x m.v ++ (cells8 m.d ++ cells8 m.t))
theorem Msg.len {m : Msg} (h : m.ok) : m.cells.length = 67 := by
  obtain ⟨_, _, h3, h4⟩ := h
  simp [Msg.cells, nonC, cells8_len, h3, h4]
theorem Msg.one (m : Msg) : ∀ v ∈ m.cells, v.oneCell' = true := by
  intro v hv
  simp only [Msg.cells, nonC, List.mem_cons, List.mem_append, List.not_mem_nil, or_false] at hv
  rcases hv with rfl | (rfl | rfl) | h | h
  · rfl
  · rfl
  · rfl
  · exact cells8_ones _ _ h
  · exact cells8_ones _ _ h
/-- What is the same of two messages but for the tag. -/
def Msg.same (a b : Msg) : Bool := decide (a.i = b.i) && (decide (a.x = b.x ∧ a.v = b.v) && decide (a.d = b.d))
theorem ext_mid (A B C : List Value) (o n : Nat) (ho : A.length = o) (hn : B.length = n) : (A ++ (B ++ C)).toArray.extract o (o + n) = B.toArray := by
  subst ho; subst hn
  apply Array.ext'
  simp

def eqF3 (d : Nat) (xs ys : Array Value) : List (String × TypeId × Nat) → Sem Bool
  | [] => pure true
  | (n, t, o) :: fs =>
    if n ≠ "_" then do
      let a ← part t xs o
      let b ← part t ys o
      let r ← Op.equalIn d t a b
      if (!r) = true then pure false else eqF3 d xs ys fs
    else eqF3 d xs ys fs
theorem eqFields3 (d : Nat) (xs ys : Array Value) (fs : List Field) : Op.eqFields d xs ys fs = eqF3 d xs ys (fs.map fun f => (f.name, f.type, f.offset)) := by
  induction fs with
  | nil => rfl
  | cons f fs ih => simp only [Op.eqFields, eqF3, List.map_cons, ih]

section
variable (w : World)
theorem eqIn_nonce (d : Nat) (x y : W) (u v : Nat) : (Op.equalIn (d + 2) 51 (.agg (nonC x u).toArray) (.agg (nonC y v).toArray)).run Tryd.prog w = .ok (decide (x = y ∧ u = v)) w := by
  have hf : (Tryd.prog.fieldsOf 51).toList.map (fun f => (f.name, f.type, f.offset)) = [("Shard", 48, 0), ("Counter", 49, 1)] := by kernel_rfl
  have ht : Tryd.prog.underlying 51 = some (.struct (Tryd.prog.fieldsOf 51)) := by kernel_rfl
  have h1 : ∀ w, (isAgg 48).run Tryd.prog w = .ok false w := fun w => by kernel_rfl
  have h2 : ∀ w, (isAgg 49).run Tryd.prog w = .ok false w := fun w => by kernel_rfl
  rw [run_equalIn_struct w (d + 1) _ _ _ ht (by kernel_rfl), eqFields3, hf]
  have e1 := eqIn_int w d 48 .u32 (by kernel_rfl) (wv x) (wv y)
  have e2 := eqIn_int w d 49 .u64 (by kernel_rfl) (u : Int) (v : Int)
  have p1 : ∀ (z : W) (n : Nat), (part 48 (nonC z n).toArray 0).run Tryd.prog w = .ok (.int .u32 (wv z)) w := fun z n => by simp [part, h1, nonC]
  have p2 : ∀ (z : W) (n : Nat), (part 49 (nonC z n).toArray 1).run Tryd.prog w = .ok (.int .u64 (n : Int)) w := fun z n => by simp [part, h2, nonC]
  have n1 : ("Shard" ≠ "_") = True := eq_true (by decide)
  have n2 : ("Counter" ≠ "_") = True := eq_true (by decide)
  simp only [eqF3, n1, n2, if_true, Sem.run_bind, p1, Result.andThen_ok, e1]
  have hk : decide (x = y ∧ u = v) = (decide (wv x = wv y) && decide ((u : Int) = (v : Int))) := by
    rw [Bool.eq_iff_iff]; simp only [decide_eq_true_eq, Bool.and_eq_true, wv_inj, Int.natCast_inj]
  rw [hk]
  cases hq1 : decide (wv x = wv y) with
  | false => simp only [Bool.not_false, eq_self, if_true, Bool.false_and, Sem.run_pure]
  | true =>
    simp only [Bool.not_true, Bool.false_eq_true, if_false, Bool.true_and, Sem.run_bind, p2, Result.andThen_ok, e2]
    cases hq2 : decide ((u : Int) = (v : Int)) with
    | false => simp only [Bool.not_false, eq_self, if_true, Sem.run_pure]
    | true => simp only [Bool.not_true, Bool.false_eq_true, if_false, Sem.run_pure]
theorem eql_nonce (x y : W) (u v : Nat) : (binOp .eql 51 (.agg (nonC x u).toArray) (.agg (nonC y v).toArray)).run Tryd.prog w = .ok (.bool (decide (x = y ∧ u = v))) w := eql_of w (eqIn_nonce w 9998 x y u v)
theorem part_agg {t : TypeId} {n : Nat} (h1 : ∀ w, (isAgg t).run Tryd.prog w = .ok true w) (h2 : ∀ w, (sizeOf t).run Tryd.prog w = .ok n w) (cs : Array Value) (o : Nat) : (part t cs o).run Tryd.prog w = .ok (.agg (cs.extract o (o + n))) w := by
  simp [part, h1, h2]
theorem Msg.eqIn (d : Nat) (a b : Msg) (ha : a.ok) (hb : b.ok) : (Op.equalIn (d + 3) 54 (.agg a.cells.toArray) (.agg b.cells.toArray)).run Tryd.prog w = .ok (decide (a = b)) w := by
  have hf : (Tryd.prog.fieldsOf 54).toList.map (fun f => (f.name, f.type, f.offset)) = [("Index", 3, 0), ("Nonce", 51, 1), ("Data", 52, 3), ("Tag", 39, 35)] := by kernel_rfl
  have ht : Tryd.prog.underlying 54 = some (.struct (Tryd.prog.fieldsOf 54)) := by kernel_rfl
  have h1 : ∀ w, (isAgg 3).run Tryd.prog w = .ok false w := fun w => by kernel_rfl
  rw [run_equalIn_struct w (d + 2) _ _ _ ht (by kernel_rfl), eqFields3, hf]
  obtain ⟨_, _, had, hat⟩ := ha
  obtain ⟨_, _, hbd, hbt⟩ := hb
  have p1 : ∀ (m : Msg), (part 3 m.cells.toArray 0).run Tryd.prog w = .ok (.int .i64 (m.i : Int)) w := fun m => by simp [part, h1, Msg.cells]
  have p2 : ∀ (m : Msg), (part 51 m.cells.toArray 1).run Tryd.prog w = .ok (.agg (nonC m.x m.v).toArray) w := fun m => by
    rw [part_agg w (t := 51) (n := 2) (fun w => by kernel_rfl) (fun w => by kernel_rfl)]
    rw [show m.cells = [.int .i64 (m.i : Int)] ++ (nonC m.x m.v ++ (cells8 m.d ++ cells8 m.t)) from rfl, ext_mid _ _ _ 1 2 rfl rfl]
  have p3 : ∀ (m : Msg), m.d.length = 32 → (part 52 m.cells.toArray 3).run Tryd.prog w = .ok (.agg (cells8 m.d).toArray) w := fun m hm => by
    rw [part_agg w (t := 52) (n := 32) (fun w => by kernel_rfl) (fun w => by kernel_rfl)]
    rw [show m.cells = (.int .i64 (m.i : Int) :: nonC m.x m.v) ++ (cells8 m.d ++ cells8 m.t) by simp [Msg.cells], ext_mid _ _ _ 3 32 rfl (by rw [cells8_len, hm])]
  have p4 : ∀ (m : Msg), m.d.length = 32 → m.t.length = 32 → (part 39 m.cells.toArray 35).run Tryd.prog w = .ok (.agg (cells8 m.t).toArray) w := fun m hm hn => by
    rw [part_agg w (t := 39) (n := 32) (fun w => by kernel_rfl) (fun w => by kernel_rfl)]
    rw [show m.cells = (.int .i64 (m.i : Int) :: (nonC m.x m.v ++ cells8 m.d)) ++ (cells8 m.t ++ []) by simp [Msg.cells], ext_mid _ _ _ 35 32 (by simp [nonC, cells8_len, hm]) (by rw [cells8_len, hn])]
  obtain ⟨r1, e1, h1⟩ : ∃ r, (Op.equalIn (d + 2) 3 (.int .i64 (a.i : Int)) (.int .i64 (b.i : Int))).run Tryd.prog w = .ok r w ∧ (r = true ↔ a.i = b.i) := ⟨_, eqIn_int w (d + 1) 3 .i64 (by kernel_rfl) (a.i : Int) (b.i : Int), by rw [decide_eq_true_iff]; exact Int.natCast_inj⟩
  obtain ⟨r2, e2, h2⟩ : ∃ r, (Op.equalIn (d + 2) 51 (.agg (nonC a.x a.v).toArray) (.agg (nonC b.x b.v).toArray)).run Tryd.prog w = .ok r w ∧ (r = true ↔ a.x = b.x ∧ a.v = b.v) := ⟨_, eqIn_nonce w d a.x b.x a.v b.v, decide_eq_true_iff⟩
  obtain ⟨r3, e3, h3⟩ : ∃ r, (Op.equalIn (d + 2) 52 (.agg (cells8 a.d).toArray) (.agg (cells8 b.d).toArray)).run Tryd.prog w = .ok r w ∧ (r = true ↔ a.d = b.d) := ⟨_, eqIn_arr w d 52 32 (by kernel_rfl) a.d b.d had hbd, decide_eq_true_iff⟩
  obtain ⟨r4, e4, h4⟩ : ∃ r, (Op.equalIn (d + 2) 39 (.agg (cells8 a.t).toArray) (.agg (cells8 b.t).toArray)).run Tryd.prog w = .ok r w ∧ (r = true ↔ a.t = b.t) := ⟨_, eqIn_arr w d 39 32 (by kernel_rfl) a.t b.t hat hbt, decide_eq_true_iff⟩
  have key : decide (a = b) = (r1 && (r2 && (r3 && r4))) := by
    rw [Bool.eq_iff_iff, decide_eq_true_iff, Bool.and_eq_true, Bool.and_eq_true, Bool.and_eq_true, h1, h2, h3, h4]
    constructor
    · rintro rfl; exact ⟨rfl, ⟨rfl, rfl⟩, rfl, rfl⟩
    · rintro ⟨h1, ⟨h2, h3⟩, h4, h5⟩
      cases a; cases b
      simp only [Msg.mk.injEq]
      exact ⟨h1, h2, h3, h4, h5⟩
  rw [key]
  clear key h1 h2 h3 h4
  have n1 : ("Index" ≠ "_") = True := eq_true (by decide)
  have n2 : ("Nonce" ≠ "_") = True := eq_true (by decide)
  have n3 : ("Data" ≠ "_") = True := eq_true (by decide)
  have n4 : ("Tag" ≠ "_") = True := eq_true (by decide)
  simp only [eqF3, n1, n2, n3, n4, if_true, Sem.run_bind, p1, Result.andThen_ok, e1]
  cases r1 with
  | false => simp only [Bool.not_false, eq_self, if_true, Bool.false_and, Sem.run_pure]
  | true =>
    simp only [Bool.not_true, Bool.false_eq_true, if_false, Bool.true_and, Sem.run_bind, p2, Result.andThen_ok, e2]
    cases r2 with
    | false => simp only [Bool.not_false, eq_self, if_true, Bool.false_and, Sem.run_pure]
    | true =>
      simp only [Bool.not_true, Bool.false_eq_true, if_false, Bool.true_and, Sem.run_bind]
      rw [p3 a had, Result.andThen_ok, p3 b hbd, Result.andThen_ok, e3, Result.andThen_ok]
      cases r3 with
      | false => simp only [Bool.not_false, eq_self, if_true, Bool.false_and, Sem.run_pure]
      | true =>
        simp only [Bool.not_true, Bool.false_eq_true, if_false, Bool.true_and, Sem.run_bind]
        rw [p4 a had hat, Result.andThen_ok, p4 b hbd hbt, Result.andThen_ok, e4, Result.andThen_ok]
        cases r4 with
        | false => simp only [Bool.not_false, eq_self, if_true, Sem.run_pure]
        | true => simp only [Bool.not_true, Bool.false_eq_true, if_false, Sem.run_pure]
theorem eql_msg (a b : Msg) (ha : a.ok) (hb : b.ok) : (binOp .eql 54 (.agg a.cells.toArray) (.agg b.cells.toArray)).run Tryd.prog w = .ok (.bool (decide (a = b))) w := eql_of w (Msg.eqIn w 9997 a b ha hb)
theorem neq_msg (a b : Msg) (ha : a.ok) (hb : b.ok) : (binOp .neq 54 (.agg a.cells.toArray) (.agg b.cells.toArray)).run Tryd.prog w = .ok (.bool (!decide (a = b))) w := neq_of w (Msg.eqIn w 9997 a b ha hb)
end
end Go.Proofs.YtpobkoiaidgedaaDoor
