/- Laws on rows of any element size, over any program: copy into a row of the call's own, append of zeros, clear. -/
import Derived.Test.YtbkpgmlibiclfaaGreatDoorBas2
import Derived.Laws.CopyOwn
import Derived.Lib.AppendZeros
namespace Go.Proofs.YtbkpgmlibiclfaaGreatDoor
open Go.RowKit

/-- Block g is just the cells L, of element type t. -/
def Row (w : World) (g : Nat) (t : TypeId) (L : List Value) : Prop := w.heap[g]? = some (.cells L.toArray t (0, 0))

theorem Row.lt {w : World} {g : Nat} {t : TypeId} {L : List Value} (h : Row w g t L) : g < w.heap.size := (Array.getElem?_eq_some_iff.1 h).1
theorem Row.cells {w : World} {g : Nat} {t : TypeId} {L : List Value} (h : Row w g t L) (o : Nat) : Cells w ⟨g, o, none⟩ (L.drop o) := fun j v hv => by
  have hadd : (⟨g, o, none⟩ : Addr).add j = ⟨g, o + j, none⟩ := by unfold Addr.add; split <;> simp_all
  rw [hadd]
  rw [List.getElem?_drop] at hv
  unfold Row at h
  simpa [World.cell?, h] using hv
theorem Row.set {w : World} {g : Nat} {t : TypeId} {L M : List Value} (h : Row w g t L) : Row (w.setRow g M.toArray) g t M := setRow_heap w g _ _ t _ h
theorem Row.other {w : World} {g k : Nat} {t : TypeId} {L : List Value} (h : Row w k t L) (hk : k ≠ g) (M : Array Value) : Row (w.setRow g M) k t L := (setRow_other w g k M hk).trans h
theorem Row.below {B : Nat} {w w' : World} {g : Nat} {t : TypeId} {L : List Value} (h : Row w g t L) (hb : Below B w w') (hg : g < B) : Row w' g t L := (hb.block g hg).trans h
theorem Row.free {w : World} {g : Nat} {t : TypeId} {L : List Value} (h : Row w g t L) (o : Nat) : w.frozen? ⟨g, o, none⟩ = false := by unfold Row at h; simp [World.frozen?, h]
theorem Cells.take {w : World} {a : Addr} {l : List Value} (h : Cells w a l) (n : Nat) : Cells w a (l.take n) := fun j v hv => by
  rw [List.getElem?_take] at hv
  split at hv
  · exact h j v hv
  · cases hv
/-- An owned row, as a row and the capacity. -/
theorem own_row {w : World} {B e size n : Nat} {A : Option Addr} {c : Nat} {xs : List Value} (h : w.ownsRow B e size (.slice A n c) n xs) :
    (A = none ∧ n = 0 ∧ c = 0 ∧ xs = []) ∨ ∃ g L, A = some ⟨g, 0, none⟩ ∧ B ≤ g ∧ Row w g e L ∧ n ≤ c ∧ c ≤ maxLen ∧ L.length = c * size ∧ L.take (n * size) = xs := by
  rcases h.2 with ⟨h1, h2⟩ | ⟨g, cap, cur, hv, hB, hh, hnc, hcm, hsz, ht⟩
  · left
    injection h1 with a b c
    exact ⟨a, h2, c, by subst h2; simpa using h.1⟩
  · right
    injection hv with a b c'
    subst c'
    exact ⟨g, cur.toList, a, hB, by unfold Row; simpa using hh, hnc, hcm, by simpa using hsz, ht⟩
theorem row_own {w : World} {B e size n c g : Nat} {L xs : List Value} (hB : B ≤ g) (h : Row w g e L) (hnc : n ≤ c) (hcm : c ≤ maxLen) (hl : L.length = c * size) (ht : L.take (n * size) = xs) :
    w.ownsRow B e size (.slice (some ⟨g, 0, none⟩) n c) n xs := by
  have hnl : n * size ≤ L.length := by rw [hl]; exact Nat.mul_le_mul_right _ hnc
  exact ⟨by rw [← ht, List.length_take]; omega, .inr ⟨g, c, L.toArray, rfl, hB, h, hnc, hcm, by simpa using hl, by simpa using ht⟩⟩

section
variable {P : Program} {w : World}

theorem run_copy_any (dT sT ty elem : TypeId) (size : Nat) (hu : P.underlying dT = some (.slice elem)) (hs : (P.info? elem).map (·.size) = some size)
    (g o dLen dCap sLen sCap n : Nat) (dp sp : Option Addr) (L cs : List Value) (t : TypeId) (hg : Row w g t L) (hn : n = Nat.min sLen dLen) (hcs : cs.length = n * size)
    (hd : 0 < n → dp = some ⟨g, o, none⟩) (hsrc : 0 < n → ∃ ad, sp = some ad ∧ Cells w ad cs) (hfit : o + cs.length ≤ L.length) (h1 : ∀ v ∈ cs, v.oneCell' = true) :
    (Builtin.copy_ #[dT, sT] ty #[.slice dp dLen dCap, .slice sp sLen sCap]).run P w = .ok (goInt n) (w.setRow g (splice L o cs).toArray) := by
  cases hq : P.info? elem with
  | none => simp [hq] at hs
  | some i =>
    have hi : i.size = size := by simpa [hq] using hs
    rcases Nat.eq_zero_or_pos n with h0 | h0
    · subst h0
      have hc0 : cs = [] := List.eq_nil_of_length_eq_zero (by simpa using hcs)
      subst hc0
      have hself : w.setRow g (splice L o []).toArray = w := by
        have e : splice L o [] = L := by simp [splice]
        rw [e]; exact setRow_self w g _ t _ hg
      rw [hself]
      cases dp <;> cases sp <;> simp [Builtin.copy_, run_underlying hu, Builtin.lenOf, Builtin.firstCells, sizeOf, typeInfo, hq, ← hn, storeCells, loadCells, loadCellsFrom]
    · obtain ⟨ad, rfl, hc⟩ := hsrc h0
      obtain rfl := hd h0
      have hl := run_loadCells_list (P := P) w ad cs hc
      have hst := run_storeCells_at P g o t cs 0 L.toArray w hg (by simpa using hfit) h1
      simp only [Nat.add_zero] at hst
      rw [hcs] at hl
      simp [Builtin.copy_, run_underlying hu, Builtin.lenOf, Builtin.firstCells, sizeOf, typeInfo, hq, hi, ← hn, hl, hst, splice]

theorem copy_ex (dT sT ty elem : TypeId) (size : Nat) (hu : P.underlying dT = some (.slice elem)) (hs : (P.info? elem).map (·.size) = some size)
    (g o dLen dCap sLen sCap n : Nat) (dp sp : Option Addr) (L cs : List Value) (t : TypeId) (hg : Row w g t L) (hn : n = Nat.min sLen dLen) (hcs : cs.length = n * size)
    (hd : 0 < n → dp = some ⟨g, o, none⟩) (hsrc : 0 < n → ∃ ad, sp = some ad ∧ Cells w ad cs) (hfit : o + cs.length ≤ L.length) (h1 : ∀ v ∈ cs, v.oneCell' = true) :
    ∃ w', (Builtin.copy_ #[dT, sT] ty #[.slice dp dLen dCap, .slice sp sLen sCap]).run P w = .ok (goInt n) w' ∧ Row w' g t (splice L o cs) ∧ w.grownBy w' (some g) :=
  ⟨_, run_copy_any dT sT ty elem size hu hs g o dLen dCap sLen sCap n dp sp L cs t hg hn hcs hd hsrc hfit h1, hg.set, rfl, rfl, rfl, by simp [World.setRow], fun k _ hk => setRow_other w g k _ (fun e => hk (by rw [e]))⟩

theorem wp_copy_run {o : Oper} {a : Act} {K : Act → World → Prop} {Q : Exit → Act → World → Prop} (d s : Operand) (t t' : TypeId)
    (ho : o.op = .call { callee := .builtin .copy, args := #[d, s], argTypes := #[t, t'] }) (v u : Value) (hd : a.eval d = v) (hs : a.eval s = u) {v' : Value} {w' : World}
    (hr : (Builtin.copy_ #[t, t'] o.type #[v, u]).run P w = .ok v' w') (h : K (a.put o.dst v') w') : o.wp P a w K Q := by
  unfold Oper.wp execOp
  simp only [ho, resolve, invoke, builtin, Sem.run_bind, Sem.run_pure, Result.andThen_ok, List.map_toArray, List.map_cons, List.map_nil, hd, hs, hr]
  exact h
theorem wpList_copy_run {ops : Array Oper} {rest : List Oper} {o : Oper} {a : Act} {Q : Exit → Act → World → Prop} (hgd : o.guard = none) (d s : Operand) (t t' : TypeId)
    (ho : o.op = .call { callee := .builtin .copy, args := #[d, s], argTypes := #[t, t'] }) (v u : Value) (hd : a.eval d = v) (hs : a.eval s = u) {v' : Value} {w' : World}
    (hr : (Builtin.copy_ #[t, t'] o.type #[v, u]).run P w = .ok v' w') (h : wpList P ops Q rest (a.put o.dst v') w') : wpList P ops Q (o :: rest) a w :=
  wpList_plain hgd fun _ hK => wp_copy_run d s t t' ho v u hd hs hr (hK _ _ h)
theorem step_copy_run {ops : Array Oper} {o : Oper} {a : Act} {K : Act → World → Prop} {Q : Exit → Act → World → Prop} {E : Prop} (hgd : o.guard = none) (d s : Operand) (t t' : TypeId)
    (ho : o.op = .call { callee := .builtin .copy, args := #[d, s], argTypes := #[t, t'] }) (v u : Value) (hd : a.eval d = v) (hs : a.eval s = u) {v' : Value} {w' : World}
    (hr : (Builtin.copy_ #[t, t'] o.type #[v, u]).run P w = .ok v' w') (h : K (a.put o.dst v') w') : if Region.wanted o (yielded ops a.tmps) = true then Oper.wp P o a w K Q else E := by
  rw [if_pos (by simp [Region.wanted, hgd])]
  exact wp_copy_run d s t t' ho v u hd hs hr h

theorem run_room_any (t ty e : TypeId) (i : TypeInfo) (size : Nat) (ht : P.underlying t = some (.slice e)) (hi : P.info? e = some i) (hsize : i.size = size)
    (g k c m c' : Nat) (sp : Option Addr) (L news : List Value) (hg : Row w g e L) (hl : news.length = m * size) (hsrc : ∃ ad, sp = some ad ∧ Cells w ad news) (h1 : ∀ u ∈ news, u.oneCell' = true)
    (hroom : k + m ≤ c) (hfit : k * size + news.length ≤ L.length) :
    (Builtin.append_ #[t, t] ty #[.slice (some ⟨g, 0, none⟩) k c, .slice sp m c']).run P w = .ok (.slice (some ⟨g, 0, none⟩) (k + m) c) (w.setRow g (splice L (k * size) news).toArray) := by
  subst hsize
  obtain ⟨ad, rfl, hc⟩ := hsrc
  have hr := run_append_room (P := P) w t ty e i ht hi g k c L.toArray hg ad m c' news hl hc h1 hroom (by simpa using hfit)
  have e1 : L.toArray.toList.take (k * i.size) ++ news ++ L.toArray.toList.drop (k * i.size + news.length) = splice L (k * i.size) news := by simp [splice]
  rw [e1] at hr
  exact hr
theorem grown_setRow (w : World) (g : Nat) (M : Array Value) : w.grownBy (w.setRow g M) (some g) :=
  ⟨rfl, rfl, rfl, by simp [World.setRow], fun k _ hk => setRow_other w g k _ (fun e => hk (by rw [e]))⟩
theorem step_append_run {ops : Array Oper} {o : Oper} {a : Act} {K : Act → World → Prop} {Q : Exit → Act → World → Prop} {E : Prop} (hgd : o.guard = none) (d s : Operand) (t t' : TypeId)
    (ho : o.op = .call { callee := .builtin .append, args := #[d, s], argTypes := #[t, t'] }) (v u : Value) (hd : a.eval d = v) (hs : a.eval s = u) {v' : Value} {w' : World}
    (hr : (Builtin.append_ #[t, t'] o.type #[v, u]).run P w = .ok v' w') (h : K (a.put o.dst v') w') : if Region.wanted o (yielded ops a.tmps) = true then Oper.wp P o a w K Q else E := by
  rw [if_pos (by simp [Region.wanted, hgd])]
  exact Lib.wp_append_run w d s t t' ho v u hd hs v' w' hr h

/-- append(s[:k], make([]T, n)...) where it must grow: one draw, a new row. -/
theorem run_append_zeros (t tn ty e : TypeId) (i : TypeInfo) (z : Value) (kn : IntKind) (ht : P.underlying t = some (.slice e)) (htn : P.underlying tn = some (.int kn)) (hi : P.info? e = some i) (hz : i.zero = some z)
    (hs0 : 0 < i.size) (A : Option Addr) (k c n : Nat) (xs : List Value) (hxl : xs.length = k * i.size) (hx : 0 < k → ∃ ad, A = some ad ∧ Cells w ad xs)
    (h0 : 0 < n) (hgrow : c < k + n) (hbig : k + n ≤ 1000000000) (hby : (k + n) * i.bytes ≤ 140737488355328) :
    ∃ cap, k + n ≤ cap ∧ cap ≤ maxLen ∧ (Builtin.append_ #[t, tn] ty #[.slice A k c, .int .i64 n]).run P w =
      .ok (.slice (some ⟨w.heap.size, 0, none⟩) (k + n) cap) (w.drew.alloc (.cells (xs ++ (Builtin.zeroCells z.cells n).toList ++ (Builtin.zeroCells z.cells (cap - (k + n))).toList).toArray e)) := by
  refine ⟨grownCap w (k + n) c e, grownCap_ge w _ _ e, grownCap_le_maxLen w _ _ e (by unfold maxLen; omega), ?_⟩
  have hn : n ≠ 0 := by omega
  have hw : IntKind.i64.wrap (n : Int) = n := by rw [IntKind.wrap_i64]; omega
  have hneed : ¬ (k + n ≤ c) := by omega
  have h63' : ¬ ((9223372036854775807 : Int) < ((k : Int) + (n : Int))) := by omega
  have hfit := growslice_fits hgrow hby
  have h48' : ¬ (281474976710656 < Builtin.nextslicecap (k + n) c * i.bytes) := by omega
  have hnb : n * i.bytes ≤ 140737488355328 := Nat.le_trans (Nat.mul_le_mul_right _ (by omega)) hby
  have h48i : ¬ (281474976710656 < (n : Int) * (i.bytes : Int)) := by
    rw [← Int.natCast_mul]
    omega
  have hneg : ¬ ((n : Int) < 0) := by omega
  have hns : ¬ (n * i.size = 0) := Nat.mul_ne_zero hn (by omega)
  have hfirst : ∀ W : World, W.heap = w.heap → (Builtin.firstCells i.size k (.slice A k c)).run P W = .ok xs.toArray W := by
    intro W hW
    rcases Nat.eq_zero_or_pos k with hk | hk
    · subst hk
      have hx0 : xs = [] := List.eq_nil_of_length_eq_zero (by simpa using hxl)
      subst hx0
      cases A <;> simp [Builtin.firstCells, loadCells, loadCellsFrom]
    · obtain ⟨ad, rfl, hc⟩ := hx hk
      have hc' : Cells W ad xs := fun j v hv => by
        have := hc j v hv
        unfold World.cell? at this ⊢; rw [hW]; exact this
      have hl := run_loadCells_list (P := P) W ad xs hc'
      rw [hxl] at hl
      simp [Builtin.firstCells, hl]
  have hf := hfirst w.drew rfl
  simp [Builtin.append_, run_underlying ht, run_underlying htn, sizeOf, typeInfo, zeroValue, hi, hz, asInt, asIntOf, hw, hneg, hns, hneed, h63', h48', h48i, Question.forced, hf, newRow, grownCap]
  congr 2
  apply Array.ext'
  simp

theorem zero_one {z : Value} (hz : ∀ v ∈ z.cells.toList, v.oneCell' = true) (n : Nat) : ∀ v ∈ (Builtin.zeroCells z.cells n).toList, v.oneCell' = true := by
  intro v hv
  simp only [Builtin.zeroCells, Array.toList_map, List.mem_map] at hv
  obtain ⟨j, hj, rfl⟩ := hv
  have hj' : j < n * z.cells.size := by simpa using hj
  have hpos : 0 < z.cells.size := by
    rcases Nat.eq_zero_or_pos z.cells.size with h | h
    · rw [h] at hj'; simp at hj'
    · exact h
  have hlt : j % z.cells.size < z.cells.size := Nat.mod_lt _ hpos
  rw [getElem!_pos z.cells _ hlt]
  exact hz _ (by simp)

theorem run_clear_any (t ty e : TypeId) (i : TypeInfo) (z : Value) (ht : P.underlying t = some (.slice e)) (hi : P.info? e = some i) (hz : i.zero = some z) (hz1 : ∀ v ∈ z.cells.toList, v.oneCell' = true)
    (g o n c : Nat) (dp : Option Addr) (L : List Value) (tt : TypeId) (hg : Row w g tt L) (hd : 0 < n → dp = some ⟨g, o, none⟩) (hfit : o + n * z.cells.size ≤ L.length) :
    (Builtin.clear_ #[t] ty #[.slice dp n c]).run P w = .ok (.tuple #[]) (w.setRow g (splice L o (Builtin.zeroCells z.cells n).toList).toArray) := by
  rcases Nat.eq_zero_or_pos n with h0 | h0
  · subst h0
    have hzc : (Builtin.zeroCells z.cells 0).toList = [] := by simp [Builtin.zeroCells]
    have hself : w.setRow g (splice L o []).toArray = w := by
      have e : splice L o [] = L := by simp [splice]
      rw [e]; exact setRow_self w g _ tt _ hg
    rw [hzc, hself]
    cases dp <;> simp [Builtin.clear_, run_underlying ht]
  · obtain rfl := hd h0
    have hzl : (Builtin.zeroCells z.cells n).toList.length = n * z.cells.size := by simp [size_zeroCells]
    have hst := run_storeCells_at P g o tt (Builtin.zeroCells z.cells n).toList 0 L.toArray w hg (by simpa [hzl] using hfit) (zero_one hz1 n)
    simp only [Nat.add_zero] at hst
    obtain ⟨m, rfl⟩ : ∃ m, n = m + 1 := ⟨n - 1, by omega⟩
    simp [Builtin.clear_, run_underlying ht, zeroValue, typeInfo, hi, hz, hst, splice]

theorem clear_ex (t ty e : TypeId) (i : TypeInfo) (z : Value) (ht : P.underlying t = some (.slice e)) (hi : P.info? e = some i) (hz : i.zero = some z) (hz1 : ∀ v ∈ z.cells.toList, v.oneCell' = true)
    (g o n c : Nat) (dp : Option Addr) (L : List Value) (tt : TypeId) (hg : Row w g tt L) (hd : 0 < n → dp = some ⟨g, o, none⟩) (hfit : o + n * z.cells.size ≤ L.length) :
    ∃ w', (Builtin.clear_ #[t] ty #[.slice dp n c]).run P w = .ok (.tuple #[]) w' ∧ Row w' g tt (splice L o (Builtin.zeroCells z.cells n).toList) ∧ w.grownBy w' (some g) :=
  ⟨_, run_clear_any t ty e i z ht hi hz hz1 g o n c dp L tt hg hd hfit, hg.set, rfl, rfl, rfl, by simp [World.setRow], fun k _ hk => setRow_other w g k _ (fun e => hk (by rw [e]))⟩

theorem wp_clear_run {o : Oper} {a : Act} {K : Act → World → Prop} {Q : Exit → Act → World → Prop} (d : Operand) (t : TypeId)
    (ho : o.op = .call { callee := .builtin .clear, args := #[d], argTypes := #[t] }) (v : Value) (hd : a.eval d = v) {v' : Value} {w' : World}
    (hr : (Builtin.clear_ #[t] o.type #[v]).run P w = .ok v' w') (h : K (a.put o.dst v') w') : o.wp P a w K Q := by
  unfold Oper.wp execOp
  simp only [ho, resolve, invoke, builtin, Sem.run_bind, Sem.run_pure, Result.andThen_ok, List.map_toArray, List.map_cons, List.map_nil, hd, hr]
  exact h
theorem wpList_clear_run {ops : Array Oper} {rest : List Oper} {o : Oper} {a : Act} {Q : Exit → Act → World → Prop} (hgd : o.guard = none) (d : Operand) (t : TypeId)
    (ho : o.op = .call { callee := .builtin .clear, args := #[d], argTypes := #[t] }) (v : Value) (hd : a.eval d = v) {v' : Value} {w' : World}
    (hr : (Builtin.clear_ #[t] o.type #[v]).run P w = .ok v' w') (h : wpList P ops Q rest (a.put o.dst v') w') : wpList P ops Q (o :: rest) a w :=
  wpList_plain hgd fun _ hK => wp_clear_run d t ho v hd hr (hK _ _ h)
end

theorem splice_len {α : Type} (L : List α) (o : Nat) (cs : List α) (h : o + cs.length ≤ L.length) : (splice L o cs).length = L.length := length_splice L o cs h
/-- A splice behind a prefix leaves it. -/
theorem splice_take {α : Type} (L : List α) (o : Nat) (cs : List α) (n : Nat) (hn : n ≤ o) (ho : o ≤ L.length) : (splice L o cs).take n = L.take n := by
  unfold splice
  rw [List.take_append_of_le_length (by simp; omega), List.take_take]
  congr 1; omega
theorem splice_take_end {α : Type} (L : List α) (o : Nat) (cs : List α) (ho : o ≤ L.length) : (splice L o cs).take (o + cs.length) = L.take o ++ cs := by
  unfold splice
  rw [← List.append_assoc, List.take_append_of_le_length (by simp; omega)]
  exact List.take_of_length_le (by simp; omega)
theorem splice_drop {α : Type} (L : List α) (o : Nat) (cs : List α) (ho : o ≤ L.length) : (splice L o cs).drop (o + cs.length) = L.drop (o + cs.length) := by
  unfold splice
  rw [List.drop_append, List.drop_eq_nil_of_le (by simp; omega), List.nil_append, List.drop_append, List.drop_eq_nil_of_le (by simp; omega), List.nil_append]
  simp
  congr 1
  omega
end Go.Proofs.YtbkpgmlibiclfaaGreatDoor
