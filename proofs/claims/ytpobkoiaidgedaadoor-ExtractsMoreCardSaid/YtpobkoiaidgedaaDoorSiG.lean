/- A map whose keys are digests: what reads and writes it. -/
import Derived.Test.YtpobkoiaidgedaaDoorSiF
import Derived.WideKeyEntry
import Derived.MapKept
namespace Go.Proofs.YtpobkoiaidgedaaDoor
open Go.RowKit

theorem und_map : Tryd.prog.underlying 69 = some (.map 39 26) := by kernel_rfl
theorem zero_rows (w : World) : (zeroValue 26).run Tryd.prog w = .ok (.slice none 0 0) w := by kernel_rfl
theorem sameBits8 (l : List B8) : ∀ n, Instr.sameBits (n + 2) (.agg (cells8 l).toArray) (.agg (cells8 l).toArray) = true := by
  intro n
  simp only [Instr.sameBits, List.size_toArray, beq_self_eq_true, Bool.true_and]
  rw [List.all_eq_true]
  intro x hx
  have h : x ∈ (cells8 l).zip (cells8 l) := by simpa using hx
  have : ∀ (l : List B8) x, x ∈ (cells8 l).zip (cells8 l) → ∃ b, x = (.int .u8 (bv b), .int .u8 (bv b)) := by
    intro l
    induction l with
    | nil => intro x hx; simp [cells8] at hx
    | cons a l ih =>
      intro x hx
      simp only [cells8, List.map_cons, List.zip_cons_cons, List.mem_cons] at hx
      rcases hx with rfl | hx
      · exact ⟨a, rfl⟩
      · exact ih x hx
  obtain ⟨b, rfl⟩ := this l x h
  simp [Instr.sameBits]
theorem stays8 (w : World) (l : List B8) : (Instr.keyThatStays (.agg (cells8 l).toArray) (.agg (cells8 l).toArray)).run Tryd.prog w = .ok (.agg (cells8 l).toArray) w := by
  simp [Instr.keyThatStays, sameBits8 l 9998]
/-- The map's entries when the entry of k has been laid. -/
def putK (kvs : KV) (k : List B8) : KV := if (findK k kvs 0).isSome then kvs else kvs ++ [(k, .slice none 0 0)]
theorem putK_keys {kvs : KV} {k : List B8} (h : Keys32 kvs) (hk : k.length = 32) : Keys32 (putK kvs k) := by
  unfold putK
  split
  · exact h
  · intro p hp
    rcases List.mem_append.1 hp with hp | hp
    · exact h p hp
    · simp at hp; subst hp; exact hk
theorem putK_val (kvs : KV) (k k' : List B8) : valK (putK kvs k) k' = valK kvs k' := by
  unfold putK
  split
  · rfl
  · rename_i hn
    have h0 : findK k kvs 0 = none := by simpa using hn
    unfold valK
    rw [findK_snoc k k' kvs 0 _ h0]
    by_cases e : k' = k
    · rw [if_pos e, e, h0]; rfl
    · rw [if_neg e]
theorem putK_find (kvs : KV) (k : List B8) : ∃ i, findK k (putK kvs k) 0 = some (i, valK kvs k) := by
  unfold putK
  split
  · rename_i hs
    obtain ⟨⟨i, v⟩, h⟩ := Option.isSome_iff_exists.1 hs
    exact ⟨i, by rw [h]; simp [valK, h]⟩
  · rename_i hn
    have h0 : findK k kvs 0 = none := by simpa using hn
    refine ⟨kvs.length, ?_⟩
    rw [findK_snoc k k kvs 0 _ h0, if_pos rfl]
    simp [valK, h0]
theorem setHeap_grown (w : World) (r : Nat) (o : Obj) : w.grownBy { w with heap := w.heap.setIfInBounds r o } (some r) :=
  ⟨rfl, rfl, rfl, by simp, fun k _ hk => by
    show (w.heap.setIfInBounds r o)[k]? = w.heap[k]?
    rw [Array.getElem?_setIfInBounds_ne (fun e => hk (by rw [e]))]⟩

section
variable {w : World} {r : Nat} {kvs : KV}
theorem MapIs.lt (h : MapIs w r kvs) : r < w.heap.size := (Array.getElem?_eq_some_iff.1 h).1
theorem run_mapEntry8 (h : MapIs w r kvs) (h32 : Keys32 kvs) (k : List B8) (hk : k.length = 32) :
    ∃ (i : Nat) (w' : World), (Instr.mapEntry 69 (.map (some r)) (.agg (cells8 k).toArray)).run Tryd.prog w = .ok (.tuple #[valK kvs k, .int .i64 (i : Int)]) w' ∧ MapIs w' r (putK kvs k) ∧ findK k (putK kvs k) 0 = some (i, valK kvs k) ∧ w.grownBy w' (some r) := by
  have hg : (getObj r).run Tryd.prog w = .ok (.map (mapE kvs 0).toArray kvs.length) w := MapKept.run_getObj_map h
  have hf := find8 w k hk kvs h32
  cases hq : findK k kvs 0 with
  | some p =>
    obtain ⟨i, v⟩ := p
    have hv : valK kvs k = v := by simp [valK, hq]
    have hat := findK_at k kvs 0 i v hq
    rw [Nat.sub_zero] at hat
    have hme := mapE_get kvs 0 i (k, v) hat.2
    rw [Nat.zero_add] at hme
    have hpk : putK kvs k = kvs := by simp [putK, hq]
    have hmod : (mapE kvs 0).toArray.modify i (fun e => { e with key := .agg (cells8 k).toArray }) = (mapE kvs 0).toArray := by
      apply Array.ext'
      rw [Array.toList_modify]
      rw [List.modify_eq_set, hme]
      simp only [Option.getD_some]
      exact WideElems.set_self _ i _ hme
    have hmod2 : ({ w with heap := w.heap.setIfInBounds r (.map (mapE kvs 0).toArray kvs.length) } : World) = w := by
      have : w.heap.setIfInBounds r (.map (mapE kvs 0).toArray kvs.length) = w.heap := by
        apply Array.ext_getElem?
        intro j
        by_cases e : j = r
        · subst e; rw [Array.getElem?_setIfInBounds_self_of_lt h.lt, h]
        · rw [Array.getElem?_setIfInBounds_ne (fun h => e h.symm)]
      rw [this]
    have hset : (setObj r (.map (mapE kvs 0).toArray kvs.length)).run Tryd.prog w = .ok () w := by rw [MapKept.run_setObj_map _ h, hmod2]
    refine ⟨i, w, ?_, by rw [hpk]; exact h, by rw [hpk, hq, hv], World.grownBy.refl w _⟩
    have hme2 : (mapE kvs 0).toArray[i]? = some { key := .agg (cells8 k).toArray, val := v, born := i } := by simpa using hme
    rw [hv]
    simp only [Instr.mapEntry, Sem.run_bind, run_underlying und_map, Result.andThen_ok, hg, check8 w false 9998 k hk, hf, hq, hme2, Option.map_some, Option.getD_some, stays8, hmod, hset, Sem.run_pure]
    rfl
  | none =>
    have hv : valK kvs k = .slice none 0 0 := by simp [valK, hq]
    have hpk : putK kvs k = kvs ++ [(k, .slice none 0 0)] := by simp [putK, hq]
    refine ⟨kvs.length, { w with heap := w.heap.setIfInBounds r (.map ((mapE kvs 0).toArray.push { key := .agg (cells8 k).toArray, val := .slice none 0 0, born := kvs.length }) (kvs.length + 1)) }, ?_, ?_, ?_, setHeap_grown _ _ _⟩
    · rw [hv]
      simp only [Instr.mapEntry, Sem.run_bind, run_underlying und_map, Result.andThen_ok, hg, check8 w false 9998 k hk, hf, hq, zero_rows, MapKept.run_setObj_map _ h, Sem.run_pure]
      rfl
    · unfold MapIs
      rw [hpk, mapE_snoc, Nat.zero_add]
      show (w.heap.setIfInBounds r _)[r]? = _
      rw [Array.getElem?_setIfInBounds_self_of_lt h.lt]
      simp
    · rw [hpk, findK_snoc k k kvs 0 _ hq, if_pos rfl, hv, Nat.zero_add]
theorem run_entryStore8 (h : MapIs w r kvs) (k : List B8) (i : Nat) (v u : Value) (hi : kvs[i]? = some (k, v)) :
    ∃ w', (Instr.entryStore 69 (.map (some r)) (.int .i64 (i : Int)) u).run Tryd.prog w = .ok () w' ∧ MapIs w' r (kvs.set i (k, u)) ∧ w.grownBy w' (some r) := by
  have hg : (getObj r).run Tryd.prog w = .ok (.map (mapE kvs 0).toArray kvs.length) w := MapKept.run_getObj_map h
  have hil : i < kvs.length := (List.getElem?_eq_some_iff.1 hi).1
  have hme := mapE_get kvs 0 i (k, v) hi
  rw [Nat.zero_add] at hme
  have hnd : ∀ (l : KV) (o : Nat), (mapE l o).map (·.born) = List.range' o l.length := by
    intro l
    induction l with
    | nil => intro o; rfl
    | cons p l ih => intro o; simp only [mapE, List.map_cons, ih, List.length_cons, List.range'_succ]
  have hfi := WideElems.findIdx_born (l := mapE kvs 0) (by rw [hnd]; exact List.nodup_range') hme
  have hfi2 : (mapE kvs 0).toArray.findIdx? (fun e => ((e.born : Nat) : Int) == ((i : Nat) : Int)) = some i := by rw [WideElems.findIdx_arr]; exact hfi
  refine ⟨{ w with heap := w.heap.setIfInBounds r (.map ((mapE kvs 0).toArray.modify i fun e => { e with val := u }) kvs.length) }, ?_, ?_, setHeap_grown _ _ _⟩
  · simp only [Instr.entryStore, Sem.run_bind, Result.andThen_ok, hg, asInt, asIntOf, Sem.run_pure, hfi2, MapKept.run_setObj_map _ h]
  · unfold MapIs
    show (w.heap.setIfInBounds r _)[r]? = _
    rw [Array.getElem?_setIfInBounds_self_of_lt h.lt]
    congr 2
    · apply Array.ext'
      rw [Array.toList_modify, List.modify_eq_set, hme]
      rw [mapE_set kvs 0 i (k, u) hil, Nat.zero_add]
      rfl
    · simp
theorem run_lookup8 (h : MapIs w r kvs) (h32 : Keys32 kvs) (k : List B8) (hk : k.length = 32) :
    (Instr.lookup 69 (.map (some r)) (.agg (cells8 k).toArray) false).run Tryd.prog w = .ok (valK kvs k) w := by
  have hg : (getObj r).run Tryd.prog w = .ok (.map (mapE kvs 0).toArray kvs.length) w := MapKept.run_getObj_map h
  have hf := find8 w k hk kvs h32
  have hck : ∀ b, (Instr.checkKey b 10000 39 (.agg (cells8 k).toArray)).run Tryd.prog w = .ok () w := fun b => check8 w b 9998 k hk
  cases hq : findK k kvs 0 with
  | some p =>
    simp only [Instr.lookup, Sem.run_bind, run_underlying und_map, Result.andThen_ok, hg, Sem.run_pure, hck, hf, hq]
    simp [valK, hq]
  | none =>
    simp only [Instr.lookup, Sem.run_bind, run_underlying und_map, Result.andThen_ok, hg, Sem.run_pure, hck, hf, hq, zero_rows]
    simp [valK, hq]
theorem valK_set (k k' : List B8) (i : Nat) (v u : Value) (hi : findK k kvs 0 = some (i, v)) : valK (kvs.set i (k, u)) k' = if k' = k then u else valK kvs k' := by
  have hat := findK_at k kvs 0 i v hi
  rw [Nat.sub_zero] at hat
  unfold valK
  by_cases e : k' = k
  · rw [if_pos e, e]
    have := findK_set k kvs 0 i v u hi
    rw [Nat.sub_zero] at this
    rw [this]; rfl
  · rw [if_neg e, findK_other k k' e kvs 0 i v u hat.2]
theorem set_keys {k : List B8} {i : Nat} {u : Value} (h : Keys32 kvs) (hk : k.length = 32) : Keys32 (kvs.set i (k, u)) := by
  intro p hp
  rcases List.mem_or_eq_of_mem_set hp with hp | rfl
  · exact h p hp
  · exact hk
end
end Go.Proofs.YtpobkoiaidgedaaDoor
