/- linears.volume.crashed: a map made anew out of one with at most one entry. -/
import Derived.Test.YtbkpgmlibiclfaaGreatDoorShL
import Derived.Test.YtbkpgmlibiclfaaGreatDoorSeru
import Derived.Maps.RangeRun
namespace Go.Proofs.YtbkpgmlibiclfaaGreatDoor
open Go.RowKit Go.ChangeMaps

section
variable {P : Program}
theorem run_next_one (w : World) (ty : TypeId) (r bm clock : Nat) (e : MapEntry) (hr : w.heap[r]? = some (.mapIter (some bm) clock #[] clock)) (hb : w.heap[bm]? = some (.map #[e] clock)) (he : e.born < clock) :
    (Instr.next (.pointer (some ⟨r, 0, none⟩)) false ty).run P w = .ok (.tuple #[.bool true, e.key, e.val]) (setBlock w r (.mapIter (some bm) clock #[e.born] clock)) := by
  have h1 : ¬ e.born ≥ clock := by omega
  simp [Instr.next, getObj, Sem.run, hr, hb, he, h1, Result.andThen, choose, Question.forced, setObj, setBlock]
theorem run_next_end (w : World) (ty : TypeId) (r bm clock : Nat) (e : MapEntry) (hr : w.heap[r]? = some (.mapIter (some bm) clock #[e.born] clock)) (hb : w.heap[bm]? = some (.map #[e] clock)) (he : e.born < clock) :
    (Instr.next (.pointer (some ⟨r, 0, none⟩)) false ty).run P w = .ok (.tuple #[.bool false]) w := by
  have h1 : ¬ clock ≤ e.born := by omega
  simp [Instr.next, getObj, Sem.run, hr, hb, h1, Result.andThen, choose, Question.forced]
theorem run_next_empty (w : World) (ty : TypeId) (r bm clock : Nat) (hr : w.heap[r]? = some (.mapIter (some bm) clock #[] clock)) (hb : w.heap[bm]? = some (.map #[] clock)) :
    (Instr.next (.pointer (some ⟨r, 0, none⟩)) false ty).run P w = .ok (.tuple #[.bool false]) w := by
  simp [Instr.next, getObj, Sem.run, hr, hb, Result.andThen, choose, Question.forced]
theorem run_check_int (w : World) (em : Bool) (n : Nat) (kt : TypeId) (k : Int) (hk : P.underlying kt = some (.int .i64)) : (Instr.checkKey em (n + 1) kt (.int .i64 k)).run P w = .ok () w := by
  simp [Instr.checkKey, run_underlying hk]
theorem run_find_none (w : World) (kt : TypeId) (k : Int) (hk : P.underlying kt = some (.int .i64)) : (Instr.findKey kt (.int .i64 k) []).run P w = .ok none w := by
  simp [Instr.findKey, run_underlying hk, Instr.findNow]
theorem run_update_new (w : World) (t kt et : TypeId) (M : Nat) (k : Int) (v : Value) (hu : P.underlying t = some (.map kt et)) (hk : P.underlying kt = some (.int .i64)) (hM : w.heap[M]? = some (.map #[] 0)) :
    (Instr.mapUpdate t (.map (some M)) (.int .i64 k) v).run P w = .ok () (setBlock w M (.map #[⟨.int .i64 k, v, 0⟩] 1)) := by
  have h1 := fun W em => run_check_int (P := P) W em 9999 kt k hk
  simp only [Instr.mapUpdate, Sem.run_bind, run_underlying hu, Result.andThen_ok, MapKept.run_getObj_map hM, h1, run_find_none _ kt k hk]
  simp [Sem.run, setObj, hM, setBlock]
end

theorem alloc_cell {w : World} {ob : Obj} {p : Addr} {v : Value} (h : w.cell? p = some v) : (w.alloc ob).cell? p = some v := by rw [← h]; exact World.cell?_of_block (heap_alloc_old _ _ (lt_of_cell h))
theorem alloc_frozen {w : World} {ob : Obj} {p : Addr} {v : Value} (h : w.cell? p = some v) : (w.alloc ob).frozen? p = w.frozen? p := by simp only [World.frozen?]; rw [heap_alloc_old _ _ (lt_of_cell h)]
/-- the world behind '*to = map[..]..{}' -/
def crW (w : World) (g o : Nat) : World := (w.alloc (.map #[] 0)).setCell ⟨g, o, none⟩ (.map (some w.heap.size))
theorem crW_size (w : World) (g o : Nat) : (crW w g o).heap.size = w.heap.size + 1 := by simp [crW]
theorem crW_map {w : World} {g o : Nat} {v0 : Value} (hg : w.cell? ⟨g, o, none⟩ = some v0) : (crW w g o).heap[w.heap.size]? = some (.map #[] 0) := by
  have h1 : g ≠ w.heap.size := Nat.ne_of_lt (lt_of_cell hg)
  show ((w.alloc (.map #[] 0)).heap.modify g _)[w.heap.size]? = _
  rw [Array.getElem?_modify, if_neg h1]
  exact heap_alloc_new _ _
theorem crW_old {w : World} {g o m : Nat} {v0 : Value} {ob : Obj} (_hg : w.cell? ⟨g, o, none⟩ = some v0) (hm : w.heap[m]? = some ob) (hne : g ≠ m) : (crW w g o).heap[m]? = some ob := by
  show ((w.alloc (.map #[] 0)).heap.modify g _)[m]? = _
  rw [Array.getElem?_modify, if_neg hne, heap_alloc_old _ _ (Array.getElem?_eq_some_iff.1 hm).1, hm]

theorem crashed_nil (g o : Nat) (v0 vr : Value) (w : World) (hg : w.cell? ⟨g, o, none⟩ = some v0) (hfz : w.frozen? ⟨g, o, none⟩ = false) :
    Calls Tryz.prog 99 #[vr, .pointer (some ⟨g, o, none⟩), .map none] w fun e w' => e = .returned (.tuple #[]) ∧ Below (w.heap.size + 1) (crW w g o) w' := by
  have hmm := @run_makeMap Tryz.prog
  have hg' : (w.alloc (.map #[] 0)).cell? ⟨g, o, none⟩ = some v0 := alloc_cell hg
  have hfz' : (w.alloc (.map #[] 0)).frozen? ⟨g, o, none⟩ = false := (alloc_frozen hg).trans hfz
  obtain ⟨W3, h3, hb3, hnx⟩ : ∃ W3, (Instr.range 226 (.map none)).run Tryz.prog ((w.alloc (.map #[] 0)).setCell ⟨g, o, none⟩ (.map (some w.heap.size))) = .ok (.pointer (some ⟨w.heap.size + 1, 0, none⟩)) W3 ∧ Below (w.heap.size + 1) (crW w g o) W3 ∧
      ∀ ty, (Instr.next (.pointer (some ⟨w.heap.size + 1, 0, none⟩)) false ty).run Tryz.prog W3 = .ok (.tuple #[.bool false]) W3 := by
    have h1 := run_range_nilMap (P := Tryz.prog) (crW w g o) 226 3 104 Tryz.underlying226
    have h2 := fun ty => run_next_nilMap (P := Tryz.prog) (crW w g o) ty 0 0 #[]
    rw [crW_size] at h1 h2
    exact ⟨_, h1, (Below.refl _ _).alloc (by rw [crW_size]; exact Nat.le_refl _) _, h2⟩
  go_enter Tryz.func99, Tryz.ntmps99
  go_wp2
  refine wp_loop_rounds 1 ?_
  rw [rounds_succ]
  go_wp2
  go_end0
  exact ⟨rfl, hb3⟩

theorem crashed_empty (g o m clock : Nat) (v0 vr : Value) (w : World) (hg : w.cell? ⟨g, o, none⟩ = some v0) (hfz : w.frozen? ⟨g, o, none⟩ = false) (hm : w.heap[m]? = some (.map #[] clock)) :
    Calls Tryz.prog 99 #[vr, .pointer (some ⟨g, o, none⟩), .map (some m)] w fun e w' => e = .returned (.tuple #[]) ∧ Below (w.heap.size + 1) (crW w g o) w' := by
  have hmm := @run_makeMap Tryz.prog
  have hne : g ≠ m := by rintro rfl; simp [World.cell?, hm] at hg
  have hg' : (w.alloc (.map #[] 0)).cell? ⟨g, o, none⟩ = some v0 := alloc_cell hg
  have hfz' : (w.alloc (.map #[] 0)).frozen? ⟨g, o, none⟩ = false := (alloc_frozen hg).trans hfz
  obtain ⟨W3, h3, hb3, hnx⟩ : ∃ W3, (Instr.range 226 (.map (some m))).run Tryz.prog ((w.alloc (.map #[] 0)).setCell ⟨g, o, none⟩ (.map (some w.heap.size))) = .ok (.pointer (some ⟨w.heap.size + 1, 0, none⟩)) W3 ∧ Below (w.heap.size + 1) (crW w g o) W3 ∧
      ∀ ty, (Instr.next (.pointer (some ⟨w.heap.size + 1, 0, none⟩)) false ty).run Tryz.prog W3 = .ok (.tuple #[.bool false]) W3 := by
    have hm2 := crW_old hg hm hne
    have h1 := run_range_map (P := Tryz.prog) (crW w g o) 226 3 104 m #[] clock Tryz.underlying226 hm2
    rw [crW_size] at h1
    have hlt : m < (crW w g o).heap.size := (Array.getElem?_eq_some_iff.1 hm2).1
    refine ⟨_, h1, (Below.refl _ _).alloc (by rw [crW_size]; exact Nat.le_refl _) _, fun ty => run_next_empty _ _ _ m clock ?_ ?_⟩
    · rw [← crW_size w g o]; exact heap_alloc_new _ _
    · rw [heap_alloc_old _ _ hlt]; exact hm2
  go_enter Tryz.func99, Tryz.ntmps99
  go_wp2
  refine wp_loop_rounds 1 ?_
  rw [rounds_succ]
  go_wp2
  go_end0
  exact ⟨rfl, hb3⟩

theorem wp_update {P : Program} {o : Oper} {a : Act} {w : World} {K : Act → World → Prop} {Q : Exit → Act → World → Prop} (t : TypeId) (m y x : Operand) (ho : o.op = .mapUpdate t m y x) (mv kv xv : Value) (hm : a.eval m = mv) (hk : a.eval y = kv) (hx : a.eval x = xv) (w' : World)
    (hrun : (Instr.mapUpdate t mv kv xv).run P w = .ok () w') (h : K (a.put o.dst undef) w') : o.wp P a w K Q := by
  unfold Oper.wp execOp
  simp only [ho, hm, hk, hx, Sem.run_bind, hrun, Sem.run_pure, Result.andThen_ok]
  exact h
theorem setBlock_at {w : World} {r : Nat} {ob : Obj} (h : r < w.heap.size) : (setBlock w r ob).heap[r]? = some ob := by simp [setBlock, h]
theorem setBlock_other {w : World} {r m : Nat} {ob : Obj} (h : r ≠ m) : (setBlock w r ob).heap[m]? = w.heap[m]? := by simp [setBlock, h]
theorem setBlock_both {B r : Nat} {w0 w : World} {ob : Obj} (hb : Below B w0 w) (_ : r < B) : Below B (setBlock w0 r ob) (setBlock w r ob) := by
  refine ⟨hb.os, hb.tape, hb.output, by simpa [setBlock] using hb.size, fun k hk => ?_⟩
  by_cases hkr : r = k
  · subst hkr
    by_cases hs : r < w0.heap.size
    · rw [setBlock_at hs, setBlock_at (Nat.lt_of_lt_of_le hs hb.size)]
    · have h1 := hb.block r hk
      have h2 : w0.heap[r]? = none := by simp; omega
      rw [h2] at h1
      have h3 : ¬ r < w.heap.size := by intro hh; rw [Array.getElem?_eq_getElem hh] at h1; cases h1
      simp [setBlock, hs, h3]
  · rw [setBlock_other hkr, setBlock_other hkr]; exact hb.block k hk
theorem setBlock_below {B r : Nat} {w0 w : World} {ob : Obj} (hb : Below B w0 w) (h : B ≤ r) : Below B w0 (setBlock w r ob) :=
  ⟨hb.os, hb.tape, hb.output, by simpa [setBlock] using hb.size, fun k hk => (setBlock_other (by omega)).trans (hb.block k hk)⟩

set_option maxRecDepth 100000 in
set_option maxHeartbeats 1000000 in
theorem crashed_one (g o m clock b : Nat) (k : Int) (l : List B8) (hl : l.length = 32) (hb : b < clock) (v0 vr : Value) (w : World) (hg : w.cell? ⟨g, o, none⟩ = some v0) (hfz : w.frozen? ⟨g, o, none⟩ = false) (hm : w.heap[m]? = some (.map #[⟨.int .i64 k, .agg (cells8 l).toArray, b⟩] clock)) :
    Calls Tryz.prog 99 #[vr, .pointer (some ⟨g, o, none⟩), .map (some m)] w fun e w' => e = .returned (.tuple #[]) ∧ Below (w.heap.size + 1) (setBlock (crW w g o) w.heap.size (.map #[⟨.int .i64 k, .agg (cells8 l).toArray, 0⟩] 1)) w' := by
  have hmm := @run_makeMap Tryz.prog
  have hne : g ≠ m := by rintro rfl; simp [World.cell?, hm] at hg
  have hmlt : m < w.heap.size := (Array.getElem?_eq_some_iff.1 hm).1
  have hglt : g < w.heap.size := lt_of_cell hg
  have hg' : (w.alloc (.map #[] 0)).cell? ⟨g, o, none⟩ = some v0 := alloc_cell hg
  have hfz' : (w.alloc (.map #[] 0)).frozen? ⟨g, o, none⟩ = false := (alloc_frozen hg).trans hfz
  have hto : (crW w g o).cell? ⟨g, o, none⟩ = some (.map (some w.heap.size)) := by simp [crW, go_sem, hg']
  obtain ⟨W3, W4, h3, hb4, hs4, h4, h5, h6, hr4, hm4⟩ : ∃ W3 W4 : World, (Instr.range 226 (.map (some m))).run Tryz.prog ((w.alloc (.map #[] 0)).setCell ⟨g, o, none⟩ (.map (some w.heap.size))) = .ok (.pointer (some ⟨w.heap.size + 1, 0, none⟩)) W3 ∧ Below (w.heap.size + 1) (crW w g o) W4 ∧ W4.heap.size = w.heap.size + 2 ∧
      (∀ ty, (Instr.next (.pointer (some ⟨w.heap.size + 1, 0, none⟩)) false ty).run Tryz.prog W3 = .ok (.tuple #[.bool true, .int .i64 k, .agg (cells8 l).toArray]) W4) ∧ (Instr.entry (.pointer (some ⟨w.heap.size + 1, 0, none⟩))).run Tryz.prog W4 = .ok (.tuple #[.int .i64 k, .agg (cells8 l).toArray]) W4 ∧
      W4.heap[w.heap.size]? = some (.map #[] 0) ∧ W4.heap[w.heap.size + 1]? = some (.mapIter (some m) clock #[b] clock) ∧ W4.heap[m]? = some (.map #[⟨.int .i64 k, .agg (cells8 l).toArray, b⟩] clock) := by
    have hm2 := crW_old hg hm hne
    have h1 := run_range_map (P := Tryz.prog) (crW w g o) 226 3 104 m _ clock Tryz.underlying226 hm2
    rw [crW_size] at h1
    have hlt : m < (crW w g o).heap.size := (Array.getElem?_eq_some_iff.1 hm2).1
    have hit : ((crW w g o).alloc (.mapIter (some m) clock #[] clock)).heap[w.heap.size + 1]? = some (.mapIter (some m) clock #[] clock) := by rw [← crW_size w g o]; exact heap_alloc_new _ _
    have hma : ((crW w g o).alloc (.mapIter (some m) clock #[] clock)).heap[m]? = _ := (heap_alloc_old _ _ hlt).trans hm2
    have hM : ((crW w g o).alloc (.mapIter (some m) clock #[] clock)).heap[w.heap.size]? = some (.map #[] 0) := (heap_alloc_old _ _ (by rw [crW_size]; omega)).trans (crW_map hg)
    have hsz : ((crW w g o).alloc (.mapIter (some m) clock #[] clock)).heap.size = w.heap.size + 2 := by simp [crW_size]
    have hm4 : (setBlock ((crW w g o).alloc (.mapIter (some m) clock #[] clock)) (w.heap.size + 1) (.mapIter (some m) clock #[b] clock)).heap[m]? = some (.map #[⟨.int .i64 k, .agg (cells8 l).toArray, b⟩] clock) := (setBlock_other (by omega)).trans hma
    have hr4 : (setBlock ((crW w g o).alloc (.mapIter (some m) clock #[] clock)) (w.heap.size + 1) (.mapIter (some m) clock #[b] clock)).heap[w.heap.size + 1]? = some (.mapIter (some m) clock #[b] clock) := setBlock_at (by rw [hsz]; omega)
    refine ⟨_, setBlock ((crW w g o).alloc (.mapIter (some m) clock #[] clock)) (w.heap.size + 1) (.mapIter (some m) clock #[b] clock), h1, setBlock_below ((Below.refl _ _).alloc (by rw [crW_size]; exact Nat.le_refl _) _) (Nat.le_refl _), by simp [setBlock, hsz], fun ty => run_next_one _ ty _ m clock ⟨_, _, b⟩ hit hma hb,
      run_entry_at _ _ m clock #[] #[⟨.int .i64 k, .agg (cells8 l).toArray, b⟩] clock ⟨.int .i64 k, .agg (cells8 l).toArray, b⟩ hr4 hm4 (by simp) (by simp), (setBlock_other (by omega)).trans hM, hr4, hm4⟩
  clear hglt hmlt
  have HI := Lib.hid (show (Tryz.prog.info? 104).map (·.size) = some (cells8 l).length by rw [cells8_len, hl]; kernel_rfl)
  have HJ := Lib.hid (show (Tryz.prog.info? 104).map (·.size) = some (cells8 l).toArray.size by rw [List.size_toArray, cells8_len, hl]; kernel_rfl)
  have HZ := Lib.hid (show (cells8 (List.replicate 32 0)).length = (cells8 l).length by rw [cells8_len, cells8_len, hl]; rfl)
  go_enter Tryz.func99, Tryz.ntmps99
  go_wp2
  refine wp_loop_rounds 2 ?_
  rw [rounds_succ]
  go_upto_region 4 with (refine Row.store (g := w.heap.size + 2) (t := 104) (L := cells8 (List.replicate 32 0)) (M := cells8 l) (heap_new_at hs4.symm) rfl 104 (.tmp 7) (.tmp 17) rfl rfl rfl HI.out HZ.out (cells8_one l) ?_; rintro W5 hW5 r5; have c5 : Below (w.heap.size + 2) W4 W5 := (by rw [hW5]; exact ((Below.refl _ _).alloc (by omega) _).grown (grown_setRow _ _ _) (by simp; omega) (fun k hk => by cases hk; exact Nat.le_refl _)); clear hW5)
  have b5 : Below (w.heap.size + 1) (crW w g o) W5 := hb4.trans (c5.mono (by omega))
  have M5 : W5.heap[w.heap.size]? = some (.map #[] 0) := (b5.block _ (Nat.lt_succ_self _)).trans (crW_map hg)
  have it5 : W5.heap[w.heap.size + 1]? = some (.mapIter (some m) clock #[b] clock) := (c5.block _ (Nat.lt_succ_self _)).trans hr4
  have ma5 : W5.heap[m]? = some (.map #[⟨.int .i64 k, .agg (cells8 l).toArray, b⟩] clock) := (c5.block m (by have := (Array.getElem?_eq_some_iff.1 hm).1; omega)).trans hm4
  have to5 : W5.cell? ⟨g, o, none⟩ = some (.map (some w.heap.size)) := (World.cell?_of_block (b5.block g (by have h : g < w.heap.size := lt_of_cell hg; omega))).trans hto
  have s5 : w.heap.size + 3 ≤ W5.heap.size := by have h : w.heap.size + 2 < W5.heap.size := r5.lt; omega
  have ldB : ∀ (W : World) (oi : Oper) (ρ : Operand → Value), oi.op = .load 104 (.tmp 7) → ρ (.tmp 7) = .pointer (some ⟨w.heap.size + 2, 0, none⟩) → Below (w.heap.size + 3) W5 W → (execOp ρ oi).run Tryz.prog W = .ok (.value (.agg (cells8 l).toArray)) W :=
    fun W oi ρ h1 h2 h3 => exec_load_row 104 (.tmp 7) h1 (w.heap.size + 2) h2 104 (cells8 l).toArray (0, 0) _ ((h3.block _ (by omega)).trans r5) Tryz.underlying104 rfl HJ.out
  obtain ⟨W6, hu6, hb6, hnx6⟩ : ∃ W6, (Instr.mapUpdate 226 (.map (some w.heap.size)) (.int .i64 k) (.agg (cells8 l).toArray)).run Tryz.prog W5.drew = .ok () W6 ∧ Below (w.heap.size + 1) (setBlock (crW w g o) w.heap.size (.map #[⟨.int .i64 k, .agg (cells8 l).toArray, 0⟩] 1)) W6 ∧
      ∀ ty, (Instr.next (.pointer (some ⟨w.heap.size + 1, 0, none⟩)) false ty).run Tryz.prog W6 = .ok (.tuple #[.bool false]) W6 := by
    have hne2 : w.heap.size ≠ m := by have h := (Array.getElem?_eq_some_iff.1 hm).1; omega
    refine ⟨_, run_update_new (P := Tryz.prog) W5.drew 226 3 104 w.heap.size k (.agg (cells8 l).toArray) Tryz.underlying226 Tryz.underlying3 M5, ?_, fun ty => run_next_end _ ty _ m clock ⟨.int .i64 k, .agg (cells8 l).toArray, b⟩ ((setBlock_other (by omega)).trans it5) ((setBlock_other hne2).trans ma5) hb⟩
    exact setBlock_both ⟨b5.os, b5.tape, b5.output, b5.size, b5.block⟩ (Nat.lt_succ_self _)
  clear h3 h4 h5 h6 hr4 hm4 hm hg hfz hg' hfz' hto hb4
  refine anyU_begin (S := (fun w' : World => w'.cell? ⟨g, o, none⟩ = some (.map (some w.heap.size)) ∧ Below (w.heap.size + 3) W5 w')) (M := (fun j => j == 5)) (by kernel_rfl) ⟨to5, ⟨rfl, rfl, rfl, Nat.le_refl _, fun _ _ => rfl⟩⟩ (fun hHeld => ?_)
  refine takeU_run 0 (v := ?_) rfl (by kernel_rfl) (by kernel_rfl) (by kernel_rfl) (by kernel_rfl) (fun _ _ _ h => h) rfl ?_ hHeld ?_
  rotate_left
  · intro w hSw; (try dsimp only at hSw); go_simp <;> with_reducible rfl
  try simp only [Act.put, List.setIfInBounds_toArray, List.set_cons_zero, List.set_cons_succ]
  refine takeU_run 1 (v := ?_) rfl (by kernel_rfl) (by kernel_rfl) (by kernel_rfl) (by kernel_rfl) (fun _ _ _ h => h) rfl ?_ hHeld ?_
  rotate_left
  · intro w hSw; (try dsimp only at hSw); go_simp <;> with_reducible rfl
  try simp only [Act.put, List.setIfInBounds_toArray, List.set_cons_zero, List.set_cons_succ]
  refine takeU_run 2 (v := ?_) rfl (by kernel_rfl) (by kernel_rfl) (by kernel_rfl) (by kernel_rfl) (fun _ _ _ h => h) rfl ?_ hHeld ?_
  rotate_left
  · intro w hSw; (try dsimp only at hSw); go_simp <;> with_reducible rfl
  try simp only [Act.put, List.setIfInBounds_toArray, List.set_cons_zero, List.set_cons_succ]
  refine takeU_run 3 (v := ?_) rfl (by kernel_rfl) (by kernel_rfl) (by kernel_rfl) (by kernel_rfl) (fun _ _ _ h => h) rfl ?_ hHeld ?_
  rotate_left
  · intro w hSw; (try dsimp only at hSw); go_simp <;> with_reducible rfl
  try simp only [Act.put, List.setIfInBounds_toArray, List.set_cons_zero, List.set_cons_succ]
  refine takeU_run 4 (v := (.agg (cells8 l).toArray)) rfl (by kernel_rfl) (by kernel_rfl) (by kernel_rfl) (by kernel_rfl) (fun _ _ _ h => h) rfl ?_ hHeld ?_
  · intro w hSw; (try dsimp only at hSw); exact ldB _ _ _ rfl rfl hSw.2
  try simp only [Act.put, List.setIfInBounds_toArray, List.set_cons_zero, List.set_cons_succ]
  refine takeU_last 5 rfl (by kernel_rfl) rfl rfl (fun K hK => ?_)
  refine wp_update 226 (.tmp 20) (.tmp 21) (.tmp 22) rfl _ _ _ rfl rfl rfl W6 hu6 ?_
  try dsimp only
  try clear hHeld
  refine hK.out _ _ ?_
  clear hK K
  try simp only [Act.put]
  refine anyU_done (by kernel_rfl) ?_ _
  try clear hHeld

  go_wp2
  rw [rounds_succ]
  go_wp2
  go_end0
  exact ⟨rfl, hb6⟩
end Go.Proofs.YtbkpgmlibiclfaaGreatDoor
