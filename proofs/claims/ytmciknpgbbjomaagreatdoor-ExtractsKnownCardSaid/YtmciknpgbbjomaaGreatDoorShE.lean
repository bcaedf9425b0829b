/- The reference's constants. -/
import Derived.Test.YtmciknpgbbjomaaGreatDoorShD
import Derived.Deep.CutRange
import Derived.Deep.DeepCutAuto
import Derived.Laws.Tables
namespace Go.Proofs.YtmciknpgbbjomaaGreatDoor
open Go.RowKit

def cells32 (l : List W) : List Value := l.map fun x => .int .u32 (wv x)
theorem cells32_one (l : List W) : (cells32 l).toArray.all (·.oneCell') = true := by
  simp [cells32, Value.oneCell']
def kWords : List W := kTab.map (BitVec.ofNat 32)
def S8.cells (s : S8) : List Value := cells32 s.list
def zeros32 (n : Nat) : List Value := List.replicate n (.int .u32 0)

/-- A value put together is this one. -/
theorem wpList_build_is {P : Program} {ops : Array Oper} {rest : List Oper} {o : Oper} {a : Act} {w : World} {Q : Exit → Act → World → Prop} (hg : o.guard = none) (t : TypeId) (parts : Array (Nat × Operand)) (ho : o.op = .build t parts)
    (cells : Array Value) (hf : P.built t (parts.map fun (i, x) => (i, a.eval x)).toList = some cells)
    (h : wpList P ops Q rest (a.put o.dst (.agg cells)) w) : wpList P ops Q (o :: rest) a w :=
  wpList_build hg t parts ho (by rw [hf]; rfl) (by rw [hf]; exact h)
theorem Row.store {P : Program} {ops : Array Oper} {rest : List Oper} {o : Oper} {a : Act} {w : World} {Q : Exit → Act → World → Prop} {g : Nat} {t : TypeId} {L M : List Value} (hrow : Row w g t L) (hgd : o.guard = none) (ty : TypeId) (x y : Operand) (ho : o.op = .store ty x y)
    (hx : a.eval x = .pointer (some ⟨g, 0, none⟩)) (hy : a.eval y = .agg M.toArray) (hi : (P.info? ty).map (·.size) = some M.length) (hl : L.length = M.length) (h1 : M.toArray.all (·.oneCell') = true)
    (h : ∀ w', w' = w.setRow g M.toArray → Row w' g t M → wpList P ops Q rest (a.put o.dst undef) w') : wpList P ops Q (o :: rest) a w :=
  wpList_store_row hgd ty x y ho g M.toArray hx hy t L.toArray hrow (by simpa using hi) (by simpa using hl) h1 (h _ rfl hrow.set)

set_option maxRecDepth 100000 in
set_option maxHeartbeats 1000000 in
theorem constants_any (w : World) :
    Calls Tryz.prog 113 #[] w fun e w' => e = .returned (.tuple #[.agg (cells32 kWords).toArray, .agg iv0.cells.toArray]) ∧ Below w.heap.size w w' := by
  go_enter Tryz.func113, Tryz.ntmps113
  go_upto_region 1 with (fail)
  change Code.wp _ _ _ _ ((w.alloc (.cells (zeros32 64).toArray 274)).alloc (.cells (zeros32 8).toArray 263))
  obtain ⟨wz, hwz⟩ : ∃ wz, wz = (w.alloc (.cells (zeros32 64).toArray 274)).alloc (.cells (zeros32 8).toArray 263) := ⟨_, rfl⟩
  rw [← hwz]
  have r0 : Row wz w.heap.size 274 (zeros32 64) := by rw [hwz]; exact ((Below.refl _ _).alloc (Nat.le_refl _) _).block w.heap.size (by simp) |>.trans (heap_alloc_new _ _)
  have r1 : Row wz (w.heap.size + 1) 263 (zeros32 8) := by rw [hwz]; exact heap_new_at (by simp)
  have hb : Below w.heap.size w wz := by rw [hwz]; exact below_alloc2 (Below.refl _ _)
  clear hwz
  refine wp_region_lit ?_
  refine wpList_build_is rfl _ _ rfl (cells32 kWords).toArray (by kernel_rfl) ?_
  refine wpList_build_is rfl _ _ rfl iv0.cells.toArray (by kernel_rfl) ?_
  refine r0.store rfl _ _ _ rfl rfl rfl (by kernel_rfl) rfl (cells32_one _) (fun w1 hw1 s0 => ?_)
  have s1 : Row w1 (w.heap.size + 1) 263 (zeros32 8) := by rw [hw1]; exact r1.other (by omega) _
  have hb1 : Below w.heap.size w w1 := by rw [hw1]; exact hb.grown (grown_setRow _ _ _) hb.size (fun k hk => by cases hk; exact Nat.le_refl _)
  clear hw1 r0 r1 hb
  refine s1.store rfl _ _ _ rfl rfl rfl (by kernel_rfl) rfl (cells32_one _) (fun w2 hw2 t1 => ?_)
  have t0 : Row w2 w.heap.size 274 (cells32 kWords) := by rw [hw2]; exact s0.other (by omega) _
  have hb2 : Below w.heap.size w w2 := by rw [hw2]; exact hb1.grown (grown_setRow _ _ _) hb1.size (fun k hk => by cases hk; exact Nat.le_succ _)
  clear hw2 s0 s1 hb1
  have l0 := run_loadVar_row (P := Tryz.prog) w2 w.heap.size 274 274 (cells32 kWords).toArray (0, 0) _ t0 Tryz.underlying274 rfl (by kernel_rfl)
  have l1 := run_loadVar_row (P := Tryz.prog) w2 (w.heap.size + 1) 263 263 iv0.cells.toArray (0, 0) _ t1 Tryz.underlying263 rfl (by kernel_rfl)
  go_wp2
  simp only [Act.put, List.setIfInBounds_toArray, List.set_cons_zero, List.set_cons_succ]
  refine bodyPost_ret (v := .tuple #[.agg (cells32 kWords).toArray, .agg iv0.cells.toArray]) (by simp [results, Tryz.results113, asAddr, l0, l1]) rfl ⟨rfl, hb2⟩
end Go.Proofs.YtmciknpgbbjomaaGreatDoor
