/- The program's State: New. -/
import Derived.Test.YtbkpgmlibiclfaaGreatDoorShH
namespace Go.Proofs.YtbkpgmlibiclfaaGreatDoor
open Go.RowKit

/-- The program's variables lie where they are laid. -/
def Glob (w : World) : Prop := HasK w ∧ ∃ t fr, w.heap[1]? = some (.cells iv0.cells.toArray t fr)
theorem Glob.step {w w' : World} (h : Glob w) (hb : Below w.heap.size w w') : Glob w' := by
  refine ⟨h.1.step hb, ?_⟩
  obtain ⟨t, fr, h2⟩ := h.2
  exact ⟨t, fr, by rw [hb.block 1 (by have := h.1.lt; omega)]; exact h2⟩
/-- The cells of a State. -/
def stC (b : Bool) (s : S8) (r : List B8) (m : Nat) : List Value := .bool b :: (s.cells ++ (cells8 r ++ [.int .u64 (m : Int)]))
theorem S8.cells_len (s : S8) : s.cells.length = 8 := rfl
theorem stC_len (b : Bool) (s : S8) (r : List B8) (m : Nat) (hr : r.length = 64) : (stC b s r m).length = 74 := by simp [stC, S8.cells_len, cells8_len, hr]
theorem stC_one (b : Bool) (s : S8) (r : List B8) (m : Nat) : (stC b s r m).toArray.all (·.oneCell') = true := by
  simp [stC, S8.cells, cells32, cells8, Value.oneCell', S8.list]
/-- Nothing but zeros. -/
def st0 : List Value := stC false ⟨0, 0, 0, 0, 0, 0, 0, 0⟩ (List.replicate 64 0) 0
def stNew : List Value := stC true iv0 (List.replicate 64 0) 0

set_option maxRecDepth 100000 in
set_option maxHeartbeats 1000000 in
theorem new_any (w : World) (hG : Glob w) : Calls Tryz.prog 163 #[] w fun e w' => e = .returned (.agg stNew.toArray) ∧ Below w.heap.size w w' := by
  obtain ⟨tk, frk, hk⟩ := hG.2
  have hl : 1 < w.heap.size := (Array.getElem?_eq_some_iff.1 hk).1
  go_enter Tryz.func163, Tryz.ntmps163
  go_upto_region 1 with (fail)
  change Code.wp _ _ _ _ (w.alloc (.cells st0.toArray 339))
  obtain ⟨wz, hwz⟩ : ∃ wz, wz = (w.alloc (.cells st0.toArray 339)) := ⟨_, rfl⟩
  obtain ⟨g, hg⟩ : ∃ g, g = w.heap.size := ⟨_, rfl⟩
  have hb : Below w.heap.size w wz := by rw [hwz]; exact (Below.refl _ _).alloc (Nat.le_refl _) _
  have r0 : Row wz g 339 st0 := by rw [hwz, hg]; exact heap_alloc_new _ _
  have hgw : w.heap.size ≤ g := by omega
  have hk2 : wz.heap[1]? = some (.cells iv0.cells.toArray tk frk) := (hb.block 1 hl).trans hk
  rw [← hwz, ← hg]
  clear hwz hg hk
  refine wp_region_lit ?_
  refine wpList_load_row rfl 336 (.global 1) rfl 1 rfl tk iv0.cells.toArray frk _ hk2 Tryz.underlying336 rfl (by kernel_rfl) ?_
  refine wpList_build_is rfl _ _ rfl stNew.toArray (by kernel_rfl) ?_
  refine r0.store rfl _ _ _ rfl rfl rfl (by kernel_rfl) rfl (stC_one _ _ _ _) (fun w1 hw1 s0 => ?_)
  have hb1 : Below w.heap.size w w1 := by rw [hw1]; exact hb.grown (grown_setRow _ _ _) hb.size (fun k hk => by cases hk; exact hgw)
  clear hw1 r0
  go_wp2
  refine bodyPost_ret (v := .agg stNew.toArray) (results_cell_row Tryz.results163 _ w1 g 339 _ (0, 0) _ rfl s0 Tryz.underlying339 rfl (by kernel_rfl)) rfl ⟨rfl, hb1⟩
end Go.Proofs.YtbkpgmlibiclfaaGreatDoor
