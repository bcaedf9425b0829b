/- The reference's digest. -/
import Derived.Test.YtbkpgmlibiclfaaGreatDoorShN
namespace Go.Proofs.YtbkpgmlibiclfaaGreatDoor
open Go.RowKit

def nilLen : Value → Nat
  | .slice _ n _ => n
  | _ => 0
/-- After i whole words and j bytes of the next one. -/
def outJ (l : List W) (i j : Nat) : List B8 := splice (outL l i) (4 * i) ((beB (l.getD i 0).toNat 4).take j)

theorem outJ_zero (l : List W) (i : Nat) : outJ l i 0 = outL l i := by simp [outJ, splice]
theorem outJ_all (l : List W) (i : Nat) (hl : l.length = 8) (hi : i < 8) : outJ l i 4 = outL l (i + 1) := by
  rw [outJ, List.take_of_length_le (by rw [beB_len]; exact Nat.le_refl _), outL_step l i hl hi]
theorem splice_succ {α : Type} (L q : List α) (o j : Nat) (b : α) (hb : q[j]? = some b) (ho : o + q.length ≤ L.length) : (splice L o (q.take j)).set (o + j) b = splice L o (q.take (j + 1)) := by
  obtain ⟨hj, hb⟩ := List.getElem?_eq_some_iff.1 hb
  have h1 : (q.take j).length = j := by rw [List.length_take]; omega
  have h2 : (q.take (j + 1)).length = j + 1 := by rw [List.length_take]; omega
  have h3 : (L.take o ++ q.take j).length = o + j := by rw [List.length_append, List.length_take, h1]; omega
  unfold splice
  rw [h1, h2, ← List.append_assoc, List.set_append_right _ _ (by omega), h3, Nat.sub_self, List.drop_eq_getElem_cons (show o + j < L.length by omega), List.set_cons_zero, List.take_succ_eq_append_getElem hj, hb]
  simp [Nat.add_assoc]
theorem outJ_set (l : List W) (i j : Nat) (hl : l.length = 8) (hi : i < 8) (b : B8) (hb : (beB (l.getD i 0).toNat 4)[j]? = some b) : (cells8 (outJ l i j)).set (4 * i + j) (.int .u8 (bv b)) = cells8 (outJ l i (j + 1)) := by
  have h := splice_succ (outL l i) (beB (l.getD i 0).toNat 4) (4 * i) j b hb (by rw [outL_len _ _ hl (by omega), beB_len]; omega)
  rw [outJ, outJ, ← h, cells8, cells8, List.map_set]
theorem rep_snoc2 (L : List B8) (j : Nat) : L ++ 0x80#8 :: (List.replicate j 0#8 ++ [0#8]) = L ++ 0x80#8 :: List.replicate (j + 1) 0#8 := by
  rw [List.replicate_succ']

theorem slice8_run (ad : Addr) (n cd l h : Nat) (hl : l < h) (hh : h ≤ cd) (w : World) : (Instr.sliceAt 24 (.slice (some ad) n cd) (some (.int .i64 (l : Int))) (some (.int .i64 (h : Int))) none).run Tryz.prog w = .ok (.slice (some (ad.add l)) (h - l) (cd - l)) w := by
  have hs : (sizeOf 5).run Tryz.prog w = .ok 1 w := by kernel_rfl
  have hu : Tryz.prog.underlying 24 = some (.slice (Tryz.prog.elem 24)) := by kernel_rfl
  have he : Tryz.prog.elem 24 = 5 := by kernel_rfl
  have h1 := run_slice_lh (P := Tryz.prog) w 24 (some ad) n cd hu .i64 .i64 l h (by omega) (by omega) (by omega)
  rw [run_sliceAt_slice _ _ _ _ _ _ hu, h1, he, hs]
  simp [sliced, show ¬ cd = l by omega]

end Go.Proofs.YtbkpgmlibiclfaaGreatDoor
