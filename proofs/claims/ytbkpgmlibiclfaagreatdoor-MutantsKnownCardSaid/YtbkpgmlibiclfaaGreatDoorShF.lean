/- The reference's Compress. -/
import Derived.Test.YtbkpgmlibiclfaaGreatDoorShE
import Derived.Test.YtbkpgmlibiclfaaGreatDoorSerl
namespace Go.Proofs.YtbkpgmlibiclfaaGreatDoor
open Go.RowKit

theorem Row.step {w w' : World} {g : Nat} {t : TypeId} {L : List Value} (h : Row w g t L) (hb : Below w.heap.size w w') : Row w' g t L := h.below hb h.lt
theorem keep_cl {w w' : World} {a : Addr} {v : Value} (hb : Below w.heap.size w w') (h : w.cell? a = some v) : w'.cell? a = some v := (hb.cell (lt_of_cell h)).trans h
theorem below_nx {a b c : World} (h : Below a.heap.size a b) (h2 : Below b.heap.size b c) : Below a.heap.size a c := h.trans (h2.mono h.size)

theorem Rd.sub8 {w : World} {B n : Nat} {ad : Addr} {l : List B8} (h : Rd w B 1 (some ad) n (cells8 l)) (k m : Nat) (hk : k + m ≤ n) (hm : 0 < m) : Rd w B 1 (some (ad.add k)) m (cells8 ((l.drop k).take m)) := by
  obtain ⟨bd, e, hl, hc⟩ := h.2 (by omega)
  cases e
  have hlen := h.len8
  refine ⟨by rw [cells8_len, List.length_take, List.length_drop]; omega, fun _ => ⟨_, rfl, by rw [add_block]; exact hl, ?_⟩⟩
  have h2 := (hc.nth k).take m
  rw [cells8_drop] at h2
  rw [cells8, List.map_take]
  exact h2
/-- The cells of the schedule, of which the first t words have been written. -/
def schC (l : List B8) (t : Nat) : List Value := cells32 (schedW l t) ++ zeros32 (64 - t)
theorem schedW_len (l : List B8) (t : Nat) : (schedW l t).length = t := by
  induction t with
  | zero => rfl
  | succ t ih => simp [schedW, ih]
theorem schC_len (l : List B8) (t : Nat) (h : t ≤ 64) : (schC l t).length = 64 := by simp [schC, cells32, zeros32, schedW_len]; omega
theorem schC_new (l : List B8) (t : Nat) (h : t < 64) : (schC l t)[t]? = some (.int .u32 0) := by
  have : (cells32 (schedW l t)).length = t := by simp [cells32, schedW_len]
  rw [schC, List.getElem?_append_right (by omega), this, zeros32, List.getElem?_replicate]; simp; omega
theorem schC_old (l : List B8) (t j : Nat) (h : j < t) : (schC l t)[j]? = some (.int .u32 (wv ((schedW l t).getD j 0))) := by
  have hl : (cells32 (schedW l t)).length = t := by simp [cells32, schedW_len]
  have hj : j < (schedW l t).length := by rw [schedW_len]; exact h
  rw [schC, List.getElem?_append_left (by omega), cells32, List.getElem?_map, List.getElem?_eq_getElem hj]
  simp [List.getD, List.getElem?_eq_getElem hj]
theorem schC_set (l : List B8) (t : Nat) (h : t < 64) (x : W) (hx : (schedW l (t + 1)) = schedW l t ++ [x]) : (schC l t).set t (.int .u32 (wv x)) = schC l (t + 1) := by
  have hl : (cells32 (schedW l t)).length = t := by simp [cells32, schedW_len]
  have e : 64 - t = (64 - (t + 1)) + 1 := by omega
  rw [schC, List.set_append_right _ _ (by omega), hl, Nat.sub_self, zeros32, e, List.replicate_succ, List.set_cons_zero, schC, hx]
  simp [cells32, zeros32]

theorem k_cell (t : Nat) (h : t < 64) : (cells32 kWords)[t]? = some (.int .u32 (wv (kW t))) := by
  have hk : t < kTab.length := by exact h
  rw [cells32, kWords, List.getElem?_map, List.getElem?_map, List.getElem?_eq_getElem hk]
  simp [kW, List.getD, List.getElem?_eq_getElem hk]
theorem l_cell (L : List W) (t : Nat) (h : t < L.length) : (cells32 L)[t]? = some (.int .u32 (wv (L.getD t 0))) := by
  rw [cells32, List.getElem?_map, List.getElem?_eq_getElem h]
  simp [List.getD, List.getElem?_eq_getElem h]

end Go.Proofs.YtbkpgmlibiclfaaGreatDoor
