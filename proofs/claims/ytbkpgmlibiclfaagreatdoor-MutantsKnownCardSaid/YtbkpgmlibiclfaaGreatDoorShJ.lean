/- The program's State: what it has taken in, in plain Lean. -/
import Derived.Test.YtbkpgmlibiclfaaGreatDoorShI
import Derived.Deep.MidRow
namespace Go.Proofs.YtbkpgmlibiclfaaGreatDoor
open Go.RowKit

theorem blocks_app (s : S8) (k : Nat) (l m : List B8) (h : 64 * k ≤ l.length) : blocksW s k (l ++ m) = blocksW s k l := by
  induction k generalizing s l with
  | zero => rfl
  | succ k ih =>
    rw [blocksW, blocksW, List.take_append_of_le_length (by omega), List.drop_append_of_le_length (by omega), ih _ _ (by simp; omega)]
theorem blocks_snoc (s : S8) (k : Nat) (l : List B8) : blocksW s (k + 1) l = compW (blocksW s k l) ((l.drop (64 * k)).take 64) := by
  induction k generalizing s l with
  | zero => simp [blocksW]
  | succ k ih =>
    rw [blocksW, ih, blocksW, List.drop_drop]
    congr 3; omega
/-- These are the cells of a State that has taken in L. -/
def Sta (L : List B8) (cs : List Value) : Prop := ∃ r : List B8, r.length = 64 ∧ r.take (L.length % 64) = L.drop (64 * (L.length / 64)) ∧ cs = stC true (blocksW iv0 (L.length / 64) L) r L.length
theorem sta_new : Sta [] stNew := ⟨List.replicate 64 0, rfl, rfl, rfl⟩
theorem Sta.len {L : List B8} {cs : List Value} (h : Sta L cs) : cs.length = 74 := by
  obtain ⟨r, h1, _, rfl⟩ := h; exact stC_len _ _ _ _ h1
theorem sta_part (L q r : List B8) (hr : r.length = 64) (ht : r.take (L.length % 64) = L.drop (64 * (L.length / 64))) (hn : L.length % 64 + q.length < 64) :
    Sta (L ++ q) (stC true (blocksW iv0 (L.length / 64) L) (splice r (L.length % 64) q) (L.length + q.length)) := by
  have e1 : (L.length + q.length) / 64 = L.length / 64 := by omega
  have e2 : (L.length + q.length) % 64 = L.length % 64 + q.length := by omega
  refine ⟨splice r (L.length % 64) q, by rw [splice_len _ _ _ (by omega)]; exact hr, ?_, ?_⟩
  · rw [List.length_append, e1, e2, splice_take_end _ _ _ (by omega), ht, List.drop_append_of_le_length (by omega)]
  · rw [List.length_append, e1, blocks_app _ _ _ _ (by omega)]
theorem sta_full (L q r : List B8) (hr : r.length = 64) (ht : r.take (L.length % 64) = L.drop (64 * (L.length / 64))) (hn : L.length % 64 + q.length = 64) :
    Sta (L ++ q) (stC true (compW (blocksW iv0 (L.length / 64) L) (splice r (L.length % 64) q)) (splice r (L.length % 64) q) (L.length + q.length)) := by
  have e1 : (L.length + q.length) / 64 = L.length / 64 + 1 := by omega
  have e2 : (L.length + q.length) % 64 = 0 := by omega
  have e3 : (splice r (L.length % 64) q).length = 64 := by rw [splice_len _ _ _ (by omega)]; exact hr
  refine ⟨splice r (L.length % 64) q, e3, ?_, ?_⟩
  · rw [List.length_append, e1, e2, List.take_zero, List.drop_of_length_le (by simp; omega)]
  · rw [List.length_append, e1, blocks_snoc, blocks_app _ _ _ _ (by omega)]
    have e4 : splice r (L.length % 64) q = ((L ++ q).drop (64 * (L.length / 64))).take 64 := by
      rw [List.drop_append_of_le_length (by omega), ← ht, ← splice_take_end _ _ _ (by omega), hn, List.take_take, Nat.min_self, List.take_of_length_le (by omega)]
    rw [← e4]
theorem stC_rest (b : Bool) (s : S8) (r q : List B8) (m a : Nat) (hr : r.length = 64) (ha : a + q.length ≤ 64) : splice (stC b s r m) (9 + a) (cells8 q) = stC b s (splice r a q) m := by
  have e : ∀ (x : Value) (l : List Value) (o : Nat) (c : List Value), splice (x :: l) (o + 1) c = x :: splice l o c := by
    intro x l o c; unfold splice; simp [Nat.add_right_comm]
  have e2 : ∀ (u l : List Value) (o : Nat) (c : List Value), splice (u ++ l) (u.length + o) c = u ++ splice l o c := by
    intro u l o c; unfold splice
    rw [List.take_append, List.drop_append, Nat.add_assoc, List.take_of_length_le (by omega), List.drop_of_length_le (by omega)]
    simp
  have e3 : splice (cells8 r ++ [.int .u64 (m : Int)]) a (cells8 q) = cells8 (splice r a q) ++ [.int .u64 (m : Int)] := by
    unfold splice
    rw [List.take_append_of_le_length (by rw [cells8_len]; omega), List.drop_append_of_le_length (by rw [cells8_len, cells8_len]; omega), cells8_app, cells8_app, cells8_len, cells8_drop]
    simp [cells8]
  unfold stC
  rw [show 9 + a = (8 + a) + 1 by omega, e, show 8 + a = s.cells.length + a from rfl, e2, e3]
theorem stC_many (b : Bool) (s : S8) (r : List B8) (m : Nat) (v : Value) (hr : r.length = 64) : (stC b s r m).set 73 v = .bool b :: (s.cells ++ (cells8 r ++ [v])) := by
  unfold stC
  rw [show 73 = 72 + 1 from rfl, List.set_cons_succ, List.set_append_right _ _ (by rw [S8.cells_len]; omega), S8.cells_len, List.set_append_right _ _ (by rw [cells8_len]; omega), cells8_len, hr]
  rfl
theorem stC_h (b : Bool) (s s' : S8) (r : List B8) (m : Nat) : splice (stC b s r m) 1 s'.cells = stC b s' r m := by
  have h1 : (stC b s r m).take 1 = [.bool b] := rfl
  have h2 : (stC b s r m).drop (1 + s'.cells.length) = cells8 r ++ [.int .u64 (m : Int)] := by
    show (stC b s r m).drop 9 = _
    rfl
  unfold splice
  rw [h1, h2]
  simp [stC]
/-- What lies in the middle of a row. -/
theorem Row.mid {w : World} {g o : Nat} {t : TypeId} {A B C : List Value} (h : Row w g t (A ++ (B ++ C))) (ho : o = A.length) : w.rangeAt g o B := by
  subst ho
  intro j v hv
  refine h.cell (i := A.length + j) (v := v) ?_
  have hj := (List.getElem?_eq_some_iff.1 hv).1
  rw [List.getElem?_append_right (by omega), Nat.add_sub_cancel_left, List.getElem?_append_left hj]
  exact hv
theorem stC_hs {w : World} {g : Nat} {t : TypeId} {b : Bool} {s : S8} {r : List B8} {m : Nat} (h : Row w g t (stC b s r m)) : w.rangeAt g 1 s.cells :=
  Row.mid (A := [.bool b]) h rfl
theorem stC_rs {w : World} {g : Nat} {t : TypeId} {b : Bool} {s : S8} {r : List B8} {m : Nat} (h : Row w g t (stC b s r m)) : w.rangeAt g 9 (cells8 r) :=
  Row.mid (A := .bool b :: s.cells) (C := [.int .u64 (m : Int)]) (by simpa [stC] using h) rfl
theorem stC_c0 {w : World} {g : Nat} {t : TypeId} {b : Bool} {s : S8} {r : List B8} {m : Nat} (h : Row w g t (stC b s r m)) : w.cell? ⟨g, 0, none⟩ = some (.bool b) := h.cell rfl
theorem stC_cm {w : World} {g : Nat} {t : TypeId} {b : Bool} {s : S8} {r : List B8} {m : Nat} (h : Row w g t (stC b s r m)) (hr : r.length = 64) : w.cell? ⟨g, 73, none⟩ = some (.int .u64 (m : Int)) := by
  refine h.cell ?_
  unfold stC
  rw [show 73 = 72 + 1 from rfl, List.getElem?_cons_succ, List.getElem?_append_right (by rw [S8.cells_len]; omega), S8.cells_len, List.getElem?_append_right (by rw [cells8_len]; omega), cells8_len, hr]
  rfl
end Go.Proofs.YtbkpgmlibiclfaaGreatDoor
