/- Rows of bytes of the call's own. -/
import Derived.Test.YtbkpgmlibiclfaaGreatDoorShM
import Derived.Test.YtbkpgmlibiclfaaGreatDoorRowL
import Derived.OwnWalk
namespace Go.Proofs.YtbkpgmlibiclfaaGreatDoor
open Go.RowKit

theorem info_u8p : (Tryz.prog.info? 5).map (fun i => (i.zero, i.size, i.bytes)) = some (some (.int .u8 0), 1, 1) := by kernel_rfl
/-- v is a slice of the call's own that holds L. -/
def Own8 (w : World) (base : Nat) (v : Value) (L : List B8) : Prop := w.ownsRow base 5 1 v L.length (cells8 L)
theorem Own8.slice {w : World} {base : Nat} {v : Value} {L : List B8} (h : Own8 w base v L) : ∃ A c, v = .slice A L.length c ∧ L.length ≤ c ∧ c ≤ maxLen ∧ Rd w w.heap.size 1 A L.length (cells8 L) := by
  obtain ⟨A, c, rfl, hc, hr⟩ := own_slice h
  refine ⟨A, c, rfl, hc, ?_, hr⟩
  rcases own_row h with ⟨_, _, rfl, _⟩ | ⟨g, M, _, _, _, _, hm, _⟩
  · exact Nat.zero_le _
  · exact hm
theorem Own8.below {w w' : World} {base C : Nat} {v : Value} {L : List B8} (h : Own8 w base v L) (hb : Below C w w') (hC : w.heap.size ≤ C) : Own8 w' base v L := own_below h hb hC
theorem Own8.mono {w : World} {base base' : Nat} {v : Value} {L : List B8} (h : Own8 w base v L) (hb : base' ≤ base) : Own8 w base' v L := own_mono h hb
theorem Own8.nil {w : World} {base : Nat} : Own8 w base (.slice none 0 0) [] := ⟨rfl, .inl ⟨rfl, rfl⟩⟩
theorem Own8.lit {w : World} {base g : Nat} (l : List B8) (hg : g = w.heap.size) (hb : base ≤ g) (hl : l.length ≤ maxLen) : Own8 (w.alloc (.cells (cells8 l).toArray 5)) base (.slice (some ⟨g, 0, none⟩) l.length l.length) l := by
  subst hg
  exact row_own hb (heap_alloc_new _ _) (Nat.le_refl _) hl (by rw [cells8_len, Nat.mul_one]) (by rw [Nat.mul_one]; exact List.take_of_length_le (by rw [cells8_len]; exact Nat.le_refl _))
theorem Own8.row {w : World} {base g : Nat} {l : List B8} (h : Row w g 5 (cells8 l)) (hb : base ≤ g) (hl : l.length ≤ maxLen) : Own8 w base (.slice (some ⟨g, 0, none⟩) l.length l.length) l :=
  row_own hb h (Nat.le_refl _) hl (by rw [cells8_len, Nat.mul_one]) (by rw [Nat.mul_one]; exact List.take_of_length_le (by rw [cells8_len]; exact Nat.le_refl _))
theorem Row.rdAll {w : World} {g : Nat} {t : TypeId} {l : List B8} (h : Row w g t (cells8 l)) : Rd w w.heap.size 1 (some ⟨g, 0, none⟩) l.length (cells8 l) := by
  have := h.rd8 0 l.length (by omega)
  rwa [List.drop_zero, List.take_length] at this
theorem Own8.belowG {w w' w0 : World} {base B : Nat} {v : Value} {L : List B8} (h : Own8 w base v L) (hb : Below B w0 w) (hg : w.grownBy w' v.ownBlock) (hB : B ≤ base) (hs : B ≤ w.heap.size) : Below B w0 w' :=
  hb.grown hg hs (fun k hk => Nat.le_trans hB (h.lt k hk).1)

theorem wpList_app8 {w : World} {ops : Array Oper} {rest : List Oper} {o : Oper} {a : Act} {Q : Exit → Act → World → Prop} (hgd : o.guard = none) (s x : Operand)
    (ho : o.op = .call { callee := .builtin .append, args := #[s, x], argTypes := #[24, 24] })
    (base : Nat) (v : Value) (L : List B8) (hs : a.eval s = v) (hown : Own8 w base v L)
    (B : Nat) (A : Option Addr) (m c : Nat) (q : List B8) (hx : a.eval x = .slice A m c) (hr : Rd w B 1 A m (cells8 q))
    (h63 : L.length + q.length ≤ 2000000000) (hbase : base ≤ w.heap.size)
    (h : ∀ v' w', Own8 w' base v' (L ++ q) → w.grownBy w' v.ownBlock → wpList Tryz.prog ops Q rest (a.put o.dst v') w') : wpList Tryz.prog ops Q (o :: rest) a w := by
  obtain ⟨i0, hi, hz0, hz1, hz2⟩ := info_parts info_u8p
  have hm : m = q.length := hr.len8
  subst hm
  refine wpList_append_rd w hgd s x 24 ho base 5 i0 _ 1 1 Tryz.underlying24 hi hz0 hz1 hz2 rfl (by decide) v L.length _ hs hown B A _ c _ hx hr (cells8_ones _) (by unfold maxLen; omega) (by omega) hbase ?_
  intro v' w' h1 h2 _
  refine h v' w' ?_ h2
  unfold Own8
  rw [cells8_app, List.length_append]
  exact h1
end Go.Proofs.YtbkpgmlibiclfaaGreatDoor
