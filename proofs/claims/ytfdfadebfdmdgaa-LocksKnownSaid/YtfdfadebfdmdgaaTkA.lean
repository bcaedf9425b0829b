/- The tables as plain data: a lock out of two bytes. -/
import Derived.Test.YtfdfadebfdmdgaaLpA
namespace Go.Proofs.Ytfdfadebfdmdgaa
open Go.RowKit

def levF (a : Nat) : Int := (a : Int) % 7 - 1

set_option maxRecDepth 100000 in
theorem lock_any (a b : Nat) (ha : a < 256) (hb : b < 256) (w : World) :
    Calls Try.prog 21 #[.int .u8 a, .int .u8 b] w fun e w' => e = .returned (.agg #[.int .i64 (levF a), .int .i64 b]) ∧ Below w.heap.size w w' := by
  go_enter Try.func21, Try.ntmps21
  go_wp2
  refine bodyPost_ret (v := .agg #[.int .i64 ((a : Int) % 7 - 1), .int .i64 b]) (by simp [results, Try.results21, go_sem]) rfl ⟨rfl, (Below.refl _ _).alloc (Nat.le_refl _) _⟩

/-- An element of the plain data: three bytes. -/
structure U3 where
  a : Nat
  b : Nat
  c : Nat
  ha : a < 256
  hb : b < 256
  hc : c < 256
def U3.cells (u : U3) : List Value := [.int .u8 u.a, .int .u8 u.b, .int .u8 u.c]
def cellsU (l : List U3) : List Value := l.flatMap U3.cells
theorem cellsU_len (hs : List U3) : (cellsU hs).length = hs.length * 3 := by
  induction hs with
  | nil => rfl
  | cons h t ih => simp only [cellsU, List.flatMap_cons, List.length_append, U3.cells, List.length_cons, List.length_nil] at ih ⊢; rw [ih]; omega
theorem cellsU_drop (hs : List U3) (k : Nat) : (cellsU hs).drop (k * 3) = cellsU (hs.drop k) := by
  induction k generalizing hs with
  | zero => simp
  | succ k ih =>
    cases hs with
    | nil => simp [cellsU]
    | cons h t =>
      have e : (k + 1) * 3 = 3 + k * 3 := by omega
      rw [e, ← List.drop_drop]
      exact ih t
theorem Rd.lenU {w : World} {B n : Nat} {A : Option Addr} {hs : List U3} (h : Rd w B 3 A n (cellsU hs)) : n = hs.length := by
  have := h.1; rw [cellsU_len] at this; omega
theorem Rd.atU {w : World} {B n : Nat} {A : Option Addr} {hs : List U3} (h : Rd w B 3 A n (cellsU hs)) {k : Nat} (hk : k < hs.length) :
    ∃ ad, A = some ad ∧ ad.block < B ∧ w.cell? (ad.add (k * 3)) = some (.int .u8 hs[k].a) ∧ w.cell? ⟨(ad.add (k * 3)).block, (ad.add (k * 3)).off + 1, none⟩ = some (.int .u8 hs[k].b) ∧ w.cell? ⟨(ad.add (k * 3)).block, (ad.add (k * 3)).off + 2, none⟩ = some (.int .u8 hs[k].c) := by
  have hn := h.lenU
  obtain ⟨ad, e, hl, hc⟩ := h.at_ (k := k) (by omega)
  rw [cellsU_drop, List.drop_eq_getElem_cons hk] at hc
  exact ⟨ad, e, hl, hc.c0, hc.c1, hc.c2⟩

/-- One step of the table out of plain data. -/
def stepU (hs : List H3) (u : U3) : List H3 := if ownerF (levF u.a) u.b hs < 0 then takeF (levF u.a) u.b ((u.c : Int) % 16) hs else hs
def ofU (l : List U3) : List H3 := l.foldl stepU []
theorem stepU_len (hs : List H3) (u : U3) : (stepU hs u).length ≤ hs.length + 1 := by
  unfold stepU
  split
  · exact Nat.le_of_eq (takeF_len _ _ _ _)
  · omega
theorem ofU_len (l : List U3) : (ofU l).length ≤ l.length := by
  have h : ∀ (l : List U3) (hs : List H3), (l.foldl stepU hs).length ≤ hs.length + l.length := by
    intro l
    induction l with
    | nil => intro hs; simp
    | cons u l ih => intro hs; have := ih (stepU hs u); have := stepU_len hs u; simp only [List.foldl_cons, List.length_cons]; omega
  simpa [ofU] using h l []
theorem ofU_take (l : List U3) (k : Nat) (hk : k < l.length) : ofU (l.take (k + 1)) = stepU (ofU (l.take k)) l[k] := by
  rw [take_snoc _ _ hk, ofU, List.foldl_append]; rfl
end Go.Proofs.Ytfdfadebfdmdgaa
