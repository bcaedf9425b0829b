/- Words for memory that every proof of this claim uses: cells at an address, a slice that reads as a list, a row of the call's own that reads as a list. -/
import Derived.Test.YtbkpgmlibiclfaaGreatDoorChecked
import Derived.WalkKit
import Derived.WalkSpells
import Derived.WalkLawsBesides
import Derived.KernelRfl
import Derived.Handy
import Derived.Lib.Hide
import Derived.Deep.RegionHeld3
import Derived.Deep.QuietTactic
import Derived.BigQuiet
import Derived.StillTailTactics
import Derived.Deep.Draws
import Derived.Laws.OwnMore
namespace Go.Proofs.YtbkpgmlibiclfaaGreatDoor
open Go.RowKit

theorem ret_bool {a b : Bool} (h : a = b) : Ending.returned (.bool a) = .returned (.bool b) := by rw [h]
theorem ret_int {k : IntKind} {a b : Int} (h : a = b) : Ending.returned (.int k a) = .returned (.int k b) := by rw [h]

theorem add_block (a : Addr) (n : Nat) : (a.add n).block = a.block := by unfold Addr.add; split <;> rfl
theorem add_twice (a : Addr) (i j : Nat) : (a.add i).add j = a.add (i + j) := by
  unfold Addr.add
  by_cases hi : i = 0 <;> by_cases hj : j = 0 <;> simp [hi, hj, Nat.add_assoc]
theorem add_succ (a : Addr) (j : Nat) : (⟨a.block, a.off + (j + 1), none⟩ : Addr) = a.add (j + 1) := by simp [Addr.add]

/-- The cells l lie at a. -/
def Cells (w : World) (a : Addr) (l : List Value) : Prop := ∀ j v, l[j]? = some v → w.cell? (a.add j) = some v

theorem Cells.keep {w w' : World} {a : Addr} {l : List Value} (h : Cells w a l) (hk : ∀ p : Addr, p.block = a.block → w'.cell? p = w.cell? p) : Cells w' a l :=
  fun j v hv => (hk _ (add_block _ _)).trans (h j v hv)
theorem Cells.below {B : Nat} {w w' : World} {a : Addr} {l : List Value} (h : Cells w a l) (hb : Below B w w') (ha : a.block < B) : Cells w' a l :=
  h.keep fun p hp => hb.cell (by rw [hp]; exact ha)
theorem Cells.nth {w : World} {a : Addr} {l : List Value} (h : Cells w a l) (i : Nat) : Cells w (a.add i) (l.drop i) := fun j v hv => by
  rw [add_twice]
  exact h (i + j) v (by rw [← hv, List.getElem?_drop])
theorem Cells.c0 {w : World} {a : Addr} {v : Value} {l : List Value} (h : Cells w a (v :: l)) : w.cell? a = some v := by
  have := h 0 v rfl
  simpa [Addr.add] using this
theorem Cells.c1 {w : World} {a : Addr} {v u : Value} {l : List Value} (h : Cells w a (u :: v :: l)) : w.cell? ⟨a.block, a.off + 1, none⟩ = some v := by
  rw [add_succ a 0]; exact h 1 v rfl
theorem Cells.c2 {w : World} {a : Addr} {v u t : Value} {l : List Value} (h : Cells w a (t :: u :: v :: l)) : w.cell? ⟨a.block, a.off + 2, none⟩ = some v := by
  rw [add_succ a 1]; exact h 2 v rfl

/-- The slice value '.slice A n c' reads as xs, 'size' cells an element; it lies below block B. -/
def Rd (w : World) (B size : Nat) (A : Option Addr) (n : Nat) (xs : List Value) : Prop :=
  xs.length = n * size ∧ (0 < n → ∃ ad, A = some ad ∧ ad.block < B ∧ Cells w ad xs)

section
variable {w w' : World} {B B' size n : Nat} {A : Option Addr} {xs : List Value}
theorem Rd.none_ : Rd w B size A 0 [] := ⟨by simp, fun h => absurd h (by omega)⟩
theorem Rd.below (h : Rd w B size A n xs) {C : Nat} (hb : Below C w w') (hC : B ≤ C) : Rd w' B size A n xs :=
  ⟨h.1, fun hn => by
    obtain ⟨ad, e, hl, hc⟩ := h.2 hn
    exact ⟨ad, e, hl, hc.below hb (Nat.lt_of_lt_of_le hl hC)⟩⟩
theorem Rd.mono (h : Rd w B size A n xs) (hB : B ≤ B') : Rd w B' size A n xs :=
  ⟨h.1, fun hn => by
    obtain ⟨ad, e, hl, hc⟩ := h.2 hn
    exact ⟨ad, e, Nat.lt_of_lt_of_le hl hB, hc⟩⟩
theorem Rd.step (h : Rd w w.heap.size size A n xs) (hb : Below w.heap.size w w') : Rd w' w'.heap.size size A n xs :=
  (h.below hb (Nat.le_refl _)).mono hb.size
theorem Rd.at_ (h : Rd w B size A n xs) {k : Nat} (hk : k < n) : ∃ ad, A = some ad ∧ ad.block < B ∧ Cells w (ad.add (k * size)) (xs.drop (k * size)) := by
  obtain ⟨ad, e, hl, hc⟩ := h.2 (by omega)
  exact ⟨ad, e, hl, hc.nth _⟩
theorem Rd.of_own {base : Nat} {e : TypeId} {c : Nat} (h : w.ownsRow base e size (.slice A n c) n xs) : Rd w w.heap.size size A n xs := by
  refine ⟨h.1, fun hn => ?_⟩
  rcases h.2 with ⟨_, h0⟩ | ⟨g, cap, cur, hv, _, hh, _⟩
  · omega
  · have hA : A = some ⟨g, 0, none⟩ := by injection hv
    subst hA
    have hlt : g < w.heap.size := by
      rcases Nat.lt_or_ge g w.heap.size with hlt | hge
      · exact hlt
      · rw [Array.getElem?_eq_none hge] at hh; cases hh
    exact ⟨_, rfl, hlt, h.cells (g := g) rfl⟩
end

theorem below_drewN' {B : Nat} {a w : World} (h : Below B a w) (n : Nat) : Below B a (w.drewN n) := ⟨h.os, h.tape, h.output, h.size, h.block⟩

/-- All cells and marks below B read as before: two rules that the walk uses by itself. -/
theorem bcell {W w1 : World} {B : Nat} (hb : Below B W w1) : (∀ b o, b < B → w1.cell? ⟨b, o, none⟩ = W.cell? ⟨b, o, none⟩) ∧ (∀ b o, b < B → w1.frozen? ⟨b, o, none⟩ = W.frozen? ⟨b, o, none⟩) :=
  ⟨fun b o h => hb.cell (p := ⟨b, o, none⟩) h, fun b o h => hb.frozen (p := ⟨b, o, none⟩) h⟩

theorem cs_ {w w' : World} {B g o : Nat} {v : Value} (hb : Below B w w') (hg : g < B) (h : w.cell? ⟨g, o, none⟩ = some v) : w'.cell? ⟨g, o, none⟩ = some v :=
  (hb.cell (p := ⟨g, o, none⟩) hg).trans h
theorem fs_ {w w' : World} {B g o : Nat} (hb : Below B w w') (hg : g < B) (h : w.frozen? ⟨g, o, none⟩ = false) : w'.frozen? ⟨g, o, none⟩ = false :=
  (hb.frozen (p := ⟨g, o, none⟩) hg).trans h
theorem below_alloc1 {w w' : World} {o : Obj} (h : Below (w.alloc o).heap.size (w.alloc o) w') : Below w.heap.size w w' :=
  ((Below.refl _ _).alloc (Nat.le_refl _) _).trans (h.mono (by simp))
theorem below_alloc2 {w w' : World} {o p : Obj} (h : Below ((w.alloc o).alloc p).heap.size ((w.alloc o).alloc p) w') : Below w.heap.size w w' :=
  below_alloc1 (below_alloc1 h)

/-- A region that draws: its first n operations only read; the rest stands in a forced order. -/
theorem still_tail {P : Program} {id : Nat} {Q : Exit → Act → World → Prop} {a : Act} {w : World} {l : List Oper} (n : Nat) (hm : P.follows .mixedOrders = true) (hB : Region.lexTailB .any l.toArray n = true)
    (h : wpStill P l.toArray w.drew (fun a' => wpList P l.toArray Q (l.drop n) a' w.drew) (l.take n) a) : (Code.region id l.toArray true).wp P Q a w :=
  wp_region_still_tail n hm hB h

theorem lt_of_cell {w : World} {a : Addr} {v : Value} (h : w.cell? a = some v) : a.block < w.heap.size := by
  rcases Nat.lt_or_ge a.block w.heap.size with hlt | hge
  · exact hlt
  · unfold World.cell? at h; rw [Array.getElem?_eq_none hge] at h; simp at h

theorem cell_new {w : World} {cs : Array Value} {t : TypeId} {g i : Nat} {v : Value} (hg : g = w.heap.size) (h : cs[i]? = some v) : (w.alloc (.cells cs t)).drew.cell? ⟨g, i, none⟩ = some v := by
  subst hg; simp [World.cell?_alloc_new, h]

end Go.Proofs.YtbkpgmlibiclfaaGreatDoor
