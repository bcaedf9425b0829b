/- The closed facts of LocksKnown. -/
import Derived.Test.YtfdfadebfdmdgaaTkY
import Derived.Test.YtfdfadebfdmdgaaLkOF
import Derived.Test.YtfdfadebfdmdgaaWuA
import Derived.Test.YtfdfadebfdmdgaaSerl
namespace Go.Proofs.Ytfdfadebfdmdgaa
open Go.RowKit

def ringF : Nat → List H3
  | 0 => []
  | k + 1 => insF (posF 0 (15 - (k : Int)) (ringF k)) ⟨0, 15 - (k : Int), 15 - (k : Int)⟩ (ringF k)
def allF : Nat → List W3
  | 0 => []
  | k + 1 => allF k ++ [⟨15 - (k : Int), 0, (16 - (k : Int)) % 16⟩]
def wantF : Nat → List Int
  | 0 => []
  | k + 1 => wantF k ++ [(k : Int)]
theorem ring_ready : ∀ k : Fin 16, readyF (ringF k) 0 (15 - (k : Nat)) (15 - (k : Nat)) = 0 ∧ heldB 0 (15 - (k : Nat)) (ringF k) = false := by decide +kernel
theorem ringF_len (k : Nat) : (ringF k).length = k := by
  induction k with
  | zero => rfl
  | succ k ih => rw [ringF, insF]; simp [ih]; have := posF_le 0 (15 - (k : Int)) (ringF k); omega
theorem allF_len (k : Nat) : (allF k).length = k := by
  induction k with
  | zero => rfl
  | succ k ih => rw [allF]; simp [ih]
theorem wantF_len (k : Nat) : (wantF k).length = k := by
  induction k with
  | zero => rfl
  | succ k ih => rw [wantF]; simp [ih]

def oneT : List H3 := [⟨5, 1023, 15⟩]
theorem known_take : takeE [] 5 1023 15 = 0 ∧ takeG [] 5 1023 15 = oneT := by decide +kernel
theorem known_bad1 : takeE oneT 5 1024 15 = 1 ∧ takeG oneT 5 1024 15 = [] := by decide +kernel
theorem known_bad2 : takeE oneT 5 1023 16 = 1 ∧ takeG oneT 5 1023 16 = [] := by decide +kernel
theorem known_self : cycF oneT [⟨15, 5, 1023⟩] = [15] := by decide +kernel
theorem known_ring : cycF (ringF 16) (allF 16) = wantF 16 ∧ cycF (ringF 16) ((allF 16).drop 1) = [] ∧ upwardB (ringF 16) (allF 16) = false := by decide +kernel
def twoW : List W3 := [⟨3, 0, 2⟩, ⟨2, 0, 3⟩, ⟨5, 0, 2⟩, ⟨9, 0, 0⟩, ⟨0, 0, 9⟩]
theorem known_two : cycF (ringF 16) twoW = [0, 9] ∧ cycF (ringF 16) (twoW.take 4) = [2, 3] := by decide +kernel

/-- Another row's growth leaves a row as it is. -/
theorem own_kept {w w' : World} {base e size n : Nat} {v : Value} {xs : List Value} {row : Option Nat} (h : w.ownsRow base e size v n xs) (hg : w.grownBy w' row) (hne : v.ownBlock = none ∨ v.ownBlock ≠ row) : w'.ownsRow base e size v n xs := by
  refine ⟨h.1, ?_⟩
  rcases h.2 with h2 | ⟨g, cap, cur, hv, hg2, hh, r⟩
  · exact .inl h2
  · refine .inr ⟨g, cap, cur, hv, hg2, ?_, r⟩
    have hlt : g < w.heap.size := (Array.getElem?_eq_some_iff.1 hh).1
    rw [hg.block g hlt ?_]
    · exact hh
    · subst hv
      rcases hne with h0 | h0
      · cases h0
      · intro e2; exact h0 e2
/-- Rows of elements of different types lie apart. -/
theorem own_apart {w : World} {b b' e e' s s' n n' : Nat} {v v' : Value} {xs xs' : List Value} (h : w.ownsRow b e s v n xs) (h' : w.ownsRow b' e' s' v' n' xs') (hne : e ≠ e') : v.ownBlock = none ∨ v.ownBlock ≠ v'.ownBlock := by
  rcases h.2 with ⟨rfl, _⟩ | ⟨g, cap, cur, rfl, _, hh, _⟩
  · exact .inl rfl
  · right
    rcases h'.2 with ⟨rfl, _⟩ | ⟨g', cap', cur', rfl, _, hh', _⟩
    · intro h2; cases h2
    · intro h2
      have h3 : g = g' := by simpa [Value.ownBlock] using h2
      subst h3
      rw [hh] at hh'
      cases hh'
      exact hne rfl
theorem Rd.dropW {w : World} {B n : Nat} {ad : Addr} {hs : List W3} (h : Rd w B 3 (some ad) n (cellsW hs)) (k m : Nat) (hm : m + k = n) (hm0 : 0 < m) : Rd w B 3 (some (ad.add (k * 3))) m (cellsW (hs.drop k)) := by
  obtain ⟨bd, e, hl, hc⟩ := h.2 (by omega)
  cases e
  have hlen := h.1
  refine ⟨by rw [← cellsW_drop, List.length_drop, hlen]; omega, fun _ => ⟨_, rfl, by rw [add_block]; exact hl, ?_⟩⟩
  rw [← cellsW_drop]; exact hc.nth _
theorem ints_no {n : Nat} {a b : List Int} (h : ¬ a = b) : b2i (decide (n = n) && decide (a = b)) = 0 := by simp [b2i, h]

/-- Two operations may come up. -/
theorem take_two {P : Program} {l : List Oper} {Q : Exit → Act → World → Prop} {md : Region.Mode} {S : World → Prop} (i j : Nat) {oi oj : Oper} {resti restj : List Oper} {fuel : Nat} {listed : Array Bool} {a : Act} {w : World} (hi : l.drop i = oi :: resti) (hj : l.drop j = oj :: restj)
    (hr : Region.ready md l.toArray listed = [i, j]) (hwi : Region.wanted oi (yielded l.toArray a.tmps) = true) (hwj : Region.wanted oj (yielded l.toArray a.tmps) = true)
    (h1 : ∀ K' : Act → World → Prop, Shut (∀ a w, S w → (S w → wpAnyH P md l.toArray Q S fuel (listed.setIfInBounds i true) a w) → K' a w) → Oper.wp P oi a w K' Q)
    (h2 : ∀ K' : Act → World → Prop, Shut (∀ a w, S w → (S w → wpAnyH P md l.toArray Q S fuel (listed.setIfInBounds j true) a w) → K' a w) → Oper.wp P oj a w K' Q) : wpAnyH P md l.toArray Q S (fuel + 1) listed a w :=
  wpAnyH_ready hr (by simp) (AllReadyH.cons (at_drop hi) (fun K hK => by rw [if_pos hwi]; exact h1 K hK) (AllReadyH.cons (at_drop hj) (fun K hK => by rw [if_pos hwj]; exact h2 K hK) AllReadyH.nil))

/-- The byte of a whole number. -/
def by8 (z : Int) : Nat := (z % 256).toNat
theorem by8_lt (z : Int) : by8 z < 256 := by unfold by8; omega
theorem by8_wrap (z : Int) : IntKind.u8.wrap z = (by8 z : Int) := by
  unfold by8
  rw [Int.toNat_of_nonneg (by omega)]
  simp [IntKind.wrap, IntKind.signed, IntKind.bits]
end Go.Proofs.Ytfdfadebfdmdgaa
