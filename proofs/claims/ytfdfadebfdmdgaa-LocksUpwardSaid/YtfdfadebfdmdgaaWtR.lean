/- The argument of plain waits, opened. -/
import Derived.Test.YtfdfadebfdmdgaaTkR
import Derived.Test.YtfdfadebfdmdgaaTkW
namespace Go.Proofs.Ytfdfadebfdmdgaa
open Go.ChangeShapes Go.WideShapes Go.ChangeAt Go.RowKit Go.Deep

section
variable {H : Type} {enc : TypeId × Value → H} {W : World} {base : Nat} {held : Bool}

theorem trod_array2 {P : Program} {w : World} {spare : Nat → Bool} {t e : TypeId} {fuel : Nat} {c0 c1 : Value} {x : DataW H × List MemPlace} (ht : P.underlying t = some (.array 2 e)) (hce : P.cellsOf e = 1)
    (h : DataW.trod enc P w base spare held fuel t [c0, c1] = some x) :
    ∃ y0 y1 n, DataW.trod enc P w base spare held n e [c0] = some y0 ∧ DataW.trod enc P w base spare held n e [c1] = some y1 := by
  obtain ⟨xs, m, _, _, _, hxl, hi⟩ := DataW.trod_array ht h
  rw [hce] at hi
  have h0 := hi 0 (by omega)
  have h1 := hi 1 (by omega)
  rw [List.getElem?_eq_getElem (by omega)] at h0 h1
  exact ⟨_, _, m, h0, h1⟩

theorem trod_u2 {spare : Nat → Bool} {fuel : Nat} {cs : List Value} {x : DataW H × List MemPlace} (h : DataW.trod enc Try.prog W base spare held fuel 56 cs = some x) : ∃ u : U2, cs = u.cells := by
  obtain ⟨xs, m, _, _, hlen, _, _⟩ := DataW.trod_array Try.underlying56 h
  have hC : Try.prog.cellsOf 56 = 2 := by kernel_rfl
  rw [hC] at hlen
  match cs, hlen with
  | [c0, c1], _ =>
    obtain ⟨y0, y1, n, h0, h1⟩ := trod_array2 Try.underlying56 (by kernel_rfl) h
    obtain ⟨a, ha, rfl⟩ := byte_of h0
    obtain ⟨b, hb, rfl⟩ := byte_of h1
    exact ⟨⟨a, b, ha, hb⟩, rfl⟩

theorem open_vs {v : Value} {d : DataW H} {p : List MemPlace} {r : Reach} {b0 : Nat} (hv : Value.okWide Try.prog W r b0 25 v) (h : DataW.Trod enc Try.prog W base (fun _ => true) held 25 v d p) :
    ∃ (A : Option Addr) (n c : Nat) (hs : List U2), v = .slice A n c ∧ n ≤ c ∧ c ≤ maxLen ∧ Rd W W.heap.size 2 A n (cellsV hs) := by
  obtain ⟨a0, l0, k0, rfl⟩ := okWide_slice Try.underlying25 hv
  obtain ⟨fuel, hf⟩ := h
  rcases open_slice Try.underlying25 hf with ⟨hcs, _⟩ | ⟨a, len, cap, m, k, D, Pl, hcs, hb, hl, hm, hmm, hx, hi⟩
  · have e : (Value.slice a0 l0 k0) = .slice none 0 0 := by simpa [Value.cells] using hcs
    rw [e]
    exact ⟨none, 0, 0, [], rfl, Nat.le_refl _, Nat.zero_le _, Rd.none_⟩
  · have e : (Value.slice a0 l0 k0) = .slice (some a) len cap := by simpa [Value.cells] using hcs
    rw [e]
    have hC : Try.prog.cellsOf 56 = 2 := by kernel_rfl
    rw [hC] at hi
    obtain ⟨xs, hxl, hc⟩ := pieces U2.cells 2 (fun _ => rfl) len W a (fun i hil => by
      obtain ⟨cs', hcs, ht⟩ := hi i (by rw [hmm]; simp; omega)
      obtain ⟨_, _, hat⟩ := World.cells?_some hcs
      obtain ⟨g, rfl⟩ := trod_u2 ht
      exact ⟨g, fun j hj => hat j hj⟩)
    refine ⟨some a, len, cap, xs, rfl, hl, hm, by rw [cellsV_len, hxl], fun h0 => ⟨a, rfl, ?_, hc⟩⟩
    match xs, hxl with
    | [], hxl => simp at hxl; omega
    | g :: t, _ =>
      have := hc 0 (.int .u8 g.a) rfl
      have h2 := lt_of_cell this
      rwa [add_block] at h2
end
end Go.Proofs.Ytfdfadebfdmdgaa
