/- The arguments of plain data, opened. -/
import Derived.Test.YtfdfadebfdmdgaaLxR
import Derived.Test.YtfdfadebfdmdgaaTkA
import Derived.Laws.IdiomArrays
namespace Go.Proofs.Ytfdfadebfdmdgaa
open Go.ChangeShapes Go.WideShapes Go.ChangeAt Go.RowKit Go.Deep

section
variable {H : Type} {enc : TypeId × Value → H} {W : World} {base : Nat} {spare : Nat → Bool} {held : Bool}

theorem okWide_arr {P : Program} {w : World} {r : Reach} {b0 : Nat} {t : TypeId} {v : Value} {n : Nat} {e : TypeId} (ht : P.underlying t = some (.array n e)) (h : Value.okWide P w r b0 t v) : ∃ cs, v = .agg cs ∧ cs.size = P.cellsOf t := by
  simp only [Value.okWide, ht] at h
  obtain ⟨cs, h1, h2, _⟩ := h
  exact ⟨cs, h1, h2⟩

theorem byte_of {fuel : Nat} {c : Value} {x : DataW H × List MemPlace} (h : DataW.trod enc Try.prog W base spare held fuel 5 [c] = some x) : ∃ a : Nat, a < 256 ∧ c = .int .u8 a := by
  obtain ⟨z, hz, _, hwf⟩ := DataW.trod_int Try.underlying5 h
  obtain ⟨h0, h1⟩ := bounds_u8 hwf
  refine ⟨z.toNat, by omega, ?_⟩
  have e : c = .int .u8 z := by simpa using hz
  rw [e, Int.toNat_of_nonneg h0]

theorem trod_u3 {fuel : Nat} {cs : List Value} {x : DataW H × List MemPlace} (h : DataW.trod enc Try.prog W base spare held fuel 47 cs = some x) : ∃ u : U3, cs = u.cells := by
  obtain ⟨xs, m, _, _, hlen, _, _⟩ := DataW.trod_array Try.underlying47 h
  have hC : Try.prog.cellsOf 47 = 3 := by kernel_rfl
  rw [hC] at hlen
  match cs, hlen with
  | [c0, c1, c2], _ =>
    obtain ⟨y0, y1, y2, n, _, h0, h1, h2⟩ := trod_array3 Try.underlying47 (by kernel_rfl) h
    obtain ⟨a, ha, rfl⟩ := byte_of h0
    obtain ⟨b, hb, rfl⟩ := byte_of h1
    obtain ⟨c, hc, rfl⟩ := byte_of h2
    exact ⟨⟨a, b, c, ha, hb, hc⟩, rfl⟩

theorem open_u3 {v : Value} {d : DataW H} {p : List MemPlace} {r : Reach} {b0 : Nat} (hv : Value.okWide Try.prog W r b0 47 v) (h : DataW.Trod enc Try.prog W base spare held 47 v d p) :
    ∃ u : U3, v = .agg #[.int .u8 u.a, .int .u8 u.b, .int .u8 u.c] := by
  obtain ⟨cs, rfl, _⟩ := okWide_arr Try.underlying47 hv
  obtain ⟨fuel, hf⟩ := h
  obtain ⟨u, e⟩ := trod_u3 hf
  obtain ⟨l⟩ := cs
  have e2 : l = u.cells := e
  rw [e2]
  exact ⟨u, rfl⟩

theorem open_us {fuel : Nat} {cs : List Value} {x : DataW H × List MemPlace} (h : DataW.trod enc Try.prog W base (fun _ => true) held fuel 22 cs = some x) :
    ∃ (A : Option Addr) (n c : Nat) (hs : List U3), cs = [.slice A n c] ∧ n ≤ c ∧ c ≤ maxLen ∧ Rd W W.heap.size 3 A n (cellsU hs) := by
  rcases open_slice Try.underlying22 h with ⟨rfl, _⟩ | ⟨a, len, cap, m, k, D, Pl, rfl, hb, hl, hm, hmm, hx, hi⟩
  · exact ⟨none, 0, 0, [], rfl, Nat.le_refl _, Nat.zero_le _, Rd.none_⟩
  · have hC : Try.prog.cellsOf 47 = 3 := by kernel_rfl
    rw [hC] at hi
    obtain ⟨xs, hxl, hc⟩ := pieces U3.cells 3 (fun _ => rfl) len W a (fun i hil => by
      obtain ⟨cs', hcs, ht⟩ := hi i (by rw [hmm]; simp; omega)
      obtain ⟨_, _, hat⟩ := World.cells?_some hcs
      obtain ⟨g, rfl⟩ := trod_u3 ht
      exact ⟨g, fun j hj => hat j hj⟩)
    refine ⟨some a, len, cap, xs, rfl, hl, hm, by rw [cellsU_len, hxl], fun h0 => ⟨a, rfl, ?_, hc⟩⟩
    match xs, hxl with
    | [], hxl => simp at hxl; omega
    | g :: t, _ =>
      have := hc 0 (.int .u8 g.a) rfl
      have h2 := lt_of_cell this
      rwa [add_block] at h2

set_option maxRecDepth 100000 in
theorem open_T {v : Value} {d : DataW H} {p : List MemPlace} {r : Reach} {b0 : Nat} (hv : Value.okWide Try.prog W r b0 24 v) (h : DataW.Trod enc Try.prog W base (fun _ => true) held 24 v d p) :
    ∃ (A : Option Addr) (n c : Nat) (hs : List U3), v = .agg #[.slice A n c] ∧ n ≤ c ∧ c ≤ maxLen ∧ Rd W W.heap.size 3 A n (cellsU hs) := by
  obtain ⟨cs, rfl, hsz⟩ := okWide_struct Try.underlying24 hv
  have hC : Try.prog.cellsOf 24 = 1 := by kernel_rfl
  obtain ⟨l⟩ := cs
  match l, hsz.trans hC with
  | [c0], _ =>
    obtain ⟨fuel, hf⟩ := h
    obtain ⟨xs, n, _, _, _, hxl, hg⟩ := DataW.trod_struct Try.underlying24 hf
    have h0 := hg 0 _ rfl
    have hx1 : xs.length = 1 := hxl
    rw [List.getElem?_eq_getElem (by omega)] at h0
    obtain ⟨A, n', c, hs, hcs, h1, h2, h3⟩ := open_us h0
    have e : c0 = .slice A n' c := by
      have : ([c0] : List Value) = [.slice A n' c] := hcs
      simpa using this
    rw [e]
    exact ⟨A, n', c, hs, rfl, h1, h2, h3⟩
end
end Go.Proofs.Ytfdfadebfdmdgaa
