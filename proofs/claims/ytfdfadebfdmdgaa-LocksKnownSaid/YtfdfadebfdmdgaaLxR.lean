/- What the rows of these laws share: an argument read as a table, a list of waits; the row's end. -/
import Derived.Test.YtfdfadebfdmdgaaRows
import Derived.Test.YtfdfadebfdmdgaaLkI
import Derived.ProofKit
import Derived.Deep.Slices
import Derived.SizedLaws
namespace Go.Proofs.Ytfdfadebfdmdgaa
open Go.ChangeShapes Go.WideShapes Go.ChangeAt Go.RowKit Go.Deep

theorem ownK : ownKnob Try.prog.godebug = none := by kernel_rfl
theorem laidOutK : laidOutB Try.prog = true := by kernel_rfl

section
variable {H : Type} {enc : TypeId × Value → H} {P : Program}

theorem trodAll_stays (hl : laidOutB P = true) {W W' : World} {sp : Nat → Bool} : ∀ {ts : List TypeId} {vs : List Value} {ds : List (DataW H)} {ps : List MemPlace}, (ts.all fun t => P.readableRec t && decide (t < P.types.size)) = true →
    DataW.TrodAll enc P W 0 (fun _ => true) true ts vs ds ps → (∀ x ∈ ps, W.sameAt W' x) → (∀ x ∈ ps, sp x.block = true) → DataW.TrodAll enc P W' 0 sp true ts vs ds ps := by
  intro ts
  induction ts with
  | nil =>
    intro vs ds ps _ h _ _
    cases vs <;> cases ds <;> first | exact h | exact h.elim
  | cons t ts ih =>
    intro vs ds ps ht h hs hsp
    match vs, ds, h with
    | v :: vs, d :: ds, ⟨p, q, h1, h2, e⟩ =>
      simp only [List.all_cons, Bool.and_eq_true, decide_eq_true_eq] at ht
      exact ⟨p, q, WideElems.Trod_stays hl ht.1.1 ht.1.2 h1 (fun x hx => hs x (by rw [e]; simp [hx])) (fun x hx => hsp x (by rw [e]; simp [hx])),
        ih ht.2 h2 (fun x hx => hs x (by rw [e]; simp [hx])) (fun x hx => hsp x (by rw [e]; simp [hx])), e⟩

/-- The end of a law's row: it returned true; below the heap's old size nothing has turned. -/
theorem law_post (hl : laidOutB P = true) {f : Func} {s : ChangeSpec} {W W' : World} {args : Array Value} {ds gs : List (DataW H)} {before : List MemPlace} {tb : TypeId}
    (hsv : s.vars = []) (hfn : s.fn H (ds ++ gs) = { results := [.lit (.bool true)], args := ds }) (hr : f.resultTypes = #[tb]) (hbt : P.underlying tb = some .bool)
    (hpar : (f.params.toList.all fun t => P.readableRec t && decide (t < P.types.size)) = true)
    (hW : DataW.Whole enc P f.params.toList s.vars false W args.toList ds gs before) (hb : Below W.heap.size W W') :
    s.post enc P f false true false false W args (.bool true) W' := by
  have hlt : ∀ p ∈ before, p.block < W.heap.size := fun p hp => hW.lt p hp
  have hold : ∀ p ∈ before, (fun b => decide (b < W.heap.size)) p.block = true := fun p hp => by simpa using hlt p hp
  have hW0 := hW
  obtain ⟨p, q, hA, hV, hpq, hz, hn⟩ := hW0
  rw [hsv] at hV
  obtain ⟨_, hq⟩ := trodVars_none hV
  have hpb : before = p := by rw [hpq, hq, List.append_nil]
  have hargs : ∀ sp : Nat → Bool, (∀ x ∈ before, sp x.block = true) → DataW.TrodAll enc P W' 0 sp true f.params.toList args.toList (s.fn H (ds ++ gs)).args p := fun sp hsp => by
    rw [hfn]
    exact trodAll_stays hl hpar hA (fun x hx => hb.same (hlt x (by rw [hpb]; exact hx))) (fun x hx => hsp x (by rw [hpb]; exact hx))
  have hvars : ∀ sp : Nat → Bool, DataW.TrodVars enc P W' sp s.vars (s.fn H (ds ++ gs)).vars [] := fun sp => by rw [hsv, hfn]; rfl
  have hres : ∀ (b : Nat) (sp : Nat → Bool) (hd : Bool), DataW.TrodAll enc P W' b sp hd f.resultTypes.toList ((Value.bool true).resultList f.resultTypes.size) (s.fn H (ds ++ gs)).results [] := fun b sp hd => by
    rw [hfn, hr]
    exact trodAll_mk1 (shut_bool hbt true)
  have hok : ∀ (j : Nat) (t : TypeId) (r : Value), f.resultTypes[j]? = some t → ((Value.bool true).resultList f.resultTypes.size)[j]? = some r → Value.okWide P W' .any 0 t r := ok_one hr rfl (okWide_bool_mk hbt true)
  refine ⟨ds, gs, before, [], p, [], hW, hres _ _ _, hargs _ hold, hvars _, World.keptBut_mono (fun x hx => ⟨hx, ?_⟩) (hb.frame (· ∈ before)), fun _ => ?_⟩
  · rw [hpb] at hx; exact Or.inr (Or.inl hx)
  · refine ⟨hok, _, _, ([] ++ p) ++ [], ⟨[] ++ p, [], trodAll_append (hargs _ (fun _ _ => rfl)) (hres _ _ _), hvars _, rfl, ?_, ?_⟩, ?_⟩
    · intro b off hp
      have hin : MemPlace.cell b off ∈ before := by rw [hpb]; simpa using hp
      rw [hb.frozen (hlt _ hin)]
      exact hz b off hin
    · intro ha; cases ha
    · intro x hx _
      rw [hpb]
      simpa using hx
end

section
variable {H : Type} {enc : TypeId × Value → H} {W : World} {base : Nat} {spare : Nat → Bool} {held : Bool}

theorem take1 {cs : List Value} {j : Nat} {v : Value} (h : (cs.drop j).take 1 = [v]) : cs[j]? = some v := by
  have h1 : ((cs.drop j).take 1)[0]? = some v := by rw [h]; rfl
  simpa using h1

set_option maxRecDepth 100000 in
theorem trod_lock {fuel : Nat} {cs : List Value} {x : DataW H × List MemPlace} (h : DataW.trod enc Try.prog W base spare held fuel 43 cs = some x) : ∃ lv ix : Int, cs = [.int .i64 lv, .int .i64 ix] := by
  obtain ⟨xs, n, _, _, hlen, hxl, hf⟩ := DataW.trod_struct Try.underlying43 h
  have h0 := hf 0 _ rfl
  have h1 := hf 1 _ rfl
  have hx2 : xs.length = 2 := hxl
  rw [List.getElem?_eq_getElem (by omega)] at h0 h1
  obtain ⟨a, ha, _⟩ := DataW.trod_int Try.underlying3 h0
  obtain ⟨b, hb, _⟩ := DataW.trod_int Try.underlying3 h1
  refine ⟨a, b, ?_⟩
  have hl2 : cs.length = 2 := hlen
  match cs, hl2 with
  | [u, v], _ =>
    have e0 : u = .int .i64 a := by have := take1 ha; simpa using this
    have e1 : v = .int .i64 b := by have := take1 hb; simpa using this
    rw [e0, e1]

set_option maxRecDepth 100000 in
theorem trod_held {fuel : Nat} {cs : List Value} {x : DataW H × List MemPlace} (h : DataW.trod enc Try.prog W base spare held fuel 67 cs = some x) : ∃ g : H3, cs = g.cells := by
  obtain ⟨xs, n, _, _, hlen, hxl, hf⟩ := DataW.trod_struct Try.underlying67 h
  have h0 := hf 0 _ rfl
  have h1 := hf 1 _ rfl
  have hx2 : xs.length = 2 := hxl
  rw [List.getElem?_eq_getElem (by omega)] at h0 h1
  obtain ⟨a, b, hab⟩ := trod_lock h0
  obtain ⟨c, hc, _⟩ := DataW.trod_int Try.underlying3 h1
  refine ⟨⟨a, b, c⟩, ?_⟩
  have hl2 : cs.length = 3 := hlen
  match cs, hl2 with
  | [u, v, t], _ =>
    have e0 : [u, v] = [.int .i64 a, .int .i64 b] := hab
    have e1 : t = .int .i64 c := by have := take1 hc; simpa using this
    simp only [List.cons.injEq, and_true] at e0
    rw [e0.1, e0.2, e1]; rfl

set_option maxRecDepth 100000 in
theorem trod_wait {fuel : Nat} {cs : List Value} {x : DataW H × List MemPlace} (h : DataW.trod enc Try.prog W base spare held fuel 45 cs = some x) : ∃ g : W3, cs = g.cells := by
  obtain ⟨xs, n, _, _, hlen, hxl, hf⟩ := DataW.trod_struct Try.underlying45 h
  have h0 := hf 0 _ rfl
  have h1 := hf 1 _ rfl
  have hx2 : xs.length = 2 := hxl
  rw [List.getElem?_eq_getElem (by omega)] at h0 h1
  obtain ⟨c, hc, _⟩ := DataW.trod_int Try.underlying3 h0
  obtain ⟨a, b, hab⟩ := trod_lock h1
  refine ⟨⟨c, a, b⟩, ?_⟩
  have hl2 : cs.length = 3 := hlen
  match cs, hl2 with
  | [u, v, t], _ =>
    have e0 : [v, t] = [.int .i64 a, .int .i64 b] := hab
    have e1 : u = .int .i64 c := by have := take1 hc; simpa using this
    simp only [List.cons.injEq, and_true] at e0
    rw [e0.1, e0.2, e1]; rfl

/-- Rows of equal pieces: from the pieces to the row. -/
theorem pieces {α : Type} (cells : α → List Value) (k : Nat) (hk : ∀ x, (cells x).length = k) (n : Nat) (w : World) (a : Addr) (h : ∀ i, i < n → ∃ x : α, ∀ j, j < k → w.cell? ((a.add (i * k)).add j) = (cells x)[j]?) :
    ∃ xs : List α, xs.length = n ∧ Cells w a (xs.flatMap cells) := by
  induction n with
  | zero => exact ⟨[], rfl, fun j v hv => by simp at hv⟩
  | succ n ih =>
    obtain ⟨xs, hl, hc⟩ := ih fun i hi => h i (by omega)
    obtain ⟨x, hx⟩ := h n (by omega)
    refine ⟨xs ++ [x], by simp [hl], fun j v hv => ?_⟩
    rw [List.flatMap_append] at hv
    have hfl : (xs.flatMap cells).length = n * k := by
      rw [← hl]
      clear hc hl hv
      induction xs with
      | nil => simp
      | cons y ys ih2 => simp only [List.flatMap_cons, List.length_append, List.length_cons, ih2, hk]; rw [Nat.succ_mul]; omega
    rcases Nat.lt_or_ge j (n * k) with hj | hj
    · rw [List.getElem?_append_left (by rw [hfl]; exact hj)] at hv
      exact hc j v hv
    · rw [List.getElem?_append_right (by rw [hfl]; exact hj), hfl] at hv
      have hv2 : (cells x)[j - n * k]? = some v := by simpa using hv
      have hjk : j - n * k < k := by have := (List.getElem?_eq_some_iff.1 hv2).1; rw [hk] at this; exact this
      have := hx (j - n * k) hjk
      rw [hv2, add_twice, show n * k + (j - n * k) = j by omega] at this
      exact this

theorem open_held {fuel : Nat} {cs : List Value} {x : DataW H × List MemPlace} (h : DataW.trod enc Try.prog W base (fun _ => true) held fuel 27 cs = some x) :
    ∃ (A : Option Addr) (n c : Nat) (hs : List H3), cs = [.slice A n c] ∧ n ≤ c ∧ c ≤ maxLen ∧ Rd W W.heap.size 3 A n (cells3 hs) := by
  rcases open_slice Try.underlying27 h with ⟨rfl, _⟩ | ⟨a, len, cap, m, k, D, Pl, rfl, hb, hl, hm, hmm, hx, hi⟩
  · exact ⟨none, 0, 0, [], rfl, Nat.le_refl _, Nat.zero_le _, Rd.none_⟩
  · have hC : Try.prog.cellsOf 67 = 3 := by kernel_rfl
    rw [hC] at hi
    obtain ⟨xs, hxl, hc⟩ := pieces H3.cells 3 (fun _ => rfl) len W a (fun i hil => by
      obtain ⟨cs', hcs, ht⟩ := hi i (by rw [hmm]; simp; omega)
      obtain ⟨_, _, hat⟩ := World.cells?_some hcs
      obtain ⟨g, rfl⟩ := trod_held ht
      exact ⟨g, fun j hj => hat j hj⟩)
    refine ⟨some a, len, cap, xs, rfl, hl, hm, by rw [cells3_len, hxl], fun h0 => ⟨a, rfl, ?_, hc⟩⟩
    match xs, hxl with
    | [], hxl => simp at hxl; omega
    | g :: t, _ =>
      have := hc 0 (.int .i64 g.lv) rfl
      have h2 := lt_of_cell this
      rwa [add_block] at h2

set_option maxRecDepth 100000 in
theorem open_table {v : Value} {d : DataW H} {p : List MemPlace} {r : Reach} {b0 : Nat} (hv : Value.okWide Try.prog W r b0 29 v) (h : DataW.Trod enc Try.prog W base (fun _ => true) held 29 v d p) :
    ∃ (A : Option Addr) (n c : Nat) (hs : List H3), v = .agg #[.slice A n c] ∧ n ≤ c ∧ c ≤ maxLen ∧ Rd W W.heap.size 3 A n (cells3 hs) := by
  obtain ⟨cs, rfl, hsz⟩ := okWide_struct Try.underlying29 hv
  have hC : Try.prog.cellsOf 29 = 1 := by kernel_rfl
  obtain ⟨l⟩ := cs
  match l, hsz.trans hC with
  | [c0], _ =>
    obtain ⟨fuel, hf⟩ := h
    obtain ⟨xs, n, _, _, _, hxl, hg⟩ := DataW.trod_struct Try.underlying29 hf
    have h0 := hg 0 _ rfl
    have hx1 : xs.length = 1 := hxl
    rw [List.getElem?_eq_getElem (by omega)] at h0
    obtain ⟨A, n', c, hs, hcs, h1, h2, h3⟩ := open_held h0
    have e : c0 = .slice A n' c := by
      have : ([c0] : List Value) = [.slice A n' c] := hcs
      simpa using this
    rw [e]
    exact ⟨A, n', c, hs, rfl, h1, h2, h3⟩

theorem open_waits {v : Value} {d : DataW H} {p : List MemPlace} {r : Reach} {b0 : Nat} (hv : Value.okWide Try.prog W r b0 31 v) (h : DataW.Trod enc Try.prog W base (fun _ => true) held 31 v d p) :
    ∃ (A : Option Addr) (n c : Nat) (hs : List W3), v = .slice A n c ∧ n ≤ c ∧ c ≤ maxLen ∧ Rd W W.heap.size 3 A n (cellsW hs) := by
  obtain ⟨a0, l0, k0, rfl⟩ := okWide_slice Try.underlying31 hv
  obtain ⟨fuel, hf⟩ := h
  rcases open_slice Try.underlying31 hf with ⟨hcs, _⟩ | ⟨a, len, cap, m, k, D, Pl, hcs, hb, hl, hm, hmm, hx, hi⟩
  · have e : (Value.slice a0 l0 k0) = .slice none 0 0 := by simpa [Value.cells] using hcs
    rw [e]
    exact ⟨none, 0, 0, [], rfl, Nat.le_refl _, Nat.zero_le _, Rd.none_⟩
  · have e : (Value.slice a0 l0 k0) = .slice (some a) len cap := by simpa [Value.cells] using hcs
    rw [e]
    have hC : Try.prog.cellsOf 45 = 3 := by kernel_rfl
    rw [hC] at hi
    obtain ⟨xs, hxl, hc⟩ := pieces W3.cells 3 (fun _ => rfl) len W a (fun i hil => by
      obtain ⟨cs', hcs, ht⟩ := hi i (by rw [hmm]; simp; omega)
      obtain ⟨_, _, hat⟩ := World.cells?_some hcs
      obtain ⟨g, rfl⟩ := trod_wait ht
      exact ⟨g, fun j hj => hat j hj⟩)
    refine ⟨some a, len, cap, xs, rfl, hl, hm, by rw [cellsW_len, hxl], fun h0 => ⟨a, rfl, ?_, hc⟩⟩
    match xs, hxl with
    | [], hxl => simp at hxl; omega
    | g :: t, _ =>
      have := hc 0 (.int .i64 g.th) rfl
      have h2 := lt_of_cell this
      rwa [add_block] at h2
end
end Go.Proofs.Ytfdfadebfdmdgaa
