/- Proved: ExtractsMore returns true for every argument, and leaves its arguments as they were. The two package-level tables of digests hold what the program's text lays (the card ties that). -/
import Derived.Test.YtpobkoiaidgedaaDoorRows
import Derived.Test.YtpobkoiaidgedaaDoorTie
import Derived.Test.YtpobkoiaidgedaaDoorCards
import Derived.Test.YtpobkoiaidgedaaDoorSiT
import Derived.ProofKit
import Derived.Deep.Slices
import Derived.SizedLaws
import Derived.LaidMore
import Derived.Lib.LaidTab
import Derived.Stop.LaidErr
import Derived.OpenShut
import Derived.Stop.Joined
import Derived.SevenTiedAt
namespace Go.Proofs.YtpobkoiaidgedaaDoor
open Go.ChangeShapes Go.WideShapes Go.ChangeAt Go.RowKit Go.Deep

theorem ownK : ownKnob Tryd.prog.godebug = none := by kernel_rfl
theorem laidOutK : laidOutB Tryd.prog = true := by kernel_rfl

section
variable {H : Type} {enc : TypeId × Value → H} {P : Program}

theorem trodAll_stays (hl : laidOutB P = true) {W W' : World} {sp : Nat → Bool} : ∀ {ts : List TypeId} {vs : List Value} {ds : List (DataW H)} {ps : List MemPlace}, (ts.all fun t => P.readableRec t && decide (t < P.types.size)) = true →
    DataW.TrodAll enc P W 0 (fun _ => true) true ts vs ds ps → (∀ x ∈ ps, W.sameAt W' x) → (∀ x ∈ ps, sp x.block = true) → DataW.TrodAll enc P W' 0 sp true ts vs ds ps := by
  intro ts
  induction ts with
  | nil =>
    intro vs ds ps _ h _ _
    cases vs <;> cases ds <;> first | exact h | exact h.elim
  | cons t ts ih =>
    intro vs ds ps ht h hs hsp
    match vs, ds, h with
    | v :: vs, d :: ds, ⟨p, q, h1, h2, e⟩ =>
      simp only [List.all_cons, Bool.and_eq_true, decide_eq_true_eq] at ht
      exact ⟨p, q, WideElems.Trod_stays hl ht.1.1 ht.1.2 h1 (fun x hx => hs x (by rw [e]; simp [hx])) (fun x hx => hsp x (by rw [e]; simp [hx])),
        ih ht.2 h2 (fun x hx => hs x (by rw [e]; simp [hx])) (fun x hx => hsp x (by rw [e]; simp [hx])), e⟩

/-- The end of a law's row: it returned true; below the heap's old size nothing has turned. -/
theorem law_post (hl : laidOutB P = true) {f : Func} {s : ChangeSpec} {W W' : World} {args : Array Value} {ds gs : List (DataW H)} {before : List MemPlace} {tb : TypeId}
    (hsv : s.vars = []) (hfn : s.fn H (ds ++ gs) = { results := [.lit (.bool true)], args := ds }) (hr : f.resultTypes = #[tb]) (hbt : P.underlying tb = some .bool)
    (hpar : (f.params.toList.all fun t => P.readableRec t && decide (t < P.types.size)) = true)
    (hW : DataW.Whole enc P f.params.toList s.vars false W args.toList ds gs before) (hb : Below W.heap.size W W') :
    s.post enc P f false true false false W args (.bool true) W' := by
  have hlt : ∀ p ∈ before, p.block < W.heap.size := fun p hp => hW.lt p hp
  have hold : ∀ p ∈ before, (fun b => decide (b < W.heap.size)) p.block = true := fun p hp => by simpa using hlt p hp
  have hW0 := hW
  obtain ⟨p, q, hA, hV, hpq, hz, hn⟩ := hW0
  rw [hsv] at hV
  obtain ⟨_, hq⟩ := trodVars_none hV
  have hpb : before = p := by rw [hpq, hq, List.append_nil]
  have hargs : ∀ sp : Nat → Bool, (∀ x ∈ before, sp x.block = true) → DataW.TrodAll enc P W' 0 sp true f.params.toList args.toList (s.fn H (ds ++ gs)).args p := fun sp hsp => by
    rw [hfn]
    exact trodAll_stays hl hpar hA (fun x hx => hb.same (hlt x (by rw [hpb]; exact hx))) (fun x hx => hsp x (by rw [hpb]; exact hx))
  have hvars : ∀ sp : Nat → Bool, DataW.TrodVars enc P W' sp s.vars (s.fn H (ds ++ gs)).vars [] := fun sp => by rw [hsv, hfn]; rfl
  have hres : ∀ (b : Nat) (sp : Nat → Bool) (hd : Bool), DataW.TrodAll enc P W' b sp hd f.resultTypes.toList ((Value.bool true).resultList f.resultTypes.size) (s.fn H (ds ++ gs)).results [] := fun b sp hd => by
    rw [hfn, hr]
    exact trodAll_mk1 (shut_bool hbt true)
  have hok : ∀ (j : Nat) (t : TypeId) (r : Value), f.resultTypes[j]? = some t → ((Value.bool true).resultList f.resultTypes.size)[j]? = some r → Value.okWide P W' .any 0 t r := ok_one hr rfl (okWide_bool_mk hbt true)
  refine ⟨ds, gs, before, [], p, [], hW, hres _ _ _, hargs _ hold, hvars _, World.keptBut_mono (fun x hx => ⟨hx, ?_⟩) (hb.frame (· ∈ before)), fun _ => ?_⟩
  · rw [hpb] at hx; exact Or.inr (Or.inl hx)
  · refine ⟨hok, _, _, ([] ++ p) ++ [], ⟨[] ++ p, [], trodAll_append (hargs _ (fun _ _ => rfl)) (hres _ _ _), hvars _, rfl, ?_, ?_⟩, ?_⟩
    · intro b off hp
      have hin : MemPlace.cell b off ∈ before := by rw [hpb]; simpa using hp
      rw [hb.frozen (hlt _ hin)]
      exact hz b off hin
    · intro ha; cases ha
    · intro x hx _
      rw [hpb]
      simpa using hx
end

section
variable {H : Type} {enc : TypeId × Value → H} {W : World} {base : Nat} {spare : Nat → Bool} {held : Bool}

theorem take1 {cs : List Value} {j : Nat} {v : Value} (h : (cs.drop j).take 1 = [v]) : cs[j]? = some v := by
  have h1 : ((cs.drop j).take 1)[0]? = some v := by rw [h]; rfl
  simpa using h1

theorem wf_u8 {n : Int} (h : (Lit.int .u8 n).wf = true) : ∃ b : B8, n = bv b := by
  have h2 : 0 ≤ n ∧ n < 256 := by
    simp only [Lit.wf, Bool.and_eq_true, decide_eq_true_eq] at h
    have h0 : IntKind.u8.min = 0 := by decide
    have h1 : IntKind.u8.max = 255 := by decide
    omega
  refine ⟨BitVec.ofNat 8 n.toNat, ?_⟩
  unfold bv
  rw [BitVec.toNat_ofNat, Nat.mod_eq_of_lt (by omega)]
  omega
theorem trod_u8 {fuel : Nat} {cs : List Value} {x : DataW H × List MemPlace} (h : DataW.trod enc Tryd.prog W base spare held fuel 5 cs = some x) : ∃ b : B8, cs = [.int .u8 (bv b)] := by
  obtain ⟨n, h1, _, h3⟩ := DataW.trod_int Tryd.underlying5 h
  obtain ⟨b, rfl⟩ := wf_u8 h3
  exact ⟨b, h1⟩
/-- Rows of equal pieces: from the pieces to the row. -/
theorem pieces {α : Type} (cells : α → List Value) (k : Nat) (hk : ∀ x, (cells x).length = k) (n : Nat) (w : World) (a : Addr) (h : ∀ i, i < n → ∃ x : α, ∀ j, j < k → w.cell? ((a.add (i * k)).add j) = (cells x)[j]?) :
    ∃ xs : List α, xs.length = n ∧ Cells w a (xs.flatMap cells) := by
  induction n with
  | zero => exact ⟨[], rfl, fun j v hv => by simp at hv⟩
  | succ n ih =>
    obtain ⟨xs, hl, hc⟩ := ih fun i hi => h i (by omega)
    obtain ⟨x, hx⟩ := h n (by omega)
    refine ⟨xs ++ [x], by simp [hl], fun j v hv => ?_⟩
    rw [List.flatMap_append] at hv
    have hfl : (xs.flatMap cells).length = n * k := by
      rw [← hl]
      clear hc hl hv
      induction xs with
      | nil => simp
      | cons y ys ih2 => simp only [List.flatMap_cons, List.length_append, List.length_cons, ih2, hk]; rw [Nat.succ_mul]; omega
    rcases Nat.lt_or_ge j (n * k) with hj | hj
    · rw [List.getElem?_append_left (by rw [hfl]; exact hj)] at hv
      exact hc j v hv
    · rw [List.getElem?_append_right (by rw [hfl]; exact hj), hfl] at hv
      have hv2 : (cells x)[j - n * k]? = some v := by simpa using hv
      have hjk : j - n * k < k := by have := (List.getElem?_eq_some_iff.1 hv2).1; rw [hk] at this; exact this
      have := hx (j - n * k) hjk
      rw [hv2, add_twice, show n * k + (j - n * k) = j by omega] at this
      exact this

theorem flat8 (l : List B8) : (l.flatMap fun b => [Value.int .u8 (bv b)]) = cells8 l := by
  induction l with
  | nil => rfl
  | cons b l ih => rw [List.flatMap_cons, ih]; rfl
theorem open_bytes {fuel : Nat} {cs : List Value} {x : DataW H × List MemPlace} (h : DataW.trod enc Tryd.prog W base (fun _ => true) held fuel 34 cs = some x) :
    ∃ (A : Option Addr) (c : Nat) (l : List B8), cs = [.slice A l.length c] ∧ l.length ≤ c ∧ c ≤ maxLen ∧ Rd W W.heap.size 1 A l.length (cells8 l) := by
  rcases open_slice Tryd.underlying34 h with ⟨rfl, _⟩ | ⟨a, len, cap, m, k, D, Pl, rfl, hb, hl, hm, hmm, hx, hi⟩
  · exact ⟨none, 0, [], rfl, Nat.le_refl _, Nat.zero_le _, Rd.none_⟩
  · have hC : Tryd.prog.cellsOf 5 = 1 := by kernel_rfl
    rw [hC] at hi
    obtain ⟨xs, hxl, hc⟩ := pieces (fun b : B8 => [Value.int .u8 (bv b)]) 1 (fun _ => rfl) len W a (fun i hil => by
      obtain ⟨cs', hcs, ht⟩ := hi i (by rw [hmm]; simp; omega)
      obtain ⟨_, _, hat⟩ := World.cells?_some hcs
      obtain ⟨g, rfl⟩ := trod_u8 ht
      exact ⟨g, fun j hj => hat j hj⟩)
    subst hxl
    rw [flat8] at hc
    refine ⟨some a, cap, xs, rfl, hl, hm, by rw [cells8_len, Nat.mul_one], fun h0 => ⟨a, rfl, ?_, hc⟩⟩
    have h1 : (cells8 xs)[0]? = some (.int .u8 (bv xs[0])) := by rw [cells8, List.getElem?_map, List.getElem?_eq_getElem h0]; rfl
    have h2 := lt_of_cell (hc 0 _ h1)
    rwa [add_block] at h2
set_option maxRecDepth 100000 in
theorem trod_D {fuel : Nat} {cs : List Value} {x : DataW H × List MemPlace} (h : DataW.trod enc Tryd.prog W base (fun _ => true) held fuel 63 cs = some x) : ∃ e : { e : DE // e.ok W }, cs = e.1.cells := by
  obtain ⟨xs, n, _, _, hlen, hxl, hf⟩ := DataW.trod_struct Tryd.underlying63 h
  have h0 := hf 0 _ rfl
  have h1 := hf 1 _ rfl
  have hx2 : xs.length = 2 := hxl
  rw [List.getElem?_eq_getElem (by omega)] at h0 h1
  obtain ⟨A, c, l, e0, hlc, hcm, hr⟩ := open_bytes h0
  obtain ⟨b, e1, _⟩ := DataW.trod_bool Tryd.underlying4 h1
  refine ⟨⟨⟨A, c, l, b⟩, hlc, hcm, hr⟩, ?_⟩
  have hl2 : cs.length = 2 := hlen
  match cs, hl2 with
  | [u, v], _ =>
    have f0 : u = .slice A l.length c := by have := take1 e0; simpa using this
    have f1 : v = .bool b := by have := take1 e1; simpa using this
    rw [f0, f1]; rfl
set_option maxRecDepth 100000 in
theorem trod_M {fuel : Nat} {cs : List Value} {x : DataW H × List MemPlace} (h : DataW.trod enc Tryd.prog W base spare held fuel 66 cs = some x) : ∃ e : ME, cs = e.cells := by
  obtain ⟨xs, n, _, _, hlen, hxl, hf⟩ := DataW.trod_struct Tryd.underlying66 h
  have h0 := hf 0 _ rfl
  have h1 := hf 1 _ rfl
  have h2 := hf 2 _ rfl
  have h3 := hf 3 _ rfl
  have h4 := hf 4 _ rfl
  have hx2 : xs.length = 5 := hxl
  rw [List.getElem?_eq_getElem (by omega)] at h0 h1 h2 h3 h4
  obtain ⟨b0, e0⟩ := trod_u8 h0
  obtain ⟨b1, e1⟩ := trod_u8 h1
  obtain ⟨b2, e2⟩ := trod_u8 h2
  obtain ⟨b3, e3⟩ := trod_u8 h3
  obtain ⟨b, e4, _⟩ := DataW.trod_bool Tryd.underlying4 h4
  refine ⟨⟨b0, b1, b2, b3, b⟩, ?_⟩
  have hl2 : cs.length = 5 := hlen
  match cs, hl2 with
  | [u0, u1, u2, u3, u4], _ =>
    have f0 : u0 = .int .u8 (bv b0) := by have := take1 e0; simpa using this
    have f1 : u1 = .int .u8 (bv b1) := by have := take1 e1; simpa using this
    have f2 : u2 = .int .u8 (bv b2) := by have := take1 e2; simpa using this
    have f3 : u3 = .int .u8 (bv b3) := by have := take1 e3; simpa using this
    have f4 : u4 = .bool b := by have := take1 e4; simpa using this
    rw [f0, f1, f2, f3, f4]; rfl
theorem open_Ds {fuel : Nat} {cs : List Value} {x : DataW H × List MemPlace} (h : DataW.trod enc Tryd.prog W base (fun _ => true) held fuel 22 cs = some x) :
    ∃ (A : Option Addr) (n c : Nat) (es : List DE), cs = [.slice A n c] ∧ Rd W W.heap.size 2 A n (es.flatMap DE.cells) ∧ ∀ e ∈ es, e.ok W := by
  rcases open_slice Tryd.underlying22 h with ⟨rfl, _⟩ | ⟨a, len, cap, m, k, D, Pl, rfl, hb, hl, hm, hmm, hx, hi⟩
  · exact ⟨none, 0, 0, [], rfl, Rd.none_, fun e he => by cases he⟩
  · have hC : Tryd.prog.cellsOf 63 = 2 := by kernel_rfl
    rw [hC] at hi
    obtain ⟨xs, hxl, hc⟩ := pieces (fun e : { e : DE // e.ok W } => e.1.cells) 2 (fun _ => rfl) len W a (fun i hil => by
      obtain ⟨cs', hcs, ht⟩ := hi i (by rw [hmm]; simp; omega)
      obtain ⟨_, _, hat⟩ := World.cells?_some hcs
      obtain ⟨g, rfl⟩ := trod_D ht
      exact ⟨g, fun j hj => hat j hj⟩)
    have hfl : (xs.flatMap fun e => e.1.cells) = (xs.map (·.1)).flatMap DE.cells := by rw [List.flatMap_map]
    rw [hfl] at hc
    refine ⟨some a, len, cap, xs.map (·.1), rfl, ⟨by rw [flatMap_len DE.cells 2 (fun _ => rfl), List.length_map, hxl], fun h0 => ⟨a, rfl, ?_, hc⟩⟩, fun e he => ?_⟩
    · match xs, hxl with
      | [], hxl => simp at hxl; omega
      | g :: t, _ =>
        have h2 := lt_of_cell (hc 0 _ rfl)
        rwa [add_block] at h2
    · obtain ⟨y, _, rfl⟩ := List.mem_map.1 he
      exact y.2
theorem open_Ms {fuel : Nat} {cs : List Value} {x : DataW H × List MemPlace} (h : DataW.trod enc Tryd.prog W base (fun _ => true) held fuel 23 cs = some x) :
    ∃ (A : Option Addr) (n c : Nat) (es : List ME), cs = [.slice A n c] ∧ Rd W W.heap.size 5 A n (es.flatMap ME.cells) := by
  rcases open_slice Tryd.underlying23 h with ⟨rfl, _⟩ | ⟨a, len, cap, m, k, D, Pl, rfl, hb, hl, hm, hmm, hx, hi⟩
  · exact ⟨none, 0, 0, [], rfl, Rd.none_⟩
  · have hC : Tryd.prog.cellsOf 66 = 5 := by kernel_rfl
    rw [hC] at hi
    obtain ⟨xs, hxl, hc⟩ := pieces ME.cells 5 (fun _ => rfl) len W a (fun i hil => by
      obtain ⟨cs', hcs, ht⟩ := hi i (by rw [hmm]; simp; omega)
      obtain ⟨_, _, hat⟩ := World.cells?_some hcs
      obtain ⟨g, rfl⟩ := trod_M ht
      exact ⟨g, fun j hj => hat j hj⟩)
    refine ⟨some a, len, cap, xs, rfl, ⟨by rw [flatMap_len ME.cells 5 (fun _ => rfl), hxl], fun h0 => ⟨a, rfl, ?_, hc⟩⟩⟩
    match xs, hxl with
    | [], hxl => simp at hxl; omega
    | g :: t, _ =>
      have h2 := lt_of_cell (hc 0 _ rfl)
      rwa [add_block] at h2
set_option maxRecDepth 100000 in
theorem open_T {v : Value} {d : DataW H} {p : List MemPlace} {r : Reach} {b0 : Nat} (hv : Value.okWide Tryd.prog W r b0 25 v) (h : DataW.Trod enc Tryd.prog W base (fun _ => true) held 25 v d p) :
    ∃ (es1 es2 : List DE) (es3 es4 : List ME), ArgT W v es1 es2 es3 es4 := by
  obtain ⟨cs, rfl, hsz⟩ := okWide_struct Tryd.underlying25 hv
  have hC : Tryd.prog.cellsOf 25 = 4 := by kernel_rfl
  obtain ⟨l⟩ := cs
  match l, hsz.trans hC with
  | [k0, k1, k2, k3], _ =>
    obtain ⟨fuel, hf⟩ := h
    obtain ⟨xs, n, _, _, _, hxl, hg⟩ := DataW.trod_struct Tryd.underlying25 hf
    have h0 := hg 0 _ rfl
    have h1 := hg 1 _ rfl
    have h2 := hg 2 _ rfl
    have h3 := hg 3 _ rfl
    have hx1 : xs.length = 4 := hxl
    rw [List.getElem?_eq_getElem (by omega)] at h0 h1 h2 h3
    obtain ⟨A1, n1, c1, es1, e1, r1, o1⟩ := open_Ds h0
    obtain ⟨A2, n2, c2, es2, e2, r2, o2⟩ := open_Ds h1
    obtain ⟨A3, n3, c3, es3, e3, r3⟩ := open_Ms h2
    obtain ⟨A4, n4, c4, es4, e4, r4⟩ := open_Ms h3
    have f1 : k0 = .slice A1 n1 c1 := by have := take1 e1; simpa [Value.cells] using this
    have f2 : k1 = .slice A2 n2 c2 := by have := take1 e2; simpa [Value.cells] using this
    have f3 : k2 = .slice A3 n3 c3 := by have := take1 e3; simpa [Value.cells] using this
    have f4 : k3 = .slice A4 n4 c4 := by have := take1 e4; simpa [Value.cells] using this
    exact ⟨es1, es2, es3, es4, A1, A2, A3, A4, n1, c1, n2, c2, n3, c3, n4, c4, by rw [f1, f2, f3, f4], r1, o1, r2, o2, r3, r4⟩
end

/-! ### The listed variables -/
def laid38 : List (String × DataW Unit) := [("caisson/digests.initial", Rows.laid_caisson_digests_initial), ("caisson/digests.constants", Rows.laid_caisson_digests_constants)]
theorem laid_iv : Rows.laid_caisson_digests_initial (H := Unit) = Lib.tabData .u32 (iv0.list.map wv) := by kernel_rfl
theorem laid_kw : Rows.laid_caisson_digests_constants (H := Unit) = Lib.tabData .u32 (kWords.map wv) := by kernel_rfl
theorem tab_heap {w : World} {name : String} {g : Nat} {l : List W} (hg : Tryd.prog.globalNamed name = some g) (h : Lib.TabIs Tryd.prog w name .u32 (l.map wv)) : ∃ t fr, w.heap[g]? = some (.cells (cells32 l).toArray t fr) := by
  have e : ((l.map wv).map fun z => Value.int .u32 z) = cells32 l := by rw [List.map_map]; rfl
  unfold Lib.TabIs at h
  rw [e] at h
  unfold World.var? at h
  rw [hg] at h
  simp only [Option.bind_some] at h
  cases hq : w.heap[g]? with
  | none => rw [hq] at h; simp at h
  | some o =>
    cases o with
    | cells cs t fr => rw [hq] at h; simp at h; exact ⟨t, fr, by rw [h]⟩
    | _ => rw [hq] at h; simp at h
theorem glob_of_laid {W : World} (h : laidMetH Tryd.prog laid38 W) : Glob W := by
  rw [MakeChecks.laidMetH_plain _ _ _ (by kernel_rfl)] at h
  unfold laid38 at h
  rw [laid_iv, laid_kw] at h
  have h1 := Lib.tabIs_of_head (g := 0) (t := 88) (e := 48) (n := 8) (by kernel_rfl) (by kernel_rfl) (by kernel_rfl) (by kernel_rfl) (by kernel_rfl) (by kernel_rfl) h
  have h2 := Lib.tabIs_of_head (g := 1) (t := 87) (e := 48) (n := 64) (by kernel_rfl) (by kernel_rfl) (by kernel_rfl) (by kernel_rfl) (by kernel_rfl) (by kernel_rfl) (laidMet.tail h)
  exact ⟨tab_heap (by kernel_rfl) h2, tab_heap (by kernel_rfl) h1⟩
theorem door_met (os : Os) (args : Array Value) : laidMetH Tryd.prog laid38 ((World.doorLaid Tryd.prog 19 os).forCall (fun _ _ => 0) ⟨#[], args, []⟩).memory :=
  laidMetH_of_parts3 (fuel := 8) (laidMet_of_run' 8 (by kernel_rfl) (by kernel_rfl)) (by kernel_rfl) (by kernel_rfl)

set_option maxRecDepth 100000 in
theorem extractsMore_lifted (os : Os) (started : os.Started) (H : Type) (enc : TypeId × Value → H) :
    ReturnsInHanded {} Tryd.checked os 5 .any (fun w args => (Rows.extractsMoreSpec.pre enc Tryd.prog Tryd.f5 [] false w args ∧ laidMetH Tryd.prog laid38 w) ∧ sizedMet enc Tryd.prog Tryd.f5 (OpenSpec.ofChange Rows.extractsMoreSpec) false w args)
      (Rows.extractsMoreSpec.post enc Tryd.prog Tryd.f5 false true false false) := by
  refine returnsInHanded_of_change_and (C := Tryd.checked) (X := fun w _ => laidMetH Tryd.prog laid38 w) (fun _ _ _ hh h => h.of_heap hh) ownK started (by kernel_rfl) Tryd.func5
    (ChangeSpec.witness_shaped (enc := enc) (C := Tryd.checked) (os := os) (X := fun w _ => laidMetH Tryd.prog laid38 w) false (World.doorLaid Tryd.prog 19 os) #[.agg #[.slice none 0 0, .slice none 0 0, .slice none 0 0, .slice none 0 0], .agg #[.slice none 0 0, .slice none 0 0, .slice none 0 0, .slice none 0 0]] 8 rfl (World.shaped_of_RefB (by kernel_rfl) (by kernel_rfl)) (by kernel_rfl) (by kernel_rfl) (by kernel_rfl) (door_met os _)) ?_
  intro W base args ds gs before hval0 hW _ _ hL _
  have hval : ∀ (j : Nat) t v, Tryd.f5.params[j]? = some t → args[j]? = some v → Value.okWide Tryd.prog W .any base t v := hval0
  have hW' := hW
  obtain ⟨p, q, hA0, hV, rfl, hfz, hnd⟩ := hW
  have hA : DataW.TrodAll enc Tryd.prog W 0 (fun _ => true) true Tryd.f5.params.toList args.toList ds p := hA0
  rw [Tryd.params5] at hA hval
  obtain ⟨v0, v1, d0, d1, p0, p1, rfl, rfl, rfl, h0, h1⟩ := trodAll_two hA
  obtain ⟨rfl, rfl⟩ := trodVars_none hV
  obtain ⟨es1, es2, es3, es4, hT⟩ := open_T (hval 0 25 v0 rfl rfl) h0
  obtain ⟨fs1, fs2, fs3, fs4, hT2⟩ := open_T (hval 1 25 v1 rfl rfl) h1
  refine (law_more v0 v1 es1 es2 es3 es4 fs1 fs2 fs3 fs4 W (glob_of_laid hL) hT hT2).mono fun e W' ⟨he, hb⟩ => ?_
  subst he
  exact ⟨_, rfl, law_post laidOutK rfl rfl (tb := 4) (by kernel_rfl) Tryd.underlying4 (by kernel_rfl) hW' hb⟩
theorem extractsMore_row : Rows.ExtractsMoreSaid :=
  OpenClaim.holds_of_wide 5 Tryd.f5 rfl rfl rfl rfl rfl rfl rfl ⟨rfl, rfl, rfl, rfl, rfl⟩ rfl rfl rfl rfl rfl (by kernel_rfl) Tryd.func5 (by kernel_rfl)
    (of_decide_eq_true (by kernel_rfl)) (by unfold Func.isWrapper; first | (rw [if_pos (by decide +kernel)]; kernel_rfl) | (rw [if_neg (by decide +kernel)]; exact ⟨rfl, rfl⟩))
    (fun os started H enc _ => extractsMore_lifted os started H enc)
theorem extractsMore_holds : Rows.ExtractsMoreCardSaid :=
  Claim7.holds_tied_plain_at .later [] [.data, .data] true Rows.extractsMoreCard.stood.harness false
    extractsMore_row (fun _ h => by cases h) (by kernel_rfl) (fun _ h => by cases h) extractsMore_row_tie rfl ⟨rfl, rfl⟩ (by kernel_rfl) rfl
    (fun f fn hf hfn => by
      obtain rfl : f = 5 := Option.some.inj ((show Tryd.prog.funcNamed "caisson/caissonlaw38.ExtractsMore" = some 5 by kernel_rfl).symm.trans hf) |>.symm
      obtain rfl : fn = Tryd.f5 := (Option.some.inj (Tryd.func5.symm.trans hfn)).symm
      exact ⟨by kernel_rfl, fun j t ht => by
        rw [Tryd.params5] at ht
        have hm : t ∈ [25, 25] := by simpa using Array.mem_of_getElem? ht
        have hall : ([25, 25].all fun u => !Tryd.prog.wantsStandIn u) = true := by kernel_rfl
        exact (show Tryd.prog.wantsStandIn t = false by simpa using List.all_eq_true.1 hall t hm)⟩)
    (by kernel_rfl)

#print axioms extractsMore_holds
end Go.Proofs.YtpobkoiaidgedaaDoor
