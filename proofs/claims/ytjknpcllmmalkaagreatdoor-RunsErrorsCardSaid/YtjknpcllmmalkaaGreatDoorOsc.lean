/- A script as an argument: what it reads as. -/
import Derived.Test.YtjknpcllmmalkaaGreatDoorSck
import Derived.ProofKit
import Derived.Deep.Slices
import Derived.SizedLaws
import Derived.OpenShut
namespace Go.Proofs.YtjknpcllmmalkaaGreatDoor
open Go.ChangeShapes Go.WideShapes Go.ChangeAt Go.RowKit Go.Deep

section
variable {H : Type} {enc : TypeId × Value → H} {W : World} {base : Nat} {spare : Nat → Bool} {held : Bool}

theorem take1 {cs : List Value} {j : Nat} {v : Value} (h : (cs.drop j).take 1 = [v]) : cs[j]? = some v := by
  have h1 : ((cs.drop j).take 1)[0]? = some v := by rw [h]; rfl
  simpa using h1

theorem wf_u8 {n : Int} (h : (Lit.int .u8 n).wf = true) : ∃ b : B8, n = bv b := by
  have h2 : 0 ≤ n ∧ n < 256 := by
    simp only [Lit.wf, Bool.and_eq_true, decide_eq_true_eq] at h
    have h0 : IntKind.u8.min = 0 := by decide
    have h1 : IntKind.u8.max = 255 := by decide
    omega
  refine ⟨BitVec.ofNat 8 n.toNat, ?_⟩
  unfold bv
  rw [BitVec.toNat_ofNat, Nat.mod_eq_of_lt (by omega)]
  omega
theorem trod_u8 {fuel : Nat} {cs : List Value} {x : DataW H × List MemPlace} (h : DataW.trod enc Tryz.prog W base spare held fuel 5 cs = some x) : ∃ b : B8, cs = [.int .u8 (bv b)] := by
  obtain ⟨n, h1, _, h3⟩ := DataW.trod_int Tryz.underlying5 h
  obtain ⟨b, rfl⟩ := wf_u8 h3
  exact ⟨b, h1⟩
/-- Rows of equal pieces: from the pieces to the row. -/
theorem pieces {α : Type} (cells : α → List Value) (k : Nat) (hk : ∀ x, (cells x).length = k) (n : Nat) (w : World) (a : Addr) (h : ∀ i, i < n → ∃ x : α, ∀ j, j < k → w.cell? ((a.add (i * k)).add j) = (cells x)[j]?) :
    ∃ xs : List α, xs.length = n ∧ Cells w a (xs.flatMap cells) := by
  induction n with
  | zero => exact ⟨[], rfl, fun j v hv => by simp at hv⟩
  | succ n ih =>
    obtain ⟨xs, hl, hc⟩ := ih fun i hi => h i (by omega)
    obtain ⟨x, hx⟩ := h n (by omega)
    refine ⟨xs ++ [x], by simp [hl], fun j v hv => ?_⟩
    rw [List.flatMap_append] at hv
    have hfl : (xs.flatMap cells).length = n * k := by
      rw [← hl]
      clear hc hl hv
      induction xs with
      | nil => simp
      | cons y ys ih2 => simp only [List.flatMap_cons, List.length_append, List.length_cons, ih2, hk]; rw [Nat.succ_mul]; omega
    rcases Nat.lt_or_ge j (n * k) with hj | hj
    · rw [List.getElem?_append_left (by rw [hfl]; exact hj)] at hv
      exact hc j v hv
    · rw [List.getElem?_append_right (by rw [hfl]; exact hj), hfl] at hv
      have hv2 : (cells x)[j - n * k]? = some v := by simpa using hv
      have hjk : j - n * k < k := by have := (List.getElem?_eq_some_iff.1 hv2).1; rw [hk] at this; exact this
      have := hx (j - n * k) hjk
      rw [hv2, add_twice, show n * k + (j - n * k) = j by omega] at this
      exact this

theorem flat8 (l : List B8) : (l.flatMap fun b => [Value.int .u8 (bv b)]) = cells8 l := by
  induction l with
  | nil => rfl
  | cons b l ih => rw [List.flatMap_cons, ih]; rfl
theorem open_bytes {fuel : Nat} {cs : List Value} {x : DataW H × List MemPlace} (h : DataW.trod enc Tryz.prog W base (fun _ => true) held fuel 81 cs = some x) :
    ∃ (A : Option Addr) (n c : Nat) (l : List B8), cs = [.slice A n c] ∧ n ≤ c ∧ c ≤ maxLen ∧ Rd W W.heap.size 1 A n (cells8 l) := by
  rcases open_slice Tryz.underlying81 h with ⟨rfl, _⟩ | ⟨a, len, cap, m, k, D, Pl, rfl, hb, hl, hm, hmm, hx, hi⟩
  · exact ⟨none, 0, 0, [], rfl, Nat.le_refl _, Nat.zero_le _, Rd.none_⟩
  · have hC : Tryz.prog.cellsOf 5 = 1 := by kernel_rfl
    rw [hC] at hi
    obtain ⟨xs, hxl, hc⟩ := pieces (fun b : B8 => [Value.int .u8 (bv b)]) 1 (fun _ => rfl) len W a (fun i hil => by
      obtain ⟨cs', hcs, ht⟩ := hi i (by rw [hmm]; simp; omega)
      obtain ⟨_, _, hat⟩ := World.cells?_some hcs
      obtain ⟨g, rfl⟩ := trod_u8 ht
      exact ⟨g, fun j hj => hat j hj⟩)
    subst hxl
    rw [flat8] at hc
    refine ⟨some a, xs.length, cap, xs, rfl, hl, hm, by rw [cells8_len, Nat.mul_one], fun h0 => ⟨a, rfl, ?_, hc⟩⟩
    have h1 : (cells8 xs)[0]? = some (.int .u8 (bv xs[0])) := by rw [cells8, List.getElem?_map, List.getElem?_eq_getElem h0]; rfl
    have h2 := lt_of_cell (hc 0 _ h1)
    rwa [add_block] at h2
theorem flat1 {α β : Type} (f : α → β) : ∀ l : List α, (l.flatMap fun a => [f a]) = l.map f
  | [] => rfl
  | a :: l => by rw [List.flatMap_cons, flat1 f l]; rfl
/-- a row of any pieces -/
theorem open_row {t e : TypeId} {α : Type} (cells : α → List Value) (k : Nat) (hk : ∀ x, (cells x).length = k) (h1k : 0 < k) {fuel : Nat} {cs : List Value} {x : DataW H × List MemPlace} (ht : Tryz.prog.underlying t = some (.slice e)) (hC : Tryz.prog.cellsOf e = k)
    (hp : ∀ (fuel : Nat) (cs : List Value) (x : DataW H × List MemPlace), DataW.trod enc Tryz.prog W base (fun _ => true) held fuel e cs = some x → ∃ g : α, cs = cells g)
    (h : DataW.trod enc Tryz.prog W base (fun _ => true) held fuel t cs = some x) :
    ∃ (A : Option Addr) (n c : Nat) (l : List α), cs = [.slice A n c] ∧ n ≤ c ∧ c ≤ maxLen ∧ n = l.length ∧ Rd W W.heap.size k A n (l.flatMap cells) := by
  rcases open_slice ht h with ⟨rfl, _⟩ | ⟨a, len, cap, m, fu, D, Pl, rfl, hb, hl, hm, hmm, hx, hi⟩
  · exact ⟨none, 0, 0, [], rfl, Nat.le_refl _, Nat.zero_le _, rfl, by simpa using (Rd.none_ : Rd W W.heap.size k none 0 [])⟩
  · rw [hC] at hi
    obtain ⟨xs, hxl, hc⟩ := pieces cells k hk len W a (fun i hil => by
      obtain ⟨cs', hcs, ht⟩ := hi i (by rw [hmm]; simp; omega)
      obtain ⟨_, _, hat⟩ := World.cells?_some hcs
      obtain ⟨g, rfl⟩ := hp _ _ _ ht
      exact ⟨g, fun j hj => hat j hj⟩)
    subst hxl
    refine ⟨some a, xs.length, cap, xs, rfl, hl, hm, rfl, by rw [flatMap_len cells k hk], fun h0 => ⟨a, rfl, ?_, hc⟩⟩
    match xs, h0 with
    | g :: t, _ =>
      have hl0 : 0 < (cells g).length := by rw [hk]; exact h1k
      have h1 : ((g :: t).flatMap cells)[0]? = some (cells g)[0] := by
        rw [List.flatMap_cons, List.getElem?_append_left hl0, List.getElem?_eq_getElem hl0]
      have h2 := lt_of_cell (hc 0 _ h1)
      rwa [add_block] at h2
set_option maxRecDepth 100000 in
theorem trod_op {fuel : Nat} {cs : List Value} {x : DataW H × List MemPlace} (h : DataW.trod enc Tryz.prog W base (fun _ => true) held fuel 83 cs = some x) : ∃ o : OpV, cs = o.cells := by
  obtain ⟨xs, n, _, _, hlen, hxl, hf⟩ := DataW.trod_struct Tryz.underlying83 h
  have h0 := hf 0 _ rfl
  have h1 := hf 1 _ rfl
  have h2 := hf 2 _ rfl
  have hx2 : xs.length = 3 := hxl
  rw [List.getElem?_eq_getElem (by omega)] at h0 h1 h2
  obtain ⟨a, ha, _⟩ := DataW.trod_int Tryz.underlying80 h0
  obtain ⟨b, hb, _⟩ := DataW.trod_int Tryz.underlying3 h1
  obtain ⟨A, m, c, l, hd, _⟩ := open_bytes h2
  refine ⟨⟨a, b, A, m, c⟩, ?_⟩
  have hl2 : cs.length = 3 := hlen
  match cs, hl2 with
  | [u, v, t], _ =>
    have f0 : u = .int .u8 a := by have := take1 ha; simpa using this
    have f1 : v = .int .i64 b := by have := take1 hb; simpa using this
    have f2 : t = .slice A m c := by have := take1 hd; simpa using this
    rw [f0, f1, f2]; rfl
theorem trod_prog {fuel : Nat} {cs : List Value} {x : DataW H × List MemPlace} (h : DataW.trod enc Tryz.prog W base (fun _ => true) held fuel 32 cs = some x) : ∃ p : { p : PgV // Rd W W.heap.size 3 p.A p.n (cellsO p.ops) }, cs = [p.1.val] := by
  obtain ⟨A, n, c, l, e, _, _, _, hr⟩ := open_row OpV.cells 3 (fun _ => rfl) (by decide) Tryz.underlying32 (by kernel_rfl) (fun _ _ _ h => trod_op h) h
  exact ⟨⟨⟨A, n, c, l⟩, hr⟩, e⟩
theorem open_progs {fuel : Nat} {cs : List Value} {x : DataW H × List MemPlace} (h : DataW.trod enc Tryz.prog W base (fun _ => true) held fuel 27 cs = some x) :
    ∃ (A : Option Addr) (n c : Nat) (l : List PgV), cs = [.slice A n c] ∧ Progs W A n l := by
  obtain ⟨A, n, c, l, e, _, _, _, hr⟩ := open_row (fun p : { p : PgV // Rd W W.heap.size 3 p.A p.n (cellsO p.ops) } => [p.1.val]) 1 (fun _ => rfl) (by decide) Tryz.underlying27 (by kernel_rfl) (fun _ _ _ h => trod_prog h) h
  refine ⟨A, n, c, l.map (·.1), e, ?_, fun p hp => ?_⟩
  · have : (l.flatMap fun p : { p : PgV // Rd W W.heap.size 3 p.A p.n (cellsO p.ops) } => [p.1.val]) = cellsP (l.map (·.1)) := by
      unfold cellsP; rw [List.map_map]; exact flat1 _ _
    rw [← this]; exact hr
  · obtain ⟨y, _, rfl⟩ := List.mem_map.1 hp
    exact y.2
set_option maxRecDepth 100000 in
theorem trod_act {fuel : Nat} {cs : List Value} {x : DataW H × List MemPlace} (h : DataW.trod enc Tryz.prog W base (fun _ => true) held fuel 93 cs = some x) : ∃ a : { a : ActV // Rd W W.heap.size 1 a.A a.n (cells8 a.l) }, cs = a.1.cells := by
  obtain ⟨xs, n, _, _, hlen, hxl, hf⟩ := DataW.trod_struct Tryz.underlying93 h
  have h0 := hf 0 _ rfl
  have h1 := hf 1 _ rfl
  have h2 := hf 2 _ rfl
  have h3 := hf 3 _ rfl
  have h4 := hf 4 _ rfl
  have hx2 : xs.length = 5 := hxl
  rw [List.getElem?_eq_getElem (by omega)] at h0 h1 h2 h3 h4
  obtain ⟨a, ha, _⟩ := DataW.trod_int Tryz.underlying91 h0
  obtain ⟨b, hb, _⟩ := DataW.trod_int Tryz.underlying3 h1
  obtain ⟨d, hd, _⟩ := DataW.trod_int Tryz.underlying3 h2
  obtain ⟨A, m, c, l, he, _, _, hr⟩ := open_bytes h3
  obtain ⟨g, hg, _⟩ := DataW.trod_int Tryz.underlying3 h4
  refine ⟨⟨⟨a, b, d, A, m, c, g, l⟩, hr⟩, ?_⟩
  have hl2 : cs.length = 5 := hlen
  match cs, hl2 with
  | [u0, u1, u2, u3, u4], _ =>
    have f0 : u0 = .int .u8 a := by have := take1 ha; simpa using this
    have f1 : u1 = .int .i64 b := by have := take1 hb; simpa using this
    have f2 : u2 = .int .i64 d := by have := take1 hd; simpa using this
    have f3 : u3 = .slice A m c := by have := take1 he; simpa using this
    have f4 : u4 = .int .i64 g := by have := take1 hg; simpa using this
    rw [f0, f1, f2, f3, f4]; rfl
theorem open_acts {fuel : Nat} {cs : List Value} {x : DataW H × List MemPlace} (h : DataW.trod enc Tryz.prog W base (fun _ => true) held fuel 28 cs = some x) :
    ∃ (A : Option Addr) (n c : Nat) (l : List ActV), cs = [.slice A n c] ∧ Acts W A n l := by
  obtain ⟨A, n, c, l, e, _, _, _, hr⟩ := open_row (fun a : { a : ActV // Rd W W.heap.size 1 a.A a.n (cells8 a.l) } => a.1.cells) 5 (fun _ => rfl) (by decide) Tryz.underlying28 (by kernel_rfl) (fun _ _ _ h => trod_act h) h
  refine ⟨A, n, c, l.map (·.1), e, ?_, fun p hp => ?_⟩
  · have : (l.flatMap fun a : { a : ActV // Rd W W.heap.size 1 a.A a.n (cells8 a.l) } => a.1.cells) = cellsA (l.map (·.1)) := by
      unfold cellsA; rw [List.flatMap_map]
    rw [← this]; exact hr
  · obtain ⟨y, _, rfl⟩ := List.mem_map.1 hp
    exact y.2
theorem open_key {fuel : Nat} {cs : List Value} {x : DataW H × List MemPlace} (h : DataW.trod enc Tryz.prog W base (fun _ => true) held fuel 24 cs = some x) : ∃ l : List B8, l.length = 32 ∧ cs = cells8 l := by
  obtain ⟨xs, m, _, _, hlen, hl, hel⟩ := DataW.trod_array Tryz.underlying24 h
  have hC : Tryz.prog.cellsOf 5 = 1 := by kernel_rfl
  have hK : Tryz.prog.cellsOf 24 = 32 := by kernel_rfl
  rw [hC] at hel
  rw [hK] at hlen
  have hq : ∀ i, i < 32 → ∃ b : B8, cs[i]? = some (.int .u8 (bv b)) := fun i hi => by
    have h1 := hel i hi
    rw [List.getElem?_eq_getElem (by omega), Nat.mul_one] at h1
    obtain ⟨b, hb⟩ := trod_u8 h1
    exact ⟨b, take1 hb⟩
  have : ∀ (cs : List Value), (∀ i, i < cs.length → ∃ b : B8, cs[i]? = some (.int .u8 (bv b))) → ∃ l : List B8, l.length = cs.length ∧ cs = cells8 l := by
    intro cs
    induction cs with
    | nil => intro _; exact ⟨[], rfl, rfl⟩
    | cons v cs ih =>
      intro hh
      obtain ⟨b, hb⟩ := hh 0 (by simp)
      obtain ⟨l, h1, h2⟩ := ih fun i hi => by
        obtain ⟨b, hb⟩ := hh (i + 1) (by simp; omega)
        exact ⟨b, by simpa using hb⟩
      have hv : v = .int .u8 (bv b) := by simpa using hb
      exact ⟨b :: l, by simp [h1], by rw [hv, h2]; rfl⟩
  obtain ⟨l, h1, h2⟩ := this cs (fun i hi => hq i (by omega))
  exact ⟨l, by omega, h2⟩
set_option maxRecDepth 100000 in
theorem trod_cfg {fuel : Nat} {cs : List Value} {x : DataW H × List MemPlace} (h : DataW.trod enc Tryz.prog W base (fun _ => true) held fuel 26 cs = some x) : ∃ c : Cfg, c.ms.length = 32 ∧ cs = c.cells := by
  obtain ⟨xs, n, _, _, hlen, hxl, hf⟩ := DataW.trod_struct Tryz.underlying26 h
  have h0 := hf 0 _ rfl
  have h1 := hf 1 _ rfl
  have h2 := hf 2 _ rfl
  have h3 := hf 3 _ rfl
  have h4 := hf 4 _ rfl
  have h5 := hf 5 _ rfl
  have h6 := hf 6 _ rfl
  have h7 := hf 7 _ rfl
  have hx2 : xs.length = 8 := hxl
  rw [List.getElem?_eq_getElem (by omega)] at h0 h1 h2 h3 h4 h5 h6 h7
  obtain ⟨a0, e0, _⟩ := DataW.trod_int Tryz.underlying3 h0
  obtain ⟨a1, e1, _⟩ := DataW.trod_int Tryz.underlying3 h1
  obtain ⟨a2, e2, _⟩ := DataW.trod_int Tryz.underlying3 h2
  obtain ⟨a3, e3, _⟩ := DataW.trod_int Tryz.underlying3 h3
  obtain ⟨a4, e4, _⟩ := DataW.trod_int Tryz.underlying22 h4
  obtain ⟨a5, e5, _⟩ := DataW.trod_int Tryz.underlying22 h5
  obtain ⟨ms, hml, e6⟩ := open_key h6
  obtain ⟨a7, e7, _⟩ := DataW.trod_int Tryz.underlying5 h7
  refine ⟨⟨a0, a1, a2, a3, a4, a5, a7, ms⟩, hml, ?_⟩
  have hl2 : cs.length = 39 := hlen
  have g0 : cs[0]? = some (.int .i64 a0) := take1 e0
  have g1 : cs[1]? = some (.int .i64 a1) := take1 e1
  have g2 : cs[2]? = some (.int .i64 a2) := take1 e2
  have g3 : cs[3]? = some (.int .i64 a3) := take1 e3
  have g4 : cs[4]? = some (.int .u64 a4) := take1 e4
  have g5 : cs[5]? = some (.int .u64 a5) := take1 e5
  have g6 : (cs.drop 6).take 32 = cells8 ms := e6
  have g7 : cs[38]? = some (.int .u8 a7) := take1 e7
  match cs, hl2 with
  | c0 :: c1 :: c2 :: c3 :: c4 :: c5 :: r, hl2 =>
    simp only [List.length_cons] at hl2
    have q0 : c0 = .int .i64 a0 := by simpa using g0
    have q1 : c1 = .int .i64 a1 := by simpa using g1
    have q2 : c2 = .int .i64 a2 := by simpa using g2
    have q3 : c3 = .int .i64 a3 := by simpa using g3
    have q4 : c4 = .int .u64 a4 := by simpa using g4
    have q5 : c5 = .int .u64 a5 := by simpa using g5
    have q6 : r.take 32 = cells8 ms := by simpa using g6
    have q7 : r[32]? = some (.int .u8 a7) := by simpa using g7
    have q8 : r.drop 32 = [.int .u8 a7] := by
      have h1 : (r.drop 32).length = 1 := by rw [List.length_drop]; omega
      match hd : r.drop 32, h1 with
      | [v], _ =>
        have : (r.drop 32)[0]? = some v := by rw [hd]; rfl
        rw [List.getElem?_drop] at this
        rw [q7] at this
        injection this with this
        rw [this]
    have q9 : r = cells8 ms ++ [.int .u8 a7] := by rw [← q6, ← q8, List.take_append_drop]
    rw [q0, q1, q2, q3, q4, q5, q9]; rfl
/-- a script as an argument -/
structure ArgS (W : World) (v : Value) (s : ScrV) : Prop where
  eq : v = .agg s.cells.toArray
  key : s.c.ms.length = 32
  pg : Progs W s.pA s.pn s.pl
  ac : Acts W s.aA s.an s.al
set_option maxRecDepth 100000 in
theorem open_script {v : Value} {d : DataW H} {p : List MemPlace} {r : Reach} {b0 : Nat} (hv : Value.okWide Tryz.prog W r b0 30 v) (h : DataW.Trod enc Tryz.prog W base (fun _ => true) held 30 v d p) :
    ∃ s : ScrV, ArgS W v s := by
  obtain ⟨cs, rfl, hsz⟩ := okWide_struct Tryz.underlying30 hv
  have hC : Tryz.prog.cellsOf 30 = 41 := by kernel_rfl
  obtain ⟨l⟩ := cs
  have hl : l.length = 41 := hsz.trans hC
  obtain ⟨fuel, hf⟩ := h
  obtain ⟨xs, n, _, _, _, hxl, hg⟩ := DataW.trod_struct Tryz.underlying30 hf
  have h0 := hg 0 _ rfl
  have h1 := hg 1 _ rfl
  have h2 := hg 2 _ rfl
  have hx1 : xs.length = 3 := hxl
  rw [List.getElem?_eq_getElem (by omega)] at h0 h1 h2
  obtain ⟨c, hk, e0⟩ := trod_cfg h0
  obtain ⟨pA, pn, pc, pl, e1, hp⟩ := open_progs h1
  obtain ⟨aA, an, ac, al, e2, ha⟩ := open_acts h2
  refine ⟨⟨c, pA, pn, pc, pl, aA, an, ac, al⟩, ?_, hk, hp, ha⟩
  have g0 : l.take 39 = c.cells := e0
  have g1 : l[39]? = some (.slice pA pn pc) := take1 e1
  have g2 : l[40]? = some (.slice aA an ac) := take1 e2
  have g3 : l.drop 39 = [.slice pA pn pc, .slice aA an ac] := by
    have h1 : (l.drop 39).length = 2 := by rw [List.length_drop]; omega
    match hd : l.drop 39, h1 with
    | [v, u], _ =>
      have i0 : (l.drop 39)[0]? = some v := by rw [hd]; rfl
      have i1 : (l.drop 39)[1]? = some u := by rw [hd]; rfl
      rw [List.getElem?_drop] at i0 i1
      rw [g1] at i0
      rw [g2] at i1
      injection i0 with i0
      injection i1 with i1
      rw [i0, i1]
  have : l = c.cells ++ [.slice pA pn pc, .slice aA an ac] := by rw [← g0, ← g3, List.take_append_drop]
  rw [this]; rfl
end
end Go.Proofs.YtjknpcllmmalkaaGreatDoor
