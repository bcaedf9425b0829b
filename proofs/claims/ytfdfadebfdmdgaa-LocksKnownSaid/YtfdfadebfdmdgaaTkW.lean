/- Waits out of plain data: what they are. -/
import Derived.Test.YtfdfadebfdmdgaaTkP
import Derived.Test.YtfdfadebfdmdgaaLkU
namespace Go.Proofs.Ytfdfadebfdmdgaa
open Go.RowKit

/-- An element of the plain data of waits: two bytes. -/
structure U2 where
  a : Nat
  b : Nat
  ha : a < 256
  hb : b < 256
def U2.cells (u : U2) : List Value := [.int .u8 u.a, .int .u8 u.b]
def cellsV (l : List U2) : List Value := l.flatMap U2.cells
theorem cellsV_len (hs : List U2) : (cellsV hs).length = hs.length * 2 := by
  induction hs with
  | nil => rfl
  | cons h t ih => simp only [cellsV, List.flatMap_cons, List.length_append, U2.cells, List.length_cons, List.length_nil] at ih ⊢; rw [ih]; omega
theorem cellsV_drop (hs : List U2) (k : Nat) : (cellsV hs).drop (k * 2) = cellsV (hs.drop k) := by
  induction k generalizing hs with
  | zero => simp
  | succ k ih =>
    cases hs with
    | nil => simp [cellsV]
    | cons h t =>
      have e : (k + 1) * 2 = 2 + k * 2 := by omega
      rw [e, ← List.drop_drop]
      exact ih t
theorem Rd.lenV {w : World} {B n : Nat} {A : Option Addr} {hs : List U2} (h : Rd w B 2 A n (cellsV hs)) : n = hs.length := by
  have := h.1; rw [cellsV_len] at this; omega
theorem Rd.atV {w : World} {B n : Nat} {A : Option Addr} {hs : List U2} (h : Rd w B 2 A n (cellsV hs)) {k : Nat} (hk : k < hs.length) :
    ∃ ad, A = some ad ∧ ad.block < B ∧ w.cell? (ad.add (k * 2)) = some (.int .u8 hs[k].a) ∧ w.cell? ⟨(ad.add (k * 2)).block, (ad.add (k * 2)).off + 1, none⟩ = some (.int .u8 hs[k].b) := by
  have hn := h.lenV
  obtain ⟨ad, e, hl, hc⟩ := h.at_ (k := k) (by omega)
  rw [cellsV_drop, List.drop_eq_getElem_cons hk] at hc
  exact ⟨ad, e, hl, hc.c0, hc.c1⟩
theorem cellsW_app (a b : List W3) : cellsW (a ++ b) = cellsW a ++ cellsW b := by simp [cellsW]

/-- The wait that an element of the plain data stands for. -/
def waitAt (hs : List H3) (u : U2) (h : 0 < hs.length) : W3 := ⟨(u.a : Int) % 16, (hs[u.b % hs.length]'(Nat.mod_lt _ h)).lv, (hs[u.b % hs.length]'(Nat.mod_lt _ h)).ix⟩
def stepW (hs : List H3) (out : List W3) (u : U2) : List W3 := if h : 0 < hs.length then (if forF hs ((u.a : Int) % 16) out < 0 then out ++ [waitAt hs u h] else out) else out
def waitsF (hs : List H3) (l : List U2) : List W3 := l.foldl (stepW hs) []
theorem stepW_len (hs : List H3) (out : List W3) (u : U2) : (stepW hs out u).length ≤ out.length + 1 := by
  unfold stepW
  split
  · split <;> simp
  · omega
theorem waitsF_len (hs : List H3) (l : List U2) : (waitsF hs l).length ≤ l.length := by
  have h : ∀ (l : List U2) (o : List W3), (l.foldl (stepW hs) o).length ≤ o.length + l.length := by
    intro l
    induction l with
    | nil => intro o; simp
    | cons u l ih => intro o; have := ih (stepW hs o u); have := stepW_len hs o u; simp only [List.foldl_cons, List.length_cons]; omega
  simpa [waitsF] using h l []
theorem waitsF_take (hs : List H3) (l : List U2) (k : Nat) (hk : k < l.length) : waitsF hs (l.take (k + 1)) = stepW hs (waitsF hs (l.take k)) l[k] := by
  rw [take_snoc _ _ hk, waitsF, List.foldl_append]; rfl
theorem waitsF_none (l : List U2) : waitsF [] l = [] := by
  induction l with
  | nil => rfl
  | cons u l ih => exact ih

/-- What is kept of a list of waits: each thread waits once, for a lock that stands in the table. -/
def WOk (hs : List H3) (ws : List W3) : Prop := ws.Pairwise (fun x y => x.th ≠ y.th) ∧ ∀ x ∈ ws, 0 ≤ x.th ∧ x.th < 16 ∧ ∃ h ∈ hs, h.lv = x.lv ∧ h.ix = x.ix
theorem owner_in {hs : List H3} (hg : ∀ h ∈ hs, validB h.lv h.ix h.th = true) {lv ix : Int} (h : ∃ h ∈ hs, h.lv = lv ∧ h.ix = ix) : 0 ≤ ownerF lv ix hs := by
  have h1 : heldB lv ix hs = true := (held_iff _ _ _).2 h
  have h2 := owner_no (lv := lv) (ix := ix) hg
  rw [h1] at h2
  have : ¬ ownerF lv ix hs < 0 := fun e => by have := h2.1 e; cases this
  omega
theorem forF_no {hs : List H3} (hg : ∀ h ∈ hs, validB h.lv h.ix h.th = true) {ws : List W3} (hw : WOk hs ws) (th : Int) : forF hs th ws < 0 ↔ ∀ x ∈ ws, x.th ≠ th := by
  have h2 := hw.2
  clear hw
  induction ws with
  | nil => simp [forF]
  | cons x t ih =>
    have ih := ih (fun y hy => h2 y (List.mem_cons_of_mem _ hy))
    rw [forF]
    by_cases hx : x.th = th
    · rw [if_pos (by simpa using hx)]
      have := owner_in hg (h2 x List.mem_cons_self).2.2
      constructor
      · intro h; omega
      · intro h; exact absurd hx (h x List.mem_cons_self)
    · rw [if_neg (by simpa using hx)]
      refine Iff.trans ih ?_
      constructor
      · intro h y hy
        rcases List.mem_cons.1 hy with rfl | hy
        · exact hx
        · exact h y hy
      · intro h y hy; exact h y (List.mem_cons_of_mem _ hy)
theorem ok_step {hs : List H3} (hg : ∀ h ∈ hs, validB h.lv h.ix h.th = true) {ws : List W3} (hw : WOk hs ws) (u : U2) : WOk hs (stepW hs ws u) := by
  unfold stepW
  split
  · rename_i h
    split
    · rename_i hf
      have hn := (forF_no hg hw _).1 hf
      refine ⟨List.pairwise_append.2 ⟨hw.1, List.pairwise_singleton _ _, fun x hx y hy => ?_⟩, fun x hx => ?_⟩
      · rw [List.mem_singleton.1 hy]; exact hn x hx
      · rcases List.mem_append.1 hx with hx | hx
        · exact hw.2 x hx
        · rw [List.mem_singleton.1 hx]
          exact ⟨show (0 : Int) ≤ (u.a : Int) % 16 by omega, show (u.a : Int) % 16 < 16 by omega, _, List.getElem_mem (Nat.mod_lt u.b h), rfl, rfl⟩
    · exact hw
  · exact hw
theorem ok_waits {hs : List H3} (hg : ∀ h ∈ hs, validB h.lv h.ix h.th = true) (l : List U2) : WOk hs (waitsF hs l) := by
  have h : ∀ (l : List U2) (o : List W3), WOk hs o → WOk hs (l.foldl (stepW hs) o) := by
    intro l
    induction l with
    | nil => intro o h; exact h
    | cons u l ih => intro o h; exact ih _ (ok_step hg h u)
  exact h l [] ⟨List.Pairwise.nil, fun _ h => by cases h⟩

theorem cwFrom_zero {hs : List H3} (hg : ∀ h ∈ hs, validB h.lv h.ix h.th = true) : ∀ (ws done : List W3), WOk hs (done ++ ws) → cwFrom hs done ws = 0 := by
  intro ws
  induction ws with
  | nil => intro done _; rfl
  | cons x t ih =>
    intro done hw
    have hx := hw.2 x (by simp)
    obtain ⟨h, hm, e1, e2⟩ := hx.2.2
    have hv := hg h hm
    have hvx : validB x.lv x.ix x.th = true := by
      rw [← e1, ← e2]
      unfold validB at hv ⊢
      simp only [Bool.and_eq_true, decide_eq_true_eq] at hv ⊢
      omega
    have hd : done.any (fun y => y.th == x.th) = false := by
      rw [List.any_eq_false]
      intro y hy
      have := (List.pairwise_append.1 hw.1).2.2 y hy x List.mem_cons_self
      simpa using this
    have ho := owner_in hg hx.2.2
    rw [cwFrom, if_neg (by rw [hvx]; simp), if_neg (by rw [hd]; simp), if_neg (by omega)]
    exact ih (done ++ [x]) (by rw [List.append_assoc]; exact hw)
theorem cw_zero {hs : List H3} (hg : Good hs) {ws : List W3} (hw : WOk hs ws) : cwF hs ws = 0 := by
  unfold cwF; rw [if_pos (check_good hg)]; exact cwFrom_zero hg.2 ws [] hw
theorem ok_sub {hs : List H3} {ws vs : List W3} (hw : WOk hs ws) (hs2 : vs.Sublist ws) : WOk hs vs := ⟨hw.1.sublist hs2, fun x hx => hw.2 x (hs2.subset hx)⟩
end Go.Proofs.Ytfdfadebfdmdgaa
