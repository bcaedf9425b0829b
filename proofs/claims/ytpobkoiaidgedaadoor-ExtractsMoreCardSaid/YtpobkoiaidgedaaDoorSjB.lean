/- A trace that grows: its rows lie apart. -/
import Derived.Test.YtpobkoiaidgedaaDoorSiO
import Derived.Test.YtpobkoiaidgedaaDoorSjA
import Derived.OneCell
namespace Go.Proofs.YtpobkoiaidgedaaDoor
open Go.RowKit

/-- Rows of elements of different types lie apart. -/
theorem own_apart {w : World} {b b' e e' s s' n n' : Nat} {v v' : Value} {xs xs' : List Value} (h : w.ownsRow b e s v n xs) (h' : w.ownsRow b' e' s' v' n' xs') (hne : e ≠ e') : v.ownBlock = none ∨ v.ownBlock ≠ v'.ownBlock := by
  rcases h.2 with ⟨rfl, _⟩ | ⟨g, cap, cur, rfl, _, hh, _⟩
  · exact .inl rfl
  · right
    rcases h'.2 with ⟨rfl, _⟩ | ⟨g', cap', cur', rfl, _, hh', _⟩
    · intro h2; cases h2
    · intro h2
      have h3 : g = g' := by simpa [Value.ownBlock] using h2
      subst h3
      rw [hh] at hh'
      cases hh'
      exact hne rfl
/-- A row lies apart from a block of another type. -/
theorem own_off {w : World} {b e s n g : Nat} {t : TypeId} {v : Value} {xs L : List Value} (h : w.ownsRow b e s v n xs) (hr : Row w g t L) (hne : e ≠ t) : v.ownBlock ≠ some g := by
  rcases h.2 with ⟨rfl, _⟩ | ⟨g', cap, cur, rfl, _, hh, _⟩
  · intro h2; cases h2
  · intro h2
    have h3 : g' = g := by simpa [Value.ownBlock] using h2
    subst h3
    unfold Row at hr
    rw [hh] at hr
    cases hr
    exact hne rfl
def RowD (w : World) (B : Nat) (v : Value) (l : List Dig) (xs : List (List Value)) : Prop :=
  xs.length = l.length ∧ (∀ (i : Nat) (x : Dig), l[i]? = some x → ∃ cs, xs[i]? = some cs ∧ DigO w B x cs) ∧ w.ownsRow B 41 33 v l.length xs.flatten
def RowM (w : World) (B : Nat) (v : Value) (l : List Msg) : Prop :=
  (∀ x ∈ l, x.ok) ∧ w.ownsRow B 54 67 v l.length (l.map Msg.cells).flatten
theorem RowD.nil {w : World} {B : Nat} : RowD w B (.slice none 0 0) [] [] := ⟨rfl, fun i x h => by simp at h, rfl, .inl ⟨rfl, rfl⟩⟩
theorem RowM.nil {w : World} {B : Nat} : RowM w B (.slice none 0 0) [] := ⟨fun x h => by simp at h, rfl, .inl ⟨rfl, rfl⟩⟩
theorem RowD.below {w w' : World} {B C : Nat} {v : Value} {l : List Dig} {xs : List (List Value)} (h : RowD w B v l xs) (hb : Below C w w') (hC : w.heap.size ≤ C) : RowD w' B v l xs :=
  ⟨h.1, fun i x hx => by obtain ⟨cs, h1, h2⟩ := h.2.1 i x hx; exact ⟨cs, h1, h2.below hb hC⟩, own_below h.2.2 hb hC⟩
theorem RowM.below {w w' : World} {B C : Nat} {v : Value} {l : List Msg} (h : RowM w B v l) (hb : Below C w w') (hC : w.heap.size ≤ C) : RowM w' B v l :=
  ⟨h.1, own_below h.2 hb hC⟩
theorem RowD.mono {w : World} {B B' : Nat} {v : Value} {l : List Dig} {xs : List (List Value)} (h : RowD w B v l xs) (hB : B' ≤ B) : RowD w B' v l xs :=
  ⟨h.1, fun i x hx => by obtain ⟨cs, h1, h2⟩ := h.2.1 i x hx; exact ⟨cs, h1, h2.mono hB⟩, own_mono h.2.2 hB⟩
theorem RowM.mono {w : World} {B B' : Nat} {v : Value} {l : List Msg} (h : RowM w B v l) (hB : B' ≤ B) : RowM w B' v l := ⟨h.1, own_mono h.2 hB⟩
theorem RowD.digs {w : World} {B : Nat} {v : Value} {l : List Dig} {xs : List (List Value)} (h : RowD w B v l xs) : Digs w v l xs :=
  ⟨h.1, fun i x hx => by obtain ⟨cs, h1, h2⟩ := h.2.1 i x hx; exact ⟨cs, h1, h2.is⟩, own_mono h.2.2 (Nat.zero_le _)⟩
/-- What a change of a block of another type leaves. -/
theorem DigO.kept {w w' : World} {B : Nat} {x : Dig} {cs : List Value} {q : Option Nat} (h : DigO w B x cs) (hg : w.grownBy w' q) (hq : ∀ v, Own8 w B v x.b → v.ownBlock = none ∨ v.ownBlock ≠ q) : DigO w' B x cs := by
  obtain ⟨h1, h2, v, h3, o⟩ := h
  exact ⟨h1, h2, v, h3, World.ownsRow.kept o hg (hq v o)⟩
theorem RowD.kept {w w' : World} {B : Nat} {v : Value} {l : List Dig} {xs : List (List Value)} {q : Option Nat} (h : RowD w B v l xs) (hg : w.grownBy w' q) (h8 : ∀ u b, Own8 w B u b → u.ownBlock = none ∨ u.ownBlock ≠ q) (hv : v.ownBlock = none ∨ v.ownBlock ≠ q) : RowD w' B v l xs :=
  ⟨h.1, fun i x hx => by obtain ⟨cs, h1, h2⟩ := h.2.1 i x hx; exact ⟨cs, h1, h2.kept hg fun u o => h8 u _ o⟩, World.ownsRow.kept h.2.2 hg hv⟩
theorem RowM.kept {w w' : World} {B : Nat} {v : Value} {l : List Msg} {q : Option Nat} (h : RowM w B v l) (hg : w.grownBy w' q) (hv : v.ownBlock = none ∨ v.ownBlock ≠ q) : RowM w' B v l :=
  ⟨h.1, World.ownsRow.kept h.2 hg hv⟩
theorem RowD.app {w' : World} {B : Nat} {v v' : Value} {l l' : List Dig} {xs xs' : List (List Value)} (h : RowD w' B v l xs ∨ (xs.length = l.length ∧ ∀ (i : Nat) (x : Dig), l[i]? = some x → ∃ cs, xs[i]? = some cs ∧ DigO w' B x cs)) (hl : xs'.length = l'.length) (hx : ∀ (i : Nat) (x : Dig), l'[i]? = some x → ∃ cs, xs'[i]? = some cs ∧ DigO w' B x cs)
    (ho : w'.ownsRow B 41 33 v' (l.length + l'.length) (xs.flatten ++ xs'.flatten)) : RowD w' B v' (l ++ l') (xs ++ xs') := by
  have h' : xs.length = l.length ∧ ∀ (i : Nat) (x : Dig), l[i]? = some x → ∃ cs, xs[i]? = some cs ∧ DigO w' B x cs := by
    rcases h with h | h
    · exact ⟨h.1, h.2.1⟩
    · exact h
  refine ⟨by simp [h'.1, hl], fun i x hi => ?_, by rw [List.length_append, List.flatten_append]; exact ho⟩
  rcases Nat.lt_or_ge i l.length with hlt | hge
  · rw [List.getElem?_append_left hlt] at hi
    obtain ⟨cs, h1, h2⟩ := h'.2 i x hi
    exact ⟨cs, by rw [List.getElem?_append_left (by rw [h'.1]; exact hlt)]; exact h1, h2⟩
  · rw [List.getElem?_append_right hge] at hi
    obtain ⟨cs, h1, h2⟩ := hx _ x hi
    exact ⟨cs, by rw [List.getElem?_append_right (by rw [h'.1]; exact hge), h'.1]; exact h1, h2⟩

/-- Block g holds a trace whose rows are the call's own and lie apart. -/
structure TSt (w : World) (B g : Nat) (va vb vc vd : Value) (la lc : List Dig) (xa xc : List (List Value)) (lb ld : List Msg) : Prop where
  row : Row w g 30 [va, vb, vc, vd, .slice none 0 0]
  a : RowD w B va la xa
  b : RowM w B vb lb
  c : RowD w B vc lc xc
  d : RowM w B vd ld
  ac : Sep va vc
  bd : Sep vb vd

section
variable {w w' wB : World} {B g : Nat} {va vb vc vd v' : Value} {la lc : List Dig} {xa xc : List (List Value)} {lb ld : List Msg}
theorem TSt.step (h : TSt w B g va vb vc vd la lc xa xc lb ld) (hb : Below w.heap.size w w') : TSt w' B g va vb vc vd la lc xa xc lb ld :=
  ⟨h.row.step hb, h.a.below hb (Nat.le_refl _), h.b.below hb (Nat.le_refl _), h.c.below hb (Nat.le_refl _), h.d.below hb (Nat.le_refl _), h.ac, h.bd⟩
theorem sep_new {e s n : Nat} {u v : Value} {xs : List Value} (h : w.ownsRow B e s u n xs) (hs : Sep u v) (hv : v'.ownBlock = v.ownBlock ∨ v'.ownBlock = some w.heap.size) : Sep u v' := by
  rcases hv with e | e
  · unfold Sep; rw [e]; exact hs
  · rcases hq : u.ownBlock with _ | q
    · exact .inl hq
    · right
      rw [e, hq]
      intro e2
      have := (World.ownsRow.lt h q hq).2
      injection e2 with e2
      omega
theorem u8_ne_dig : 5 ≠ 41 := by decide
theorem row_keep {q : Option Nat} {t : TypeId} {L : List Value} (h : Row w g t L) (hg : w.grownBy w' q) (hq : some g ≠ q) : Row w' g t L := (hg.block g h.lt hq).trans h
/-- A change of the trace's own block. -/
theorem TSt.hole (h : TSt w B g va vb vc vd la lc xa xc lb ld) (hg : w.grownBy w' (some g)) :
    RowD w' B va la xa ∧ RowM w' B vb lb ∧ RowD w' B vc lc xc ∧ RowM w' B vd ld :=
  have h8 : ∀ v b, Own8 w B v b → v.ownBlock = none ∨ v.ownBlock ≠ some g := fun v b o => .inr (own_off o h.row (by decide))
  ⟨h.a.kept hg h8 (.inr (own_off h.a.2.2 h.row (by decide))), h.b.kept hg (.inr (own_off h.b.2 h.row (by decide))), h.c.kept hg h8 (.inr (own_off h.c.2.2 h.row (by decide))), h.d.kept hg (.inr (own_off h.d.2 h.row (by decide)))⟩
/-- What an append to a row leaves; then the trace's own cell is set. -/
theorem TSt.appA {l' : List Dig} {xs' : List (List Value)} (h : TSt w B g va vb vc vd la lc xa xc lb ld) (gB : w.grownBy wB va.ownBlock) (hv : v'.ownBlock = va.ownBlock ∨ v'.ownBlock = some w.heap.size) (ho : wB.ownsRow B 41 33 v' (la.length + l'.length) (xa.flatten ++ xs'.flatten)) (hl : xs'.length = l'.length) (hx : ∀ (i : Nat) (x : Dig), l'[i]? = some x → ∃ cs, xs'[i]? = some cs ∧ DigO w B x cs) :
    TSt (wB.setCell ⟨g, 0, none⟩ v') B g v' vb vc vd (la ++ l') lc (xa ++ xs') xc lb ld := by
  have hgn : some g ≠ va.ownBlock := fun e => own_off h.a.2.2 h.row (by decide) e.symm
  have rB := row_keep h.row gB hgn
  have h8 : ∀ v b, Own8 w B v b → v.ownBlock = none ∨ v.ownBlock ≠ va.ownBlock := fun v b o => own_apart o h.a.2.2 (by decide)
  have g8 : ∀ v b, Own8 wB B v b → v.ownBlock = none ∨ v.ownBlock ≠ some g := fun v b o => .inr (own_off o rB (by decide))
  have gS := setCell_grown wB g 0 v'
  have kb := h.b.kept gB (own_apart h.b.2 h.a.2.2 (by decide))
  have jb := kb.kept gS (.inr (own_off kb.2 rB (by decide)))
  have kc := h.c.kept gB h8 (h.ac.swap)
  have jc := kc.kept gS g8 (.inr (own_off kc.2.2 rB (by decide)))
  have kd := h.d.kept gB (own_apart h.d.2 h.a.2.2 (by decide))
  have jd := kd.kept gS (.inr (own_off kd.2 rB (by decide)))
  have e1 : ∀ (i : Nat) (x : Dig), la[i]? = some x → ∃ cs, xa[i]? = some cs ∧ DigO (wB.setCell ⟨g, 0, none⟩ v') B x cs := fun i x hi => by
    obtain ⟨cs, h1, h2⟩ := h.a.2.1 i x hi
    exact ⟨cs, h1, (h2.kept gB fun v o => h8 v _ o).kept gS fun v o => g8 v _ o⟩
  have e2 : ∀ (i : Nat) (x : Dig), l'[i]? = some x → ∃ cs, xs'[i]? = some cs ∧ DigO (wB.setCell ⟨g, 0, none⟩ v') B x cs := fun i x hi => by
    obtain ⟨cs, h1, h2⟩ := hx i x hi
    exact ⟨cs, h1, (h2.kept gB fun v o => h8 v _ o).kept gS fun v o => g8 v _ o⟩
  have ja := RowD.app (v := va) (.inr ⟨h.a.1, e1⟩) hl e2 (World.ownsRow.kept ho gS (.inr (own_off ho rB (by decide))))
  exact ⟨rB.setCell (i := 0) v', ja, jb, jc, jd, (sep_new h.c.2.2 h.ac.swap hv).swap, h.bd⟩
theorem TSt.appB {l' : List Msg} (h : TSt w B g va vb vc vd la lc xa xc lb ld) (gB : w.grownBy wB vb.ownBlock) (hv : v'.ownBlock = vb.ownBlock ∨ v'.ownBlock = some w.heap.size) (ho : wB.ownsRow B 54 67 v' (lb.length + l'.length) ((lb.map Msg.cells).flatten ++ (l'.map Msg.cells).flatten)) (hx : ∀ x ∈ l', x.ok) :
    TSt (wB.setCell ⟨g, 1, none⟩ v') B g va v' vc vd la lc xa xc (lb ++ l') ld := by
  have hgn : some g ≠ vb.ownBlock := fun e => own_off h.b.2 h.row (by decide) e.symm
  have rB := row_keep h.row gB hgn
  have h8 : ∀ v b, Own8 w B v b → v.ownBlock = none ∨ v.ownBlock ≠ vb.ownBlock := fun v b o => own_apart o h.b.2 (by decide)
  have g8 : ∀ v b, Own8 wB B v b → v.ownBlock = none ∨ v.ownBlock ≠ some g := fun v b o => .inr (own_off o rB (by decide))
  have gS := setCell_grown wB g 1 v'
  have ka := h.a.kept gB h8 (own_apart h.a.2.2 h.b.2 (by decide))
  have ja := ka.kept gS g8 (.inr (own_off ka.2.2 rB (by decide)))
  have kc := h.c.kept gB h8 (own_apart h.c.2.2 h.b.2 (by decide))
  have jc := kc.kept gS g8 (.inr (own_off kc.2.2 rB (by decide)))
  have kd := h.d.kept gB (h.bd.swap)
  have jd := kd.kept gS (.inr (own_off kd.2 rB (by decide)))
  have jb : RowM (wB.setCell ⟨g, 1, none⟩ v') B v' (lb ++ l') := ⟨fun x hm => by
    rcases List.mem_append.1 hm with hm | hm
    · exact h.b.1 x hm
    · exact hx x hm, by
    rw [List.length_append, List.map_append, List.flatten_append]
    exact World.ownsRow.kept ho gS (.inr (own_off ho rB (by decide)))⟩
  exact ⟨rB.setCell (i := 1) v', ja, jb, jc, jd, h.ac, (sep_new h.d.2 h.bd.swap hv).swap⟩
theorem TSt.appC {l' : List Dig} {xs' : List (List Value)} (h : TSt w B g va vb vc vd la lc xa xc lb ld) (gB : w.grownBy wB vc.ownBlock) (hv : v'.ownBlock = vc.ownBlock ∨ v'.ownBlock = some w.heap.size) (ho : wB.ownsRow B 41 33 v' (lc.length + l'.length) (xc.flatten ++ xs'.flatten)) (hl : xs'.length = l'.length) (hx : ∀ (i : Nat) (x : Dig), l'[i]? = some x → ∃ cs, xs'[i]? = some cs ∧ DigO w B x cs) :
    TSt (wB.setCell ⟨g, 2, none⟩ v') B g va vb v' vd la (lc ++ l') xa (xc ++ xs') lb ld := by
  have hgn : some g ≠ vc.ownBlock := fun e => own_off h.c.2.2 h.row (by decide) e.symm
  have rB := row_keep h.row gB hgn
  have h8 : ∀ v b, Own8 w B v b → v.ownBlock = none ∨ v.ownBlock ≠ vc.ownBlock := fun v b o => own_apart o h.c.2.2 (by decide)
  have g8 : ∀ v b, Own8 wB B v b → v.ownBlock = none ∨ v.ownBlock ≠ some g := fun v b o => .inr (own_off o rB (by decide))
  have gS := setCell_grown wB g 2 v'
  have ka := h.a.kept gB h8 (h.ac)
  have ja := ka.kept gS g8 (.inr (own_off ka.2.2 rB (by decide)))
  have kb := h.b.kept gB (own_apart h.b.2 h.c.2.2 (by decide))
  have jb := kb.kept gS (.inr (own_off kb.2 rB (by decide)))
  have kd := h.d.kept gB (own_apart h.d.2 h.c.2.2 (by decide))
  have jd := kd.kept gS (.inr (own_off kd.2 rB (by decide)))
  have e1 : ∀ (i : Nat) (x : Dig), lc[i]? = some x → ∃ cs, xc[i]? = some cs ∧ DigO (wB.setCell ⟨g, 2, none⟩ v') B x cs := fun i x hi => by
    obtain ⟨cs, h1, h2⟩ := h.c.2.1 i x hi
    exact ⟨cs, h1, (h2.kept gB fun v o => h8 v _ o).kept gS fun v o => g8 v _ o⟩
  have e2 : ∀ (i : Nat) (x : Dig), l'[i]? = some x → ∃ cs, xs'[i]? = some cs ∧ DigO (wB.setCell ⟨g, 2, none⟩ v') B x cs := fun i x hi => by
    obtain ⟨cs, h1, h2⟩ := hx i x hi
    exact ⟨cs, h1, (h2.kept gB fun v o => h8 v _ o).kept gS fun v o => g8 v _ o⟩
  have jc := RowD.app (v := vc) (.inr ⟨h.c.1, e1⟩) hl e2 (World.ownsRow.kept ho gS (.inr (own_off ho rB (by decide))))
  exact ⟨rB.setCell (i := 2) v', ja, jb, jc, jd, sep_new h.a.2.2 h.ac hv, h.bd⟩
theorem TSt.appD {l' : List Msg} (h : TSt w B g va vb vc vd la lc xa xc lb ld) (gB : w.grownBy wB vd.ownBlock) (hv : v'.ownBlock = vd.ownBlock ∨ v'.ownBlock = some w.heap.size) (ho : wB.ownsRow B 54 67 v' (ld.length + l'.length) ((ld.map Msg.cells).flatten ++ (l'.map Msg.cells).flatten)) (hx : ∀ x ∈ l', x.ok) :
    TSt (wB.setCell ⟨g, 3, none⟩ v') B g va vb vc v' la lc xa xc lb (ld ++ l') := by
  have hgn : some g ≠ vd.ownBlock := fun e => own_off h.d.2 h.row (by decide) e.symm
  have rB := row_keep h.row gB hgn
  have h8 : ∀ v b, Own8 w B v b → v.ownBlock = none ∨ v.ownBlock ≠ vd.ownBlock := fun v b o => own_apart o h.d.2 (by decide)
  have g8 : ∀ v b, Own8 wB B v b → v.ownBlock = none ∨ v.ownBlock ≠ some g := fun v b o => .inr (own_off o rB (by decide))
  have gS := setCell_grown wB g 3 v'
  have ka := h.a.kept gB h8 (own_apart h.a.2.2 h.d.2 (by decide))
  have ja := ka.kept gS g8 (.inr (own_off ka.2.2 rB (by decide)))
  have kb := h.b.kept gB (h.bd)
  have jb := kb.kept gS (.inr (own_off kb.2 rB (by decide)))
  have kc := h.c.kept gB h8 (own_apart h.c.2.2 h.d.2 (by decide))
  have jc := kc.kept gS g8 (.inr (own_off kc.2.2 rB (by decide)))
  have jd : RowM (wB.setCell ⟨g, 3, none⟩ v') B v' (ld ++ l') := ⟨fun x hm => by
    rcases List.mem_append.1 hm with hm | hm
    · exact h.d.1 x hm
    · exact hx x hm, by
    rw [List.length_append, List.map_append, List.flatten_append]
    exact World.ownsRow.kept ho gS (.inr (own_off ho rB (by decide)))⟩
  exact ⟨rB.setCell (i := 3) v', ja, jb, jc, jd, h.ac, sep_new h.b.2 h.bd hv⟩
end
end Go.Proofs.YtpobkoiaidgedaaDoor
