/- Plain facts on taking and freeing: a good table stays good; Free inverts Take; two takes commute; the plain data make a good table. -/
import Derived.Test.YtfdfadebfdmdgaaTkA
namespace Go.Proofs.Ytfdfadebfdmdgaa

/-- A table in strict order, of valid elements. -/
def Good (hs : List H3) : Prop := hs.Pairwise (fun a b => lessB a.lv a.ix b.lv b.ix = true) ∧ ∀ h ∈ hs, validB h.lv h.ix h.th = true

theorem checkFrom_good : ∀ (hs : List H3) (p : H3), (∀ h ∈ hs, lessB p.lv p.ix h.lv h.ix = true) → Good hs → checkFrom (some p) hs = 0 := by
  intro hs
  induction hs with
  | nil => intro p _ _; rfl
  | cons h t ih =>
    intro p hp hg
    obtain ⟨hp1, hp2⟩ := List.pairwise_cons.1 hg.1
    have hv := hg.2 h List.mem_cons_self
    have hl := (less_iff _ _ _ _).1 (hp h List.mem_cons_self)
    have h1 : ¬ lkB h.lv h.ix p.lv p.ix = true := by unfold lkB; simp; omega
    have h2 : ¬ lessB h.lv h.ix p.lv p.ix = true := by rw [less_iff]; omega
    simp only [checkFrom]
    rw [if_neg (by rw [hv]; simp), if_neg h1, if_neg h2]
    exact ih h hp1 ⟨hp2, fun x hx => hg.2 x (List.mem_cons_of_mem _ hx)⟩
theorem check_good {hs : List H3} (hg : Good hs) : checkF hs = 0 := by
  cases hs with
  | nil => rfl
  | cons h t =>
    obtain ⟨hp1, hp2⟩ := List.pairwise_cons.1 hg.1
    have hv := hg.2 h List.mem_cons_self
    unfold checkF
    simp only [checkFrom]
    rw [if_neg (by rw [hv]; simp)]
    exact checkFrom_good t h hp1 ⟨hp2, fun x hx => hg.2 x (List.mem_cons_of_mem _ hx)⟩

theorem mem_takeF {lv ix th : Int} {hs : List H3} {x : H3} : x ∈ takeF lv ix th hs ↔ x = ⟨lv, ix, th⟩ ∨ x ∈ hs := by
  induction hs with
  | nil => simp [takeF]
  | cons h t ih =>
    rw [takeF]
    split
    · simp
    · simp only [List.mem_cons, ih]
      constructor
      · rintro (h1 | h1 | h1)
        · exact .inr (.inl h1)
        · exact .inl h1
        · exact .inr (.inr h1)
      · rintro (h1 | h1 | h1)
        · exact .inr (.inl h1)
        · exact .inl h1
        · exact .inr (.inr h1)

theorem held_iff (lv ix : Int) (hs : List H3) : heldB lv ix hs = true ↔ ∃ h ∈ hs, h.lv = lv ∧ h.ix = ix := by
  unfold heldB
  rw [List.any_eq_true]
  constructor
  · rintro ⟨h, hm, hi⟩; exact ⟨h, hm, (is_iff _ _ _).1 hi⟩
  · rintro ⟨h, hm, hi⟩; exact ⟨h, hm, (is_iff _ _ _).2 hi⟩
theorem held_no (lv ix : Int) (hs : List H3) : heldB lv ix hs = false ↔ ∀ h ∈ hs, ¬ (h.lv = lv ∧ h.ix = ix) := by
  rw [← Bool.not_eq_true, held_iff]
  constructor
  · intro h x hx he; exact h ⟨x, hx, he⟩
  · rintro h ⟨x, hx, he⟩; exact h x hx he

theorem good_take {lv ix th : Int} {hs : List H3} (hg : Good hs) (hv : validB lv ix th = true) (hh : heldB lv ix hs = false) : Good (takeF lv ix th hs) := by
  refine ⟨?_, fun x hx => ?_⟩
  · have hn := (held_no _ _ _).1 hh
    clear hh hv
    have hp := hg.1
    clear hg
    induction hs with
    | nil => simp [takeF]
    | cons h t ih =>
      obtain ⟨hp1, hp2⟩ := List.pairwise_cons.1 hp
      have hn1 := hn h List.mem_cons_self
      rw [takeF]
      split
      · rename_i hl
        refine List.pairwise_cons.2 ⟨fun x hx => ?_, hp⟩
        rcases List.mem_cons.1 hx with rfl | hx
        · exact hl
        · have h1 := (less_iff _ _ _ _).1 (hp1 x hx)
          have h2 := (less_iff _ _ _ _).1 hl
          exact (less_iff _ _ _ _).2 (by simp only; omega)
      · rename_i hl
        refine List.pairwise_cons.2 ⟨fun x hx => ?_, ih (fun x hx => hn x (List.mem_cons_of_mem _ hx)) hp2⟩
        rcases mem_takeF.1 hx with rfl | hx
        · have h2 : ¬ (lv < h.lv ∨ (lv = h.lv ∧ ix < h.ix)) := fun e => hl ((less_iff _ _ _ _).2 e)
          exact (less_iff _ _ _ _).2 (by simp only; omega)
        · exact hp1 x hx
  · rcases mem_takeF.1 hx with rfl | hx
    · exact hv
    · exact hg.2 x hx

theorem held_take (a b lv ix th : Int) (hs : List H3) (hne : ¬ (lv = a ∧ ix = b)) : heldB a b (takeF lv ix th hs) = heldB a b hs := by
  rw [Bool.eq_iff_iff, held_iff, held_iff]
  constructor
  · rintro ⟨x, hx, he⟩
    rcases mem_takeF.1 hx with rfl | hx
    · exact absurd he hne
    · exact ⟨x, hx, he⟩
  · rintro ⟨x, hx, he⟩; exact ⟨x, mem_takeF.2 (.inr hx), he⟩
theorem held_taken (lv ix th : Int) (hs : List H3) : heldB lv ix (takeF lv ix th hs) = true := (held_iff _ _ _).2 ⟨⟨lv, ix, th⟩, mem_takeF.2 (.inl rfl), rfl, rfl⟩
theorem owner_taken {lv ix th : Int} {hs : List H3} (hh : heldB lv ix hs = false) : ownerF lv ix (takeF lv ix th hs) = th := by
  have hn := (held_no _ _ _).1 hh
  clear hh
  have hown : ∀ t, ownerF lv ix ((⟨lv, ix, th⟩ : H3) :: t) = th := fun t => by rw [ownerF, if_pos ((is_iff _ _ _).2 ⟨rfl, rfl⟩)]
  induction hs with
  | nil => exact hown _
  | cons h t ih =>
    rw [takeF]
    split
    · exact hown _
    · rw [ownerF, if_neg (fun e => hn h List.mem_cons_self ((is_iff _ _ _).1 e))]
      exact ih (fun x hx => hn x (List.mem_cons_of_mem _ hx))

theorem kept_of {lv ix : Int} {x : H3} (hv : validB x.lv x.ix x.th = true) (hn : ¬ (x.lv = lv ∧ x.ix = ix)) : keptB lv ix (-1) x = true := by
  have h1 : x.is lv ix = false := by
    cases hi : x.is lv ix
    · rfl
    · exact absurd ((is_iff _ _ _).1 hi) hn
  have h2 := (valid_th hv).1
  unfold keptB; rw [h1]; simp; omega
/-- Free inverts Take. -/
theorem without_take {lv ix th : Int} {hs : List H3} (hg : Good hs) (hh : heldB lv ix hs = false) : withoutF lv ix (-1) (takeF lv ix th hs) = hs := by
  have hn := (held_no _ _ _).1 hh
  have hv := hg.2
  clear hh hg
  have hk : keptB lv ix (-1) (⟨lv, ix, th⟩ : H3) = false := by
    have h1 : (⟨lv, ix, th⟩ : H3).is lv ix = true := (is_iff _ _ _).2 ⟨rfl, rfl⟩
    unfold keptB; rw [h1]; rfl
  have hall : ∀ t : List H3, (∀ x ∈ t, validB x.lv x.ix x.th = true) → (∀ x ∈ t, ¬ (x.lv = lv ∧ x.ix = ix)) → withoutF lv ix (-1) t = t := fun t h1 h2 =>
    List.filter_eq_self.2 fun x hx => kept_of (h1 x hx) (h2 x hx)
  induction hs with
  | nil => simp [takeF, withoutF, hk]
  | cons h t ih =>
    rw [takeF]
    split
    · have e : withoutF lv ix (-1) ((⟨lv, ix, th⟩ : H3) :: h :: t) = withoutF lv ix (-1) (h :: t) := by unfold withoutF; rw [List.filter_cons, if_neg (by simp [hk])]
      rw [e]; exact hall _ hv hn
    · have hk2 := kept_of (hv h List.mem_cons_self) (hn h List.mem_cons_self)
      have e : withoutF lv ix (-1) (h :: takeF lv ix th t) = h :: withoutF lv ix (-1) (takeF lv ix th t) := by unfold withoutF; rw [List.filter_cons, if_pos hk2]
      rw [e, ih (fun x hx => hn x (List.mem_cons_of_mem _ hx)) (fun x hx => hv x (List.mem_cons_of_mem _ hx))]

/-- Two lists in strict order with the same elements are equal. -/
theorem sorted_ext : ∀ {a b : List H3}, a.Pairwise (fun x y => lessB x.lv x.ix y.lv y.ix = true) → b.Pairwise (fun x y => lessB x.lv x.ix y.lv y.ix = true) → (∀ x, x ∈ a ↔ x ∈ b) → a = b := by
  intro a
  induction a with
  | nil =>
    intro b _ _ h
    cases b with
    | nil => rfl
    | cons y t => exact absurd ((h y).2 List.mem_cons_self) (by simp)
  | cons x s ih =>
    intro b ha hb h
    cases b with
    | nil => exact absurd ((h x).1 List.mem_cons_self) (by simp)
    | cons y t =>
      obtain ⟨ha1, ha2⟩ := List.pairwise_cons.1 ha
      obtain ⟨hb1, hb2⟩ := List.pairwise_cons.1 hb
      have hxy : x = y := by
        rcases List.mem_cons.1 ((h x).1 List.mem_cons_self) with e | hx
        · exact e
        · rcases List.mem_cons.1 ((h y).2 List.mem_cons_self) with e | hy
          · exact e.symm
          · have h1 := (less_iff _ _ _ _).1 (ha1 y hy)
            have h2 := (less_iff _ _ _ _).1 (hb1 x hx)
            omega
      subst hxy
      have hirr : ∀ {s : List H3}, (∀ z ∈ s, lessB x.lv x.ix z.lv z.ix = true) → x ∉ s := fun hs hm => by
        have := (less_iff _ _ _ _).1 (hs x hm); omega
      rw [ih ha2 hb2 (fun z => ?_)]
      constructor
      · intro hz
        rcases List.mem_cons.1 ((h z).1 (List.mem_cons_of_mem _ hz)) with e | hz2
        · subst e; exact absurd hz (hirr ha1)
        · exact hz2
      · intro hz
        rcases List.mem_cons.1 ((h z).2 (List.mem_cons_of_mem _ hz)) with e | hz2
        · subst e; exact absurd hz (hirr hb1)
        · exact hz2

/-- The order in which two locks are taken does not matter. -/
theorem take_comm {l i p m j q : Int} {hs : List H3} (hg : Good hs) (hv1 : validB l i p = true) (hv2 : validB m j q = true) (h1 : heldB l i hs = false) (h2 : heldB m j hs = false) (hne : ¬ (l = m ∧ i = j)) :
    takeF m j q (takeF l i p hs) = takeF l i p (takeF m j q hs) := by
  have hne2 : ¬ (m = l ∧ j = i) := fun e => hne ⟨e.1.symm, e.2.symm⟩
  refine sorted_ext (good_take (good_take hg hv1 h1) hv2 (by rw [held_take _ _ _ _ _ _ hne]; exact h2)).1 (good_take (good_take hg hv2 h2) hv1 (by rw [held_take _ _ _ _ _ _ hne2]; exact h1)).1 (fun x => ?_)
  simp only [mem_takeF]
  constructor
  · rintro (h | h | h)
    · exact .inr (.inl h)
    · exact .inl h
    · exact .inr (.inr h)
  · rintro (h | h | h)
    · exact .inr (.inl h)
    · exact .inl h
    · exact .inr (.inr h)

theorem owner_no {lv ix : Int} {hs : List H3} (hg : ∀ h ∈ hs, validB h.lv h.ix h.th = true) : ownerF lv ix hs < 0 ↔ heldB lv ix hs = false := by
  induction hs with
  | nil => simp [ownerF, heldB]
  | cons h t ih =>
    have hv := (valid_th (hg h List.mem_cons_self)).1
    have ih := ih (fun x hx => hg x (List.mem_cons_of_mem _ hx))
    rw [ownerF]
    cases hi : h.is lv ix
    · simp only [heldB, List.any_cons, hi, Bool.false_or]
      simpa [heldB] using ih
    · simp only [heldB, List.any_cons, hi, Bool.true_or, if_true]
      constructor
      · intro h; omega
      · intro h; cases h

theorem valid_u (u : U3) : validB (levF u.a) u.b ((u.c : Int) % 16) = true := by
  have ha := u.ha; have hb := u.hb; have hc := u.hc
  unfold validB levF
  simp only [Bool.and_eq_true, decide_eq_true_eq]
  omega
theorem good_step {hs : List H3} (hg : Good hs) (u : U3) : Good (stepU hs u) := by
  unfold stepU
  split
  · rename_i h; exact good_take hg (valid_u u) ((owner_no hg.2).1 h)
  · exact hg
theorem good_ofU (l : List U3) : Good (ofU l) := by
  have h : ∀ (l : List U3) (hs : List H3), Good hs → Good (l.foldl stepU hs) := by
    intro l
    induction l with
    | nil => intro hs h; exact h
    | cons u l ih => intro hs h; exact ih _ (good_step h u)
  exact h l [] ⟨List.Pairwise.nil, fun _ h => by cases h⟩
theorem good_ready {hs : List H3} (hg : Good hs) {lv ix th : Int} (hv : validB lv ix th = true) : readyF hs lv ix th = 0 := by
  unfold readyF; rw [if_pos (check_good hg), hv]; rfl
end Go.Proofs.Ytfdfadebfdmdgaa
