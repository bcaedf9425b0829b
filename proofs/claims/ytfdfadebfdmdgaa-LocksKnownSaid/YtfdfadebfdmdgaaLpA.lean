/- Plain facts on tables: Take's place, Free's place, checked tables are in strict order. -/
import Derived.Test.YtfdfadebfdmdgaaLkS
import Derived.Test.YtfdfadebfdmdgaaLkP
import Derived.Test.YtfdfadebfdmdgaaLkR
import Derived.Test.YtfdfadebfdmdgaaLkJ
namespace Go.Proofs.Ytfdfadebfdmdgaa

theorem is_iff (h : H3) (lv ix : Int) : h.is lv ix = true ↔ h.lv = lv ∧ h.ix = ix := by
  unfold H3.is lkB; simp
theorem less_iff (a b c d : Int) : lessB a b c d = true ↔ a < c ∨ (a = c ∧ b < d) := by
  unfold lessB; simp
theorem less_flip {h : H3} {lv ix : Int} (hn : h.is lv ix = false) : lessB h.lv h.ix lv ix = !(lessB lv ix h.lv h.ix) := by
  have h1 : ¬ (h.lv = lv ∧ h.ix = ix) := fun e => by rw [(is_iff h lv ix).2 e] at hn; cases hn
  unfold lessB
  rw [Bool.eq_iff_iff]; simp; omega

/-- Take puts the element where the reference puts it. -/
theorem ins_take (lv ix th : Int) (hs : List H3) (hn : heldB lv ix hs = false) : insF (posF lv ix hs) ⟨lv, ix, th⟩ hs = takeF lv ix th hs := by
  induction hs with
  | nil => rfl
  | cons h t ih =>
    simp only [heldB, List.any_cons, Bool.or_eq_false_iff] at hn
    obtain ⟨h1, h2⟩ := hn
    have ih := ih h2
    rw [posF, takeF, less_flip h1]
    cases hl : lessB lv ix h.lv h.ix
    · simp only [Bool.not_false, if_true]
      rw [← ih, if_neg (by simp)]
      simp [insF]
    · simp [insF]

/-- A checked table is in strict order. -/
theorem checkFrom_lt : ∀ (hs : List H3) (p : H3), checkFrom (some p) hs = 0 → (∀ h ∈ hs, lessB p.lv p.ix h.lv h.ix = true) ∧ hs.Pairwise (fun a b => lessB a.lv a.ix b.lv b.ix = true) := by
  intro hs
  induction hs with
  | nil => intro p _; exact ⟨by simp, List.Pairwise.nil⟩
  | cons h t ih =>
    intro p h0
    simp only [checkFrom] at h0
    split at h0
    · simp at h0
    · split at h0
      · simp at h0
      · rename_i hk
        split at h0
        · simp at h0
        · rename_i hl
          obtain ⟨h1, h2⟩ := ih h h0
          have hph : lessB p.lv p.ix h.lv h.ix = true := by
            unfold lkB at hk; unfold lessB at hl ⊢
            simp at hk hl ⊢
            omega
          refine ⟨?_, List.pairwise_cons.2 ⟨h1, h2⟩⟩
          intro x hx
          rcases List.mem_cons.1 hx with rfl | hx
          · exact hph
          · have := (less_iff _ _ _ _).1 (h1 x hx)
            have := (less_iff _ _ _ _).1 hph
            exact (less_iff _ _ _ _).2 (by omega)
theorem check_order_lt {hs : List H3} (h0 : checkF hs = 0) : hs.Pairwise (fun a b => lessB a.lv a.ix b.lv b.ix = true) := by
  cases hs with
  | nil => exact List.Pairwise.nil
  | cons h t =>
    unfold checkF at h0
    simp only [checkFrom] at h0
    split at h0
    · simp at h0
    · obtain ⟨h1, h2⟩ := checkFrom_lt t h h0
      exact List.pairwise_cons.2 ⟨h1, h2⟩

theorem idx_cons_hit {lv ix : Int} {h : H3} {t : List H3} (hi : h.is lv ix = true) : (idxF lv ix (h :: t)).toNat = 0 := by
  unfold idxF idxFrom; rw [if_pos hi]; rfl
theorem idxFrom_shift (lv ix : Int) : ∀ (t : List H3) (k : Nat), heldB lv ix t = true → idxFrom lv ix (k + 1) t = idxFrom lv ix k t + 1 := by
  intro t
  induction t with
  | nil => intro k h; simp [heldB] at h
  | cons h t ih =>
    intro k hh
    simp only [idxFrom]
    cases hi : h.is lv ix
    · simp only [heldB, List.any_cons, hi, Bool.false_or] at hh
      simpa using ih (k + 1) hh
    · simp
theorem idxFrom_ge (lv ix : Int) (t : List H3) (k : Nat) (hh : heldB lv ix t = true) : (k : Int) ≤ idxFrom lv ix k t := by
  rcases idxFrom_pos lv ix t k with ⟨_, h1⟩ | ⟨j, hj, h1, _, _⟩
  · exfalso; obtain ⟨x, hx, hx2⟩ := List.any_eq_true.1 hh; rw [h1 x hx] at hx2; cases hx2
  · omega

/-- Free leaves out the one element that has the lock. -/
theorem del_without (lv ix : Int) : ∀ (hs : List H3), hs.Pairwise (fun a b => lessB a.lv a.ix b.lv b.ix = true) → (∀ h ∈ hs, h.th ≠ -1) → heldB lv ix hs = true → delF (idxF lv ix hs).toNat hs = withoutF lv ix (-1) hs := by
  intro hs
  induction hs with
  | nil => intro _ _ h; simp [heldB] at h
  | cons h t ih =>
    intro hp hv hh
    obtain ⟨hp1, hp2⟩ := List.pairwise_cons.1 hp
    have hv2 : ∀ x ∈ t, x.th ≠ -1 := fun x hx => hv x (List.mem_cons_of_mem _ hx)
    have hv1 : h.th ≠ -1 := hv h List.mem_cons_self
    cases hi : h.is lv ix
    · simp only [heldB, List.any_cons, hi, Bool.false_or] at hh
      have h1 : idxF lv ix (h :: t) = idxF lv ix t + 1 := by
        unfold idxF
        rw [idxFrom, if_neg (by simp [hi]), idxFrom_shift lv ix t 0 hh]
      have h2 := idxFrom_ge lv ix t 0 hh
      have h3 : (idxF lv ix (h :: t)).toNat = (idxF lv ix t).toNat + 1 := by rw [h1]; unfold idxF; omega
      rw [h3]
      have hk : keptB lv ix (-1) h = true := by unfold keptB; rw [hi]; simpa using hv1
      have hw : withoutF lv ix (-1) (h :: t) = h :: withoutF lv ix (-1) t := by unfold withoutF; rw [List.filter_cons, if_pos hk]
      rw [hw, ← ih hp2 hv2 hh]
      simp [delF]
    · rw [idx_cons_hit hi]
      have hk : keptB lv ix (-1) h = false := by unfold keptB; rw [hi]; rfl
      have hw : withoutF lv ix (-1) (h :: t) = withoutF lv ix (-1) t := by unfold withoutF; rw [List.filter_cons, if_neg (by simp [hk])]
      rw [hw]
      have hall : withoutF lv ix (-1) t = t := List.filter_eq_self.2 fun x hx => by
        have hl := (less_iff _ _ _ _).1 (hp1 x hx)
        have he := (is_iff _ _ _).1 hi
        have hx0 : x.is lv ix = false := by
          cases hxi : x.is lv ix
          · rfl
          · have := (is_iff _ _ _).1 hxi; omega
        unfold keptB; rw [hx0]; simpa using hv2 x hx
      rw [hall]; simp [delF]

theorem checked_free {hs : List H3} (h0 : checkF hs = 0) {lv ix : Int} (hh : heldB lv ix hs = true) : delF (idxF lv ix hs).toNat hs = withoutF lv ix (-1) hs :=
  del_without lv ix hs (check_order_lt h0) (fun h hm => by have := (valid_th (check_valid h0 h hm)).1; omega) hh

/-- What FreeAll leaves is what the reference leaves, where no element has the lock that no table has. -/
theorem freeAll_without (th : Int) (hs : List H3) (hn : heldB (-2) 0 hs = false) : withoutTh th hs = withoutF (-2) 0 th hs := by
  unfold withoutTh withoutF
  refine List.filter_congr fun x hx => ?_
  have hx0 : x.is (-2) 0 = false := by
    have := List.any_eq_false.1 hn x hx
    simpa using this
  unfold keptB; rw [hx0]; simp [bne]

theorem take_ready {hs : List H3} {lv ix th : Int} (h0 : readyF hs lv ix th = 0) : checkF hs = 0 ∧ validB lv ix th = true := by
  unfold readyF at h0
  split at h0
  · rename_i h1
    refine ⟨h1, ?_⟩
    cases hv : validB lv ix th
    · rw [hv] at h0; simp at h0
    · rfl
  · omega
theorem takeF_len (lv ix th : Int) (hs : List H3) : (takeF lv ix th hs).length = hs.length + 1 := by
  induction hs with
  | nil => rfl
  | cons h t ih => rw [takeF]; split <;> simp [ih]
end Go.Proofs.Ytfdfadebfdmdgaa
