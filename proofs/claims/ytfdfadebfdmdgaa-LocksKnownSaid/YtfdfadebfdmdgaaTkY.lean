/- Cycles of waits: none where waiting is upward; where there is none, one of those who are waited for does not wait. -/
import Derived.Test.YtfdfadebfdmdgaaTkW
import Derived.Test.YtfdfadebfdmdgaaLwE
namespace Go.Proofs.Ytfdfadebfdmdgaa

/-- The level of the lock that a thread waits for. -/
def levW (th : Int) : List W3 → Int
  | [] => 0
  | x :: t => if x.th == th then x.lv else levW th t
theorem for_wait {hs : List H3} {th : Int} : ∀ {ws : List W3}, 0 ≤ forF hs th ws → ∃ y ∈ ws, y.th = th ∧ levW th ws = y.lv ∧ forF hs th ws = ownerF y.lv y.ix hs := by
  intro ws
  induction ws with
  | nil => intro h; simp [forF] at h
  | cons x t ih =>
    intro h
    rw [forF] at h ⊢
    rw [levW]
    by_cases hx : (x.th == th) = true
    · rw [if_pos hx, if_pos hx]
      exact ⟨x, List.mem_cons_self, by simpa using hx, rfl, rfl⟩
    · rw [if_neg hx] at h ⊢
      rw [if_neg hx]
      obtain ⟨y, h1, h2, h3, h4⟩ := ih h
      exact ⟨y, List.mem_cons_of_mem _ h1, h2, h3, h4⟩
theorem owner_mem {hs : List H3} {lv ix : Int} (h : 0 ≤ ownerF lv ix hs) : (lv, ix) ∈ ofF (ownerF lv ix hs) hs := by
  induction hs with
  | nil => simp [ownerF] at h
  | cons x t ih =>
    rw [ownerF] at h ⊢
    by_cases hx : x.is lv ix = true
    · rw [if_pos hx]
      obtain ⟨e1, e2⟩ := (is_iff _ _ _).1 hx
      unfold ofF
      rw [List.filter_cons, if_pos (by simp), List.map_cons, e1, e2]
      exact List.mem_cons_self
    · rw [if_neg hx] at h ⊢
      have := ih h
      unfold ofF at this ⊢
      rw [List.filter_cons]
      split
      · rw [List.map_cons]; exact List.mem_cons_of_mem _ this
      · exact this
theorem up_step {hs : List H3} {ws : List W3} (hu : upF hs ws = true) {a : Int} (h1 : 0 ≤ forF hs a ws) (h2 : 0 ≤ forF hs (forF hs a ws) ws) : levW a ws < levW (forF hs a ws) ws := by
  obtain ⟨y, hy1, hy2, hy3, hy4⟩ := for_wait h1
  obtain ⟨z, hz1, hz2, hz3, hz4⟩ := for_wait h2
  rw [hy3, hz3]
  have hz := List.all_eq_true.1 hu z hz1
  unfold upOne at hz
  rw [hz2, hy4] at hz
  have hm := owner_mem (lv := y.lv) (ix := y.ix) (hs := hs) (by rw [← hy4]; exact h1)
  have := List.all_eq_true.1 hz _ hm
  simpa using this

section
variable {f : Int → Int} {s : Int}
theorem walk_some_next {n : Nat} {cur : Int} {way r : List Int} (hs : 0 ≤ s) (h : refWalk f s n cur way = some r) : 0 ≤ f cur := by
  cases n with
  | zero => cases h
  | succ n =>
    rw [refWalk] at h
    split at h
    · omega
    · split at h
      · cases h
      · omega
theorem walk_up {lev : Int → Int} (hs : 0 ≤ s) (hss : 0 ≤ f s) (hup : ∀ a, 0 ≤ f a → 0 ≤ f (f a) → lev a < lev (f a)) : ∀ (n : Nat) (cur : Int) (way r : List Int), (cur = s ∨ lev s < lev cur) → refWalk f s n cur way = some r → False := by
  intro n
  induction n with
  | zero => intro cur way r _ h; cases h
  | succ n ih =>
    intro cur way r hc h
    have h1 := walk_some_next hs h
    rw [refWalk] at h
    split at h
    · rename_i he
      have h2 := hup cur h1 (by rw [he]; exact hss)
      rw [he] at h2
      rcases hc with rfl | hc
      · omega
      · omega
    · split at h
      · cases h
      · have h3 := walk_some_next hs h
        have h2 := hup cur h1 h3
        refine ih _ _ _ (.inr ?_) h
        rcases hc with rfl | hc
        · exact h2
        · omega
theorem refFrom_none : ∀ (k : Nat) (s : Int), (∀ j : Nat, j < k → refWalk f (s + j) 16 (s + j) [s + j] = none) → refFrom f k s = [] := by
  intro k
  induction k with
  | zero => intro s _; rfl
  | succ k ih =>
    intro s h
    have h0 := h 0 (by omega)
    simp only [Int.natCast_zero, Int.add_zero] at h0
    rw [refFrom, h0]
    refine ih _ (fun j hj => ?_)
    have := h (j + 1) (by omega)
    rw [show s + 1 + (j : Int) = s + ((j + 1 : Nat) : Int) by omega]
    exact this
theorem walk_ne {s : Int} : ∀ (n : Nat) (cur : Int) (way r : List Int), way ≠ [] → refWalk f s n cur way = some r → r ≠ [] := by
  intro n
  induction n with
  | zero => intro cur way r _ h; cases h
  | succ n ih =>
    intro cur way r hw h
    rw [refWalk] at h
    split at h
    · cases h; exact hw
    · split at h
      · cases h
      · exact ih _ _ _ (by simp) h
theorem refFrom_all : ∀ (k : Nat) (s : Int), refFrom f k s = [] → ∀ j : Nat, j < k → refWalk f (s + j) 16 (s + j) [s + j] = none := by
  intro k
  induction k with
  | zero => intro s _ j hj; omega
  | succ k ih =>
    intro s h j hj
    rw [refFrom] at h
    split at h
    · rename_i way hw
      exact absurd h (walk_ne _ _ _ _ (by simp) hw)
    · rename_i hw
      cases j with
      | zero => simpa using hw
      | succ j =>
        have := ih _ h j (by omega)
        rw [show s + ((j + 1 : Nat) : Int) = s + 1 + (j : Int) by omega]
        exact this

/-- The thread behind k steps. -/
def itF (f : Int → Int) (x : Int) : Nat → Int
  | 0 => x
  | k + 1 => f (itF f x k)
theorem itF_add (f : Int → Int) (x : Int) (i k : Nat) : itF f x (i + k) = itF f (itF f x i) k := by
  induction k with
  | zero => rfl
  | succ k ih => rw [← Nat.add_assoc, itF, itF, ih]
theorem itF_front (f : Int → Int) (x : Int) (k : Nat) : itF f x (k + 1) = itF f (f x) k := by
  rw [Nat.add_comm, itF_add]; rfl
theorem walk_back {s : Int} : ∀ (n : Nat) (cur : Int) (way : List Int) (p : Nat), 1 ≤ p → p ≤ n → itF f cur p = s → (∀ q, q ≤ p → 0 ≤ itF f cur q) → refWalk f s n cur way ≠ none := by
  intro n
  induction n with
  | zero => intro cur way p h1 h2; omega
  | succ n ih =>
    intro cur way p h1 h2 he hq
    rw [refWalk]
    split
    · simp
    · rename_i hne
      have h3 := hq 1 h1
      rw [if_neg (show ¬ f cur < 0 by have : itF f cur 1 = f cur := rfl; omega)]
      obtain ⟨p, rfl⟩ : ∃ q, p = q + 1 := ⟨p - 1, by omega⟩
      rw [itF_front] at he
      have hp : p ≠ 0 := fun e => by subst e; exact hne he
      exact ih _ _ p (by omega) (by omega) he (fun q hq2 => by rw [← itF_front]; exact hq (q + 1) (by omega))

theorem same_two (it : Nat → Int) (h : ∀ k, 0 ≤ it k ∧ it k < 16) : ∃ i j, i < j ∧ j ≤ 16 ∧ it i = it j := by
  refine Classical.byContradiction fun hno => ?_
  have hnd : ((List.range 17).map it).Nodup := by
    unfold List.Nodup
    rw [List.pairwise_map]
    refine List.Pairwise.imp_of_mem ?_ (List.pairwise_lt_range (n := 17))
    intro a b ha hb hab e
    exact hno ⟨a, b, hab, by have := List.mem_range.1 hb; omega, e⟩
  have := nodup_bound 16 _ hnd (fun x hx => by
    obtain ⟨k, _, rfl⟩ := List.mem_map.1 hx
    exact h k)
  simp at this
/-- Whoever goes on for ever comes round. -/
theorem cyc_found (x0 : Int) (h0 : 0 ≤ x0 ∧ x0 < 16) (hlt : ∀ a, f a < 16) (hgo : ∀ k, 0 ≤ itF f x0 k) : refCyc f ≠ [] := by
  intro hc
  have hb : ∀ k, 0 ≤ itF f x0 k ∧ itF f x0 k < 16 := fun k => ⟨hgo k, by cases k with | zero => exact h0.2 | succ k => exact hlt _⟩
  obtain ⟨i, j, hij, hj, he⟩ := same_two _ hb
  have hs := hb i
  have := refFrom_all 16 0 hc (itF f x0 i).toNat (by omega)
  rw [show (0 : Int) + ((itF f x0 i).toNat : Int) = itF f x0 i by omega] at this
  refine walk_back 16 _ _ (j - i) (by omega) (by omega) ?_ (fun q _ => by rw [← itF_add]; exact hgo _) this
  rw [← itF_add, show i + (j - i) = j by omega]; exact he.symm
end

theorem for_lt {hs : List H3} (hg : Good hs) (ws : List W3) (a : Int) : forF hs a ws < 16 := by
  induction ws with
  | nil => simp [forF]
  | cons x t ih =>
    rw [forF]
    split
    · exact owner_bound hg.2 _ _
    · exact ih
/-- Where waiting is upward, there is no cycle. -/
theorem up_none {hs : List H3} {ws : List W3} (hu : upF hs ws = true) : refCyc (fun th => forF hs th ws) = [] := by
  refine refFrom_none 16 0 (fun j hj => ?_)
  cases hw : refWalk (fun th => forF hs th ws) (0 + j) 16 (0 + j) [0 + (j : Int)] with
  | none => rfl
  | some r =>
    exfalso
    exact walk_up (lev := fun a => levW a ws) (by omega) (walk_some_next (by omega) hw) (fun a h1 h2 => up_step hu h1 h2) 16 _ _ _ (.inl rfl) hw
/-- Where there is no cycle, one of those who are waited for does not wait. -/
theorem none_free {hs : List H3} {ws : List W3} (hg : Good hs) (hw : WOk hs ws) (hne : ws ≠ []) (hc : refCyc (fun th => forF hs th ws) = []) : ∃ y ∈ ws, forF hs (ownerF y.lv y.ix hs) ws < 0 := by
  refine Classical.byContradiction fun hno => ?_
  have hall : ∀ y ∈ ws, 0 ≤ forF hs (ownerF y.lv y.ix hs) ws := fun y hy => by
    refine Classical.byContradiction fun h => hno ⟨y, hy, by omega⟩
  have hgo : ∀ a, 0 ≤ forF hs a ws → 0 ≤ forF hs (forF hs a ws) ws := fun a ha => by
    obtain ⟨y, h1, h2, h3, h4⟩ := for_wait ha
    rw [h4]; exact hall y h1
  cases ws with
  | nil => exact hne rfl
  | cons x t =>
    have hx := hw.2 x List.mem_cons_self
    have h0 : 0 ≤ forF hs x.th (x :: t) := by
      rw [forF, if_pos (by simp)]; exact owner_in hg.2 hx.2.2
    refine cyc_found (f := fun th => forF hs th (x :: t)) x.th ⟨hx.1, hx.2.1⟩ (fun a => for_lt hg _ a) (fun k => ?_) hc
    have : ∀ k, 0 ≤ itF (fun th => forF hs th (x :: t)) x.th k ∧ 0 ≤ forF hs (itF (fun th => forF hs th (x :: t)) x.th k) (x :: t) := by
      intro k
      induction k with
      | zero => exact ⟨hx.1, h0⟩
      | succ k ih => exact ⟨ih.2, hgo _ ih.2⟩
    exact (this k).1
end Go.Proofs.Ytfdfadebfdmdgaa
