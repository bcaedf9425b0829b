/- Cycle: the plain part, and the map that Cycle fills. -/
import Derived.Test.YtfdfadebfdmdgaaLkR
import Derived.Test.YtfdfadebfdmdgaaLkT
import Derived.Maps.OwnSet
import Derived.Maps.Views
namespace Go.Proofs.Ytfdfadebfdmdgaa
open Go.RowKit Go.Maps

/-! ### The plain part -/
def cycWalk (p : Int → Option Int) (s : Int) : Nat → Int → List Int → Option (List Int)
  | 0, _, _ => none
  | n + 1, cur, way => match p cur with
    | none => none
    | some to => if to = s then some way else if way.any (fun y => to == y) = true then none else cycWalk p s n to (way ++ [to])

theorem refWalk_lost (f : Int → Int) (s : Int) (S : List Int) (h : ∀ x ∈ S, f x ∈ S ∧ f x ≠ s) : ∀ (n : Nat) (cur : Int) (way : List Int), cur ∈ S → refWalk f s n cur way = none := by
  intro n
  induction n with
  | zero => intro cur way _; rfl
  | succ n ih =>
    intro cur way hc
    obtain ⟨h1, h2⟩ := h cur hc
    rw [refWalk, if_neg h2]
    split
    · rfl
    · exact ih _ _ h1

theorem cycWalk_eq (p : Int → Option Int) (f : Int → Int) (s : Int) (hs : 0 ≤ s) (hn : ∀ x, p x = none → f x = -1) (hy : ∀ x y, p x = some y → f x = y ∧ 0 ≤ y) :
    ∀ (n : Nat) (cur : Int) (way : List Int), (∀ x ∈ way, x = cur ∨ (f x ∈ way ∧ f x ≠ s)) → cycWalk p s n cur way = refWalk f s n cur way := by
  intro n
  induction n with
  | zero => intro cur way _; rfl
  | succ n ih =>
    intro cur way hw
    rw [cycWalk, refWalk]
    cases hp : p cur with
    | none => rw [hn _ hp, if_neg (by omega), if_pos (by omega)]
    | some to =>
      obtain ⟨h1, h2⟩ := hy _ _ hp
      simp only []
      rw [h1]
      by_cases he : to = s
      · rw [if_pos he, if_pos he]
      · rw [if_neg he, if_neg he, if_neg (show ¬ to < 0 by omega)]
        by_cases ha : way.any (fun y => to == y) = true
        · rw [if_pos ha]
          have hm : to ∈ way := by
            obtain ⟨y, hy1, hy2⟩ := List.any_eq_true.1 ha
            have : to = y := by simpa using hy2
            rw [this]; exact hy1
          refine (refWalk_lost f s (way ++ [to]) ?_ n to _ (by simp)).symm
          intro x hx
          have hx' : x ∈ way := by
            rcases List.mem_append.1 hx with h | h
            · exact h
            · have : x = to := by simpa using h
              rw [this]; exact hm
          rcases hw x hx' with rfl | ⟨h3, h4⟩
          · rw [h1]; exact ⟨by simp, he⟩
          · exact ⟨List.mem_append_left _ h3, h4⟩
        · rw [if_neg ha]
          refine ih to _ ?_
          intro x hx
          rcases List.mem_append.1 hx with h | h
          · right
            rcases hw x h with rfl | ⟨h3, h4⟩
            · rw [h1]; exact ⟨by simp, he⟩
            · exact ⟨List.mem_append_left _ h3, h4⟩
          · left; simpa using h

theorem nodup_bound : ∀ (n : Nat) (l : List Int), l.Nodup → (∀ x ∈ l, 0 ≤ x ∧ x < n) → l.length ≤ n := by
  intro n
  induction n with
  | zero =>
    intro l _ h
    cases l with
    | nil => simp
    | cons a t => have := h a (List.mem_cons_self); omega
  | succ n ih =>
    intro l hd h
    have h1 := ih (l.erase (n : Int)) (hd.erase _) (fun x hx => by
      have hm := (List.Nodup.mem_erase_iff hd).1 hx
      have := h x hm.2
      have := hm.1
      omega)
    by_cases hm : (n : Int) ∈ l
    · rw [List.length_erase_of_mem hm] at h1; omega
    · rw [List.erase_of_not_mem hm] at h1; omega

/-- The thread that a waiting thread waits for. -/
def nextP (hs : List H3) (ws : List W3) (x : Int) : Option Int := (ws.find? fun y => y.th == x).map fun y => ownerF y.lv y.ix hs
theorem forF_next (hs : List H3) (x : Int) : ∀ ws : List W3, forF hs x ws = (nextP hs ws x).getD (-1) := by
  intro ws
  induction ws with
  | nil => rfl
  | cons y t ih =>
    rw [forF]
    cases hh : y.th == x
    · rw [if_neg (by simp), ih, nextP, nextP, List.find?_cons, hh]
    · rw [if_pos rfl, nextP, List.find?_cons, hh]; rfl
theorem nextP_snoc (hs : List H3) (ws : List W3) (k : Nat) (hk : k < ws.length) (hnew : (ws.take k).any (fun y => y.th == ws[k].th) = false) (x : Int) :
    nextP hs (ws.take (k + 1)) x = if x = ws[k].th then some (ownerF ws[k].lv ws[k].ix hs) else nextP hs (ws.take k) x := by
  rw [take_snoc _ _ hk]
  unfold nextP
  rw [List.find?_append]
  by_cases hx : x = ws[k].th
  · subst hx
    rw [if_pos rfl]
    have : (ws.take k).find? (fun y => y.th == ws[k].th) = none := by
      rw [List.find?_eq_none]
      intro y hy
      have := List.any_eq_false.1 hnew y hy
      simpa using this
    rw [this]; simp
  · rw [if_neg hx]
    have : ([ws[k]] : List W3).find? (fun y => y.th == x) = none := by simp; omega
    rw [this, Option.or_none]

/-! ### What a list of waits without error says -/
theorem cwFrom_ok (hs : List H3) : ∀ (ws done : List W3), cwFrom hs done ws = 0 → ∀ k (hk : k < ws.length), validB ws[k].lv ws[k].ix ws[k].th = true ∧ (done ++ ws.take k).any (fun y => y.th == ws[k].th) = false ∧ ¬ ownerF ws[k].lv ws[k].ix hs < 0 := by
  intro ws
  induction ws with
  | nil => intro done _ k hk; simp at hk
  | cons x t ih =>
    intro done h0 k hk
    simp only [cwFrom] at h0
    split at h0
    · simp at h0
    · rename_i h1
      split at h0
      · simp at h0
      · rename_i h2
        split at h0
        · simp at h0
        · rename_i h3
          cases k with
          | zero => simp only [List.getElem_cons_zero, List.take_zero, List.append_nil]; exact ⟨by simpa using h1, by simpa using h2, h3⟩
          | succ k =>
            have := ih _ h0 k (by simpa using hk)
            simp only [List.getElem_cons_succ, List.take_succ_cons]
            rw [List.append_assoc] at this
            exact this
theorem cw_ok {hs : List H3} {ws : List W3} (h0 : cwF hs ws = 0) : checkF hs = 0 ∧ ∀ k (hk : k < ws.length), validB ws[k].lv ws[k].ix ws[k].th = true ∧ (ws.take k).any (fun y => y.th == ws[k].th) = false ∧ ¬ ownerF ws[k].lv ws[k].ix hs < 0 := by
  unfold cwF at h0
  split at h0
  · rename_i h1
    exact ⟨h1, fun k hk => by simpa using cwFrom_ok hs ws [] h0 k hk⟩
  · omega
theorem owner_bound {hs : List H3} (hv : ∀ h ∈ hs, validB h.lv h.ix h.th = true) (lv ix : Int) : ownerF lv ix hs < 16 := by
  induction hs with
  | nil => simp [ownerF]
  | cons x t ih =>
    simp only [ownerF]
    split
    · exact (valid_th (hv x List.mem_cons_self)).2
    · exact ih fun h hh => hv h (List.mem_cons_of_mem _ hh)
theorem next_bound {hs : List H3} {ws : List W3} (h0 : cwF hs ws = 0) {x y : Int} (h : nextP hs ws x = some y) : 0 ≤ y ∧ y < 16 := by
  obtain ⟨h1, h2⟩ := cw_ok h0
  unfold nextP at h
  rw [Option.map_eq_some_iff] at h
  obtain ⟨z, hz, rfl⟩ := h
  have hm := List.mem_of_find?_eq_some hz
  obtain ⟨k, hk, rfl⟩ := List.getElem_of_mem hm
  exact ⟨by have := (h2 k hk).2.2; omega, owner_bound (check_valid h1) _ _⟩

/-! ### The map -/
def MapIs (D : DataW Nat) (p : Int → Option Int) : Prop := IsMap D ∧ ∀ x : Int, (p x = none → has D (.int .i64 x) = false) ∧ ∀ y, p x = some y → has D (.int .i64 x) = true ∧ ∀ z, D.atKey (.int .i64 x) z = .lit (.int .i64 y)
theorem mapIs_empty : MapIs (.map []) (fun _ => none) := ⟨isMap_empty, fun x => ⟨fun _ => rfl, fun y h => by cases h⟩⟩
theorem mapIs_put {D : DataW Nat} {p : Int → Option Int} (h : MapIs D p) (a b : Int) {q : Int → Option Int} (hq : ∀ x, q x = if x = a then some b else p x) : MapIs (D.put (.int .i64 a) (.lit (.int .i64 b))) q := by
  refine ⟨h.1.put _ _, fun x => ?_⟩
  rw [hq]
  by_cases hx : x = a
  · subst hx
    rw [if_pos rfl]
    refine ⟨(fun h => by cases h), fun y hy => ?_⟩
    cases hy
    have hkl : WideAt.IsKeyLit (.int .i64 x) := trivial
    exact ⟨has_put_same h.1 hkl _, fun z => atKey_put_same h.1 hkl _ z⟩
  · rw [if_neg hx]
    have hne : (Lit.int .i64 x) ≠ .int .i64 a := fun e => hx (by cases e; rfl)
    rw [has_put_other hne]
    refine ⟨(h.2 x).1, fun y hy => ⟨((h.2 x).2 y hy).1, fun z => ?_⟩⟩
    rw [atKey_put_other hne]
    exact ((h.2 x).2 y hy).2 z

theorem lawI : Keyed Try.prog 3 := int_keyed Try.underlying3
theorem zeroI (w : World) : (zeroValue 3).run Try.prog w = .ok (.int .i64 0) w := by kernel_rfl

/-- What Cycle returns. -/
def cycF (hs : List H3) (ws : List W3) : List Int := if cwF hs ws = 0 then refCyc fun th => forF hs th ws else []
end Go.Proofs.Ytfdfadebfdmdgaa
