/- A region that draws its order, in which a condition on the world holds until its last stores: what reads is taken first, the stores that wait for it need not leave the condition standing. -/
import Derived.Test.YtbkpgmlibiclfaaGreatDoorSerl
namespace Go.Proofs.YtbkpgmlibiclfaaGreatDoor
open Go.RowKit

section
variable {P : Program} {ops : Array Oper} {Q : Exit → Act → World → Prop} {md : Region.Mode} {S : World → Prop} {M : Nat → Bool}

/-- Whatever order is drawn: behind each operation that is not marked S holds. -/
def anyU (P : Program) (md : Region.Mode) (ops : Array Oper) (Q : Exit → Act → World → Prop) (S : World → Prop) (M : Nat → Bool) : Nat → Array Bool → Act → World → Prop
  | 0, listed, a, w => Region.ready md ops listed = [] ∧ Q .normal a w
  | n + 1, listed, a, w => (Region.ready md ops listed = [] → Q .normal a w) ∧
      ∀ j ∈ Region.ready md ops listed, wpOp P ops Q j (fun a' w' => (M j = false → S w') ∧ anyU P md ops Q S M n (listed.setIfInBounds j true) a' w') a w
theorem anyU_any : ∀ (n : Nat) (listed : Array Bool) (a : Act) (w : World), anyU P md ops Q S M n listed a w → wpAny P md ops Q n listed a w
  | 0, _, _, _, h => h
  | n + 1, _, _, _, h => ⟨h.1, fun j hj => wpOp_mono (fun a' w' h' => anyU_any n _ a' w' h'.2) (h.2 j hj)⟩
/-- Every marked operation waits for number i. -/
def waitU (md : Region.Mode) (ops : Array Oper) (M : Nat → Bool) (i : Nat) : Bool :=
  (List.range ops.size).all fun j => !M j || (match ops[j]? with
    | some o => o.after.any fun e => Region.binds md e && e.on == i
    | none => true)
theorem waitU_spec {i j : Nat} {oj : Oper} (h : waitU md ops M i = true) (hj : ops[j]? = some oj) (hno : ∀ e ∈ oj.after, Region.binds md e = true → e.on ≠ i) : M j = false := by
  have h1 := List.all_eq_true.1 h j (List.mem_range.2 (Array.getElem?_eq_some_iff.1 hj).1)
  rw [hj] at h1
  cases hM : M j with
  | false => rfl
  | true =>
    rw [hM] at h1
    simp only [Bool.not_true, Bool.false_or] at h1
    obtain ⟨e, he, hb⟩ := Array.any_eq_true'.1 h1
    simp only [Bool.and_eq_true, beq_iff_eq] at hb
    exact absurd hb.2 (hno e he hb.1)
theorem anyU_first {i : Nat} {oi : Oper} {v : Value} (hi : ops[i]? = some oi) (hsel : ∀ (j : Nat) (o : Oper) cs b, ops[j]? = some o → o.op ≠ .select cs b)
    (hQ : ∀ c a w, Q (.panic c) (a.put oi.dst v) w → Q (.panic c) a w) (hM : waitU md ops M i = true) : ∀ (n : Nat) (listed : Array Bool) (a : Act) (w : World),
      (∀ j oj, ops[j]? = some oj → j ≠ i → listed.getD j true = false → (∀ e ∈ oj.after, Region.binds md e = true → e.on ≠ i) → oi.apart ops oj = true) →
      i ∈ Region.ready md ops listed → YieldsIf P ops S oi v a → S w →
      anyU P md ops Q S M n (listed.setIfInBounds i true) (a.put oi.dst v) w → anyU P md ops Q S M (n + 1) listed a w := by
  intro n
  induction n with
  | zero =>
    intro listed a w _ hr hy hS H
    refine ⟨fun h0 => absurd hr (by rw [h0]; simp), fun j hj => ?_⟩
    by_cases e : j = i
    · rw [e]; exact hy.wpOp hi hS ⟨fun _ => hS, H⟩
    · exact absurd (ready_mono hj e) (by rw [H.1]; simp)
  | succ n ih =>
    intro listed a w hfr hr hy hS H
    refine ⟨fun h0 => absurd hr (by rw [h0]; simp), fun j hj => ?_⟩
    by_cases e : j = i
    · rw [e]; exact hy.wpOp hi hS ⟨fun _ => hS, H⟩
    · obtain ⟨hun, oj, hoj, hall⟩ := mem_ready.1 hj
      have hno : ∀ e ∈ oj.after, Region.binds md e = true → e.on ≠ i := by
        intro d hd hb hon
        have hl := hall d hd hb
        have hl0 := (mem_ready.1 hr).1
        rw [hon] at hl
        rcases Nat.lt_or_ge i listed.size with hs | hs
        · simp [hs] at hl hl0; rw [hl] at hl0; cases hl0
        · simp [Array.getElem?_eq_none hs] at hl0
      have hMj : M j = false := waitU_spec hM hoj hno
      have hstep := wpOp_putIf hoj (hfr j oj hoj e hun hno) (fun cs b => hsel i oi cs b hi) (fun cs b => hsel j oj cs b hoj) hQ hy (H.2 j (ready_mono hj e))
      refine wpOp_mono (fun a' w' h3 => ?_) hstep
      obtain ⟨hy', hS', H'⟩ := h3
      refine ⟨fun _ => hS' hMj, ih _ a' w' (fun k ok hk hki hku hkn => hfr k ok hk hki ?_ hkn) (ready_mono hr (Ne.symm e)) hy' (hS' hMj) ?_⟩
      · by_cases ejk : j = k
        · rw [← ejk]; exact hun
        · rwa [getD_set_ne true ejk] at hku
      · rw [Array.setIfInBounds_comm _ _ e]; exact H'
end

section
variable {P : Program} {l : List Oper} {Q : Exit → Act → World → Prop} {md : Region.Mode} {S : World → Prop} {M : Nat → Bool}
theorem takeU_run (i : Nat) {oi : Oper} {rest : List Oper} {v : Value} {fuel : Nat} {listed : Array Bool} {a : Act} {w : World} (hi : l.drop i = oi :: rest)
    (hs : Region.noSelect l.toArray = true) (hf : Region.free md l.toArray listed i = true) (hr : (Region.ready md l.toArray listed).contains i = true) (hM : waitU md l.toArray M i = true)
    (hQ : ∀ c a w, Q (.panic c) (a.put oi.dst v) w → Q (.panic c) a w) (hw : Region.wanted oi (yielded l.toArray a.tmps) = true)
    (hv : ∀ w, S w → (execOp a.eval oi).run P w = .ok (.value v) w) (hS : S w)
    (h : anyU P md l.toArray Q S M fuel (listed.setIfInBounds i true) (a.put oi.dst v) w) : anyU P md l.toArray Q S M (fuel + 1) listed a w := by
  exact anyU_first (at_drop hi) (Region.noSelect_spec hs) hQ hM fuel listed a w (Region.free_spec (at_drop hi) hf) (by simpa using hr) (.inl ⟨hw, hv⟩) hS h
theorem takeU_skip (i : Nat) {oi : Oper} {rest : List Oper} {fuel : Nat} {listed : Array Bool} {a : Act} {w : World} (hi : l.drop i = oi :: rest)
    (hs : Region.noSelect l.toArray = true) (hf : Region.free md l.toArray listed i = true) (hr : (Region.ready md l.toArray listed).contains i = true) (hM : waitU md l.toArray M i = true)
    (hQ : ∀ c a w, Q (.panic c) (a.put oi.dst undef) w → Q (.panic c) a w) (hw : Region.wanted oi (yielded l.toArray a.tmps) = false) (hS : S w)
    (h : anyU P md l.toArray Q S M fuel (listed.setIfInBounds i true) (a.put oi.dst undef) w) : anyU P md l.toArray Q S M (fuel + 1) listed a w := by
  exact anyU_first (at_drop hi) (Region.noSelect_spec hs) hQ hM fuel listed a w (Region.free_spec (at_drop hi) hf) (by simpa using hr) (.inr ⟨hw, rfl⟩) hS h
/-- An operation alone; behind it S holds. -/
theorem takeU_call (i : Nat) {oi : Oper} {rest : List Oper} {fuel : Nat} {listed : Array Bool} {a : Act} {w : World} (hi : l.drop i = oi :: rest)
    (hr : Region.ready md l.toArray listed = [i]) (hw : Region.wanted oi (yielded l.toArray a.tmps) = true)
    (h : ∀ K' : Act → World → Prop, Shut (∀ a w, S w → (S w → anyU P md l.toArray Q S M fuel (listed.setIfInBounds i true) a w) → K' a w) → Oper.wp P oi a w K' Q) : anyU P md l.toArray Q S M (fuel + 1) listed a w :=
  ⟨fun h0 => absurd h0 (by rw [hr]; simp), fun j hj => by
    rw [hr] at hj
    obtain rfl := List.mem_singleton.1 hj
    exact wpOp_step (at_drop hi) fun K hK => by rw [if_pos hw]; exact h K (fun a w hS hW => hK a w ⟨fun _ => hS, hW hS⟩)⟩
/-- A marked operation alone: S need not hold behind it. -/
theorem takeU_last (i : Nat) {oi : Oper} {rest : List Oper} {fuel : Nat} {listed : Array Bool} {a : Act} {w : World} (hi : l.drop i = oi :: rest)
    (hr : Region.ready md l.toArray listed = [i]) (hMi : M i = true) (hw : Region.wanted oi (yielded l.toArray a.tmps) = true)
    (h : ∀ K' : Act → World → Prop, Shut (∀ a w, anyU P md l.toArray Q S M fuel (listed.setIfInBounds i true) a w → K' a w) → Oper.wp P oi a w K' Q) : anyU P md l.toArray Q S M (fuel + 1) listed a w :=
  ⟨fun h0 => absurd h0 (by rw [hr]; simp), fun j hj => by
    rw [hr] at hj
    obtain rfl := List.mem_singleton.1 hj
    exact wpOp_step (at_drop hi) fun K hK => by rw [if_pos hw]; exact h K (fun a w hW => hK a w ⟨fun h0 => (by rw [hMi] at h0; cases h0), hW⟩)⟩
theorem anyU_done {listed : Array Bool} {a : Act} {w : World} (hr : Region.ready md l.toArray listed = []) (h : Q .normal a w) : ∀ fuel, anyU P md l.toArray Q S M fuel listed a w
  | 0 => ⟨hr, h⟩
  | _ + 1 => ⟨fun _ => h, by rw [hr]; simp⟩
theorem anyU_begin {id : Nat} {a : Act} {w : World} (hm : P.follows .mixedOrders = true) (hS : S w.drew)
    (h : S w.drew → anyU P .any l.toArray Q S M l.toArray.size (Array.replicate l.toArray.size false) a w.drew) : (Code.region id l.toArray true).wp P Q a w :=
  wp_region_any hm (anyU_any _ _ _ _ (h hS))
end
end Go.Proofs.YtbkpgmlibiclfaaGreatDoor
