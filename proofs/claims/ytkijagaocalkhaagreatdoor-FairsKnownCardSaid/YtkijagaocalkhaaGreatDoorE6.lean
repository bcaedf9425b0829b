/- Drawn regions; the evaluator's soundness; closed calls reckoned once. -/
import Derived.Test.YtkijagaocalkhaaGreatDoorE5
import Derived.OrdersIn
import Derived.RecoverIn
import Derived.Below
set_option maxRecDepth 4000

/-! Regions that draw: what is computed. -/
namespace Go.Ev

theorem exV_good {r : R} {q : V → R} (h : (exV r q).Good) : ∃ t d hh c, r = .norm t d hh c ∧ exV r q = q (T.get .h t) := by
  cases r <;> first | exact ⟨_, _, _, _, rfl, rfl⟩ | exact (bad_good h).elim
theorem exA_good {r : R} {q : V → Blk → R} (h : (exA r q).Good) : ∃ t d hh c, r = .norm t d hh c ∧ exA r q = q (T.get .h t) (H.get .h hh) := by
  cases r <;> first | exact ⟨_, _, _, _, rfl, rfl⟩ | exact (bad_good h).elim
theorem exW_good {r : R} {q : KW} (h : (exW r q).Good) : ∃ t d hh c, r = .norm t d hh c ∧ exW r q = q (T.get .h t) d hh c := by
  cases r <;> first | exact ⟨_, _, _, _, rfl, rfl⟩ | exact (bad_good h).elim
theorem kW_inj {v v' : V} {d d' : List D} {h h' : H} {c c' : Nm} (e : kW v d h c = kW v' d' h' c') : v = v' ∧ d = d' ∧ h = h' ∧ c = c' := by
  have e' : R.norm (.nd .e v .e) d h c = R.norm (.nd .e v' .e) d' h' c' := e
  injection e' with e1 e2 e3 e4
  injection e1 with _ e5 _
  exact ⟨e5, e2, e3, e4⟩
theorem kW_Good (v : V) (d : List D) (h : H) (c : Nm) : (kW v d h c).Good := fun n hn => by cases hn
section
variable {cal : Cal} {t : T}
/-- an operation's outcome does not hang on what follows -/
def Det (cal : Cal) (t : T) (o : Iop) (n : List V) (d : List D) (h : H) (c : Nm) (v : V) (d' : List D) (h' : H) (c' : Nm) : Prop := ∀ k : KW, execX o cal n t d h c k = k v d' h' c'
theorem execX_det : ∀ (o : Iop) (n : List V) (d : List D) (h : H) (c : Nm) (k : KW), (execX o cal n t d h c k).Good → ∃ v d' h' c', Det cal t o n d h c v d' h' c' := by
  intro o
  induction o with
  | p f =>
    intro n d h c k hg
    obtain ⟨tt, _, _, _, e1, _⟩ := exV_good (r := f n t kV) (q := fun v => k v d h c) hg
    exact ⟨T.get .h tt, d, h, c, fun k' => by show exV (f n t kV) (fun v => k' v d h c) = _; rw [e1]; rfl⟩
  | r x f =>
    intro n d h c k hg
    obtain ⟨tt, _, _, _, e1, _⟩ := exV_good (r := rdK x f n t h kV) (q := fun v => k v d h c) hg
    exact ⟨T.get .h tt, d, h, c, fun k' => by show exV (rdK x f n t h kV) (fun v => k' v d h c) = _; rw [e1]; rfl⟩
  | a f => intro n d h c k hg; exact (bad_good hg).elim
  | w f =>
    intro n d h c k hg
    obtain ⟨tt, d', h', c', e1, _⟩ := exW_good (r := f cal n t d h c kW) (q := k) hg
    exact ⟨T.get .h tt, d', h', c', fun k' => by show exW (f cal n t d h c kW) k' = _; rw [e1]; rfl⟩
  | g x want o ih =>
    intro n d h c k hg
    have e0 : ∀ k', execX (.g x want o) cal n t d h c k' = guardK (ev x n t) (fun z => Bool.rec (k' .u d h c) (execX o cal n t d h c k') (Bool.rec (notB want) want z)) (k' .u d h c) := fun _ => rfl
    rw [e0] at hg
    rcases guard_good hg with ⟨z, hz, e1⟩ | ⟨_, hnb, e1⟩
    · rw [e1] at hg
      cases hb : (Bool.rec (notB want) want z : Bool) with
      | false => exact ⟨.u, d, h, c, fun k' => by rw [e0, hz]; show (Bool.rec _ _ (Bool.rec (notB want) want z : Bool) : R) = _; rw [hb]⟩
      | true =>
        rw [hb] at hg
        obtain ⟨v, d', h', c', hd⟩ := ih n d h c k hg
        exact ⟨v, d', h', c', fun k' => by rw [e0, hz]; show (Bool.rec _ _ (Bool.rec (notB want) want z : Bool) : R) = _; rw [hb]; exact hd k'⟩
    · refine ⟨.u, d, h, c, fun k' => ?_⟩
      rw [e0]
      cases hv : ev x n t <;> first
        | rfl
        | (rw [hv] at hg; exact (bad_good hg).elim)
        | (rw [hv] at hnb; exact absurd rfl (hnb _))
  | k x f j =>
    intro n d h c k hg
    have hg0 : (exV (rdK x f n t h kV) (fun v => @Bool.rec (fun _ => R) (.bad 99) (k .u d h c) (sameV v (nth j n)))).Good := hg
    obtain ⟨tt, _, _, _, e1, e2⟩ := exV_good hg0
    have hg' := good_of e2 hg0
    obtain ⟨hz, _⟩ := rec_good hg'
    exact ⟨.u, d, h, c, fun k' => by show exV (rdK x f n t h kV) (fun v => @Bool.rec (fun _ => R) (.bad 99) (k' .u d h c) (sameV v (nth j n))) = _; rw [e1]; show (Bool.rec _ _ (sameV (T.get .h tt) (nth j n)) : R) = _; rw [hz]⟩
  | an j f =>
    intro n d h c k hg
    obtain ⟨nm, hnm, e1⟩ := asM_good (v := nth j n) (q := fun nm => exA (f n t (fun mk b => .norm (.nd .e (mk nm) .e) [] (.nd .e b .e) .h)) (fun v b => k v d (H.set nm b h) c)) hg
    have hg' := good_of e1 hg
    obtain ⟨tt, _, hh, _, e2, _⟩ := exA_good hg'
    exact ⟨T.get .h tt, d, H.set nm (H.get .h hh) h, c, fun k' => by
      show asM (nth j n) (fun nm => exA (f n t (fun mk b => .norm (.nd .e (mk nm) .e) [] (.nd .e b .e) .h)) (fun v b => k' v d (H.set nm b h) c)) = _
      rw [hnm]
      show exA (f n t (fun mk b => .norm (.nd .e (mk nm) .e) [] (.nd .e b .e) .h)) (fun v b => k' v d (H.set nm b h) c) = _
      rw [e2]; rfl⟩
  | bad m => intro n d h c k hg; exact (bad_good hg).elim
theorem chkL_good : ∀ (l : List Iop) (n : List V) (d : List D) (h : H) (c : Nm) (r : R), (chkL l cal n t d h c r).Good → (∀ ck ∈ l, ∃ v d' h' c', Det cal t ck n d h c v d' h' c') ∧ chkL l cal n t d h c r = r := by
  intro l
  induction l with
  | nil => intro n d h c r _; exact ⟨fun _ hm => (by cases hm), rfl⟩
  | cons o l ih =>
    intro n d h c r hg
    have e0 : chkL (o :: l) cal n t d h c r = execX o cal n t d h c (fun _ _ _ _ => chkL l cal n t d h c r) := rfl
    rw [e0] at hg
    obtain ⟨v, d', h', c', hd⟩ := execX_det o n d h c _ hg
    rw [hd] at hg
    have := ih n d h c r hg
    refine ⟨fun ck hm => ?_, e0.trans ((hd _).trans this.2)⟩
    rcases List.mem_cons.1 hm with rfl | hm
    · exact ⟨v, d', h', c', hd⟩
    · exact this.1 ck hm
/-- the run of a region, place by place -/
structure RunD (cal : Cal) (t : T) (l : List (Iop × List Iop)) (v : Nat → V) (nS : Nat → List V) (dS : Nat → List D) (hS : Nat → H) (cS : Nat → Nm) : Prop where
  det : ∀ m it, l[m]? = some it → Det cal t it.1 (nS m) (dS m) (hS m) (cS m) (v m) (dS (m + 1)) (hS (m + 1)) (cS (m + 1))
  ns : ∀ m it, l[m]? = some it → nS (m + 1) = v m :: nS m
  ck : ∀ m it, l[m]? = some it → ∀ k ∈ it.2, ∃ v' d' h' c', Det cal t k (nS (m + 1)) (dS (m + 1)) (hS (m + 1)) (cS (m + 1)) v' d' h' c'
theorem execD_run : ∀ (l : List (Iop × List Iop)) (n : List V) (d : List D) (h : H) (c : Nm) (k : List V → List D → H → Nm → R), (execD l cal n t d h c k).Good →
    ∃ v nS dS hS cS, nS 0 = n ∧ dS 0 = d ∧ hS 0 = h ∧ cS 0 = c ∧ RunD cal t l v nS dS hS cS ∧ execD l cal n t d h c k = k (nS l.length) (dS l.length) (hS l.length) (cS l.length) := by
  intro l
  induction l with
  | nil => intro n d h c k _; exact ⟨fun _ => .x, fun _ => n, fun _ => d, fun _ => h, fun _ => c, rfl, rfl, rfl, rfl, ⟨fun m it hm => (by cases hm), fun m it hm => (by cases hm), fun m it hm => (by cases hm)⟩, rfl⟩
  | cons o l ih =>
    intro n d h c k hg
    have e0 : execD (o :: l) cal n t d h c k = execX o.1 cal n t d h c (fun v d h c => chkL o.2 cal (v :: n) t d h c (execD l cal (v :: n) t d h c k)) := rfl
    rw [e0] at hg
    obtain ⟨v0, d0, h0, c0, hd⟩ := execX_det o.1 n d h c _ hg
    rw [hd] at hg
    obtain ⟨hck, e1⟩ := chkL_good o.2 (v0 :: n) d0 h0 c0 _ hg
    have hg2 := good_of e1 hg
    obtain ⟨v, nS, dS, hS, cS, g1, g2, g3, g4, hrun, e2⟩ := ih (v0 :: n) d0 h0 c0 k hg2
    refine ⟨fun m => match m with | 0 => v0 | m + 1 => v m, fun m => match m with | 0 => n | m + 1 => nS m, fun m => match m with | 0 => d | m + 1 => dS m, fun m => match m with | 0 => h | m + 1 => hS m, fun m => match m with | 0 => c | m + 1 => cS m, rfl, rfl, rfl, rfl, ⟨?_, ?_, ?_⟩, ?_⟩
    · intro m it hm
      cases m with
      | zero =>
        have : o = it := by simpa using hm
        subst this
        show Det cal t o.1 n d h c v0 (dS 0) (hS 0) (cS 0)
        rw [g2, g3, g4]; exact hd
      | succ m => exact hrun.det m it (by simpa using hm)
    · intro m it hm
      cases m with
      | zero => exact g1
      | succ m => exact hrun.ns m it (by simpa using hm)
    · intro m it hm
      cases m with
      | zero =>
        have : o = it := by simpa using hm
        subst this
        intro ck hm2
        obtain ⟨v', d', h', c', hd'⟩ := hck ck hm2
        refine ⟨v', d', h', c', ?_⟩
        show Det cal t ck (nS 0) (dS 0) (hS 0) (cS 0) v' d' h' c'
        rw [g1, g2, g3, g4]; exact hd'
      | succ m => exact hrun.ck m it (by simpa using hm)
    · rw [e0, hd, e1, e2]; rfl
end
/-! results by number -/
theorem nth_get : ∀ (j : Nat) (l : List V), nth (U.ofNat j) l = l[j]?.getD .x
  | 0, [] => rfl
  | 0, _ :: _ => rfl
  | j + 1, [] => by
    show nth (U.ofNat (j + 1)) [] = .x
    have : ∀ j, nth (U.ofNat j) [] = .x := by
      intro j
      cases j <;> rfl
    exact this _
  | j + 1, a :: l => by
    show nth (U.ofNat j) l = _
    rw [nth_get j l]; simp
/-- names that are laid by -/
noncomputable def addK (c : Nm) : Nat → Nm
  | 0 => c
  | k + 1 => addK c.succ k
theorem addK_toNat : ∀ (k : Nat) (c : Nm), (addK c k).toNat = c.toNat + k
  | 0, c => rfl
  | k + 1, c => by rw [addK, addK_toNat k, nm_succ]; omega
theorem addK_succ : ∀ (k : Nat) (c : Nm), (addK c k).succ = addK c (k + 1)
  | 0, _ => rfl
  | k + 1, c => by rw [addK, addK_succ k]; rfl
theorem resN_spec : ∀ (k : Nat) (c : Nm) (n : List V) (q : List V → Nm → R), ∃ l : List V, l.length = k ∧ (∀ j, j < k → l[k - 1 - j]? = some (.m (addK c j))) ∧ resN k c n q = q (l ++ n) (addK c k)
  | 0, c, n, q => ⟨[], rfl, fun j hj => absurd hj (Nat.not_lt_zero _), rfl⟩
  | k + 1, c, n, q => by
    obtain ⟨l, h1, h2, h3⟩ := resN_spec k c.succ (.m c :: n) q
    refine ⟨l ++ [.m c], by simp [h1], fun j hj => ?_, ?_⟩
    · cases j with
      | zero =>
        have e1 : k + 1 - 1 - 0 = l.length := by omega
        rw [e1]; simp; rfl
      | succ j =>
        have := h2 j (by omega)
        have hlt : k - 1 - j < l.length := by omega
        have e1 : k + 1 - 1 - (j + 1) = k - 1 - j := by omega
        rw [e1, List.getElem?_append_left hlt, this]
        rfl
    · have e1 : resN (k + 1) c n q = resN k c.succ (.m c :: n) q := rfl
      rw [e1, h3]
      simp [addK]
end Go.Ev

/-! Regions that draw: the plan. -/
namespace Go.Ev

theorem lor_bit (a b q : Nat) : Nat.testBit (Nat.lor a b) q = (Nat.testBit a q || Nat.testBit b q) := Nat.testBit_or a b q
theorem shl_bit (i q : Nat) : Nat.testBit (Nat.shiftLeft 1 i) q = decide (q = i) := by
  show Nat.testBit (1 <<< i) q = _
  rw [Nat.testBit_shiftLeft]
  by_cases h : q = i
  · subst h; simp
  · by_cases h2 : i ≤ q
    · have h3 : Nat.testBit 1 (q - i) = false := by rw [← Bool.not_eq_true, Nat.testBit_one_eq_true_iff_self_eq_zero]; omega
      simp [h3, h]
    · simp [h2, h]
theorem lor_sub {a b q : Nat} (h : Nat.beq (Nat.lor a b) b = true) (hq : Nat.testBit a q = true) : Nat.testBit b q = true := by
  have e := Nat.beq_eq.mp h
  rw [← e, lor_bit, hq]; rfl
theorem edgesM_bit (ms : List Nat) : ∀ (l : List Edge) (q : Nat), Nat.testBit (edgesM ms l) q = true → ∃ e ∈ l, Region.binds .any e = true ∧ (e.on = q ∨ Nat.testBit (ms.getD e.on 0) q = true)
  | [], q, h => by rw [show edgesM ms [] = 0 from rfl, Nat.zero_testBit] at h; cases h
  | e :: l, q, h => by
    rw [show edgesM ms (e :: l) = Nat.lor (if Region.binds .any e then Nat.lor (Nat.shiftLeft 1 e.on) (ms.getD e.on 0) else 0) (edgesM ms l) from rfl, lor_bit, Bool.or_eq_true] at h
    rcases h with h | h
    · by_cases hb : Region.binds .any e = true
      · rw [if_pos hb, lor_bit, Bool.or_eq_true, shl_bit, decide_eq_true_eq] at h
        rcases h with h | h
        · exact ⟨e, .head _, hb, .inl h.symm⟩
        · exact ⟨e, .head _, hb, .inr h⟩
      · rw [if_neg hb, Nat.zero_testBit] at h; cases h
    · obtain ⟨e', hm, hh⟩ := edgesM_bit ms l q h
      exact ⟨e', .tail _ hm, hh⟩
theorem edgesM_has (ms : List Nat) : ∀ (l : List Edge) (e : Edge), e ∈ l → Region.binds .any e = true → Nat.testBit (edgesM ms l) e.on = true
  | [], _, h, _ => by cases h
  | e :: l, e', h, hb => by
    rw [show edgesM ms (e :: l) = Nat.lor (if Region.binds .any e then Nat.lor (Nat.shiftLeft 1 e.on) (ms.getD e.on 0) else 0) (edgesM ms l) from rfl, lor_bit, Bool.or_eq_true]
    rcases List.mem_cons.1 h with rfl | h
    · left
      rw [if_pos hb, lor_bit, shl_bit]; simp
    · exact .inr (edgesM_has ms l e' h hb)
section
variable {ops : Array Oper} {pl : Pl} {cls : Nat → Nat}
/-- what is known of an operation in the plan, and of those ahead of it -/
structure AtOk (ops : Array Oper) (pl : Pl) (cls : Nat → Nat) (ahead : List Nat) (i : Nat) (o : Oper) : Prop where
  op : ops[i]? = some o
  new : i ∉ ahead
  edge : ∀ e ∈ o.after.toList, Region.binds .any e = true → e.on ∈ ahead
  mask : ∀ q, Nat.testBit (pl.ms.getD i 0) q = true → ∃ e ∈ o.after.toList, Region.binds .any e = true ∧ (e.on = q ∨ Nat.testBit (pl.ms.getD e.on 0) q = true)
  early : ∀ q, Nat.testBit (pl.ms.getD i 0) q = true → q ∈ ahead
  cls4 : cls i < 4
  loud : cls i = 1 ∨ cls i = 3 → ∀ q ∈ ahead, cls q = 2 ∨ cls q = 3 → Nat.testBit (pl.ms.getD i 0) q = true
  mkr : cls i = 2 → i ∈ pl.mks
  uses : ∀ s ∈ usesOf ops o, ∀ q, findW s pl.ds = some q → Nat.testBit (pl.ms.getD i 0) q = true
  dst : ∀ d, o.dst = some d → findW d pl.ds = some i
theorem okL_spec : ∀ (l ahead : List Nat) (E AW : Nat), (∀ q, Nat.testBit E q = true ↔ q ∈ ahead) → (∀ q, Nat.testBit AW q = true ↔ q ∈ ahead ∧ (cls q = 2 ∨ cls q = 3)) → okL ops pl cls l E AW = true →
    ∀ x i, l[x]? = some i → ∃ o, AtOk ops pl cls (ahead ++ l.take x) i o := by
  intro l
  induction l with
  | nil => intro _ _ _ _ _ _ x i h; cases h
  | cons j l ih =>
    intro ahead E AW hE hAW hok x i hx
    rw [okL] at hok
    cases ho : ops[j]? with
    | none => rw [ho] at hok; cases hok
    | some o =>
      rw [ho] at hok
      simp only [Bool.and_eq_true, Bool.not_eq_true', decide_eq_true_eq] at hok
      obtain ⟨⟨⟨⟨⟨⟨⟨⟨h1, h2⟩, h3⟩, h4⟩, h5⟩, h6⟩, h7⟩, h8⟩, h9⟩ := hok
      cases x with
      | zero =>
        have hij : j = i := by simpa using hx
        subst hij
        refine ⟨o, ho, ?_, ?_, ?_, ?_, h4, ?_, ?_, ?_, ?_⟩
        · simp only [List.take_zero, List.append_nil]
          intro hh
          rw [(hE j).2 hh] at h1; cases h1
        · intro e he hb
          simp only [List.take_zero, List.append_nil]
          exact (hE _).1 (lor_sub h2 (edgesM_has pl.ms _ e he hb))
        · intro q hq
          exact edgesM_bit pl.ms _ q (lor_sub h3 hq)
        · intro q hq
          simp only [List.take_zero, List.append_nil]
          exact (hE _).1 (lor_sub h2 (lor_sub h3 hq))
        · intro hc q hq hq2
          simp only [List.take_zero, List.append_nil] at hq
          have hne0 : Nat.beq (cls j) 0 = false := by
            cases hb : Nat.beq (cls j) 0
            · rfl
            · have := Nat.beq_eq.mp hb; omega
          have hne2 : Nat.beq (cls j) 2 = false := by
            cases hb : Nat.beq (cls j) 2
            · rfl
            · have := Nat.beq_eq.mp hb; omega
          rw [hne0, hne2] at h5
          have h5' : Nat.beq (Nat.lor AW (pl.ms.getD j 0)) (pl.ms.getD j 0) = true := by simpa using h5
          exact lor_sub h5' ((hAW q).2 ⟨hq, hq2⟩)
        · intro hc
          rw [hc] at h6
          have h6' : pl.mks.contains j = true := by simpa using h6
          simpa using h6'
        · intro s hs q hq
          have := List.all_eq_true.1 h7 s hs
          rw [hq] at this
          exact this
        · intro d hd
          rw [hd] at h8
          simpa using h8
      | succ x =>
        have hx' : l[x]? = some i := by simpa using hx
        have hE' : ∀ q, Nat.testBit (Nat.lor E (Nat.shiftLeft 1 j)) q = true ↔ q ∈ ahead ++ [j] := by
          intro q
          rw [lor_bit, Bool.or_eq_true, hE, shl_bit, decide_eq_true_eq]; simp
        have hAW' : ∀ q, Nat.testBit (if Nat.beq (cls j) 2 || Nat.beq (cls j) 3 then Nat.lor AW (Nat.shiftLeft 1 j) else AW) q = true ↔ q ∈ ahead ++ [j] ∧ (cls q = 2 ∨ cls q = 3) := by
          intro q
          by_cases hc : (Nat.beq (cls j) 2 || Nat.beq (cls j) 3) = true
          · rw [if_pos hc, lor_bit, Bool.or_eq_true, hAW, shl_bit, decide_eq_true_eq]
            rw [Bool.or_eq_true, Nat.beq_eq, Nat.beq_eq] at hc
            constructor
            · rintro (⟨h, h'⟩ | rfl)
              · exact ⟨List.mem_append_left _ h, h'⟩
              · exact ⟨by simp, hc⟩
            · rintro ⟨h, h'⟩
              rcases List.mem_append.1 h with h | h
              · exact .inl ⟨h, h'⟩
              · exact .inr (by simpa using h)
          · rw [if_neg hc, hAW]
            rw [Bool.or_eq_true, Nat.beq_eq, Nat.beq_eq] at hc
            constructor
            · rintro ⟨h, h'⟩; exact ⟨List.mem_append_left _ h, h'⟩
            · rintro ⟨h, h'⟩
              rcases List.mem_append.1 h with h | h
              · exact ⟨h, h'⟩
              · have : q = j := by simpa using h
                subst this; exact absurd h' hc
        obtain ⟨o', h'⟩ := ih (ahead ++ [j]) _ _ hE' hAW' h9 x i hx'
        refine ⟨o', ?_⟩
        have e1 : ahead ++ (j :: l).take (x + 1) = ahead ++ [j] ++ l.take x := by simp
        rw [e1]; exact h'
/-- a plan that is in order -/
structure PlOk (ops : Array Oper) (pl : Pl) (cls : Nat → Nat) : Prop where
  all : ∀ i, i < ops.size → i ∈ pl.sch
  ds : ∀ s q, findW s pl.ds = some q → ∃ o, ops[q]? = some o ∧ o.dst = some s
  at_ : ∀ m i, pl.sch[m]? = some i → ∃ o, AtOk ops pl cls (pl.sch.take m) i o
theorem findW_mem {s q : Nat} : ∀ {l : List (Nat × Nat)}, findW s l = some q → (s, q) ∈ l
  | [], h => by cases h
  | (d, i) :: l, h => by
    unfold findW at h
    split at h
    · rename_i hb
      have := Nat.beq_eq.mp hb
      subst this
      cases h; exact .head _
    · exact .tail _ (findW_mem h)
theorem okD_spec (h : okD ops pl cls = true) : PlOk ops pl cls := by
  unfold okD at h
  rw [Bool.and_eq_true, Bool.and_eq_true] at h
  obtain ⟨⟨h1, h2⟩, h3⟩ := h
  refine ⟨fun i hi => ?_, fun s q hq => ?_, fun m i hm => ?_⟩
  · have := List.all_eq_true.1 h2 i (List.mem_range.2 hi)
    simpa using this
  · have := List.all_eq_true.1 h3 (s, q) (findW_mem hq)
    simp only [beq_iff_eq, Option.bind_eq_some_iff] at this
    exact this
  · have := okL_spec pl.sch [] 0 0 (fun q => by simp) (fun q => by simp) h1 m i hm
    simpa using this
theorem posOf_get : ∀ {l : List Nat} {i : Nat}, i ∈ l → l[posOf i l]? = some i
  | [], _, h => by cases h
  | j :: l, i, h => by
    unfold posOf
    split
    · rename_i hb
      have := Nat.beq_eq.mp hb
      subst this; rfl
    · rename_i hb
      rcases List.mem_cons.1 h with rfl | h
      · exact absurd (Nat.beq_refl _) hb
      · simpa using posOf_get h
theorem mem_take_iff {l : List Nat} {m q : Nat} : q ∈ l.take m ↔ ∃ m', m' < m ∧ l[m']? = some q := by
  rw [List.mem_iff_getElem?]
  constructor
  · rintro ⟨m', h⟩
    rw [List.getElem?_take] at h
    split at h
    · rename_i hlt; exact ⟨m', hlt, h⟩
    · cases h
  · rintro ⟨m', hlt, h⟩
    exact ⟨m', by rw [List.getElem?_take, if_pos hlt]; exact h⟩
theorem PlOk.inj (h : PlOk ops pl cls) {m m' i : Nat} (h1 : pl.sch[m]? = some i) (h2 : pl.sch[m']? = some i) : m = m' := by
  rcases Nat.lt_trichotomy m m' with hlt | heq | hlt
  · obtain ⟨_, ho⟩ := h.at_ m' i h2
    exact absurd (mem_take_iff.2 ⟨m, hlt, h1⟩) ho.new
  · exact heq
  · obtain ⟨_, ho⟩ := h.at_ m i h1
    exact absurd (mem_take_iff.2 ⟨m', hlt, h2⟩) ho.new
theorem PlOk.pos (h : PlOk ops pl cls) {m i : Nat} (h1 : pl.sch[m]? = some i) : posOf i pl.sch = m :=
  h.inj (posOf_get (List.mem_of_getElem? h1)) h1
theorem PlOk.sch_op (h : PlOk ops pl cls) {m i : Nat} (h1 : pl.sch[m]? = some i) : i < ops.size := by
  obtain ⟨o, ho⟩ := h.at_ m i h1
  exact (Array.getElem?_eq_some_iff.1 ho.op).1
theorem laterD_mem {mi j : Nat} : ∀ {l : List Nat}, j ∈ laterD cls mi l ↔ j ∈ l ∧ cls j = 1 ∧ Nat.testBit mi j = false
  | [] => by simp [laterD]
  | x :: l => by
    unfold laterD
    split
    · rename_i hc
      rw [Bool.and_eq_true, Bool.not_eq_true'] at hc
      rw [List.mem_cons, laterD_mem, List.mem_cons]
      constructor
      · rintro (rfl | ⟨h1, h2⟩)
        · exact ⟨.inl rfl, Nat.beq_eq.mp hc.1, hc.2⟩
        · exact ⟨.inr h1, h2⟩
      · rintro ⟨h1 | h1, h2⟩
        · exact .inl h1
        · exact .inr ⟨h1, h2⟩
    · rename_i hc
      rw [laterD_mem, List.mem_cons]
      constructor
      · rintro ⟨h1, h2⟩; exact ⟨.inr h1, h2⟩
      · rintro ⟨rfl | h1, h2, h3⟩
        · exact absurd (by rw [Bool.and_eq_true, Bool.not_eq_true']; exact ⟨by rw [h2]; rfl, h3⟩) hc
        · exact ⟨h1, h2, h3⟩
variable {P : Program} {nt : Nat}
theorem itemsD_get : ∀ (l : List Nat) (m : Nat) (seen : List Nat) (x i : Nat), l[x]? = some i → (itemsD P nt ops pl cls l m seen)[x]? = some (mainD P nt ops pl cls (m + x) i, if Nat.beq (cls i) 3 then (laterD cls (pl.ms.getD i 0) ((l.take x).reverse ++ seen)).map (againD P nt ops pl (m + x)) else [])
  | [], _, _, _, _, h => by cases h
  | j :: l, m, seen, 0, i, h => by
    have hij : j = i := by simpa using h
    subst hij
    simp [itemsD]
  | j :: l, m, seen, x + 1, i, h => by
    have h' : l[x]? = some i := by simpa using h
    have := itemsD_get l (m + 1) (j :: seen) x i h'
    rw [show itemsD P nt ops pl cls (j :: l) m seen = (mainD P nt ops pl cls m j, if Nat.beq (cls j) 3 then (laterD cls (pl.ms.getD j 0) seen).map (againD P nt ops pl m) else []) :: itemsD P nt ops pl cls l (m + 1) (j :: seen) from rfl, List.getElem?_cons_succ, this]
    have e1 : m + 1 + x = m + (x + 1) := by omega
    rw [e1]
    simp
theorem itemsD_len : ∀ (l : List Nat) (m : Nat) (seen : List Nat), (itemsD P nt ops pl cls l m seen).length = l.length
  | [], _, _ => rfl
  | j :: l, m, seen => by
    show (itemsD P nt ops pl cls l (m + 1) (j :: seen)).length + 1 = l.length + 1
    rw [itemsD_len l]
end
end Go.Ev

/-! Regions that draw: one operation. -/
namespace Go.Ev

section
variable {P : Program} {nt : Nat} {ops : Array Oper} {pl : Pl} {cls : Nat → Nat} {cal : Cal} {t : T} {l : List (Iop × List Iop)} {v : Nat → V} {nS : Nat → List V} {dS : Nat → List D} {hS : Nat → H} {cS : Nat → Nm}
theorem nS_get (hrun : RunD cal t l v nS dS hS cS) : ∀ M, M ≤ l.length → ∀ j, (nS M)[j]? = if j < M then some (v (M - 1 - j)) else (nS 0)[j - M]? := by
  intro M
  induction M with
  | zero => intro _ j; simp
  | succ M ih =>
    intro hM j
    have hlt : M < l.length := by omega
    rw [hrun.ns M l[M] (List.getElem?_eq_getElem hlt)]
    cases j with
    | zero => simp
    | succ j =>
      rw [List.getElem?_cons_succ, ih (by omega) j]
      by_cases hj : j < M
      · rw [if_pos hj, if_pos (by omega)]; congr 2; omega
      · rw [if_neg hj, if_neg (by omega)]; congr 1; omega
theorem findA_app (s : Nat) : ∀ (x y : List (Nat × Al)), findA s (x ++ y) = match findA s x with | some a => some a | none => findA s y
  | [], y => rfl
  | (d, a) :: x, y => by
    show findA s ((d, a) :: (x ++ y)) = _
    rw [findA_cons, findA_cons, findA_app s x y]
    split <;> rfl
theorem findA_map (s : Nat) (f : Nat → Al) : ∀ (Us : List Nat), findA s (Us.map fun s => (s, f s)) = if s ∈ Us then some (f s) else none
  | [] => by simp [findA]
  | d :: Us => by
    rw [List.map_cons, findA_cons, findA_map s f Us]
    by_cases h : d = s
    · subst h; simp
    · have h2 : s ≠ d := fun hh => h hh.symm
      simp [h, h2]
theorem findA_ds (s : Nat) : ∀ (ds : List (Nat × Nat)), findA s (ds.map fun p => (p.1, Al.c .x)) = if (findW s ds).isSome then some (.c .x) else none
  | [] => by simp [findA, findW]
  | (d, i) :: ds => by
    rw [List.map_cons, findA_cons, findA_ds s ds]
    by_cases h : d = s
    · subst h
      have : findW d ((d, i) :: ds) = some i := by unfold findW; rw [if_pos (Nat.beq_refl d)]
      rw [this]; simp
    · have : findW s ((d, i) :: ds) = findW s ds := by
        unfold findW
        rw [if_neg (fun hb => h (Nat.beq_eq.mp hb))]
        cases ds <;> rfl
      rw [this, if_neg h]
theorem cAl_env (G M : Nat) (Us : List Nat) (s : Nat) : cAl (envD G nt pl M Us) (.tmp s) = if s ∈ Us then alD nt pl.mks.length pl s else if (findW s pl.ds).isSome then .c .x else .t (tn s) := by
  rw [cAl_tmp]
  show (match findA s (Us.map (fun s => (s, alD nt pl.mks.length pl s)) ++ pl.ds.map (fun p => (p.1, Al.c .x))) with | some a => a | none => .t (tn s)) = _
  rw [findA_app, findA_map, findA_ds]
  by_cases h : s ∈ Us
  · simp [h]
  · by_cases h2 : (findW s pl.ds).isSome = true <;> simp [h, h2]
/-- slots of the region's own results -/
theorem Mat_env (hrun : RunD cal t l v nS dS hS cS) {L : Loc} {S : Ns} {a : Act} {M : Nat} (hM : M ≤ l.length) (hg : GOk P L S) {Us : List Nat}
    (hU : ∀ s ∈ Us, ∀ q, findW s pl.ds = some q → s < nt → posOf q pl.sch < M ∧ a.tmps.getD s undef = val L (v (posOf q pl.sch)) ∧ (wf S (v (posOf q pl.sch))).v)
    (hold : ∀ s, findW s pl.ds = none → T.get (tn s) t ≠ .x → a.tmps.getD s undef = val L (T.get (tn s) t) ∧ (wf S (T.get (tn s) t)).v) : Mat L S (envD P.globals.size nt pl M Us) a (nS M) t := by
  intro x hx
  cases x with
  | tmp s =>
    have e1 : ev (cOpd (envD P.globals.size nt pl M Us) (.tmp s)) (nS M) t = ev ((cAl (envD P.globals.size nt pl M Us) (.tmp s)).opd (pl.mks.length + M)) (nS M) t := rfl
    rw [e1, cAl_env] at hx ⊢
    cases hf : findW s pl.ds with
    | none =>
      have e2 : ∀ z : Bool, (if s ∈ Us then alD nt pl.mks.length pl s else if (none : Option Nat).isSome then .c .x else .t (tn s)) = Al.t (tn s) := by
        intro _
        have : alD nt pl.mks.length pl s = .t (tn s) := by unfold alD; rw [hf]
        rw [this]; simp
      rw [hf, e2 true] at hx
      rw [e2 true]
      exact hold s hf hx
    | some q =>
      rw [hf] at hx
      by_cases hsU : s ∈ Us
      · rw [if_pos hsU] at hx ⊢
        have e3 : alD nt pl.mks.length pl s = if s < nt then .r (pl.mks.length + posOf q pl.sch) else .c .x := by unfold alD; rw [hf]
        rw [e3] at hx ⊢
        by_cases hs : s < nt
        · rw [if_pos hs] at hx ⊢
          obtain ⟨h1, h2, h3⟩ := hU s hsU q hf hs
          have e4 : ev ((Al.r (pl.mks.length + posOf q pl.sch)).opd (pl.mks.length + M)) (nS M) t = v (posOf q pl.sch) := by
            show nth (U.ofNat (pl.mks.length + M - 1 - (pl.mks.length + posOf q pl.sch))) (nS M) = _
            rw [nth_get, nS_get hrun M hM, if_pos (by omega)]
            show v _ = _
            congr 1; omega
          rw [e4]
          exact ⟨h2, h3⟩
        · rw [if_neg hs] at hx; exact absurd rfl hx
      · rw [if_neg hsU] at hx
        exact absurd rfl hx
  | const y => have := cV_spec (L := L) (S := S) (v := y) hx; exact ⟨this.1.symm, this.2⟩
  | global g =>
    have e1 : cOpd (envD P.globals.size nt pl M Us) (.global g) = (if g < P.globals.size then Al.c (.p (gn g) 0) else .c .x : Al).opd (pl.mks.length + M) := rfl
    rw [e1] at hx ⊢
    split at hx
    · rename_i hlt
      rw [if_pos hlt]
      have := hg g hlt
      exact ⟨by show Value.pointer (some ⟨g, 0, none⟩) = Value.pointer (some ⟨L.b (gn g), 0, none⟩); rw [this.2], this.1⟩
    · exact absurd rfl hx
  | func f => exact ⟨rfl, trivial, trivial, trivial⟩
/-- the guard -/
theorem guard_cases {L : Loc} {S : Ns} {e : Ce} {o : Oper} {core : Iop} {a : Act} {n : List V} {d d' : List D} {h h' : H} {c c' : Nm} {y : V} (hdet : Det cal t (wrapG ops e o core) n d h c y d' h' c') (hm : Mat L S e a n t) :
    (Region.wanted o (yielded ops a.tmps) = true ∧ Det cal t core n d h c y d' h' c') ∨ (Region.wanted o (yielded ops a.tmps) = false ∧ y = .u ∧ d' = d ∧ h' = h ∧ c' = c) := by
  cases hgd : o.guard with
  | none =>
    have e2 : wrapG ops e o core = core := by unfold wrapG; rw [hgd]
    rw [e2] at hdet
    exact .inl ⟨wanted_none hgd _, hdet⟩
  | some gw =>
    obtain ⟨g, want⟩ := gw
    cases hgt : (ops[g]?).bind (·.dst) with
    | none =>
      have e2 : wrapG ops e o core = .bad 337 := by unfold wrapG; rw [hgd]; simp only [hgt]
      rw [e2] at hdet
      have := hdet kW
      cases this
    | some s =>
      have e2 : wrapG ops e o core = .g (cOpd e (.tmp s)) want core := by unfold wrapG; rw [hgd]; simp only [hgt]
      rw [e2] at hdet
      have e3 : ∀ k', guardK (ev (cOpd e (.tmp s)) n t) (fun z => Bool.rec (k' .u d h c) (execX core cal n t d h c k') (Bool.rec (notB want) want z)) (k' .u d h c) = k' y d' h' c' := fun k' => hdet k'
      have hg3 : (guardK (ev (cOpd e (.tmp s)) n t) (fun z => Bool.rec (kW .u d h c) (execX core cal n t d h c kW) (Bool.rec (notB want) want z)) (kW .u d h c)).Good := by rw [e3]; exact kW_Good _ _ _ _
      have hslot : ev (cOpd e (.tmp s)) n t ≠ .x → a.tmps.getD s undef = val L (ev (cOpd e (.tmp s)) n t) := fun hx => (hm (.tmp s) hx).1
      have hy : ∀ z, yielded ops a.tmps g = some z ↔ a.tmps.getD s undef = .bool z := by
        intro z
        unfold yielded
        rw [hgt]
        simp only [Option.bind_some, Array.getD_eq_getD_getElem?]
        cases ht : a.tmps[s]? with
        | none => simp [undef]
        | some y => cases y <;> simp
      have hwant : Region.wanted o (yielded ops a.tmps) = decide (yielded ops a.tmps g = some want) := by
        rw [Bool.eq_iff_iff]; simp [Region.wanted, hgd]
      rcases guard_good hg3 with ⟨z, hz, e4⟩ | ⟨hnx, hnb, e4⟩
      · have hs := hslot (by rw [hz]; simp)
        rw [hz] at hs
        have hyz : yielded ops a.tmps g = some z := (hy z).2 hs
        rw [hz] at e3
        by_cases hzw : z = want
        · subst hzw
          left
          refine ⟨by rw [hwant, hyz]; simp, fun k' => ?_⟩
          have := e3 k'
          cases z <;> exact this
        · right
          refine ⟨by rw [hwant, hyz]; simp [hzw], ?_⟩
          have : kW .u d h c = kW y d' h' c' := by
            have := e3 kW
            cases z <;> cases want <;> first | exact this | exact absurd rfl hzw
          obtain ⟨q1, q2, q3, q4⟩ := kW_inj this
          exact ⟨q1.symm, q2.symm, q3.symm, q4.symm⟩
      · have hs := hslot hnx
        have hyn : yielded ops a.tmps g ≠ some want := fun hh => hnb want (val_bool (hs.symm.trans ((hy want).1 hh)))
        right
        refine ⟨by rw [hwant]; simp [hyn], ?_⟩
        have := e3 kW
        rw [e4] at this
        obtain ⟨q1, q2, q3, q4⟩ := kW_inj this
        exact ⟨q1.symm, q2.symm, q3.symm, q4.symm⟩
/-- what the guard leaves of the canonical run, whatever the machine's slots -/
theorem guard_quiet {e : Ce} {o : Oper} {core : Iop} {n : List V} {d d' : List D} {h h' : H} {c c' : Nm} {y : V} (hdet : Det cal t (wrapG ops e o core) n d h c y d' h' c') : Det cal t core n d h c y d' h' c' ∨ (y = .u ∧ d' = d ∧ h' = h ∧ c' = c) := by
  cases hgd : o.guard with
  | none =>
    have e2 : wrapG ops e o core = core := by unfold wrapG; rw [hgd]
    rw [e2] at hdet
    exact .inl hdet
  | some gw =>
    obtain ⟨g, want⟩ := gw
    cases hgt : (ops[g]?).bind (·.dst) with
    | none =>
      have e2 : wrapG ops e o core = .bad 337 := by unfold wrapG; rw [hgd]; simp only [hgt]
      rw [e2] at hdet
      have := hdet kW
      cases this
    | some s =>
      have e2 : wrapG ops e o core = .g (cOpd e (.tmp s)) want core := by unfold wrapG; rw [hgd]; simp only [hgt]
      rw [e2] at hdet
      have e3 : ∀ k', guardK (ev (cOpd e (.tmp s)) n t) (fun z => Bool.rec (k' .u d h c) (execX core cal n t d h c k') (Bool.rec (notB want) want z)) (k' .u d h c) = k' y d' h' c' := fun k' => hdet k'
      have hg3 : (guardK (ev (cOpd e (.tmp s)) n t) (fun z => Bool.rec (kW .u d h c) (execX core cal n t d h c kW) (Bool.rec (notB want) want z)) (kW .u d h c)).Good := by rw [e3]; exact kW_Good _ _ _ _
      rcases guard_good hg3 with ⟨z, hz, e4⟩ | ⟨hnx, hnb, e4⟩
      · rw [hz] at e3
        cases hb : (Bool.rec (notB want) want z : Bool) with
        | true =>
          left
          intro k'
          have := e3 k'
          have h2 : (Bool.rec (k' .u d h c) (execX core cal n t d h c k') (Bool.rec (notB want) want z : Bool) : R) = k' y d' h' c' := this
          rw [hb] at h2
          exact h2
        | false =>
          right
          have := e3 kW
          have h2 : (Bool.rec (kW .u d h c) (execX core cal n t d h c kW) (Bool.rec (notB want) want z : Bool) : R) = kW y d' h' c' := this
          rw [hb] at h2
          obtain ⟨q1, q2, q3, q4⟩ := kW_inj h2
          exact ⟨q1.symm, q2.symm, q3.symm, q4.symm⟩
      · right
        have := e3 kW
        rw [e4] at this
        obtain ⟨q1, q2, q3, q4⟩ := kW_inj this
        exact ⟨q1.symm, q2.symm, q3.symm, q4.symm⟩
/-- kinds, one by one -/
theorem Det.p {f : PH} {n : List V} {d d' : List D} {h h' : H} {c c' : Nm} {y : V} (hd : Det cal t (.p f) n d h c y d' h' c') : d' = d ∧ h' = h ∧ c' = c ∧ (f n t kV).Good ∧ ∀ y', f n t kV = kV y' → y = y' := by
  have h1 : exV (f n t kV) (fun v => kW v d h c) = kW y d' h' c' := hd kW
  obtain ⟨tt, d1, h2, c1, e1, e2⟩ := exV_good (by rw [h1]; exact kW_Good _ _ _ _)
  rw [e2] at h1
  obtain ⟨q1, q2, q3, q4⟩ := kW_inj h1
  refine ⟨q2.symm, q3.symm, q4.symm, (by rw [e1]; intro n hn; cases hn), fun y' hy => ?_⟩
  rw [e1] at hy
  have : R.norm tt d1 h2 c1 = R.norm (.nd .e y' .e) [] .e .h := hy
  injection this with e5
  rw [← q1, e5]; rfl
theorem Det.r {x : Opnd} {f : BH} {n : List V} {d d' : List D} {h h' : H} {c c' : Nm} {y : V} (hd : Det cal t (.r x f) n d h c y d' h' c') : d' = d ∧ h' = h ∧ c' = c ∧ (rdK x f n t h kV).Good ∧ ∀ y', rdK x f n t h kV = kV y' → y = y' := by
  have h1 : exV (rdK x f n t h kV) (fun v => kW v d h c) = kW y d' h' c' := hd kW
  obtain ⟨tt, d1, h2, c1, e1, e2⟩ := exV_good (by rw [h1]; exact kW_Good _ _ _ _)
  rw [e2] at h1
  obtain ⟨q1, q2, q3, q4⟩ := kW_inj h1
  refine ⟨q2.symm, q3.symm, q4.symm, (by rw [e1]; intro n hn; cases hn), fun y' hy => ?_⟩
  rw [e1] at hy
  have : R.norm tt d1 h2 c1 = R.norm (.nd .e y' .e) [] .e .h := hy
  injection this with e5
  rw [← q1, e5]; rfl
theorem Det.k {x : Opnd} {f : BH} {j : U} {n : List V} {d d' : List D} {h h' : H} {c c' : Nm} {y : V} (hd : Det cal t (.k x f j) n d h c y d' h' c') : (rdK x f n t h kV).Good ∧ ∀ y', rdK x f n t h kV = kV y' → sameV y' (nth j n) = true := by
  have h1 : exV (rdK x f n t h kV) (fun v => @Bool.rec (fun _ => R) (.bad 99) (kW .u d h c) (sameV v (nth j n))) = kW y d' h' c' := hd kW
  have hg : (exV (rdK x f n t h kV) (fun v => @Bool.rec (fun _ => R) (.bad 99) (kW .u d h c) (sameV v (nth j n)))).Good := by rw [h1]; exact kW_Good _ _ _ _
  obtain ⟨tt, d1, h2, c1, e1, e2⟩ := exV_good hg
  have hg2 := good_of e2 hg
  obtain ⟨hz, _⟩ := rec_good hg2
  refine ⟨(by rw [e1]; intro n hn; cases hn), fun y' hy => ?_⟩
  rw [e1] at hy
  have : R.norm tt d1 h2 c1 = R.norm (.nd .e y' .e) [] .e .h := hy
  injection this with e5
  rw [e5] at hz; exact hz
theorem Det.an {j : U} {f : AH} {n : List V} {d d' : List D} {h h' : H} {c c' : Nm} {y : V} (hd : Det cal t (.an j f) n d h c y d' h' c') : d' = d ∧ c' = c ∧ ∃ nm, nth j n = .m nm ∧
    (f n t (fun mk b => .norm (.nd .e (mk nm) .e) [] (.nd .e b .e) .h)).Good ∧ ∃ b0, h' = H.set nm b0 h ∧ ∀ (mk : Nm → V) (b : Blk), f n t (fun mk b => .norm (.nd .e (mk nm) .e) [] (.nd .e b .e) .h) = .norm (.nd .e (mk nm) .e) [] (.nd .e b .e) .h → y = mk nm ∧ b0 = b := by
  have h1 : asM (nth j n) (fun nm => exA (f n t (fun mk b => .norm (.nd .e (mk nm) .e) [] (.nd .e b .e) .h)) (fun v b => kW v d (H.set nm b h) c)) = kW y d' h' c' := hd kW
  obtain ⟨nm, hnm, e0⟩ := asM_good (v := nth j n) (q := fun nm => exA (f n t (fun mk b => .norm (.nd .e (mk nm) .e) [] (.nd .e b .e) .h)) (fun v b => kW v d (H.set nm b h) c)) (by rw [h1]; exact kW_Good _ _ _ _)
  rw [e0] at h1
  obtain ⟨tt, d1, hh, c1, e1, e2⟩ := exA_good (by rw [h1]; exact kW_Good _ _ _ _)
  rw [e2] at h1
  obtain ⟨q1, q2, q3, q4⟩ := kW_inj h1
  refine ⟨q2.symm, q4.symm, nm, hnm, (by rw [e1]; intro n hn; cases hn), H.get .h hh, q3.symm, fun mk b hy => ?_⟩
  rw [e1] at hy
  injection hy with e5 _ e6 _
  exact ⟨by rw [← q1, e5]; rfl, by rw [e6]; rfl⟩
theorem Det.w {f : WH} {n : List V} {d d' : List D} {h h' : H} {c c' : Nm} {y : V} (hd : Det cal t (.w f) n d h c y d' h' c') : ∃ tt, execO (.w f) cal n t d h c kW = .norm tt d' h' c' ∧ T.get .h tt = y := by
  have h1 : exW (f cal n t d h c kW) kW = kW y d' h' c' := hd kW
  obtain ⟨tt, d1, h2, c1, e1, e2⟩ := exW_good (by rw [h1]; exact kW_Good _ _ _ _)
  rw [e2] at h1
  obtain ⟨q1, q2, q3, q4⟩ := kW_inj h1
  subst q2 q3 q4
  exact ⟨tt, e1, q1⟩
theorem sameV_eq : ∀ (z y : V), sameV z y = true → z = y := by
  intro z
  induction z with
  | x => intro y h; cases h
  | f g F C ihF ihC =>
    intro y h
    cases y <;> first | cases h | skip
    rename_i g2 F2 C2
    have h' : (Bool.rec false (Bool.rec false (sameV C C2) (sameV F F2)) (sameF g g2) : Bool) = true := h
    cases e1 : sameF g g2 <;> rw [e1] at h' <;> first | cases h' | skip
    cases e2 : sameV F F2 <;> rw [e2] at h' <;> first | cases h' | skip
    have hg : g = g2 := by
      cases g <;> cases g2 <;> first | cases e1 | skip
      rename_i f f2
      have : Nat.beq f f2 = true := e1
      rw [Nat.beq_eq.mp this]
    rw [hg, ihF F2 e2, ihC C2 h']
  | u => intro y h; cases y <;> first | rfl | cases h
  | np => intro y h; cases y <;> first | rfl | cases h
  | ns => intro y h; cases y <;> first | rfl | cases h
  | nm => intro y h; cases y <;> first | rfl | cases h
  | nf => intro y h; cases y <;> first | rfl | cases h
  | ni => intro y h; cases y <;> first | rfl | cases h
  | nil => intro y h; cases y <;> first | rfl | cases h
  | b zz => intro y h; cases y <;> first | cases h | (rename_i z2; cases zz <;> cases z2 <;> first | rfl | cases h)
  | i k n =>
    intro y h
    cases y <;> first | cases h | skip
    rename_i k2 n2
    have h' : (Bool.rec false (Nat.beq n n2) (Nat.beq k k2) : Bool) = true := h
    cases e1 : Nat.beq k k2 <;> rw [e1] at h' <;> first | cases h' | skip
    rw [Nat.beq_eq.mp e1, Nat.beq_eq.mp h']
  | s k n =>
    intro y h
    cases y <;> first | cases h | skip
    rename_i k2 n2
    have h' : (Bool.rec false (Nat.beq n n2) (Nat.beq k k2) : Bool) = true := h
    cases e1 : Nat.beq k k2 <;> rw [e1] at h' <;> first | cases h' | skip
    rw [Nat.beq_eq.mp e1, Nat.beq_eq.mp h']
  | bs k n =>
    intro y h
    cases y <;> first | cases h | skip
    rename_i k2 n2
    have h' : (Bool.rec false (Nat.beq n n2) (Nat.beq k k2) : Bool) = true := h
    cases e1 : Nat.beq k k2 <;> rw [e1] at h' <;> first | cases h' | skip
    rw [Nat.beq_eq.mp e1, Nat.beq_eq.mp h']
  | p a o =>
    intro y h
    cases y <;> first | cases h | skip
    rename_i a2 o2
    have h' : (Bool.rec false (Nm.beq a a2) (Nat.beq o o2) : Bool) = true := h
    cases e1 : Nat.beq o o2 <;> rw [e1] at h' <;> first | cases h' | skip
    rw [Nat.beq_eq.mp e1, (nm_beq _ _).1 h']
  | m a =>
    intro y h
    cases y <;> first | cases h | skip
    rename_i a2
    have h' : Nm.beq a a2 = true := h
    rw [(nm_beq _ _).1 h']
  | yl a =>
    intro y h
    cases y <;> first | cases h | skip
    rename_i a2
    have h' : Nm.beq a a2 = true := h
    rw [(nm_beq _ _).1 h']
  | sl a o l c =>
    intro y h
    cases y <;> first | cases h | skip
    rename_i a2 o2 l2 c2
    have h' : (Bool.rec false (Bool.rec false (Bool.rec false (Nm.beq a a2) (Nat.beq c c2)) (Nat.beq l l2)) (Nat.beq o o2) : Bool) = true := h
    cases e1 : Nat.beq o o2 <;> rw [e1] at h' <;> first | cases h' | skip
    cases e2 : Nat.beq l l2 <;> rw [e2] at h' <;> first | cases h' | skip
    cases e3 : Nat.beq c c2 <;> rw [e3] at h' <;> first | cases h' | skip
    rw [Nat.beq_eq.mp e1, Nat.beq_eq.mp e2, Nat.beq_eq.mp e3, (nm_beq _ _).1 h']
  | so a o l c =>
    intro y h
    cases y <;> first | cases h | skip
    rename_i a2 o2 l2 c2
    have h' : (Bool.rec false (Bool.rec false (Bool.rec false (Nm.beq a a2) (Nat.beq c c2)) (Nat.beq l l2)) (Nat.beq o o2) : Bool) = true := h
    cases e1 : Nat.beq o o2 <;> rw [e1] at h' <;> first | cases h' | skip
    cases e2 : Nat.beq l l2 <;> rw [e2] at h' <;> first | cases h' | skip
    cases e3 : Nat.beq c c2 <;> rw [e3] at h' <;> first | cases h' | skip
    rw [Nat.beq_eq.mp e1, Nat.beq_eq.mp e2, Nat.beq_eq.mp e3, (nm_beq _ _).1 h']
  | ifc k W ih =>
    intro y h
    cases y <;> first | cases h | skip
    rename_i k2 W2
    have h' : (Bool.rec false (sameV W W2) (Nat.beq k k2) : Bool) = true := h
    cases e1 : Nat.beq k k2 <;> rw [e1] at h' <;> first | cases h' | skip
    rw [Nat.beq_eq.mp e1, ih W2 h']
  | agg k W ih =>
    intro y h
    cases y <;> first | cases h | skip
    rename_i k2 W2
    have h' : (Bool.rec false (sameV W W2) (Nat.beq k k2) : Bool) = true := h
    cases e1 : Nat.beq k k2 <;> rw [e1] at h' <;> first | cases h' | skip
    rw [Nat.beq_eq.mp e1, ih W2 h']
  | sp k W ih =>
    intro y h
    cases y <;> first | cases h | skip
    rename_i k2 W2
    have h' : (Bool.rec false (sameV W W2) (Nat.beq k k2) : Bool) = true := h
    cases e1 : Nat.beq k k2 <;> rw [e1] at h' <;> first | cases h' | skip
    rw [Nat.beq_eq.mp e1, ih W2 h']
  | tup W ih =>
    intro y h
    cases y <;> first | cases h | skip
    rename_i W2
    rw [ih W2 h]
  | cons A W ihA ihW =>
    intro y h
    cases y <;> first | cases h | skip
    rename_i A2 W2
    have h' : (Bool.rec false (sameV W W2) (sameV A A2) : Bool) = true := h
    cases e1 : sameV A A2 <;> rw [e1] at h' <;> first | cases h' | skip
    rw [ihA A2 e1, ihW W2 h']
end
end Go.Ev

/-! Regions that draw: what holds between operations. -/
namespace Go.Ev

section
variable {L L' L0 : Loc} {S S' S0 : Ns} {h h' h0 : H} {c c' c0 : Nm} {w w' w0 : World}
/-- a new block that the evaluator's memory does not hold yet -/
theorem Stp.late (a : Stp L0 S0 h0 c0 w0 L S h c w) {n : Nm} (hn : ¬ S n) (hc0 : c0.toNat ≤ n.toNat) (hc : n.toNat < c.toNat) {o : Obj} (hw : w'.heap = w.heap.push o) (hout : WOut w w') (k : Nat) : Stp L0 S0 h0 c0 w0 (L.put n w.heap.size k) (addN S n) h c w' := by
  have hag := Loc.put_agr (L := L) (S := S) w.heap.size k hn
  have hold : ∀ r ob, w.heap[r]? = some ob → w'.heap[r]? = some ob := fun r ob hr => by rw [hw, Array.getElem?_push, if_neg (by have := lt_size hr; omega), hr]
  exact {
    sub := fun m hm => .inl (a.sub m hm)
    new := fun m hm => by
      rcases hm with hm | rfl
      · exact a.new m hm
      · exact .inr hc0
    agr := a.agr.trans a.sub hag
    cle := a.cle
    bd := fun m hm => by
      rcases hm with hm | rfl
      · exact a.bd m hm
      · exact hc
    rel := ⟨fun m hm => by
        obtain ⟨h1, ob, h2, h3⟩ := a.rel.blk m hm
        exact ⟨.inl h1, ob, by rw [(hag m h1).1]; exact hold _ _ h2, h3.congr (fun _ h => .inl h) hag h1⟩,
      fun m m' hm hm' e => by
        rw [(hag m (a.rel.blk m hm).1).1, (hag m' (a.rel.blk m' hm').1).1] at e
        exact a.rel.inj m m' hm hm' e⟩
    size := by rw [hw]; have := a.size; simp; omega
    relb := a.relb
    kept := fun r ob hr hno => hold r ob (a.kept r ob hr hno)
    roH := a.roH
    out := a.out.trans hout
    dom := fun m hm => by
      rw [(hag m (a.rel.blk m hm).1).1]
      exact a.dom m hm }
/-- blocks that lie are taken into the evaluator's memory -/
theorem Stp.adopt (a : Stp L0 S0 h0 c0 w0 L S h c w) (hr : Rel L S h' w) (hd : ∀ n, H.get n h' ≠ .no → H.get n h ≠ .no ∨ w0.heap.size ≤ L.b n) (hro : ∀ n, isRo (H.get n h) = true → H.get n h' = H.get n h) : Stp L0 S0 h0 c0 w0 L S h' c w where
  sub := a.sub
  new := a.new
  agr := a.agr
  cle := a.cle
  bd := a.bd
  relb := a.relb
  rel := hr
  size := a.size
  kept := a.kept
  roH := fun n hn => by
    have h1 := a.roH n hn
    rw [← h1]
    exact hro n (by rw [h1]; exact hn)
  out := a.out
  dom := fun n hn => by
    rcases hd n hn with h | h
    · exact a.dom n h
    · exact .inr h
end
/-- what stays while a region runs -/
structure Fx where
  P : Program
  nt : Nat
  ops : Array Oper
  pl : Pl
  cls : Nat → Nat
  cal : Cal
  t : T
  v : Nat → V
  nS : Nat → List V
  dS : Nat → List D
  hS : Nat → H
  cS : Nat → Nm
  L0 : Loc
  S0 : Ns
  h0 : H
  c0 : Nm
  w0 : World
noncomputable def Fx.nm (x : Fx) (i : Nat) : Nm := addK x.c0 (posOf i x.pl.mks)
def Fx.pos (x : Fx) (i : Nat) : Nat := posOf i x.pl.sch
structure FxOk (x : Fx) : Prop where
  plan : PlOk x.ops x.pl x.cls
  run : RunD x.cal x.t (itemsD x.P x.nt x.ops x.pl x.cls x.pl.sch 0 []) x.v x.nS x.dS x.hS x.cS
  res : ∀ j, j < x.pl.mks.length → (x.nS 0)[x.pl.mks.length - 1 - j]? = some (.m (addK x.c0 j))
  cal : CalOk x.P x.cal
noncomputable abbrev Fx.env (x : Fx) (M : Nat) (o : Oper) : Ce := envD x.P.globals.size x.nt x.pl M (usesOf x.ops o)
section
variable {x : Fx}
theorem FxOk.len (_ : FxOk x) : (itemsD x.P x.nt x.ops x.pl x.cls x.pl.sch 0 []).length = x.pl.sch.length := itemsD_len _ _ _
/-- the operation at a place -/
theorem FxOk.main (hx : FxOk x) {m i : Nat} (h : x.pl.sch[m]? = some i) : ∃ o, AtOk x.ops x.pl x.cls (x.pl.sch.take m) i o ∧ clsI (cOp x.P (x.env m o) o) = x.cls i ∧
    Det x.cal x.t (wrapG x.ops (x.env m o) o (nameI (U.ofNat (x.pl.mks.length + m - 1 - posOf i x.pl.mks)) (cOp x.P (x.env m o) o))) (x.nS m) (x.dS m) (x.hS m) (x.cS m) (x.v m) (x.dS (m + 1)) (x.hS (m + 1)) (x.cS (m + 1)) := by
  obtain ⟨o, ho⟩ := hx.plan.at_ m i h
  have hit := itemsD_get (P := x.P) (nt := x.nt) (ops := x.ops) (pl := x.pl) (cls := x.cls) x.pl.sch 0 [] m i h
  have hd := hx.run.det m _ hit
  rw [Nat.zero_add] at hd
  simp only at hd
  unfold mainD at hd
  rw [ho.op] at hd
  simp only at hd
  by_cases hc : Nat.beq (clsI (cOp x.P (x.env m o) o)) (x.cls i) = true
  · rw [if_pos hc] at hd
    exact ⟨o, ho, Nat.beq_eq.mp hc, hd⟩
  · rw [if_neg hc] at hd
    have := hd kW
    cases this
/-- a reading once more, behind the writer at a place -/
theorem FxOk.again (hx : FxOk x) {m i j : Nat} {oj : Oper} (h : x.pl.sch[m]? = some i) (hc : x.cls i = 3) (hj : j ∈ x.pl.sch.take m) (hcj : x.cls j = 1) (hmj : Nat.testBit (x.pl.ms.getD i 0) j = false) (hoj : x.ops[j]? = some oj) :
    ∃ v' d' h' c', Det x.cal x.t (wrapG x.ops (x.env (m + 1) oj) oj (againI (U.ofNat (m - posOf j x.pl.sch)) (cOp x.P (x.env (m + 1) oj) oj))) (x.nS (m + 1)) (x.dS (m + 1)) (x.hS (m + 1)) (x.cS (m + 1)) v' d' h' c' := by
  have hit := itemsD_get (P := x.P) (nt := x.nt) (ops := x.ops) (pl := x.pl) (cls := x.cls) x.pl.sch 0 [] m i h
  have hb : Nat.beq (x.cls i) 3 = true := by rw [hc]; rfl
  rw [hb, if_pos rfl] at hit
  have hk := hx.run.ck m _ hit (againD x.P x.nt x.ops x.pl (0 + m) j) (List.mem_map.2 ⟨j, laterD_mem.2 ⟨by simpa using hj, hcj, hmj⟩, rfl⟩)
  rw [Nat.zero_add] at hk
  unfold againD at hk
  rw [hoj] at hk
  exact hk
theorem FxOk.ns_res (hx : FxOk x) {m p : Nat} (hm : m ≤ x.pl.sch.length) (hp : p < x.pl.mks.length) : nth (U.ofNat (x.pl.mks.length + m - 1 - p)) (x.nS m) = .m (addK x.c0 p) := by
  rw [nth_get, nS_get hx.run m (by rw [hx.len]; exact hm), if_neg (by omega)]
  have e1 : x.pl.mks.length + m - 1 - p - m = x.pl.mks.length - 1 - p := by omega
  rw [e1, hx.res p hp]; rfl
theorem lt_of_get {l : List Nat} {m i : Nat} (h : l[m]? = some i) : m < l.length := (List.getElem?_eq_some_iff.1 h).1
theorem mk_pos {l : List Nat} {i : Nat} (h : i ∈ l) : posOf i l < l.length := lt_of_get (posOf_get h)
/-- who leaves the memory alone -/
theorem FxOk.still (hx : FxOk x) {m i : Nat} (h : x.pl.sch[m]? = some i) (hc : x.cls i ≠ 3) : x.dS (m + 1) = x.dS m ∧ x.cS (m + 1) = x.cS m ∧ (x.cls i = 2 → x.hS (m + 1) = x.hS m ∨ ∃ b, x.hS (m + 1) = H.set (x.nm i) b (x.hS m)) ∧ (x.cls i ≠ 2 → x.hS (m + 1) = x.hS m) := by
  obtain ⟨o, ho, hcl, hd⟩ := hx.main h
  rcases guard_quiet hd with hd | ⟨_, h1, h2, h3⟩
  · cases hio : cOp x.P (x.env m o) o with
    | p f => rw [hio] at hd; obtain ⟨h1, h2, h3, _⟩ := Det.p hd; exact ⟨h1, h3, fun _ => .inl h2, fun _ => h2⟩
    | r y f => rw [hio] at hd; obtain ⟨h1, h2, h3, _⟩ := Det.r hd; exact ⟨h1, h3, fun _ => .inl h2, fun _ => h2⟩
    | w f => rw [hio] at hcl; exact absurd hcl.symm hc
    | a f =>
      rw [hio] at hd hcl
      have hmk : i ∈ x.pl.mks := ho.mkr hcl.symm
      obtain ⟨h1, h3, nm, hnm, _, b0, h2, _⟩ := Det.an hd
      rw [hx.ns_res (Nat.le_of_lt (lt_of_get h)) (mk_pos hmk)] at hnm
      injection hnm with hnm
      subst hnm
      exact ⟨h1, h3, fun _ => .inr ⟨b0, h2⟩, fun hne => absurd hcl.symm hne⟩
    | bad n => rw [hio] at hcl; have h4 := ho.cls4; rw [← hcl] at h4; exact (Nat.lt_irrefl 4 h4).elim
    | g y z o' => rw [hio] at hcl; have h4 := ho.cls4; rw [← hcl] at h4; exact (Nat.lt_irrefl 4 h4).elim
    | k y f j => rw [hio] at hcl; have h4 := ho.cls4; rw [← hcl] at h4; exact (Nat.lt_irrefl 4 h4).elim
    | an j f => rw [hio] at hcl; have h4 := ho.cls4; rw [← hcl] at h4; exact (Nat.lt_irrefl 4 h4).elim
  · exact ⟨h1, h3, fun _ => .inl h2, fun _ => h2⟩
/-- listed -/
def isL (l : Array Bool) (i : Nat) : Prop := l.getD i false = true
theorem isL_set {l : Array Bool} {i q : Nat} (hi : i < l.size) : isL (l.setIfInBounds i true) q ↔ q = i ∨ isL l q := by
  unfold isL
  simp only [Array.getD_eq_getD_getElem?, Array.getElem?_setIfInBounds]
  by_cases h : i = q
  · subst h; simp [hi]
  · simp [h, Ne.symm h]
/-- a maker's block, made and not yet in the evaluator's memory -/
def Pd (x : Fx) (w : World) (L : Loc) (S : Ns) (μ i : Nat) : Prop := ∃ b o, x.hS (x.pos i + 1) = H.set (x.nm i) b (x.hS (x.pos i)) ∧ S (x.nm i) ∧ w.heap[L.b (x.nm i)]? = some o ∧ BR L S (x.nm i) b o ∧ x.w0.heap.size ≤ L.b (x.nm i) ∧ ∀ n, H.get n (x.hS μ) ≠ .no → L.b n ≠ L.b (x.nm i)
/-- what holds between operations -/
structure DI (x : Fx) (G : Nat → Prop) (l : Array Bool) (a : Act) (w : World) (L : Loc) (S : Ns) (μ : Nat) : Prop where
  sz : l.size = x.ops.size
  mu : μ ≤ x.pl.sch.length
  stp : Stp x.L0 x.S0 x.h0 x.c0 x.w0 L S (x.hS μ) (x.cS μ) w
  gok : GOk x.P L S
  dr : DR L S (x.dS μ) a.defers
  tsz : x.nt ≤ a.tmps.size
  slot : ∀ i o s, isL l i → x.ops[i]? = some o → o.dst = some s → s < x.nt → a.tmps.getD s undef = val L (x.v (x.pos i)) ∧ (wf S (x.v (x.pos i))).v
  old : ∀ s, findW s x.pl.ds = none → T.get (tn s) x.t ≠ .x → a.tmps.getD s undef = val L (T.get (tn s) x.t) ∧ (wf S (T.get (tn s) x.t)).v
  wle : ∀ i, i < x.ops.size → x.cls i = 3 → (isL l i ↔ x.pos i < μ)
  mkl : ∀ i, i < x.ops.size → x.cls i = 2 → x.pos i < μ → isL l i
  fresh : ∀ i, i < x.ops.size → x.cls i = 2 → ¬ G i → ¬ S (x.nm i)
  made : ∀ i, G i → i < x.ops.size ∧ x.cls i = 2 ∧ isL l i
  pend : ∀ i, i < x.ops.size → x.cls i = 2 → isL l i → μ ≤ x.pos i → (¬ G i ∧ x.hS (x.pos i + 1) = x.hS (x.pos i)) ∨ (G i ∧ Pd x w L S μ i)
  apart : ∀ i j, G i → G j → μ ≤ x.pos i → μ ≤ x.pos j → i ≠ j → L.b (x.nm i) ≠ L.b (x.nm j)
  down : ∀ i q, isL l i → Nat.testBit (x.pl.ms.getD i 0) q = true → isL l q
  top : (addK x.c0 x.pl.mks.length).toNat ≤ (x.cS μ).toNat
  prev : μ = 0 ∨ ∃ i, x.pl.sch[μ - 1]? = some i ∧ x.cls i = 3
variable {l : Array Bool} {a : Act} {w : World} {L : Loc} {S : Ns} {μ : Nat} {G : Nat → Prop}
theorem FxOk.get (hx : FxOk x) {i : Nat} (hi : i < x.ops.size) : x.pl.sch[x.pos i]? = some i := posOf_get (hx.plan.all i hi)
theorem FxOk.at_pos (hx : FxOk x) {m i : Nat} (h : x.pl.sch[m]? = some i) : x.pos i = m := hx.plan.pos h
/-- the evaluator's memory at a later place -/
theorem DI.at_ (hx : FxOk x) (hd : DI x G l a w L S μ) : ∀ M, μ ≤ M → M ≤ x.pl.sch.length → (∀ m i, μ ≤ m → m < M → x.pl.sch[m]? = some i → x.cls i ≠ 3 ∧ (x.cls i = 2 → isL l i)) →
    Rel L S (x.hS M) w ∧ x.cS M = x.cS μ ∧ x.dS M = x.dS μ ∧ (∀ n, H.get n (x.hS M) ≠ .no → H.get n (x.hS μ) ≠ .no ∨ ∃ i, G i ∧ μ ≤ x.pos i ∧ x.pos i < M ∧ n = x.nm i ∧ Pd x w L S μ i) ∧ ∀ n, isRo (H.get n (x.hS μ)) = true → H.get n (x.hS M) = H.get n (x.hS μ) := by
  intro M
  induction M with
  | zero =>
    intro h0 _ _
    have : μ = 0 := by omega
    subst this
    exact ⟨hd.stp.rel, rfl, rfl, fun n hn => .inl hn, fun _ _ => rfl⟩
  | succ M ih =>
    intro h0 hM hall
    by_cases hmu : μ = M + 1
    · subst hmu
      exact ⟨hd.stp.rel, rfl, rfl, fun n hn => .inl hn, fun _ _ => rfl⟩
    have hle : μ ≤ M := by omega
    obtain ⟨r1, r2, r3, r4, r5⟩ := ih hle (by omega) (fun m i h1 h2 h3 => hall m i h1 (by omega) h3)
    have hlt : M < x.pl.sch.length := by omega
    have hi : x.pl.sch[M]? = some x.pl.sch[M] := List.getElem?_eq_getElem hlt
    generalize x.pl.sch[M] = i at hi
    obtain ⟨hc3, hc2⟩ := hall M i hle (by omega) hi
    obtain ⟨s1, s2, s3, s4⟩ := hx.still hi hc3
    have hpos := hx.at_pos hi
    have hsame : x.hS (M + 1) = x.hS M → Rel L S (x.hS (M + 1)) w ∧ x.cS (M + 1) = x.cS μ ∧ x.dS (M + 1) = x.dS μ ∧ (∀ n, H.get n (x.hS (M + 1)) ≠ .no → H.get n (x.hS μ) ≠ .no ∨ ∃ i, G i ∧ μ ≤ x.pos i ∧ x.pos i < M + 1 ∧ n = x.nm i ∧ Pd x w L S μ i) ∧ ∀ n, isRo (H.get n (x.hS μ)) = true → H.get n (x.hS (M + 1)) = H.get n (x.hS μ) := by
      intro he
      rw [he]
      refine ⟨r1, s2.trans r2, s1.trans r3, fun n hn => ?_, r5⟩
      rcases r4 n hn with h | ⟨j, j1, j4, j5, j6, j7⟩
      · exact .inl h
      · exact .inr ⟨j, j1, j4, by omega, j6, j7⟩
    by_cases hcl : x.cls i = 2
    · have his := hx.plan.sch_op hi
      rcases hd.pend i his hcl (hc2 hcl) (by rw [hpos]; exact hle) with ⟨_, he⟩ | ⟨hgi, hp⟩
      · rw [hpos] at he; exact hsame he
      · have hp' := hp
        obtain ⟨b, o, p1, p2, p3, p4, p5, p6⟩ := hp
        rw [hpos] at p1
        have hget : ∀ n, H.get n (x.hS (M + 1)) = if n = x.nm i then b else H.get n (x.hS M) := fun n => by rw [p1, hget_set]
        have hne : ∀ n, n ≠ x.nm i → H.get n (x.hS M) ≠ .no → L.b n ≠ L.b (x.nm i) := by
          intro n hn1 hn2
          rcases r4 n hn2 with h | ⟨j, j1, j4, j5, j6, j7⟩
          · exact p6 n h
          · rw [j6]
            refine hd.apart j i j1 hgi j4 (by rw [hpos]; exact hle) ?_
            rintro rfl
            exact hn1 j6
        refine ⟨⟨fun n hn => ?_, fun n n' hn hn' e => ?_⟩, s2.trans r2, s1.trans r3, fun n hn => ?_, fun n hn => ?_⟩
        · rw [hget] at hn ⊢
          by_cases hnn : n = x.nm i
          · rw [if_pos hnn]; subst hnn; exact ⟨p2, o, p3, p4⟩
          · rw [if_neg hnn] at hn ⊢; exact r1.blk n hn
        · rw [hget] at hn hn'
          by_cases hnn : n = x.nm i
          · by_cases hnn' : n' = x.nm i
            · rw [hnn, hnn']
            · rw [if_neg hnn'] at hn'
              rw [hnn] at e
              exact absurd e.symm (hne n' hnn' hn')
          · rw [if_neg hnn] at hn
            by_cases hnn' : n' = x.nm i
            · rw [hnn'] at e
              exact absurd e (hne n hnn hn)
            · rw [if_neg hnn'] at hn'
              exact r1.inj n n' hn hn' e
        · rw [hget] at hn
          by_cases hnn : n = x.nm i
          · exact .inr ⟨i, hgi, by rw [hpos]; exact hle, by rw [hpos]; omega, hnn, hp'⟩
          · rw [if_neg hnn] at hn
            rcases r4 n hn with h | ⟨j, j1, j4, j5, j6, j7⟩
            · exact .inl h
            · exact .inr ⟨j, j1, j4, by omega, j6, j7⟩
        · have hnn : n ≠ x.nm i := by
            rintro rfl
            exact p6 _ (isRo_ne hn) rfl
          rw [hget, if_neg hnn]
          exact r5 n hn
    · exact hsame (s4 hcl)
/-- operands of an operation whose turn it may be -/
theorem DI.mat (hx : FxOk x) (hd : DI x G l a w L S μ) {m i M : Nat} {o : Oper} (_ : x.pl.sch[m]? = some i) (ho : AtOk x.ops x.pl x.cls (x.pl.sch.take m) i o) (hmask : ∀ q, Nat.testBit (x.pl.ms.getD i 0) q = true → isL l q) (hM1 : m ≤ M) (hM : M ≤ x.pl.sch.length) :
    Mat L S (x.env M o) a (x.nS M) x.t := by
  refine Mat_env hx.run (by rw [hx.len]; exact hM) hd.gok (fun s hs q hq hlt => ?_) hd.old
  have hb := ho.uses s hs q hq
  obtain ⟨m', hm', hq'⟩ := mem_take_iff.1 (ho.early q hb)
  obtain ⟨oq, hoq, hdq⟩ := hx.plan.ds s q hq
  have hp : posOf q x.pl.sch = m' := hx.plan.pos hq'
  have := hd.slot q oq s (hmask q hb) hoq hdq hlt
  exact ⟨by rw [hp]; omega, this.1, this.2⟩
end
end Go.Ev

/-! Regions that draw: every order. -/
namespace Go.Ev

section
variable {x : Fx} {l : Array Bool} {a : Act} {w : World} {L : Loc} {S : Ns} {μ : Nat} {G : Nat → Prop}
/-- slots behind an operation -/
theorem DI.slots (hx : FxOk x) (hd : DI x G l a w L S μ) {m i : Nat} {o : Oper} (h : x.pl.sch[m]? = some i) (ho : AtOk x.ops x.pl x.cls (x.pl.sch.take m) i o) {L' : Loc} {S' : Ns} (hsub : ∀ n, S n → S' n) (hag : Agr S L L') (hv : (wf S' (x.v m)).v) (ds' : List Deferred) :
    (∀ q oq s, isL (l.setIfInBounds i true) q → x.ops[q]? = some oq → oq.dst = some s → s < x.nt → ({ a with defers := ds' }.put o.dst (val L' (x.v m))).tmps.getD s undef = val L' (x.v (x.pos q)) ∧ (wf S' (x.v (x.pos q))).v) ∧
    (∀ s, findW s x.pl.ds = none → T.get (tn s) x.t ≠ .x → ({ a with defers := ds' }.put o.dst (val L' (x.v m))).tmps.getD s undef = val L' (T.get (tn s) x.t) ∧ (wf S' (T.get (tn s) x.t)).v) ∧
    x.nt ≤ ({ a with defers := ds' }.put o.dst (val L' (x.v m))).tmps.size := by
  have hil : i < l.size := by rw [hd.sz]; exact hx.plan.sch_op h
  have other : ∀ s, o.dst ≠ some s → ({ a with defers := ds' }.put o.dst (val L' (x.v m))).tmps.getD s undef = a.tmps.getD s undef := by
    intro s hs
    cases hdst : o.dst with
    | none => rfl
    | some d => exact put_other { a with defers := ds' } d _ s (fun hh => hs (by rw [hdst, hh]))
  refine ⟨fun q oq s hq hoq hdq hs => ?_, fun s hs ht => ?_, by rw [put_size]; exact hd.tsz⟩
  · by_cases hqi : q = i
    · subst hqi
      rw [ho.op] at hoq
      cases hoq
      rw [hx.at_pos h, hdq]
      exact ⟨by rw [put_getD { a with defers := ds' } s _ s (Nat.lt_of_lt_of_le hs hd.tsz), if_pos rfl], hv⟩
    · have hql : isL l q := ((isL_set hil).1 hq).resolve_left hqi
      obtain ⟨h1, h2⟩ := hd.slot q oq s hql hoq hdq hs
      have hqs : q < x.ops.size := (Array.getElem?_eq_some_iff.1 hoq).1
      obtain ⟨oq', hoq'⟩ := hx.plan.at_ (x.pos q) q (hx.get hqs)
      have hoo : oq' = oq := by have := hoq'.op; rw [hoq] at this; exact (Option.some.inj this).symm
      subst hoo
      have hne : o.dst ≠ some s := by
        intro hh
        have e1 := ho.dst s hh
        have e2 := hoq'.dst s hdq
        rw [e1] at e2
        exact hqi (Option.some.inj e2).symm
      rw [other s hne, h1]
      exact ⟨((den_congr hag _).1 h2).symm, (wf_mono hsub _).1 h2⟩
  · have hne : o.dst ≠ some s := by
      intro hh
      rw [ho.dst s hh] at hs; cases hs
    obtain ⟨h1, h2⟩ := hd.old s hs ht
    rw [other s hne, h1]
    exact ⟨((den_congr hag _).1 h2).symm, (wf_mono hsub _).1 h2⟩
theorem DI.down' (hx : FxOk x) (hd : DI x G l a w L S μ) {m i : Nat} (h : x.pl.sch[m]? = some i) (hmask : ∀ q, Nat.testBit (x.pl.ms.getD i 0) q = true → isL l q) : ∀ j q, isL (l.setIfInBounds i true) j → Nat.testBit (x.pl.ms.getD j 0) q = true → isL (l.setIfInBounds i true) q := by
  have hil : i < l.size := by rw [hd.sz]; exact hx.plan.sch_op h
  intro j q hj hq
  rcases (isL_set hil).1 hj with rfl | hj
  · exact (isL_set hil).2 (.inr (hmask q hq))
  · exact (isL_set hil).2 (.inr (hd.down j q hj hq))
/-- an operation that leaves the memory alone -/
theorem DI.quiet (hx : FxOk x) (hd : DI x G l a w L S μ) {m i : Nat} {o : Oper} (h : x.pl.sch[m]? = some i) (ho : AtOk x.ops x.pl x.cls (x.pl.sch.take m) i o) (hun : ¬ isL l i) (hmask : ∀ q, Nat.testBit (x.pl.ms.getD i 0) q = true → isL l q)
    (hc : x.cls i ≠ 3) (hc2 : x.cls i = 2 → x.hS (m + 1) = x.hS m) (hv : (wf S (x.v m)).v) : DI x G (l.setIfInBounds i true) (a.put o.dst (val L (x.v m))) w L S μ := by
  have his : i < x.ops.size := hx.plan.sch_op h
  have hil : i < l.size := by rw [hd.sz]; exact his
  have hpos := hx.at_pos h
  obtain ⟨s1, s2, s3⟩ := hd.slots hx h ho (fun _ h => h) (Agr.refl S L) hv a.defers
  exact {
    sz := by rw [Array.size_setIfInBounds]; exact hd.sz
    mu := hd.mu
    stp := hd.stp
    gok := hd.gok
    dr := by cases o.dst <;> exact hd.dr
    tsz := s3
    slot := s1
    old := s2
    wle := fun j hj hcj => by
      rw [isL_set hil, ← hd.wle j hj hcj]
      constructor
      · rintro (rfl | h)
        · exact absurd hcj hc
        · exact h
      · exact .inr
    mkl := fun j hj hcj hp => (isL_set hil).2 (.inr (hd.mkl j hj hcj hp))
    fresh := hd.fresh
    made := fun j hj => ⟨(hd.made j hj).1, (hd.made j hj).2.1, (isL_set hil).2 (.inr (hd.made j hj).2.2)⟩
    pend := fun j hj hcj hl hp => by
      rcases (isL_set hil).1 hl with rfl | hl
      · left; rw [hpos]; exact ⟨fun hg => hun (hd.made _ hg).2.2, hc2 hcj⟩
      · exact hd.pend j hj hcj hl hp
    apart := hd.apart
    down := hd.down' hx h hmask
    top := hd.top
    prev := hd.prev }
/-- an operation that makes a block -/
theorem DI.make (hx : FxOk x) (hd : DI x G l a w L S μ) {m i : Nat} {o : Oper} (h : x.pl.sch[m]? = some i) (ho : AtOk x.ops x.pl x.cls (x.pl.sch.take m) i o) (hun : ¬ isL l i) (hmask : ∀ q, Nat.testBit (x.pl.ms.getD i 0) q = true → isL l q)
    (hc : x.cls i = 2) {b : Blk} {ob : Obj} {kc : Nat} {w' : World} (hb : x.hS (m + 1) = H.set (x.nm i) b (x.hS m)) (hw : w'.heap = w.heap.push ob) (hout : WOut w w') (hbr : BR (L.put (x.nm i) w.heap.size kc) (addN S (x.nm i)) (x.nm i) b ob) (hv : (wf (addN S (x.nm i)) (x.v m)).v) :
    DI x (fun j => G j ∨ j = i) (l.setIfInBounds i true) (a.put o.dst (val (L.put (x.nm i) w.heap.size kc) (x.v m))) w' (L.put (x.nm i) w.heap.size kc) (addN S (x.nm i)) μ := by
  have his : i < x.ops.size := hx.plan.sch_op h
  have hil : i < l.size := by rw [hd.sz]; exact his
  have hpos := hx.at_pos h
  have hmk : i ∈ x.pl.mks := ho.mkr hc
  have hnG : ¬ G i := fun hg => hun (hd.made i hg).2.2
  have hnS : ¬ S (x.nm i) := hd.fresh i his hc hnG
  have hag := Loc.put_agr (L := L) (S := S) w.heap.size kc hnS
  have hnm : (x.nm i).toNat = x.c0.toNat + posOf i x.pl.mks := addK_toNat _ _
  have htop := hd.top
  rw [addK_toNat] at htop
  have hmp := mk_pos hmk
  obtain ⟨s1, s2, s3⟩ := hd.slots hx h ho (S' := addN S (x.nm i)) (fun _ h => .inl h) hag hv a.defers
  have st := hd.stp.late hnS (by omega) (by omega) hw hout kc
  have hold : ∀ r o', w.heap[r]? = some o' → w'.heap[r]? = some o' := fun r o' hr => by rw [hw, Array.getElem?_push, if_neg (by have := lt_size hr; omega), hr]
  have hnew : w'.heap[w.heap.size]? = some ob := by rw [hw, Array.getElem?_push_size]
  -- a block that was pending still is
  have keep : ∀ j, Pd x w L S μ j → Pd x w' (L.put (x.nm i) w.heap.size kc) (addN S (x.nm i)) μ j := by
    rintro j ⟨b', o', p1, p2, p3, p4, p5, p6⟩
    refine ⟨b', o', p1, .inl p2, by rw [(hag _ p2).1]; exact hold _ _ p3, p4.congr (fun _ h => .inl h) hag p2, by rw [(hag _ p2).1]; exact p5, fun n hn => ?_⟩
    rw [(hag _ p2).1, (hag n (hd.stp.rel.blk n hn).1).1]
    exact p6 n hn
  have pd : ∀ j, G j → μ ≤ x.pos j → Pd x w L S μ j := fun j hg hp => by
    obtain ⟨h1, h2, h3⟩ := hd.made j hg
    rcases hd.pend j h1 h2 h3 hp with ⟨h4, _⟩ | ⟨_, h4⟩
    · exact absurd hg h4
    · exact h4
  have lt_new : ∀ j, G j → μ ≤ x.pos j → (L.put (x.nm i) w.heap.size kc).b (x.nm j) ≠ w.heap.size := fun j hg hp => by
    obtain ⟨_, o', _, p2, p3, _⟩ := pd j hg hp
    rw [(hag _ p2).1]
    have := lt_size p3
    omega
  exact {
    sz := by rw [Array.size_setIfInBounds]; exact hd.sz
    mu := hd.mu
    stp := st
    gok := fun g hg => ⟨.inl (hd.gok g hg).1, ((hag _ (hd.gok g hg).1).1).trans (hd.gok g hg).2⟩
    dr := by
      have := hd.dr.congr (S' := addN S (x.nm i)) (fun _ h => .inl h) hag
      cases o.dst <;> exact this
    tsz := s3
    slot := s1
    old := s2
    wle := fun j hj hcj => by
      rw [isL_set hil, ← hd.wle j hj hcj]
      constructor
      · rintro (rfl | h)
        · omega
        · exact h
      · exact .inr
    mkl := fun j hj hcj hp => (isL_set hil).2 (.inr (hd.mkl j hj hcj hp))
    fresh := fun j hj hcj hn => by
      rintro (hh | hh)
      · exact hd.fresh j hj hcj (fun hg => hn (.inl hg)) hh
      · have e2 : (x.nm j).toNat = x.c0.toNat + posOf j x.pl.mks := addK_toNat _ _
        have e1 := congrArg Nm.toNat hh
        obtain ⟨oj, hoj⟩ := hx.plan.at_ (x.pos j) j (hx.get hj)
        have e3 := posOf_get (hoj.mkr hcj)
        have e4 := posOf_get hmk
        have e5 : posOf j x.pl.mks = posOf i x.pl.mks := by omega
        rw [e5, e4] at e3
        exact hn (.inr (Option.some.inj e3).symm)
    made := fun j hj => by
      rcases hj with hj | rfl
      · exact ⟨(hd.made j hj).1, (hd.made j hj).2.1, (isL_set hil).2 (.inr (hd.made j hj).2.2)⟩
      · exact ⟨his, hc, (isL_set hil).2 (.inl rfl)⟩
    pend := fun j hj hcj hl hp => by
      by_cases hji : j = i
      · subst hji
        right
        refine ⟨.inr rfl, b, ob, by rw [hpos]; exact hb, .inr rfl, by rw [Loc.put_b]; exact hnew, hbr, ?_, fun n hn => ?_⟩
        · rw [Loc.put_b]; exact hd.stp.size
        · rw [Loc.put_b, (hag n (hd.stp.rel.blk n hn).1).1]
          have := hd.stp.rel.lt hn
          omega
      · have hl' := ((isL_set hil).1 hl).resolve_left hji
        rcases hd.pend j hj hcj hl' hp with ⟨h1, h2⟩ | ⟨h1, h2⟩
        · exact .inl ⟨fun hh => hh.elim h1 hji, h2⟩
        · exact .inr ⟨.inl h1, keep j h2⟩
    apart := fun j k hj hk hpj hpk hne => by
      rcases hj with hj | rfl
      · rcases hk with hk | rfl
        · obtain ⟨_, _, _, p2, _⟩ := pd j hj hpj
          obtain ⟨_, _, _, q2, _⟩ := pd k hk hpk
          rw [(hag _ p2).1, (hag _ q2).1]
          exact hd.apart j k hj hk hpj hpk hne
        · rw [Loc.put_b]
          exact lt_new j hj hpj
      · rcases hk with hk | rfl
        · rw [Loc.put_b]
          exact fun e => lt_new k hk hpk e.symm
        · exact absurd rfl hne
    down := hd.down' hx h hmask
    top := hd.top
    prev := hd.prev }
/-- an operation that may change the memory -/
theorem DI.loud (hx : FxOk x) (hd : DI x G l a w L S μ) {m i : Nat} {o : Oper} (h : x.pl.sch[m]? = some i) (ho : AtOk x.ops x.pl x.cls (x.pl.sch.take m) i o) (hun : ¬ isL l i) (hmask : ∀ q, Nat.testBit (x.pl.ms.getD i 0) q = true → isL l q)
    (hc : x.cls i = 3) (hmu : μ ≤ m) (hat : Rel L S (x.hS m) w ∧ x.cS m = x.cS μ ∧ x.dS m = x.dS μ ∧ (∀ n, H.get n (x.hS m) ≠ .no → H.get n (x.hS μ) ≠ .no ∨ ∃ i, G i ∧ μ ≤ x.pos i ∧ x.pos i < m ∧ n = x.nm i ∧ Pd x w L S μ i) ∧ ∀ n, isRo (H.get n (x.hS μ)) = true → H.get n (x.hS m) = H.get n (x.hS μ))
    {L' : Loc} {S' : Ns} {w' : World} {ds' : List Deferred} (hst : Stp L S (x.hS m) (x.cS m) w L' S' (x.hS (m + 1)) (x.cS (m + 1)) w') (hv : (wf S' (x.v m)).v) (hdr : DR L' S' (x.dS (m + 1)) ds') :
    DI x G (l.setIfInBounds i true) ({ a with defers := ds' }.put o.dst (val L' (x.v m))) w' L' S' (m + 1) := by
  have his : i < x.ops.size := hx.plan.sch_op h
  have hil : i < l.size := by rw [hd.sz]; exact his
  have hpos := hx.at_pos h
  obtain ⟨s1, s2, s3⟩ := hd.slots hx h ho hst.sub hst.agr hv ds'
  obtain ⟨r1, r2, r3, r4, r5⟩ := hat
  have pd : ∀ j, G j → μ ≤ x.pos j → Pd x w L S μ j := fun j hg hp => by
    obtain ⟨h1, h2, h3⟩ := hd.made j hg
    rcases hd.pend j h1 h2 h3 hp with ⟨h4, _⟩ | ⟨_, h4⟩
    · exact absurd hg h4
    · exact h4
  have st := hd.stp.adopt (c := x.cS μ) r1 (fun n hn => by
    rcases r4 n hn with h | ⟨j, _, _, _, hn, _, _, _, _, _, _, hsz, _⟩
    · exact .inl h
    · rw [hn]; exact .inr hsz) r5
  rw [← r2] at st
  have early : ∀ j, j ∈ x.pl.sch.take m → x.cls j = 2 ∨ x.cls j = 3 → isL l j := fun j hj hcj => hmask j (ho.loud (.inr hc) j hj hcj)
  exact {
    sz := by rw [Array.size_setIfInBounds]; exact hd.sz
    mu := lt_of_get h
    stp := st.trans hst
    gok := fun g hg => ⟨hst.sub _ (hd.gok g hg).1, ((hst.agr _ (hd.gok g hg).1).1).trans (hd.gok g hg).2⟩
    dr := by cases o.dst <;> exact hdr
    tsz := s3
    slot := s1
    old := s2
    wle := fun j hj hcj => by
      rw [isL_set hil]
      constructor
      · rintro (rfl | hh)
        · rw [hpos]; omega
        · have := (hd.wle j hj hcj).1 hh; omega
      · intro hlt
        by_cases hji : j = i
        · exact .inl hji
        · right
          refine early j (mem_take_iff.2 ⟨x.pos j, ?_, hx.get hj⟩) (.inr hcj)
          rcases Nat.lt_or_ge (x.pos j) m with hh | hh
          · exact hh
          · exfalso
            have e1 : x.pos j = m := by omega
            have e2 := hx.get hj
            rw [e1, h] at e2
            exact hji (Option.some.inj e2).symm
    mkl := fun j hj hcj hlt => by
      refine (isL_set hil).2 (.inr (early j (mem_take_iff.2 ⟨x.pos j, ?_, hx.get hj⟩) (.inl hcj)))
      rcases Nat.lt_or_ge (x.pos j) m with hh | hh
      · exact hh
      · exfalso
        have e1 : x.pos j = m := by omega
        have e2 := hx.get hj
        rw [e1, h] at e2
        rw [← Option.some.inj e2] at hcj
        omega
    fresh := fun j hj hcj hn hh => by
      rcases hst.new _ hh with h1 | h1
      · exact hd.fresh j hj hcj hn h1
      · have e2 : (x.nm j).toNat = x.c0.toNat + posOf j x.pl.mks := addK_toNat _ _
        obtain ⟨oj, hoj⟩ := hx.plan.at_ (x.pos j) j (hx.get hj)
        have := mk_pos (hoj.mkr hcj)
        have htop := hd.top
        rw [addK_toNat] at htop
        rw [r2] at h1
        omega
    made := fun j hj => ⟨(hd.made j hj).1, (hd.made j hj).2.1, (isL_set hil).2 (.inr (hd.made j hj).2.2)⟩
    pend := fun j hj hcj hl hp => by
      rcases (isL_set hil).1 hl with rfl | hl
      · omega
      · rcases hd.pend j hj hcj hl (by omega) with ⟨h1, h2⟩ | ⟨h1, b', o', p1, p2, p3, p4, p5, p6⟩
        · exact .inl ⟨h1, h2⟩
        · right
          have hnot : ∀ n, H.get n (x.hS m) ≠ .no → L.b n ≠ L.b (x.nm j) := fun n hn => by
            rcases r4 n hn with h | ⟨k, k1, k2, k3, k4, _⟩
            · exact p6 n h
            · rw [k4]
              exact hd.apart k j k1 h1 k2 (by omega) (by rintro rfl; omega)
          have eb : L'.b (x.nm j) = L.b (x.nm j) := (hst.agr _ p2).1
          refine ⟨h1, b', o', p1, hst.sub _ p2, by rw [eb]; exact hst.kept _ _ p3 (fun n hn _ => hnot n hn), p4.congr hst.sub hst.agr p2, by rw [eb]; exact p5, fun n hn => ?_⟩
          rw [eb]
          rcases hst.dom n hn with ⟨k, k1, k2⟩ | k1
          · rw [k2]; exact hnot k k1
          · have := lt_size p3
            omega
    apart := fun j k hj hk hpj hpk hne => by
      obtain ⟨_, _, _, p2, _⟩ := pd j hj (by omega)
      obtain ⟨_, _, _, q2, _⟩ := pd k hk (by omega)
      rw [(hst.agr _ p2).1, (hst.agr _ q2).1]
      exact hd.apart j k hj hk (by omega) (by omega) hne
    down := hd.down' hx h hmask
    top := by have := hd.top; have := hst.cle; rw [r2] at this; omega
    prev := .inr ⟨i, by rw [Nat.add_sub_cancel]; exact h, hc⟩ }
end
end Go.Ev

/-! Regions that draw: soundness. -/
namespace Go.Ev

section
variable {x : Fx} {l : Array Bool} {a : Act} {w : World} {L : Loc} {S : Ns} {μ : Nat} {G : Nat → Prop} {rd : Option Nat}
theorem not_defer {P : Program} {e : Ce} {o : Oper} (h : ∀ n, cOp P e o ≠ .bad n) : ∀ c, o.op ≠ .defer c := by
  intro c hc
  apply h 336
  unfold cOp
  simp only [hc]
theorem unl_of {l : Array Bool} {i : Nat} (hi : i < l.size) (h : l.getD i true = false) : ¬ isL l i := by
  unfold isL
  simp only [Array.getD_eq_getD_getElem?, Array.getElem?_eq_getElem hi, Option.getD_some] at h ⊢
  rw [h]; simp
/-- one operation, whenever it comes -/
theorem DI.step (hx : FxOk x) (hd : DI x G l a w L S μ) {i : Nat} (hi : i ∈ Region.ready .any x.ops l) {Q : Exit → Act → World → Prop} {K : Act → World → Prop}
    (hK : ∀ G' a' w' L' S' μ', DI x G' (l.setIfInBounds i true) a' w' L' S' μ' → K a' w') : wpOpIn (fnc rd) 0 x.P x.ops Q i K a w := by
  obtain ⟨hun0, o', ho', hedge⟩ := mem_ready.1 hi
  have his : i < x.ops.size := (Array.getElem?_eq_some_iff.1 ho').1
  have hun : ¬ isL l i := unl_of (by rw [hd.sz]; exact his) hun0
  have h := hx.get his
  generalize hmm : x.pos i = m at h
  obtain ⟨o, ho, hcl, hdet⟩ := hx.main h
  have hoo : o' = o := by rw [ho.op] at ho'; exact (Option.some.inj ho').symm
  subst hoo
  have hmN : m ≤ x.pl.sch.length := Nat.le_of_lt (lt_of_get h)
  have hmask : ∀ q, Nat.testBit (x.pl.ms.getD i 0) q = true → isL l q := by
    intro q hq
    obtain ⟨e, he, hb, h1⟩ := ho.mask q hq
    have h2 : isL l e.on := hedge e (by simpa using he) hb
    rcases h1 with h1 | h1
    · rw [← h1]; exact h2
    · exact hd.down e.on q h2 h1
  have hm := hd.mat hx h ho hmask (Nat.le_refl m) hmN
  -- the memory at the operation's own place
  have hat : μ ≤ m → (x.cls i = 1 ∨ x.cls i = 3) → Rel L S (x.hS m) w ∧ x.cS m = x.cS μ ∧ x.dS m = x.dS μ ∧ (∀ n, H.get n (x.hS m) ≠ .no → H.get n (x.hS μ) ≠ .no ∨ ∃ i, G i ∧ μ ≤ x.pos i ∧ x.pos i < m ∧ n = x.nm i ∧ Pd x w L S μ i) ∧ ∀ n, isRo (H.get n (x.hS μ)) = true → H.get n (x.hS m) = H.get n (x.hS μ) := by
    intro hmu hc
    refine hd.at_ hx m hmu hmN (fun m' q h1 h2 h3 => ?_)
    have hq := mem_take_iff.2 ⟨m', h2, h3⟩
    have hqs := hx.plan.sch_op h3
    have hqp := hx.at_pos h3
    refine ⟨fun hc3 => ?_, fun hc2 => hmask q (ho.loud hc q hq (.inl hc2))⟩
    have := (hd.wle q hqs hc3).1 (hmask q (ho.loud hc q hq (.inr hc3)))
    omega
  have hmu3 : x.cls i = 3 → μ ≤ m := by
    intro hc
    rcases Nat.lt_or_ge m μ with hlt | hge
    · exact absurd ((hd.wle i his hc).2 (by rw [hmm]; exact hlt)) hun
    · exact hge
  unfold wpOpIn
  rw [ho.op]
  simp only
  rcases guard_cases hdet hm with ⟨hw, hdet⟩ | ⟨hw, hu, h1, h2, h3⟩
  · rw [if_pos hw]
    refine ⟨fun _ _ => trivial, ?_⟩
    have hox := cOp_OX (P := x.P) (rd := rd) (e := x.env m o') (o := o')
    cases hio : cOp x.P (x.env m o') o' with
    | p f =>
      rw [hio] at hdet hox hcl
      have hnd := not_defer (P := x.P) (e := x.env m o') (o := o') (by rw [hio]; intro n hn; cases hn)
      obtain ⟨_, e1, _, hg, hy⟩ := Det.p hdet
      obtain ⟨y, q1, q2, q3⟩ := hox L S a (x.nS m) x.t kV hm hg
      have hy' := hy y q2
      rw [Oper.semAt_eq _ _ _ hnd, q3 w, Oper.uponIn_value, ← hy']
      refine hK G _ w L S μ (hd.quiet hx h ho hun hmask (by rw [← hcl]; simp [clsI]) (fun hc => by rw [← hcl] at hc; cases hc) (by rw [hy']; exact q1))
    | r y f =>
      rw [hio] at hdet hox hcl
      have hnd := not_defer (P := x.P) (e := x.env m o') (o := o') (by rw [hio]; intro n hn; cases hn)
      have hc1 : x.cls i = 1 := hcl.symm
      have fin : ∀ y', (execOp a.eval o').run x.P w = .ok (.value (val L y')) w → (wf S y').v → x.v m = y' → o'.uponIn (fnc rd) 0 x.P a K Q ((o'.semAt (fnc rd).round a.eval).run x.P w) := by
        intro y' q3 q1 hy'
        rw [Oper.semAt_eq _ _ _ hnd, q3, Oper.uponIn_value, ← hy']
        exact hK G _ w L S μ (hd.quiet hx h ho hun hmask (by rw [hc1]; simp) (fun hc => by rw [hc1] at hc; cases hc) (by rw [hy']; exact q1))
      rcases Nat.lt_or_ge m μ with hlt | hge
      · -- the writer behind which it is read once more
        rcases hd.prev with h0 | ⟨iw, hiw, hcw⟩
        · omega
        · have hpw := hx.at_pos hiw
          have hws := hx.plan.sch_op hiw
          have hlw : isL l iw := (hd.wle iw hws hcw).2 (by rw [hpw]; omega)
          have hnb : Nat.testBit (x.pl.ms.getD iw 0) i = false := by
            cases hb : Nat.testBit (x.pl.ms.getD iw 0) i
            · rfl
            · exact absurd (hd.down iw i hlw hb) hun
          have hmne : m ≠ μ - 1 := by
            intro hh
            rw [hh, hiw] at h
            have := Option.some.inj h
            subst this
            rw [hc1] at hcw; cases hcw
          obtain ⟨v', d', h', c', hag⟩ := hx.again hiw hcw (mem_take_iff.2 ⟨m, by omega, h⟩) hc1 hnb ho.op
          have e1 : μ - 1 + 1 = μ := by omega
          rw [e1] at hag
          have hm2 := hd.mat hx h ho hmask (M := μ) (by omega) hd.mu
          have hox2 := cOp_OX (P := x.P) (rd := rd) (e := x.env μ o') (o := o')
          rcases guard_cases hag hm2 with ⟨_, hag⟩ | ⟨hw2, _⟩
          · cases hio2 : cOp x.P (x.env μ o') o' with
            | r y2 f2 =>
              rw [hio2] at hag hox2
              obtain ⟨hg, hy⟩ := Det.k hag
              obtain ⟨y', q1, q2, q3⟩ := hox2 L S a (x.nS μ) x.t _ w kV hm2 (fun hn => hd.stp.rel.blk _ hn) hg
              have hs := sameV_eq _ _ (hy y' q2)
              have e2 : nth (U.ofNat (μ - 1 - posOf i x.pl.sch)) (x.nS μ) = x.v m := by
                rw [nth_get, nS_get hx.run μ (by rw [hx.len]; exact hd.mu)]
                have e3 : posOf i x.pl.sch = m := hmm
                rw [e3, if_pos (by omega)]
                show x.v _ = _
                congr 1; omega
              exact fin y' q3 q1 (by rw [hs, e2])
            | _ => rw [hio2] at hag; cases (hag kW)
          · rw [hw] at hw2; cases hw2
      · have r1 := (hat hge (.inl hc1)).1
        obtain ⟨_, _, _, hg, hy⟩ := Det.r hdet
        obtain ⟨y', q1, q2, q3⟩ := hox L S a (x.nS m) x.t _ w kV hm (fun hn => r1.blk _ hn) hg
        exact fin y' q3 q1 (hy y' q2)
    | a f =>
      rw [hio] at hdet hox hcl
      have hnd := not_defer (P := x.P) (e := x.env m o') (o := o') (by rw [hio]; intro n hn; cases hn)
      have hc2 : x.cls i = 2 := hcl.symm
      have hmk := ho.mkr hc2
      obtain ⟨_, _, nm, hnm, hg, b0, hb0, hy⟩ := Det.an hdet
      rw [hx.ns_res hmN (mk_pos hmk)] at hnm
      injection hnm with hnm
      subst hnm
      obtain ⟨mk, b, q1, q2⟩ := hox L S a (x.nS m) x.t _ hm hg
      obtain ⟨e1, e2⟩ := hy mk b q1
      have hnG : ¬ G i := fun hgi => hun (hd.made i hgi).2.2
      obtain ⟨w', ob, kc, q3, q4, qo, q5, q6⟩ := q2 (x.nm i) w (hd.fresh i his hc2 hnG)
      rw [Oper.semAt_eq _ _ _ hnd, q3, Oper.uponIn_value]
      have e3 : mk (x.nm i) = x.v m := e1.symm
      rw [e3] at q6 ⊢
      exact hK _ _ w' _ _ μ (hd.make hx h ho hun hmask hc2 (b := b) (by rw [hb0, e2]; rfl) q4 qo q5 q6)
    | w f =>
      rw [hio] at hdet hox hcl
      have hc3 : x.cls i = 3 := hcl.symm
      have hmu := hmu3 hc3
      have hat' := hat hmu (.inr hc3)
      have r1 := hat'.1
      have r2 := hat'.2.1
      have r3 := hat'.2.2.1
      obtain ⟨tt, e1, e2⟩ := Det.w hdet
      refine hox x.cal a (x.nS m) x.t (x.dS m) (x.hS m) (x.cS m) w L S kW K Q hx.cal hd.gok hm r1 (by rw [r2]; exact hd.stp.bd) (by rw [r3]; exact hd.dr) (by rw [e1]; intro n hn; cases hn) ?_ ?_
      · intro y d' h' c' L' S' ds' w' hst hv hdr heq
        rw [e1] at heq
        have heq' : R.norm tt (x.dS (m + 1)) (x.hS (m + 1)) (x.cS (m + 1)) = R.norm (.nd .e y .e) d' h' c' := heq
        injection heq' with t1 t2 t3 t4
        subst t2 t3 t4
        have e3 : y = x.v m := by rw [← e2, t1]; rfl
        subst e3
        exact hK G _ w' L' S' (m + 1) (hd.loud hx h ho hun hmask hc3 hmu hat' hst hv hdr)
      · intro ch h' c' chain L' S' w' _ _ heq
        rw [e1] at heq; cases heq
    | bad n => rw [hio] at hcl; have h4 := ho.cls4; rw [← hcl] at h4; exact (Nat.lt_irrefl 4 h4).elim
    | g y z o2 => rw [hio] at hcl; have h4 := ho.cls4; rw [← hcl] at h4; exact (Nat.lt_irrefl 4 h4).elim
    | k y f j => rw [hio] at hcl; have h4 := ho.cls4; rw [← hcl] at h4; exact (Nat.lt_irrefl 4 h4).elim
    | an j f => rw [hio] at hcl; have h4 := ho.cls4; rw [← hcl] at h4; exact (Nat.lt_irrefl 4 h4).elim
  · rw [if_neg (by rw [hw]; simp)]
    refine ⟨fun _ _ => trivial, ?_⟩
    have hu' : (undef : Value) = val L (x.v m) := by rw [hu]; rfl
    have hwv : (wf S (x.v m)).v := by rw [hu]; trivial
    rw [hu']
    by_cases hc3 : x.cls i = 3
    · have hmu := hmu3 hc3
      have hat' := hat hmu (.inr hc3)
      refine hK G _ w L S (m + 1) (hd.loud hx h ho hun hmask hc3 hmu hat' (ds' := a.defers) ?_ hwv ?_)
      · rw [h2, h3]
        exact Stp.refl hat'.1 (by rw [hat'.2.1]; exact hd.stp.bd)
      · rw [h1, hat'.2.2.1]; exact hd.dr
    · exact hK G _ w L S μ (hd.quiet hx h ho hun hmask hc3 (fun _ => h2) hwv)
/-- nothing is ready only when all is done -/
theorem DI.all (hx : FxOk x) (hd : DI x G l a w L S μ) (hr : Region.ready .any x.ops l = []) : ∀ M, M ≤ x.pl.sch.length → ∀ m i, m < M → x.pl.sch[m]? = some i → isL l i := by
  intro M
  induction M with
  | zero => intro _ m i hm; omega
  | succ M ih =>
    intro hM m i hm h
    rcases Nat.lt_or_ge m M with hlt | hge
    · exact ih (by omega) m i hlt h
    · have : m = M := by omega
      subst this
      obtain ⟨o, ho⟩ := hx.plan.at_ m i h
      have his := hx.plan.sch_op h
      cases hb : l.getD i true with
      | true =>
        have hil : i < l.size := by rw [hd.sz]; exact his
        unfold isL
        simp only [Array.getD_eq_getD_getElem?, Array.getElem?_eq_getElem hil, Option.getD_some] at hb ⊢
        exact hb
      | false =>
        exfalso
        have : i ∈ Region.ready .any x.ops l := mem_ready.2 ⟨hb, o, ho.op, fun e he hbd => by
          obtain ⟨m', hm', hq⟩ := mem_take_iff.1 (ho.edge e (by simpa using he) hbd)
          exact ih (by omega) m' e.on hm' hq⟩
        rw [hr] at this; cases this
/-- operations that are left -/
def left (n : Nat) (l : Array Bool) : Nat := (List.range n).countP (fun i => !l.getD i false)
theorem left_set {n : Nat} {l : Array Bool} {i : Nat} (hs : l.size = n) (hi : i < n) (hun : ¬ isL l i) : left n (l.setIfInBounds i true) + 1 = left n l := by
  have hb : l.getD i false = false := by unfold isL at hun; simpa using hun
  have gen : ∀ (k : List Nat), k.Nodup → i ∈ k → k.countP (fun j => !(l.setIfInBounds i true).getD j false) + 1 = k.countP (fun j => !l.getD j false) := by
    have hne : ∀ j, j ≠ i → (l.setIfInBounds i true).getD j false = l.getD j false := fun j hj => by
      simp only [Array.getD_eq_getD_getElem?, Array.getElem?_setIfInBounds]
      simp [Ne.symm hj]
    have heq : (l.setIfInBounds i true).getD i false = true := by
      simp only [Array.getD_eq_getD_getElem?, Array.getElem?_setIfInBounds]
      simp [hs, hi]
    have out : ∀ (k : List Nat), i ∉ k → k.countP (fun j => !(l.setIfInBounds i true).getD j false) = k.countP (fun j => !l.getD j false) := by
      intro k hk
      refine List.countP_congr fun j hj => ?_
      rw [hne j (fun hh => hk (hh ▸ hj))]
    intro k
    induction k with
    | nil => intro _ h; cases h
    | cons j k ih =>
      intro hnd hm
      rw [List.nodup_cons] at hnd
      by_cases hj : j = i
      · subst hj
        rw [List.countP_cons, List.countP_cons, out k hnd.1, heq, hb]; simp
      · have hm' : i ∈ k := (List.mem_cons.1 hm).resolve_left (fun hh => hj hh.symm)
        rw [List.countP_cons, List.countP_cons, hne j hj]
        have := ih hnd.2 hm'
        omega
  exact gen (List.range n) List.nodup_range (List.mem_range.2 hi)
theorem left_zero {n : Nat} {l : Array Bool} (hs : l.size = n) (h : left n l = 0) {ops : Array Oper} (ho : ops.size = n) : Region.ready .any ops l = [] := by
  cases hr : Region.ready .any ops l with
  | nil => rfl
  | cons i r =>
    exfalso
    have hi : i ∈ Region.ready .any ops l := by rw [hr]; exact .head _
    obtain ⟨h0, o, h1, _⟩ := mem_ready.1 hi
    have his : i < n := by rw [← ho]; exact (Array.getElem?_eq_some_iff.1 h1).1
    have hun := unl_of (by rw [hs]; exact his) h0
    have := List.countP_eq_zero.1 h i (List.mem_range.2 his)
    apply hun
    unfold isL
    simpa using this
/-- every order -/
theorem DI.any (hx : FxOk x) {Q : Exit → Act → World → Prop} (hQ : ∀ G l a w L S μ, DI x G l a w L S μ → Region.ready .any x.ops l = [] → Q .normal a w) :
    ∀ (fuel : Nat) (G : Nat → Prop) (l : Array Bool) (a : Act) (w : World) (L : Loc) (S : Ns) (μ : Nat), DI x G l a w L S μ → left x.ops.size l ≤ fuel → wpAnyIn (fnc rd) 0 x.P .any x.ops Q fuel l a w := by
  intro fuel
  induction fuel with
  | zero =>
    intro G l a w L S μ hd hf
    have hr := left_zero hd.sz (Nat.le_zero.1 hf) rfl
    exact ⟨hr, hQ G l a w L S μ hd hr⟩
  | succ fuel ih =>
    intro G l a w L S μ hd hf
    refine ⟨fun hr => hQ G l a w L S μ hd hr, fun i hi => hd.step hx hi fun G' a' w' L' S' μ' hd' => ih G' _ a' w' L' S' μ' hd' ?_⟩
    obtain ⟨h0, o, h1, _⟩ := mem_ready.1 hi
    have his : i < x.ops.size := (Array.getElem?_eq_some_iff.1 h1).1
    have := left_set hd.sz his (unl_of (by rw [hd.sz]; exact his) h0)
    omega
end
end Go.Ev

/-! Regions that draw: the whole region. -/
namespace Go.Ev

section
variable {P : Program} {rd : Option Nat} {rn : Option Nm} {far nt : Nat}
theorem findW_some {s : Nat} : ∀ {ds : List (Nat × Nat)}, (findW s ds).isSome = true ↔ s ∈ ds.map (·.1)
  | [] => by simp [findW]
  | (d, i) :: ds => by
    unfold findW
    by_cases h : Nat.beq d s = true
    · rw [if_pos h]
      have := Nat.beq_eq.mp h
      subst this; simp
    · rw [if_neg h]
      have hne : ¬ s = d := fun hh => h (by rw [hh]; exact Nat.beq_refl d)
      rw [findW_some]; simp [hne]
theorem replicate_isL {n i : Nat} : ¬ isL (Array.replicate n false) i := by
  unfold isL
  simp only [Array.getD_eq_getD_getElem?, Array.getElem?_replicate]
  split <;> simp
theorem left_le (n : Nat) (l : Array Bool) : left n l ≤ n := by
  have := List.countP_le_length (p := fun i => !l.getD i false) (l := List.range n)
  rw [List.length_range] at this
  exact this
theorem CS.regionD {id : Nat} {ops : Array Oper} : CS P rd rn far nt (.region id ops true) (rRegionD P far nt ops) := by
  intro cal t d h c k a w L S Q hcal hs hg ho
  generalize hcls : clsD P ops = cls
  generalize hpl : planD ops cls = pl
  have e0 : rRegionD P far nt ops cal t d h c k = Bool.rec (.bad 408) (resN pl.mks.length c [] (fun n c => execD (itemsD P nt ops pl cls pl.sch 0 []) cal n t d h c (fun n d h c => k (wrL (cWr far (pl.mks.length + pl.sch.length) (pl.ds.map fun p => (p.1, alD nt pl.mks.length pl p.1)) 0) n t t) d h c)))
    (P.follows .mixedOrders && okD ops pl cls) := by rw [← hpl, ← hcls]; rfl
  rw [e0] at hg
  obtain ⟨hz, e1⟩ := rec_good hg
  have hg1 := good_of e1 hg
  rw [Bool.and_eq_true] at hz
  obtain ⟨hmix, hokd⟩ := hz
  have hplan := okD_spec hokd
  obtain ⟨nr, h1, h2, e2⟩ := resN_spec pl.mks.length c [] (fun n c => execD (itemsD P nt ops pl cls pl.sch 0 []) cal n t d h c (fun n d h c => k (wrL (cWr far (pl.mks.length + pl.sch.length) (pl.ds.map fun p => (p.1, alD nt pl.mks.length pl p.1)) 0) n t t) d h c))
  have hg2 := good_of e2 hg1
  obtain ⟨v, nS, dS, hS, cS, n0, d0, h0, c0, hrun, e3⟩ := execD_run _ _ _ _ _ _ hg2
  have ee := e0.trans (e1.trans (e2.trans e3))
  let x : Fx := { P := P, nt := nt, ops := ops, pl := pl, cls := cls, cal := cal, t := t, v := v, nS := nS, dS := dS, hS := hS, cS := cS, L0 := L, S0 := S, h0 := h, c0 := c, w0 := w }
  have hx : FxOk x := ⟨hplan, hrun, fun j hj => by
    show (nS 0)[pl.mks.length - 1 - j]? = _
    rw [n0, List.append_nil]; exact h2 j hj, hcal⟩
  refine wpIn_region_any hmix ?_
  have hbd : Bd S (addK c pl.mks.length) := fun n hn => by have := hs.bd n hn; rw [addK_toNat]; omega
  have hd : DI x (fun _ => False) (Array.replicate ops.size false) a { w with drawn := w.drawn + 1 } L S 0 := {
    sz := by simp; rfl
    mu := Nat.zero_le _
    stp := by
      show Stp L S h c w L S (hS 0) (cS 0) _
      rw [h0, c0]
      exact {
        sub := fun _ hn => hn
        new := fun _ hn => .inl hn
        agr := Agr.refl S L
        cle := by rw [addK_toNat]; omega
        bd := hbd
        relb := fun n hn => (hs.rel.blk n hn).1
        rel := ⟨hs.rel.blk, hs.rel.inj⟩
        size := Nat.le_refl _
        kept := fun _ _ ho _ => ho
        roH := fun _ _ => rfl
        out := ⟨rfl, rfl, rfl⟩
        dom := fun n hn => .inl ⟨n, hn, rfl⟩ }
    gok := hs.gok
    dr := by show DR L S (dS 0) a.defers; rw [d0]; exact hs.dr
    tsz := hs.size
    slot := fun i o s hl => absurd hl replicate_isL
    old := fun s _ ht => hs.tm s ht
    wle := fun i _ _ => ⟨fun hl => absurd hl replicate_isL, fun hlt => absurd hlt (Nat.not_lt_zero _)⟩
    mkl := fun i _ _ hlt => absurd hlt (Nat.not_lt_zero _)
    fresh := fun i _ _ _ hh => by
      have := hs.bd _ hh
      have e : (x.nm i).toNat = c.toNat + posOf i pl.mks := addK_toNat _ _
      omega
    made := fun _ hf => hf.elim
    pend := fun i _ _ hl => absurd hl replicate_isL
    apart := fun _ _ hf => hf.elim
    down := fun i q hl => absurd hl replicate_isL
    top := by show (addK c pl.mks.length).toNat ≤ (cS 0).toNat; rw [c0]; exact Nat.le_refl _
    prev := .inl rfl }
  refine DI.any hx (fun G l a' w' L' S' μ hd' hr => ?_) ops.size _ _ _ _ _ _ _ hd (left_le _ _)
  have hall : ∀ m i, m < pl.sch.length → pl.sch[m]? = some i → isL l i := fun m i hm hi => hd'.all hx hr pl.sch.length (Nat.le_refl _) m i hm hi
  have hallops : ∀ i, i < ops.size → isL l i := fun i hi => hall _ i (lt_of_get (hx.get hi)) (hx.get hi)
  obtain ⟨r1, r2, r3, r4, r5⟩ := hd'.at_ hx pl.sch.length hd'.mu (Nat.le_refl _) (fun m i q1 q2 q3 => by
    have his := hplan.sch_op q3
    refine ⟨fun hc3 => ?_, fun _ => hall m i q2 q3⟩
    have := (hd'.wle i his hc3).1 (hall m i q2 q3)
    rw [hx.at_pos q3] at this
    omega)
  have st := hd'.stp.adopt (c := x.cS μ) r1 (fun n hn => by
    rcases r4 n hn with h | ⟨j, _, _, _, hn, _, _, _, _, _, _, hsz, _⟩
    · exact .inl h
    · rw [hn]; exact .inr hsz) r5
  rw [← r2] at st
  have hlen : (itemsD P nt ops pl cls pl.sch 0 []).length = pl.sch.length := itemsD_len _ _ _
  rw [hlen] at ee
  -- slots
  have hmat := Mat_env (P := P) (nt := nt) (pl := pl) hrun (L := L') (S := S') (a := a') (M := pl.sch.length) (by rw [hlen]; exact Nat.le_refl _) hd'.gok (Us := pl.ds.map (·.1)) (fun s _ q hq hlt => by
    obtain ⟨oq, hoq, hdq⟩ := hplan.ds s q hq
    have hqs : q < ops.size := (Array.getElem?_eq_some_iff.1 hoq).1
    have := hd'.slot q oq s (hallops q hqs) hoq hdq hlt
    exact ⟨mk_pos (hplan.all q hqs), this.1, this.2⟩) hd'.old
  have hri : RI L' S' ⟨pl.ds.map fun p => (p.1, alD nt pl.mks.length pl p.1), pl.mks.length + pl.sch.length, P.globals.size⟩ a' (nS pl.sch.length) t nt := by
    refine ⟨fun y hy => ?_, hd'.tsz, fun s j hj => ?_⟩
    · have e5 : cOpd ⟨pl.ds.map fun p => (p.1, alD nt pl.mks.length pl p.1), pl.mks.length + pl.sch.length, P.globals.size⟩ y = cOpd (envD P.globals.size nt pl pl.sch.length (pl.ds.map (·.1))) y := by
        cases y with
        | tmp s =>
          show (cAl _ (.tmp s)).opd _ = (cAl _ (.tmp s)).opd _
          rw [cAl_env, cAl_tmp]
          have e6 : (pl.ds.map fun p => (p.1, alD nt pl.mks.length pl p.1)) = (pl.ds.map (·.1)).map (fun s => (s, alD nt pl.mks.length pl s)) := by rw [List.map_map]; rfl
          show (match findA s (pl.ds.map fun p => (p.1, alD nt pl.mks.length pl p.1)) with | some a => a | none => .t (tn s) : Al).opd _ = _
          rw [e6, findA_map]
          by_cases hm : s ∈ pl.ds.map (·.1)
          · rw [if_pos hm, if_pos hm]; rfl
          · rw [if_neg hm, if_neg hm, if_neg (fun hh => hm (findW_some.1 hh))]; rfl
        | const _ => rfl
        | global _ => rfl
        | func _ => rfl
      rw [e5] at hy ⊢
      exact hmat y hy
    · obtain ⟨p, hp, he⟩ := List.mem_map.1 hj
      injection he with he1 he2
      have : alD nt pl.mks.length pl p.1 = match findW p.1 pl.ds with | some q => if p.1 < nt then .r (pl.mks.length + posOf q pl.sch) else .c .x | none => .t (tn p.1) := rfl
      rw [this] at he2
      cases hf : findW p.1 pl.ds with
      | none => rw [hf] at he2; cases he2
      | some q =>
        rw [hf] at he2
        simp only at he2
        split at he2
        · injection he2 with he3
          obtain ⟨oq, hoq, _⟩ := hplan.ds p.1 q hf
          have := mk_pos (hplan.all q (Array.getElem?_eq_some_iff.1 hoq).1)
          show j < pl.mks.length + pl.sch.length
          omega
        · cases he2
  have hfin := hri.finish hs.far
  have hdr : DR L' S' (dS pl.sch.length) a'.defers := by
    have e7 : dS pl.sch.length = dS μ := r3
    rw [e7]; exact hd'.dr
  exact ho.norm _ (dS pl.sch.length) (hS pl.sch.length) (cS pl.sch.length) L' S' a' w' st
    ⟨hfin.1, hfin.2, hd'.tsz, hdr, st.rel, st.bd, hd'.gok, hs.rdk.congr st.sub st.agr⟩ ee
end
end Go.Ev

/-! The evaluator is sound. -/
namespace Go.Ev

section
variable {P : Program}
theorem comp_sound (hn : NamesOk P) {rd : Option Nat} {rn : Option Nm} {far nt fid lf : Nat} (cd : Code) : CS P rd rn far nt cd (comp P P.globals.size far nt fid lf rn cd) :=
  comp_CS (fun _ _ => CS.regionD) (fun _ _ _ _ => CS.range hn) cd
theorem func_sound {O : Orc} {lf : Nat} (hn : NamesOk P) (hO : ∀ f g, O f = some g → OrcOk P f g) {cal : Cal} (hcal : CalOk P cal) {f : FuncId} {args : V} {h : H} {c : Nm} {L : Loc} {S : Ns} {w : World} (hr : Rel L S h w) (hbd : Bd S c) (hgok : GOk P L S) (ha : (wf S args).s)
    (hg : CGood (runF (fnI P O lf f) cal args h c)) : Doing P (CPost L S h c w (runF (fnI P O lf f) cal args h c)) ((callFunc f (lsv L args).toArray).run P w) :=
  call_func hn hO hcal (fun _ _ _ _ => CS.regionD) (fun _ _ _ _ _ _ _ => CS.range hn) hr hbd hgok ha hg
theorem ls_cons {L : Loc} {A W : V} : lsv L (.cons A W) = val L A :: lsv L W := rfl
/-- one call -/
theorem step_sound {O : Orc} {lf : Nat} (hn : NamesOk P) (hO : ∀ f g, O f = some g → OrcOk P f g) {cal : Cal} (hcal : CalOk P cal) : CalOk P (fun fv args h c => stepV P O lf fv cal args h c) := by
  intro fv args h c L S w hr hbd hgok hv ha hg
  cases fv <;> first | exact absurd rfl (hg 434) | skip
  case yl a =>
    have hd := yield_sound (lf := lf) (fun _ _ _ _ _ cd => comp_sound hn cd) hcal hr hbd hgok hv ha hg
    have e1 : (do let d ← Deferred.ofValue (val L (.yl a)) (lsv L args).toArray; invoke d.target d.args : Sem Next).run P w = (Instr.yield (L.b a) (lsv L args).toArray).run P w := by
      show (do let d ← Deferred.ofValue (.func (.yield (L.b a)) #[] #[]) (lsv L args).toArray; invoke d.target d.args : Sem Next).run P w = _
      simp only [Deferred.ofValue, Sem.run_bind, Sem.run_pure, Result.andThen_ok, invoke, Array.empty_append]
    rw [e1]
    exact hd
  case f g F G =>
    cases g with
    | func f => exact step_func hn hO hcal (fun _ _ _ _ => CS.regionD) (fun _ _ _ _ _ _ _ => CS.range hn) hr hbd hgok hv ha hg
    | via _ _ _ _ => exact absurd rfl (hg 426)
    | yield _ => exact hv.1.elim
    | method name =>
      have e0 : stepV P O lf (.f (.method name) F G) cal args h c = callMeth P name (fun f a h c => runF (fnI P O lf f) cal a h c) (appC F args) h c := rfl
      have hg' : CGood (callMeth P name (fun f a h c => runF (fnI P O lf f) cal a h c) (appC F args) h c) := hg
      have happ := appC_ls L S F args hv.2.1 ha
      obtain ⟨recv, rest, h1, h2⟩ := call_meth hgok hr happ.2 (fun f as has hgf => func_sound hn hO hcal hr hbd hgok has hgf) hg'
      show Doing P (CPost L S h c w (stepV P O lf (.f (.method name) F G) cal args h c)) _
      rw [e0]
      have e1 : (do let d ← Deferred.ofValue (val L (.f (.method name) F G)) (lsv L args).toArray; invoke d.target d.args : Sem Next).run P w = (callMethod recv name rest.toArray).run P w := by
        show (do let d ← Deferred.ofValue (.func (.method name) (lsv L F).toArray (lsv L G).toArray) (lsv L args).toArray; invoke d.target d.args : Sem Next).run P w = _
        have e2 : (lsv L F).toArray ++ (lsv L args).toArray = (recv :: rest).toArray := by rw [← h1, happ.1]; apply Array.ext'; simp
        simp only [Deferred.ofValue, Sem.run_bind, Sem.run_pure, Result.andThen_ok, invoke, e2]
        simp
      rw [e1]
      exact h2
    | methodOf t name =>
      have e0 : stepV P O lf (.f (.methodOf t name) F G) cal args h c = Bool.rec (.bad 419) (callMeth P name (fun f a h c => runF (fnI P O lf f) cal a h c) ((V.rec (motive := fun _ => Nat → V) (fun _ => .x) (fun _ => .x) (fun _ _ _ => .x) (fun _ _ => .x) (fun _ _ _ => .x) (fun _ => .x) (fun _ _ _ => .x) (fun _ _ _ _ _ => .x) (fun _ _ _ _ _ => .x) (fun _ => .x) (fun _ _ => .x) (fun _ => .x) (fun _ _ _ _ _ _ => .x) (fun _ => .x) (fun _ _ => .x) (fun _ _ _ _ => .x) (fun _ => .x) (fun _ _ _ _ => .x) (fun _ _ _ => .x) (fun _ => .x) (fun A W _ _ => fun t => .cons (.ifc t A) W) (fun _ _ _ => .x) (fun _ _ _ _ => .x) (appC F args)) t) h c) (concT P t) := rfl
      have happ := appC_ls L S F args hv.2.1 ha
      have hg1 := hg
      show Doing P (CPost L S h c w (stepV P O lf (.f (.methodOf t name) F G) cal args h c)) _
      have hg2 : CGood (stepV P O lf (.f (.methodOf t name) F G) cal args h c) := hg1
      rw [e0] at hg2 ⊢
      obtain ⟨hz, e1⟩ := crec_good hg2
      rw [e1] at hg2 ⊢
      clear e1
      generalize hap : appC F args = ap at *
      cases ap <;> first | exact happ.2.elim | exact absurd rfl (hg2 424) | skip
      case cons A W =>
        have hg3 : CGood (callMeth P name (fun f a h c => runF (fnI P O lf f) cal a h c) (.cons (.ifc t A) W) h c) := hg2
        have hw : (wf S (.cons (.ifc t A) W)).s := ⟨happ.2.1, happ.2.2⟩
        obtain ⟨recv, rest, h1, h2⟩ := call_meth hgok hr hw (fun f as has hgf => func_sound hn hO hcal hr hbd hgok has hgf) hg3
        show Doing P (CPost L S h c w (callMeth P name (fun f a h c => runF (fnI P O lf f) cal a h c) (.cons (.ifc t A) W) h c)) _
        have h1' : Value.iface t (val L A) :: lsv L W = recv :: rest := h1
        injection h1' with h3 h4
        have e1 : (do let d ← Deferred.ofValue (val L (.f (.methodOf t name) F G)) (lsv L args).toArray; invoke d.target d.args : Sem Next).run P w = (callMethod recv name rest.toArray).run P w := by
          show (do let d ← Deferred.ofValue (.func (.methodOf t name) (lsv L F).toArray (lsv L G).toArray) (lsv L args).toArray; invoke d.target d.args : Sem Next).run P w = _
          have e2 : (lsv L F).toArray ++ (lsv L args).toArray = (val L A :: lsv L W).toArray := by
            have := happ.1
            rw [ls_cons] at this
            rw [this]; apply Array.ext'; simp
          have e3 : ∀ d, P.underlying t = some d → (∀ ms, d ≠ .interface ms) → (match d with | .interface _ => val L A | _ => Value.iface t (val L A)) = Value.iface t (val L A) := by
            intro d _ hd
            cases d <;> first | rfl | exact absurd rfl (hd _)
          cases hu : P.underlying t with
          | none => unfold concT at hz; rw [hu] at hz; cases hz
          | some d =>
            have hd : ∀ ms, d ≠ .interface ms := by
              intro ms hh
              unfold concT at hz
              rw [hu, hh] at hz; cases hz
            simp only [Deferred.ofValue, Sem.run_bind, Sem.run_pure, Result.andThen_ok, invoke, e2, List.getElem?_toArray, List.getElem?_cons_zero, run_underlying hu]
            rw [← h3, ← h4]
            have e4 : ((val L A :: lsv L W).toArray.extract 1 (val L A :: lsv L W).toArray.size) = (lsv L W).toArray := by simp
            rw [e4]
            all_goals cases d <;> first | rfl | exact absurd rfl (hd _)
        rw [e1]
        exact h2
/-- **the evaluator is sound** -/
theorem callN_sound {O : Orc} {lf : Nat} (hn : NamesOk P) (hO : ∀ f g, O f = some g → OrcOk P f g) : ∀ n, CalOk P (callN P O lf n)
  | 0 => fun _ _ _ _ _ _ _ _ _ _ _ _ hg => absurd rfl (hg 435)
  | n + 1 => step_sound hn hO (callN_sound hn hO n)
/-- a function's contract from its run -/
theorem callsIn_of_eval {O : Orc} {lf n : Nat} (hn : NamesOk P) (hO : ∀ f g, O f = some g → OrcOk P f g) {f : FuncId} {fn : Func} {cd : Code} (hf : P.funcs[f]? = some fn) (hb : fn.body = some cd) {args : V} {h h' : H} {c c' : Nm} {v : V} {L : Loc} {S : Ns} {w : World}
    (hr : Rel L S h w) (hbd : Bd S c) (hgok : GOk P L S) (ha : (wf S args).s) (he : callN P O lf n (.f (.func f) .nil .nil) args h c = .ret v h' c') :
    Calls P f (lsv L args).toArray w fun e w' => ∃ L' S', e = .returned (val L' v) ∧ (wf S' v).v ∧ Stp L S h c w L' S' h' c' w' := by
  have hs := callN_sound (lf := lf) hn hO n (.f (.func f) .nil .nil) args h c L S w hr hbd hgok ⟨trivial, trivial, trivial⟩ ha (by rw [he]; intro k hk; cases hk)
  rw [he] at hs
  have e1 : (do let d ← Deferred.ofValue (val L (.f (.func f) .nil .nil)) (lsv L args).toArray; invoke d.target d.args : Sem Next).run P w = .ok (.enter f (lsv L args).toArray) w := by
    show (do let d ← Deferred.ofValue (.func (.func f) #[] #[]) (lsv L args).toArray; invoke d.target d.args : Sem Next).run P w = _
    simp only [Deferred.ofValue, Sem.run_bind, Sem.run_pure, Result.andThen_ok, invoke, Array.empty_append, Array.append_empty]
    exact run_callFunc hn hf hb _ w
  rw [e1] at hs
  exact callsIn_wide.1 hs
end
end Go.Ev

/-! A function that defers one closure, which recovers. -/
namespace Go.Ev

/-- what is known of the two functions -/
structure Cy (P : Program) where
  f0 : Nat
  f1 : Nat
  fn0 : Func
  fn1 : Func
  A : Code
  B : Code
  Rest : Code
  idD : Nat
  idR : Nat
  o1 : Oper
  o2 : Oper
  o3 : Oper
  o4 : Oper
  c2 : Call
  c3 : Call
  s2 : Nat
  s4 : Nat
  r1 : Nat
  r4 : Nat
  h0 : P.funcs[f0]? = some fn0
  b0 : fn0.body = some (.seq A (.seq (.region idD #[o1, o2] false) B))
  z0 : fn0.results = #[]
  h1 : P.funcs[f1]? = some fn1
  b1 : fn1.body = some (.seq (.region idR #[o3, o4] false) Rest)
  z1 : fn1.results = #[]
  o1d : o1.dst = some s4
  o1o : o1.op = .makeFunc (.func f1) #[] #[.tmp s2]
  o1g : o1.guard = none
  o2d : o2.dst = none
  o2o : o2.op = .defer c2
  o2g : o2.guard = none
  c2c : c2.callee = .value (.tmp s4)
  c2a : c2.args = #[]
  o3d : o3.dst = some r4
  o3o : o3.op = .call c3
  o3g : o3.guard = none
  c3c : c3.callee = .builtin .recover
  c3a : c3.args = #[]
  o4d : o4.dst = some r1
  o4o : o4.op = .assign (.tmp r4)
  o4g : o4.guard = none
  s4f : Nat.testBit (maskF fn0) s4 = false
  s4n : s4 < fn0.ntmps
  r4n : r4 < fn1.ntmps
  r1n : r1 < fn1.ntmps
  rne : r4 ≠ r1
  r4f : Nat.testBit (maskF fn1) r4 = false
section
variable {P : Program} (y : Cy P)
noncomputable section
def rDef (s2 f1 : Nat) : RC := fun _ t d h c k => Bool.rec (.bad 440) (k t (.call (.f (.func f1) .nil (.cons (T.get (tn s2) t) .nil)) .nil :: d) h c) (nx (T.get (tn s2) t))
def asD1 (d : List D) (q : V → V → C) : C := List.rec (motive := fun _ => C) (.bad 441) (fun x r _ => D.rec (motive := fun _ => C) (fun fv as_ => Bool.rec (.bad 442) (q fv as_) (isE r)) (fun _ => .bad 443) (.bad 443) x) d
def capF (v : V) : V := V.rec (motive := fun _ => V) .x .x (fun _ _ => .x) (fun _ => .x) (fun _ _ => .x) .x (fun _ _ => .x) (fun _ _ _ _ => .x) (fun _ _ _ _ => .x) .x (fun _ => .x) .x (fun _ _ C _ _ => C) .x (fun _ => .x) (fun _ _ _ => .x) .x (fun _ _ _ => .x) (fun _ _ => .x) .x (fun _ _ _ _ => .x) (fun _ _ => .x) (fun _ _ _ => .x) v
def finY (lf : Nat) (cal : Cal) (rec_ : V) (d : List D) (h : H) (c : Nm) : C := asD1 d (fun fv as_ => Bool.rec (.bad 448) (
  R.rec (motive := fun _ => C) (fun n => .bad n) (fun _ d h c => Bool.rec (.bad 444) (.ret .u h c) (isE d)) (fun _ d h c => Bool.rec (.bad 444) (.ret .u h c) (isE d)) (fun _ _ _ _ _ => .bad 445) (fun _ _ _ _ _ => .bad 446)
    (comp P P.globals.size (maskF y.fn1) y.fn1.ntmps y.f1 lf none y.Rest cal (Bool.rec (iniL (cIni (maskF y.fn1) 1 0) (capF fv) .e) (T.set (tn y.r1) rec_ (iniL (cIni (maskF y.fn1) 1 0) (capF fv) .e)) (Nat.testBit (maskF y.fn1) y.r1)) [] h c .norm)) (Bool.and (isNil as_) (sameV fv (.f (.func y.f1) .nil (.cons (hdC (capF fv)) .nil)))))
def orcY (lf : Nat) : Cal → V → H → Nm → C := fun cal args h c =>
  R.rec (motive := fun _ => C) (fun n => .bad n) (fun _ d h c => finY y lf cal .ni d h c) (fun _ d h c => finY y lf cal .ni d h c) (fun _ _ _ _ _ => .bad 447) (fun ch _ d h c => finY y lf cal ch d h c)
    (rSeq (comp P P.globals.size (maskF y.fn0) y.fn0.ntmps y.f0 lf none y.A) (rSeq (rDef y.s2 y.f1) (comp P P.globals.size (maskF y.fn0) y.fn0.ntmps y.f0 lf none y.B)) cal (iniL (cIni (maskF y.fn0) 2 0) args .e) [] h c .norm)
end
variable {y}
theorem CS.defer1 : CS P none none (maskF y.fn0) y.fn0.ntmps (.region y.idD #[y.o1, y.o2] false) (rDef y.s2 y.f1) := by
  intro cal t d h c k a w L S Q hcal hs hg ho
  obtain ⟨hz, e0⟩ := rec_good (z := nx (T.get (tn y.s2) t)) hg
  have e0' : rDef y.s2 y.f1 cal t d h c k = _ := e0
  have hx := (nx_iff _).1 hz
  have hsl := hs.tm y.s2 hx
  refine wpIn_region ?_
  have hrng : List.range (#[y.o1, y.o2] : Array Oper).size = [0, 1] := rfl
  rw [hrng]
  have hs4 : y.s4 < a.tmps.size := Nat.lt_of_lt_of_le y.s4n hs.size
  have ev2 : a.eval (.tmp y.s2) = val L (T.get (tn y.s2) t) := hsl.1
  have hnd1 : ∀ c, y.o1.op ≠ .defer c := by intro c hc; rw [y.o1o] at hc; cases hc
  have run1 : (execOp a.eval y.o1).run P w = .ok (.value (.func (.func y.f1) #[] #[val L (T.get (tn y.s2) t)])) w := by
    simp [execOp, y.o1o, Instr.makeFunc, ev2]
  show wpOpsIn (fnc none) 0 P #[y.o1, y.o2] Q [0, 1] a w
  unfold wpOpsIn
  have g0 : (#[y.o1, y.o2] : Array Oper)[0]? = some y.o1 := rfl
  rw [g0]
  simp only
  rw [if_pos (wanted_none y.o1g _)]
  refine ⟨fun _ _ => trivial, ?_⟩
  rw [Oper.semAt_eq _ _ _ hnd1, run1, Oper.uponIn_value]
  unfold wpOpsIn
  have g1 : (#[y.o1, y.o2] : Array Oper)[1]? = some y.o2 := rfl
  rw [g1]
  simp only
  rw [if_pos (wanted_none y.o2g _)]
  refine ⟨fun _ _ => trivial, ?_⟩
  obtain ⟨fv, hv⟩ : ∃ fv, fv = (Value.func (.func y.f1) #[] #[val L (T.get (tn y.s2) t)]) := ⟨_, rfl⟩
  rw [← hv]
  have ev4 : (a.put y.o1.dst fv).eval (.tmp y.s4) = fv := by
    rw [y.o1d]
    show (a.put (some y.s4) fv).tmps.getD y.s4 undef = fv
    rw [put_getD _ _ _ _ hs4, if_pos rfl]
  have run2 : (y.o2.semAt (fnc none).round (a.put y.o1.dst fv).eval).run P w = .ok (.defer { target := .fn (.func y.f1) #[val L (T.get (tn y.s2) t)], args := #[] }) w := by
    show (execOp (a.put y.o1.dst fv).eval y.o2).run P w = _
    rw [hv] at ev4 ⊢
    simp [execOp, y.o2o, resolve, y.c2c, y.c2a, ev4, Deferred.ofValue]
  rw [run2, Oper.uponIn_defer]
  unfold wpOpsIn
  rw [y.o2d, y.o1d]
  refine ho.norm t (.call (.f (.func y.f1) .nil (.cons (T.get (tn y.s2) t) .nil)) .nil :: d) h c L S _ w (Stp.refl hs.rel hs.bd) ⟨?_, hs.far, ?_, ⟨⟨⟨trivial, trivial, hsl.2, trivial⟩, trivial, ?_⟩, hs.dr⟩, hs.rel, hs.bd, hs.gok, hs.rdk⟩ e0'
  · intro s hss
    have hne : y.s4 ≠ s := by
      rintro rfl
      have := hs.far _ hss
      rw [y.s4f] at this; cases this
    have := hs.tm s hss
    refine ⟨?_, this.2⟩
    show (a.put (some y.s4) fv).tmps.getD s undef = _
    rw [put_other _ _ _ _ hne]
    exact this.1
  · show y.fn0.ntmps ≤ (a.put (some y.s4) fv).tmps.size
    rw [put_size]; exact hs.size
  · rfl
theorem isE_nil {d : List D} (h : isE d = true) : d = [] := by cases d <;> first | rfl | cases h
theorem asD1_good {d : List D} {q : V → V → C} (h : CGood (asD1 d q)) : ∃ fv args, d = [.call fv args] ∧ asD1 d q = q fv args := by
  cases d with
  | nil => exact absurd rfl (h 441)
  | cons x r =>
    cases x with
    | mark _ => exact absurd rfl (h 443)
    | rcvd => exact absurd rfl (h 443)
    | call fv args =>
      have h' : CGood (Bool.rec (.bad 442) (q fv args) (isE r) : C) := h
      obtain ⟨h1, h2⟩ := crec_good h'
      exact ⟨fv, args, by rw [isE_nil h1], h2⟩

/-- the closure, called on the way out -/
theorem finY_sound (hn : NamesOk P) {lf : Nat} {cal : Cal} (hcal : CalOk P cal) {rec_ : V} {d : List D} {h : H} {c : Nm} {w : World} {L : Loc} {S : Ns} (hr : Rel L S h w) (hb : Bd S c) (hgok : GOk P L S) {ds : List Deferred} (hd : DR L S d ds)
    {u : FrameMode} (hu : u = .returning ∧ rec_ = .ni ∨ ∃ chain, u = .panicking chain ∧ ChR L S rec_ chain) (hg : CGood (finY y lf cal rec_ d h c))
    {tmps : Array Value} : LeavesInM (fnc none) 0 P y.fn0 tmps (CPost L S h c w (finY y lf cal rec_ d h c)) ds u w := by
  obtain ⟨fv, args, rfl, e1⟩ := asD1_good hg
  have e1' : finY y lf cal rec_ [.call fv args] h c = _ := e1
  rw [e1'] at hg ⊢
  clear e1 e1'
  obtain ⟨hz, e2⟩ := crec_good hg
  rw [e2] at hg ⊢
  clear e2
  have hz' : (isNil args && sameV fv (.f (.func y.f1) .nil (.cons (hdC (capF fv)) .nil))) = true := hz
  rw [Bool.and_eq_true] at hz'
  have hargs : args = .nil := by
    have := hz'.1
    cases args <;> first | rfl | cases this
  have hfv := sameV_eq _ _ hz'.2
  clear hz hz'
  generalize hdC (capF fv) = p at hfv
  subst hfv hargs
  obtain ⟨d0, hds⟩ : ∃ d0, ds = [d0] := by
    cases ds with
    | nil => exact hd.elim
    | cons d0 r =>
      cases r with
      | nil => exact ⟨d0, rfl⟩
      | cons _ _ => exact hd.2.elim
  subst hds
  obtain ⟨⟨hw1, _, hof⟩, _⟩ := hd
  have hp : (wf S p).v := hw1.2.2.1
  have hof' : Deferred.ofValue (.func (.func y.f1) #[] #[val L p]) #[] = pure d0 := hof
  have hd0 : d0 = { target := .fn (.func y.f1) #[val L p], args := #[] } := by
    have h1 : (Deferred.ofValue (.func (.func y.f1) #[] #[val L p]) #[]).run P w = (pure d0 : Sem Deferred).run P w := by rw [hof']
    have h2 : (Deferred.ofValue (.func (.func y.f1) #[] #[val L p]) #[]).run P w = .ok { target := .fn (.func y.f1) #[val L p], args := #[] } w := rfl
    rw [h2] at h1
    have h3 : (pure d0 : Sem Deferred).run P w = .ok d0 w := rfl
    rw [h3] at h1
    injection h1 with h4
    exact h4.symm
  subst hd0
  have hne : u ≠ .run := by
    rcases hu with ⟨rfl, _⟩ | ⟨_, rfl, _⟩ <;> simp
  refine ⟨hne, .inr ⟨fun hh => (by cases hh), .func y.f1, #[val L p], y.f1, #[val L p], rfl, ?_, fun _ _ => trivial, ?_⟩⟩
  · show (callFunc y.f1 (#[] ++ #[val L p])).run P w = _
    rw [Array.empty_append]
    exact run_callFunc hn y.h1 y.b1 _ w
  -- the closure's body
  have hini := ini_TM (far := maskF y.fn1) L S (args := .cons p .nil) ⟨hp, trivial⟩ 1 (y.fn1.ntmps - 1)
  have hcapF : capF (.f (.func y.f1) .nil (.cons p .nil)) = .cons p .nil := rfl
  rw [hcapF] at hg ⊢
  generalize ht0 : iniL (cIni (maskF y.fn1) 1 0) (.cons p .nil) .e = t0 at hg hini ⊢
  generalize ht1 : (Bool.rec t0 (T.set (tn y.r1) rec_ t0) (Nat.testBit (maskF y.fn1) y.r1) : T) = t1 at hg ⊢
  generalize hr1 : comp P P.globals.size (maskF y.fn1) y.fn1.ntmps y.f1 lf none y.Rest cal t1 [] h c .norm = r1 at hg ⊢
  have hgr : r1.Good := by
    intro n hn'
    rw [hn'] at hg
    exact hg n rfl
  have hwrec : (wf S rec_).v := by
    rcases hu with ⟨_, rfl⟩ | ⟨_, _, h1, _⟩
    · trivial
    · exact h1
  refine callsDIn_of_wpSIn y.h1 y.b1 trivial fun c₀ cs hm => ?_
  have hsz : ((#[val L p] : Array Value) ++ Array.replicate (y.fn1.ntmps - (#[val L p] : Array Value).size) undef).size = y.fn1.ntmps := by
    have := y.r4n
    simp; omega
  generalize htm : ((#[val L p] : Array Value) ++ Array.replicate (y.fn1.ntmps - (#[val L p] : Array Value).size) undef) = tm0 at hsz ⊢
  have hini' : TM L S t0 tm0 ∧ FarT (maskF y.fn1) t0 := by
    rw [← htm]
    exact hini
  -- recover, and its result put down
  have rest : ∀ (cs' : List Frame) (u' : FrameMode), cs' = { c₀ with mode := u' } :: cs → settle u' = .returning →
      y.Rest.wpSIn (fnc none) 0 P (bodyPostS P y.fn1 c₀ cs (fun
          | .returned _, u', w' => LeavesInM (fnc none) 0 P y.fn0 tmps (CPost L S h c w (R.rec (motive := fun _ => C) (fun n => .bad n) (fun _ d h c => Bool.rec (.bad 444) (.ret .u h c) (isE d)) (fun _ d h c => Bool.rec (.bad 444) (.ret .u h c) (isE d)) (fun _ _ _ _ _ => .bad 445) (fun _ _ _ _ _ => .bad 446) r1)) [] (settle u') w'
          | .panicked chain, u', w' => LeavesInM (fnc none) 0 P y.fn0 tmps (CPost L S h c w (R.rec (motive := fun _ => C) (fun n => .bad n) (fun _ d h c => Bool.rec (.bad 444) (.ret .u h c) (isE d)) (fun _ d h c => Bool.rec (.bad 444) (.ret .u h c) (isE d)) (fun _ _ _ _ _ => .bad 445) (fun _ _ _ _ _ => .bad 446) r1)) [] (raised u' chain) w'
          | .outgrown, _, w' => CPost L S h c w (R.rec (motive := fun _ => C) (fun n => .bad n) (fun _ d h c => Bool.rec (.bad 444) (.ret .u h c) (isE d)) (fun _ d h c => Bool.rec (.bad 444) (.ret .u h c) (isE d)) (fun _ _ _ _ _ => .bad 445) (fun _ _ _ _ _ => .bad 446) r1) .outgrown w'))
        (({ tmps := tm0, defers := [] } : Act).put (some y.r4) (val L rec_) |>.put (some y.r1) (val L rec_)) cs' w := by
    intro cs' u' hcs hset
    refine wpSIn_of_wpIn rfl ?_
    have hsz2 : ((({ tmps := tm0, defers := [] } : Act).put (some y.r4) (val L rec_)).put (some y.r1) (val L rec_)).tmps.size = y.fn1.ntmps := by
      rw [put_size, put_size]; exact hsz
    have hTM : TM L S t1 ((({ tmps := tm0, defers := [] } : Act).put (some y.r4) (val L rec_)).put (some y.r1) (val L rec_)).tmps := by
      have hold : ∀ s, T.get (tn s) t0 ≠ .x → s ≠ y.r1 → ((({ tmps := tm0, defers := [] } : Act).put (some y.r4) (val L rec_)).put (some y.r1) (val L rec_)).tmps.getD s undef = val L (T.get (tn s) t0) ∧ (wf S (T.get (tn s) t0)).v := by
        intro s hs hne
        have hs4 : y.r4 ≠ s := by
          rintro rfl
          have := hini'.2 _ hs
          rw [y.r4f] at this; cases this
        have := hini'.1 s hs
        rw [put_other _ _ _ _ (Ne.symm hne), put_other _ _ _ _ hs4]
        exact this
      intro s hs
      rw [← ht1] at hs ⊢
      cases hbit : Nat.testBit (maskF y.fn1) y.r1 with
      | false =>
        rw [hbit] at hs
        have hs' : T.get (tn s) t0 ≠ .x := hs
        show _ = val L (T.get (tn s) t0) ∧ (wf S (T.get (tn s) t0)).v
        refine hold s hs' ?_
        rintro rfl
        have := hini'.2 _ hs'
        rw [hbit] at this; cases this
      | true =>
        rw [hbit] at hs
        have hs' : T.get (tn s) (T.set (tn y.r1) rec_ t0) ≠ .x := hs
        show _ = val L (T.get (tn s) (T.set (tn y.r1) rec_ t0)) ∧ (wf S (T.get (tn s) (T.set (tn y.r1) rec_ t0))).v
        rw [tget_set] at hs' ⊢
        by_cases hsr : s = y.r1
        · subst hsr
          rw [if_pos rfl]
          exact ⟨by rw [put_getD _ _ _ _ (by rw [put_size, hsz]; exact y.r1n), if_pos rfl], hwrec⟩
        · rw [if_neg (fun hh => hsr (tn_inj hh))] at hs' ⊢
          exact hold s hs' hsr
    have hFar : FarT (maskF y.fn1) t1 := by
      intro s hs
      rw [← ht1] at hs
      cases hbit : Nat.testBit (maskF y.fn1) y.r1 with
      | false => rw [hbit] at hs; exact hini'.2 s hs
      | true =>
        rw [hbit] at hs
        have hs' : T.get (tn s) (T.set (tn y.r1) rec_ t0) ≠ .x := hs
        rw [tget_set] at hs'
        by_cases hsr : s = y.r1
        · subst hsr; exact hbit
        · rw [if_neg (fun hh => hsr (tn_inj hh))] at hs'
          exact hini'.2 s hs'
    have hSt : St P none none (maskF y.fn1) y.fn1.ntmps t1 [] h c ((({ tmps := tm0, defers := [] } : Act).put (some y.r4) (val L rec_)).put (some y.r1) (val L rec_)) w L S :=
      ⟨hTM, hFar, by rw [hsz2]; exact Nat.le_refl _, trivial, hr, hb, hgok, trivial⟩
    have hres1 : ∀ (tm : Array Value) (w' : World), (results y.fn1 tm).run P w' = .ok (.tuple #[]) w' := by
      intro tm w'
      simp [results, y.z1]
    have hres0 : ∀ (w' : World), (results y.fn0 tmps).run P w' = .ok (.tuple #[]) w' := by
      intro w'
      simp [results, y.z0]
    have fin : ∀ (d' : List D) (h' : H) (c' : Nm) (L' : Loc) (S' : Ns) (a' : Act) (w' : World), Stp L S h c w L' S' h' c' w' → DR L' S' d' a'.defers → CGood (Bool.rec (.bad 444) (.ret .u h' c') (isE d') : C) →
        a'.defers = [] ∧ ∃ u₂, cs' = { c₀ with mode := u₂ } :: cs ∧ ∃ v, (results y.fn1 a'.tmps).run P w' = .ok v w' ∧ LeavesInM (fnc none) 0 P y.fn0 tmps (CPost L S h c w (Bool.rec (.bad 444) (.ret .u h' c') (isE d') : C)) [] (settle u₂) w' := by
      intro d' h' c' L' S' a' w' q1 q2 q3
      obtain ⟨q4, q5⟩ := crec_good q3
      have hnil := isE_nil q4
      subst hnil
      have hdn : a'.defers = [] := by
        cases hq : a'.defers with
        | nil => rfl
        | cons _ _ => rw [hq] at q2; exact q2.elim
      refine ⟨hdn, u', hcs, _, hres1 _ _, ?_⟩
      rw [hset]
      exact ⟨_, hres0 w', L', S', rfl, trivial, q1⟩
    refine comp_sound hn y.Rest cal t1 [] h c .norm _ w L S _ hcal hSt (by rw [hr1]; exact hgr) ⟨?_, ?_, ?_, ?_⟩ <;> rw [hr1]
    · intro t' d' h' c' L' S' a' w' q1 q2 q3
      rw [q3] at hg ⊢
      exact fin d' h' c' L' S' a' w' q1 q2.dr hg
    · intro t' d' h' c' L' S' a' w' q1 q2 q3
      rw [q3] at hg ⊢
      exact fin d' h' c' L' S' a' w' q1 q2.dr hg
    · intro id t' d' h' c' L' S' a' w' q1 q2 q3
      rw [q3] at hg
      exact absurd rfl (hg 445)
    · intro ch chain t' d' h' c' L' S' a' w' q1 q2 q3 q4
      rw [q4] at hg
      exact absurd rfl (hg 446)
  refine wpSIn_seq (wpSIn_region ?_)
  show wpOpsSIn (fnc none) 0 P #[y.o3, y.o4] _ [0, 1] _ (c₀ :: cs) w
  have run3 : ∀ a : Act, (execOp a.eval y.o3).run P w = .ok .recover w := by
    intro a
    simp [execOp, y.o3o, resolve, y.c3c, y.c3a, invoke, builtin]
  have g0 : (#[y.o3, y.o4] : Array Oper)[0]? = some y.o3 := rfl
  have g1 : (#[y.o3, y.o4] : Array Oper)[1]? = some y.o4 := rfl
  have second : ∀ (cs' : List Frame) (u' : FrameMode), cs' = { c₀ with mode := u' } :: cs → settle u' = .returning → ∀ Q,
      y.Rest.wpSIn (fnc none) 0 P Q (({ tmps := tm0, defers := [] } : Act).put (some y.r4) (val L rec_) |>.put (some y.r1) (val L rec_)) cs' w →
      wpOpsSIn (fnc none) 0 P #[y.o3, y.o4] (Exit.thenS (y.Rest.wpSIn (fnc none) 0 P Q) Q) [1] (({ tmps := tm0, defers := [] } : Act).put y.o3.dst (val L rec_)) cs' w := by
    intro cs' u' _ _ Q hq
    unfold wpOpsSIn
    rw [g1]
    simp only
    refine ⟨fun _ _ => trivial, ?_⟩
    rw [if_pos (wanted_none y.o4g _)]
    have ev4 : (({ tmps := tm0, defers := [] } : Act).put y.o3.dst (val L rec_)).eval (.tmp y.r4) = val L rec_ := by
      rw [y.o3d]
      show (({ tmps := tm0, defers := [] } : Act).put (some y.r4) (val L rec_)).tmps.getD y.r4 undef = _
      rw [put_getD _ _ _ _ (by show y.r4 < tm0.size; rw [hsz]; exact y.r4n), if_pos rfl]
    have run4 : (execOp (({ tmps := tm0, defers := [] } : Act).put y.o3.dst (val L rec_)).eval y.o4).run P w = .ok (.value (val L rec_)) w := by
      simp [execOp, y.o4o, ev4]
    rw [run4]
    simp only
    unfold wpOpsSIn
    rw [y.o3d, y.o4d]
    exact hq
  unfold wpOpsSIn
  rw [g0]
  simp only
  refine ⟨fun _ _ => trivial, ?_⟩
  rw [if_pos (wanted_none y.o3g _), run3]
  simp only
  rcases hu with ⟨rfl, rfl⟩ | ⟨chain, rfl, _, rfl⟩
  · have hrec : recoverD (c₀ :: cs) = none := by simp [recoverD, hm]
    rw [hrec]
    simp only
    have hcs : c₀ :: cs = { c₀ with mode := .returning } :: cs := by rw [← hm]
    exact second (c₀ :: cs) .returning hcs rfl _ (rest (c₀ :: cs) .returning hcs rfl)
  · have hrec : recoverD (c₀ :: cs) = some (val L rec_, { c₀ with mode := .panicking [{ v := val L rec_, recovered := true }] } :: cs) := by simp [recoverD, hm]
    rw [hrec]
    simp only
    exact second _ (.panicking [{ v := val L rec_, recovered := true }]) rfl rfl _ (rest _ _ rfl rfl)
theorem leavesIn_mono {fn : Func} {tmps : Array Value} {R R' : Ending → World → Prop} (hm : ∀ e w, R e w → R' e w) : ∀ (u : FrameMode) (w : World), LeavesIn (fnc none) 0 P fn tmps R [] u w → LeavesIn (fnc none) 0 P fn tmps R' [] u w
  | .returning, _, ⟨v, h1, h2⟩ => ⟨v, h1, hm _ _ h2⟩
  | .panicking _, _, h => hm _ _ h
  | .run, _, h => h.elim
theorem leavesInM_mono {fn : Func} {tmps : Array Value} {R R' : Ending → World → Prop} (hm : ∀ e w, R e w → R' e w) : ∀ (ds : List Deferred) (u : FrameMode) (w : World), LeavesInM (fnc none) 0 P fn tmps R ds u w → LeavesInM (fnc none) 0 P fn tmps R' ds u w
  | [], u, w, h => leavesIn_mono hm u w h
  | d :: ds, u, w, h => by
    refine ⟨h.1, ?_⟩
    rcases h.2 with ⟨r, w', h1, h2, h3⟩ | ⟨h1, fv, cap, f, args, h2, h3, h4, h5⟩
    · exact .inl ⟨r, w', h1, h2, leavesInM_mono hm ds u w' h3⟩
    · refine .inr ⟨h1, fv, cap, f, args, h2, h3, h4, h5.1, fun c cs hc hr => ?_⟩
      obtain ⟨e, u', w', fr, g1, g2⟩ := h5.2 c cs hc hr
      refine ⟨e, u', w', fr, ?_, g2⟩
      cases e with
      | returned v => exact leavesInM_mono hm ds _ w' g1
      | panicked ch => exact leavesInM_mono hm ds _ w' g1
      | outgrown => exact hm _ _ g1
/-- the oracle tells the truth -/
theorem orcY_ok (hn : NamesOk P) (lf : Nat) : OrcOk P y.f0 (orcY y lf) := by
  intro cal args h c L S w hcal hr hb hgok ha hg
  rw [run_callFunc hn y.h0 y.b0]
  show CallsIn (fnc none) 0 P y.f0 (lsv L args).toArray w _
  have e0 : orcY y lf cal args h c = R.rec (motive := fun _ => C) (fun n => .bad n) (fun _ d h c => finY y lf cal .ni d h c) (fun _ d h c => finY y lf cal .ni d h c) (fun _ _ _ _ _ => .bad 447) (fun ch _ d h c => finY y lf cal ch d h c)
    (rSeq (comp P P.globals.size (maskF y.fn0) y.fn0.ntmps y.f0 lf none y.A) (rSeq (rDef y.s2 y.f1) (comp P P.globals.size (maskF y.fn0) y.fn0.ntmps y.f0 lf none y.B)) cal (iniL (cIni (maskF y.fn0) 2 0) args .e) [] h c .norm) := rfl
  generalize hrr : orcY y lf cal args h c = rr at hg ⊢
  rw [e0] at hrr
  generalize hr1 : rSeq (comp P P.globals.size (maskF y.fn0) y.fn0.ntmps y.f0 lf none y.A) (rSeq (rDef y.s2 y.f1) (comp P P.globals.size (maskF y.fn0) y.fn0.ntmps y.f0 lf none y.B)) cal (iniL (cIni (maskF y.fn0) 2 0) args .e) [] h c .norm = r1 at hrr
  have hgr : r1.Good := by
    intro n hn'
    rw [hn'] at hrr
    exact hg n hrr.symm
  obtain ⟨htm, hfar⟩ := ini_TM (far := maskF y.fn0) L S ha 2 (y.fn0.ntmps - (lsv L args).toArray.size)
  have hst : St P none none (maskF y.fn0) y.fn0.ntmps (iniL (cIni (maskF y.fn0) 2 0) args .e) [] h c { tmps := (lsv L args).toArray ++ Array.replicate (y.fn0.ntmps - (lsv L args).toArray.size) undef, defers := [] } w L S :=
    ⟨htm, hfar, by simp; omega, trivial, hr, hb, hgok, trivial⟩
  have after : ∀ (ds : List Deferred) (u : FrameMode) (tmps : Array Value) (L' : Loc) (S' : Ns) (h' : H) (c' : Nm) (w' : World) (r : C), Stp L S h c w L' S' h' c' w' → LeavesInM (fnc none) 0 P y.fn0 tmps (CPost L' S' h' c' w' r) ds u w' → LeavesInM (fnc none) 0 P y.fn0 tmps (CPost L S h c w r) ds u w' := by
    intro ds u tmps L' S' h' c' w' r hs hl
    exact leavesInM_mono (fun e w2 hp => CPost.after hs hp) ds u w' hl
  have hcs := CS.seq (comp_sound (rd := none) (rn := none) (far := maskF y.fn0) (nt := y.fn0.ntmps) (fid := y.f0) (lf := lf) hn y.A) (CS.seq (CS.defer1 (y := y)) (comp_sound (fid := y.f0) (lf := lf) hn y.B))
  refine callsIn_of_wp_marks y.h0 y.b0 trivial (hcs cal _ [] h c .norm _ w L S _ hcal hst (by rw [hr1]; exact hgr) ⟨?_, ?_, ?_, ?_⟩) <;> rw [hr1]
  · intro t' d' h' c' L' S' a' w' q1 q2 q3
    rw [q3] at hrr
    have hrr' : finY y lf cal .ni d' h' c' = rr := hrr
    exact after _ _ _ _ _ _ _ _ _ q1 (hrr' ▸ finY_sound hn hcal q2.rel q2.bd q2.gok q2.dr (.inl ⟨rfl, rfl⟩) (hrr' ▸ hg))
  · intro t' d' h' c' L' S' a' w' q1 q2 q3
    rw [q3] at hrr
    have hrr' : finY y lf cal .ni d' h' c' = rr := hrr
    exact after _ _ _ _ _ _ _ _ _ q1 (hrr' ▸ finY_sound hn hcal q2.rel q2.bd q2.gok q2.dr (.inl ⟨rfl, rfl⟩) (hrr' ▸ hg))
  · intro id t' d' h' c' L' S' a' w' q1 q2 q3
    rw [q3] at hrr
    exact absurd hrr.symm (hg 447)
  · intro ch chain t' d' h' c' L' S' a' w' q1 q2 q3 q4
    rw [q4] at hrr
    have hrr' : finY y lf cal ch d' h' c' = rr := hrr
    exact after _ _ _ _ _ _ _ _ _ q1 (hrr' ▸ finY_sound hn hcal q1.rel q1.bd (St.gokStp hgok q1) q2 (.inr ⟨chain, rfl, q3⟩) (hrr' ▸ hg))
end
end Go.Ev

/-! A run that begins with nothing but what is only read: the old memory stays. -/
namespace Go.Ev

section
variable {P : Program}
open Go.RowKit
/-- the names of the variables -/
def S0 (G : Nat) : Ns := fun n => ∃ g, g < G ∧ n = gn g
noncomputable def L0 : Loc := ⟨fun n => n.toNat - 1, fun _ => 0⟩
theorem ofNatF_toNat : ∀ (f n : Nat), n < f → 0 < n → (Nm.ofNatF f n).toNat = n
  | f + 1, n, h, h0 => by
    unfold Nm.ofNatF
    by_cases h1 : n ≤ 1
    · rw [if_pos h1]; show 1 = n; omega
    · rw [if_neg h1]
      by_cases h2 : n % 2 = 0
      · rw [if_pos h2]
        have := ofNatF_toNat f (n / 2) (by omega) (by omega)
        show 2 * (Nm.ofNatF f (n / 2)).toNat = n
        rw [this]; omega
      · rw [if_neg h2]
        have := ofNatF_toNat f (n / 2) (by omega) (by omega)
        show 2 * (Nm.ofNatF f (n / 2)).toNat + 1 = n
        rw [this]; omega
theorem gn_toNat (g : Nat) : (gn g).toNat = g + 1 := ofNatF_toNat _ _ (by omega) (by omega)
theorem L0_b (g : Nat) : L0.b (gn g) = g := by show (gn g).toNat - 1 = g; rw [gn_toNat]; rfl
theorem gok0 : GOk P L0 (S0 P.globals.size) := fun g hg => ⟨⟨g, hg, rfl⟩, L0_b g⟩
theorem bd0 {G : Nat} {c : Nm} (h : G < c.toNat) : Bd (S0 G) c := fun n ⟨g, hg, e⟩ => by rw [e, gn_toNat]; omega
theorem Stp.below {L L' : Loc} {S S' : Ns} {h h' : H} {c c' : Nm} {w w' : World} (hs : Stp L S h c w L' S' h' c' w') (hro : ∀ n, H.get n h ≠ .no → isRo (H.get n h) = true) : Below w.heap.size w w' where
  os := hs.out.os
  tape := hs.out.tape
  output := hs.out.output
  size := hs.size
  block := fun k hk => by
    have ho : w.heap[k]? = some w.heap[k] := Array.getElem?_eq_getElem hk
    rw [ho]
    exact hs.kept k _ ho fun n hn hr => by rw [hro n hn] at hr; cases hr
/-- **a function's contract from its run** on memory that is only read -/
theorem calls_of_eval {O : Orc} {lf n : Nat} (hn : NamesOk P) (hO : ∀ f g, O f = some g → OrcOk P f g) {f : FuncId} {fn : Func} {cd : Code} (hf : P.funcs[f]? = some fn) (hb : fn.body = some cd) {args : V} {h h' : H} {c c' : Nm} {v : V} {w : World}
    (hr : Rel L0 (S0 P.globals.size) h w) (hbd : P.globals.size < c.toNat) (hro : ∀ n, H.get n h ≠ .no → isRo (H.get n h) = true) (ha : (wf (S0 P.globals.size) args).s) (he : callN P O lf n (.f (.func f) .nil .nil) args h c = .ret v h' c') :
    Calls P f (lsv L0 args).toArray w fun e w' => (∃ L' S', e = .returned (val L' v) ∧ (wf S' v).v) ∧ Below w.heap.size w w' :=
  (callsIn_of_eval hn hO hf hb hr (bd0 hbd) gok0 ha he).mono fun _ _ ⟨L', S', h1, h2, h3⟩ => ⟨⟨L', S', h1, h2⟩, h3.below hro⟩
section
variable {L : Loc} {S : Ns} {h : H} {w : World}
/-- from what is kept below, and a value without names, to the post -/
theorem post_below {c : Nm} {v : V} {e : Ending} {w' : World} (hr : Rel L S h w) (hb : Bd S c) (hbel : Below w.heap.size w w') (he : e = .returned (val L v)) (hv : (wf S v).v) : CPost L S h c w (.ret v h c) e w' := by
  refine ⟨L, S, he, hv, ?_⟩
  exact {
    sub := fun _ hn => hn
    new := fun _ hn => .inl hn
    agr := Agr.refl S L
    cle := Nat.le_refl _
    bd := hb
    relb := fun n hn => (hr.blk n hn).1
    rel := ⟨fun n hn => by
      obtain ⟨h1, o, h2, h3⟩ := hr.blk n hn
      exact ⟨h1, o, by rw [hbel.block _ (lt_size h2)]; exact h2, h3⟩, hr.inj⟩
    size := hbel.size
    kept := fun r o ho _ => by rw [hbel.block _ (lt_size ho)]; exact ho
    roH := fun _ _ => rfl
    out := ⟨hbel.os, hbel.tape, hbel.output⟩
    dom := fun n hn => .inl ⟨n, hn, rfl⟩ }
/-- an oracle whose contract is known -/
theorem orc_post (hn : NamesOk P) {f : FuncId} {fn : Func} {cd : Code} (hf : P.funcs[f]? = some fn) (hb : fn.body = some cd) {args : Array Value} {Q : Ending → World → Prop} (hc : Calls P f args w Q) : Doing P Q ((callFunc f args).run P w) := by
  rw [run_callFunc hn hf hb]
  exact callsIn_wide.2 hc
end
end
end Go.Ev

/-! Closed calls, reckoned once. -/
namespace Go.Ev
open Go.RowKit

noncomputable section
/-- a row that a closed call reads -/
structure Mb where
  n : Nm
  el : Nat
  sz : Nat
  N : Nat
  cs : V
def rowIs (m : Mb) (b : Blk) : Bool := Blk.rec (motive := fun _ => Bool) false (fun _ sz N op _ cs => Bool.and (Nat.beq sz m.sz) (Bool.and (Nat.beq N m.N) (Bool.and (Bool.not op) (sameV m.cs cs)))) (fun _ _ => false) (fun _ _ _ => false) (fun _ _ _ _ _ _ _ _ _ _ => false) (fun _ => false) b
def inMem (l : List Mb) (h : H) : Bool := List.rec (motive := fun _ => Bool) true (fun m _ ih => Bool.and (rowIs m (H.get m.n h)) ih) l
def memOf (l : List Mb) : H := List.rec (motive := fun _ => H) .e (fun m _ ih => H.set m.n (.row m.el m.sz m.N false m.N m.cs) ih) l
def posN (l : List Mb) : Bool := List.rec (motive := fun _ => Bool) true (fun m _ ih => Bool.and (Nat.ble 1 m.N) ih) l
/-- a closed call -/
structure Memo where
  a : V
  l : List Mb
  c : Nm
  v : V
def memoTest (e : Memo) (a : V) (h : H) (c : Nm) : Bool := Bool.and (Nm.beq c e.c) (Bool.and (sameV e.a a) (inMem e.l h))
def orcMemo (es : List Memo) : Cal → V → H → Nm → C := fun _ a h c => List.rec (motive := fun _ => C) (.bad 970) (fun e _ ih => Bool.rec ih (.ret e.v h c) (memoTest e a h c)) es
/-- what the kernel reckons -/
def memoRun (P : Program) (O : Orc) (lf n f : Nat) (e : Memo) : Bool := Bool.and (posN e.l) (C.rec (motive := fun _ => Bool) (fun _ => false) (fun v _ _ => sameV e.v v) (fun _ _ _ => false) (callN P O lf n (.f (.func f) .nil .nil) e.a (memOf e.l) e.c))
end

theorem boolAnd2 {a b : Bool} (h : Bool.and a b = true) : a = true ∧ b = true := by cases a <;> cases b <;> first | exact ⟨rfl, rfl⟩ | cases h
theorem rowIs_eq {m : Mb} {b : Blk} (h : rowIs m b = true) : ∃ el fz, b = .row el m.sz m.N false fz m.cs := by
  cases b with
  | row el sz N op fz cs =>
    obtain ⟨h2, h3⟩ := boolAnd2 h; obtain ⟨h3, h4⟩ := boolAnd2 h3; obtain ⟨h4, h5⟩ := boolAnd2 h4
    rw [Nat.beq_eq] at h2 h3
    rw [Bool.not_eq_true'] at h4
    exact ⟨el, fz, by rw [h2, h3, h4, sameV_eq _ _ h5]⟩
  | _ => cases h
theorem mem_get {h : H} : ∀ (l : List Mb) (n : Nm), inMem l h = true → H.get n (memOf l) ≠ .no → ∃ m ∈ l, n = m.n ∧ H.get n (memOf l) = .row m.el m.sz m.N false m.N m.cs ∧ ∃ el fz, H.get n h = .row el m.sz m.N false fz m.cs
  | [], n, _, hn => absurd (hget_e n) hn
  | m :: l, n, hi, hn => by
    obtain ⟨h1, h2⟩ := boolAnd2 hi
    have e : H.get n (memOf (m :: l)) = if n = m.n then .row m.el m.sz m.N false m.N m.cs else H.get n (memOf l) := hget_set _ _ _ _
    by_cases hm : n = m.n
    · rw [if_pos hm] at e
      exact ⟨m, List.mem_cons_self, hm, e, by rw [hm]; exact rowIs_eq h1⟩
    · rw [if_neg hm] at e
      rw [e] at hn
      obtain ⟨m', h3, h4, h5, h6⟩ := mem_get l n h2 hn
      exact ⟨m', List.mem_cons_of_mem _ h3, h4, e.trans h5, h6⟩
theorem pos_mem : ∀ (l : List Mb), posN l = true → ∀ m ∈ l, 0 < m.N
  | m :: l, h, m', hm => by
    obtain ⟨h1, h2⟩ := boolAnd2 h
    rw [Nat.ble_eq] at h1
    rcases List.mem_cons.1 hm with rfl | hm
    · exact h1
    · exact pos_mem l h2 m' hm
/-- a value without names -/
def ClosedV (v : V) : Prop := ∀ (L L' : Loc) (S S' : Ns), val L v = val L' v ∧ ((wf S v).v → (wf S' v).v)
section
variable {P : Program}
theorem memo_ok {O : Orc} {lf n : Nat} (hn : NamesOk P) (hO : ∀ f g, O f = some g → OrcOk P f g) {f : FuncId} {fn : Func} {cd : Code} (hf : P.funcs[f]? = some fn) (hb : fn.body = some cd) {e : Memo} (hv : ClosedV e.v) (hrun : memoRun P O lf n f e = true)
    {L : Loc} {S : Ns} {w : World} {h : H} (hr : Rel L S h w) (hbd : Bd S e.c) (hgok : GOk P L S) (ha : (wf S e.a).s) (hi : inMem e.l h = true) :
    Doing P (CPost L S h e.c w (.ret e.v h e.c)) ((callFunc f (lsv L e.a).toArray).run P w) := by
  obtain ⟨hp, hq⟩ := boolAnd2 hrun
  cases hc : callN P O lf n (.f (.func f) .nil .nil) e.a (memOf e.l) e.c with
  | ret v h' c' =>
    rw [hc] at hq
    have hvv : e.v = v := sameV_eq _ _ hq
    have hget : ∀ n, H.get n (memOf e.l) ≠ .no → ∃ m ∈ e.l, n = m.n ∧ H.get n (memOf e.l) = .row m.el m.sz m.N false m.N m.cs ∧ ∃ el fz, H.get n h = .row el m.sz m.N false fz m.cs := fun n hn => mem_get e.l n hi hn
    have hr0 : Rel L S (memOf e.l) w := by
      refine ⟨fun n hn => ?_, fun n m hn hm he => ?_⟩
      · obtain ⟨m, hm, rfl, e1, elx, fz, e2⟩ := hget n hn
        obtain ⟨h1, o, h2, h3⟩ := hr.blk m.n (by rw [e2]; simp)
        refine ⟨h1, o, h2, ?_⟩
        rw [e1]
        rw [e2] at h3
        have hpos := pos_mem e.l hp m hm
        cases o with
        | cells arr el fr =>
          obtain ⟨h4, h5, h6, h7⟩ := h3
          have hsz : arr.size = m.N := by
            have h8 : arr.toList = fit m.N (lcv L m.cs) := h7
            have := congrArg List.length h8
            rw [fit_length] at this; simpa using this
          exact ⟨.inr ⟨hpos, Nat.le_refl _, rfl⟩, h5, ⟨.inl hpos, fun i hi1 hi2 => by omega⟩, h7⟩
        | _ => exact h3.elim
      · obtain ⟨_, _, _, _, _, fz, e2⟩ := hget n hn
        obtain ⟨_, _, _, _, _, fz', e2'⟩ := hget m hm
        exact hr.inj n m (by rw [e2]; simp) (by rw [e2']; simp) he
    have hro : ∀ n, H.get n (memOf e.l) ≠ .no → isRo (H.get n (memOf e.l)) = true := fun n hn => by
      obtain ⟨m, hm, rfl, e1, _⟩ := hget n hn
      have := pos_mem e.l hp m hm
      rw [e1]
      simp [isRo]; omega
    have hcall := callsIn_of_eval hn hO hf hb hr0 hbd hgok ha hc
    refine orc_post hn hf hb (hcall.mono fun en w' ⟨L', S', h1, h2, h3⟩ => ?_)
    rw [← hvv] at h1 h2
    exact post_below hr hbd (h3.below hro) (by rw [h1, (hv L' L S' S).1]) ((hv L' L S' S).2 h2)
  | bad _ => rw [hc] at hq; cases hq
  | panic _ _ _ => rw [hc] at hq; cases hq
/-- **an oracle of closed calls is sound** -/
theorem orcMemo_ok {O : Orc} {lf n : Nat} (hn : NamesOk P) (hO : ∀ f g, O f = some g → OrcOk P f g) {f : FuncId} {fn : Func} {cd : Code} (hf : P.funcs[f]? = some fn) (hb : fn.body = some cd) (es : List Memo)
    (hes : ∀ e ∈ es, ClosedV e.v ∧ memoRun P O lf n f e = true) : OrcOk P f (orcMemo es) := by
  induction es with
  | nil => intro cal args h c L S w _ _ _ _ _ hg; exact absurd rfl (hg 970)
  | cons e es ih =>
    intro cal args h c L S w hcal hr hbd hgok ha hg
    have e0 : orcMemo (e :: es) cal args h c = Bool.rec (orcMemo es cal args h c) (.ret e.v h c) (memoTest e args h c) := rfl
    rw [e0] at hg ⊢
    cases ht : memoTest e args h c with
    | false =>
      rw [ht] at hg
      exact ih (fun e he => hes e (List.mem_cons_of_mem _ he)) cal args h c L S w hcal hr hbd hgok ha hg
    | true =>
      obtain ⟨h1, h2⟩ := boolAnd2 ht
      obtain ⟨h2, h3⟩ := boolAnd2 h2
      rw [nm_beq] at h1
      have h4 := sameV_eq _ _ h2
      subst h1 h4
      obtain ⟨hv, hrun⟩ := hes e List.mem_cons_self
      exact memo_ok hn hO hf hb hv hrun hr hbd hgok ha h3
end
end Go.Ev
