/- Regions in order, code, functions, methods, iterators. -/
import Derived.Test.YtbkpgmlibiclfaaGreatDoorE4
import Derived.LoopNIn
import Derived.RangeFuncLeaves
import Derived.RangeFuncNested
set_option maxRecDepth 4000

namespace Go.Ev
structure RI (L : Loc) (S : Ns) (e : Ce) (a : Act) (ns : List V) (t : T) (nt : Nat) : Prop where
 mat : Mat L S e a ns t
 size : nt ≤ a.tmps.size
 lt : ∀ d j, (d, Al.r j) ∈ e.al → j < e.n
section
variable {P : Program} {rd : Option Nat} {L L' : Loc} {S S' : Ns} {e : Ce} {a : Act} {ns : List V} {t : T} {nt : Nat}
theorem Mat.congr (h : Mat L S e a ns t) (hs : ∀ n, S n → S' n) (ha : Agr S L L') : Mat L' S' e a ns t := fun x hx =>
 let ⟨h1, h2⟩ := h x hx
 ⟨h1.trans ((den_congr ha _).1 h2).symm, (wf_mono hs _).1 h2⟩
theorem RI.congr (h : RI L S e a ns t nt) (hs : ∀ n, S n → S' n) (ha : Agr S L L') : RI L' S' e a ns t nt := ⟨h.mat.congr hs ha, h.size, h.lt⟩
theorem findA_mem {s : Nat} : ∀ {al : List (Nat × Al)} {x : Al}, findA s al = some x → (s, x) ∈ al
 | [], _, h => by cases h
 | (d, y) :: r, x, h => by
   unfold findA at h
   split at h
   · rename_i hd
     rw [Nat.beq_eq] at hd
     subst hd
     cases h
     exact .head _
   · exact .tail _ (findA_mem h)
theorem findA_cons (d : Nat) (x : Al) (al : List (Nat × Al)) (s : Nat) : findA s ((d, x) :: al) = if d = s then some x else findA s al := by
 show (if Nat.beq d s = true then some x else findA s al) = _
 by_cases h : d = s
 · rw [if_pos h, if_pos (by rw [Nat.beq_eq]; exact h)]
 · rw [if_neg h, if_neg (by rw [Nat.beq_eq]; exact h)]
theorem nth_succ (v : V) (ns : List V) (k : Nat) : nth (U.ofNat (k + 1)) (v :: ns) = nth (U.ofNat k) ns := rfl
theorem opd_push {x : Al} {n : Nat} (v : V) (h : ∀ j, x = .r j → j < n) : ev (x.opd (n + 1)) (v :: ns) t = ev (x.opd n) ns t := by
 cases x with
 | r j =>
   have := h j rfl
   show nth (U.ofNat (n + 1 - 1 - j)) (v :: ns) = nth (U.ofNat (n - 1 - j)) ns
   rw [show n + 1 - 1 - j = (n - 1 - j) + 1 by omega]; rfl
 | t p => rfl
 | c v => rfl
theorem put_getD (a : Act) (d : Nat) (v : Value) (s : Nat) (h : d < a.tmps.size) : (a.put (some d) v).tmps.getD s undef = if d = s then v else a.tmps.getD s undef := by
 show (a.tmps.setIfInBounds d v).getD s undef = _
 simp only [Array.getD_eq_getD_getElem?, Array.getElem?_setIfInBounds]
 by_cases hd : d = s
 · subst hd; simp [h]
 · simp [hd]
theorem put_other (a : Act) (d : Nat) (v : Value) (s : Nat) (h : d ≠ s) : (a.put (some d) v).tmps.getD s undef = a.tmps.getD s undef := by
 show (a.tmps.setIfInBounds d v).getD s undef = _
 simp only [Array.getD_eq_getD_getElem?, Array.getElem?_setIfInBounds]
 simp [h]
theorem put_size (a : Act) (d : Option Nat) (v : Value) : (a.put d v).tmps.size = a.tmps.size := by
 cases d <;> simp [Act.put]
theorem cAl_tmp (e : Ce) (s : Nat) : cAl e (.tmp s) = match findA s e.al with | some a => a | none => .t (tn s) := rfl
theorem findA_dst {d s : Nat} {x : Al} {al : List (Nat × Al)} (h : d ≠ s) : findA s (dstAl nt (some d) x al) = findA s al := by
 show findA s (if d < nt then (d, x) :: al else (d, .c .x) :: al) = _
 split <;> rw [findA_cons, if_neg h]
theorem cAl_lt (h : RI L S e a ns t nt) (x : Operand) : ∀ j, cAl e x = .r j → j < e.n := by
 intro j hj
 cases x with
 | tmp s =>
   rw [cAl_tmp] at hj
   cases hf : findA s e.al with
   | none => rw [hf] at hj; cases hj
   | some y => rw [hf] at hj; simp only at hj; subst hj; exact h.lt s j (findA_mem hf)
 | const v => cases hj
 | global g =>
   have : cAl e (.global g) = if g < e.G then .c (.p (gn g) 0) else .c .x := rfl
   rw [this] at hj
   split at hj <;> cases hj
 | func f => cases hj
theorem RI.push (h : RI L S e a ns t nt) {v : V} (hv : (wf S v).v) (dst : Option Nat) (ds : List Deferred) : RI L S { e with al := dstAl nt dst (.r e.n) e.al, n := e.n + 1 } ({ a with defers := ds }.put dst (val L v)) (v :: ns) t nt := by
 have old : ∀ x : Operand, (∀ s, x = .tmp s → dst ≠ some s) → cAl { e with al := dstAl nt dst (.r e.n) e.al, n := e.n + 1 } x = cAl e x := by
  intro x hx
  cases x with
  | tmp s =>
    rw [cAl_tmp, cAl_tmp]
    cases dst with
    | none => rfl
    | some d =>
      have hd : d ≠ s := fun hh => hx s rfl (by rw [hh])
      show (match findA s (dstAl nt (some d) (Al.r e.n) e.al) with | some a => a | none => .t (tn s)) = _
      rw [findA_dst hd]
  | _ => rfl
 have evo : ∀ x : Operand, (∀ s, x = .tmp s → dst ≠ some s) → ({ a with defers := ds }.put dst (val L v)).eval x = a.eval x := by
  intro x hx
  cases x with
  | tmp s =>
    cases dst with
    | none => rfl
    | some d => exact put_other { a with defers := ds } d _ s (fun hh => hx s rfl (by rw [hh]))
  | _ => rfl
 refine ⟨fun x hx => ?_, by rw [put_size]; exact h.size, ?_⟩
 · by_cases hxd : ∀ s, x = .tmp s → dst ≠ some s
   · have e1 : ev (cOpd { e with al := dstAl nt dst (.r e.n) e.al, n := e.n + 1 } x) (v :: ns) t = ev (cOpd e x) ns t := by
      show ev ((cAl _ x).opd (e.n + 1)) (v :: ns) t = _
      rw [old x hxd]
      exact opd_push v (cAl_lt h x)
     rw [e1] at hx ⊢
     rw [evo x hxd]
     exact h.mat x hx
   · have : ∃ s, x = .tmp s ∧ dst = some s := by
      cases x with
      | tmp s =>
        refine ⟨s, rfl, ?_⟩
        by_cases hd : dst = some s
        · exact hd
        · exact absurd (fun s' hs' => by cases hs'; exact hd) hxd
      | _ => exact absurd (fun s hs => by cases hs) hxd
     obtain ⟨s, rfl, rfl⟩ := this
     by_cases hs : s < nt
     · have e1 : cAl { e with al := dstAl nt (some s) (.r e.n) e.al, n := e.n + 1 } (.tmp s) = .r e.n := by
        rw [cAl_tmp]
        show (match findA s (if s < nt then (s, Al.r e.n) :: e.al else (s, .c .x) :: e.al) with | some a => a | none => .t (tn s)) = _
        rw [if_pos hs, findA_cons, if_pos rfl]
       have e2 : ev (cOpd { e with al := dstAl nt (some s) (.r e.n) e.al, n := e.n + 1 } (.tmp s)) (v :: ns) t = v := by
        show ev ((cAl _ _).opd (e.n + 1)) (v :: ns) t = v
        rw [e1]
        show nth (U.ofNat (e.n + 1 - 1 - e.n)) (v :: ns) = v
        rw [show e.n + 1 - 1 - e.n = 0 by omega]; rfl
       rw [e2]
       refine ⟨?_, hv⟩
       show ({ a with defers := ds }.put (some s) (val L v)).tmps.getD s undef = _
       rw [put_getD { a with defers := ds } s _ s (Nat.lt_of_lt_of_le hs h.size), if_pos rfl]
     · exfalso
       have e1 : cAl { e with al := dstAl nt (some s) (.r e.n) e.al, n := e.n + 1 } (.tmp s) = .c .x := by
        rw [cAl_tmp]
        show (match findA s (if s < nt then (s, Al.r e.n) :: e.al else (s, .c .x) :: e.al) with | some a => a | none => .t (tn s)) = _
        rw [if_neg hs, findA_cons, if_pos rfl]
       apply hx
       show ev ((cAl _ _).opd (e.n + 1)) (v :: ns) t = .x
       rw [e1]; rfl
 · intro d j hj
   have hj' : (d, Al.r j) ∈ dstAl nt dst (.r e.n) e.al := hj
   show j < e.n + 1
   cases dst with
   | none => have := h.lt d j hj'; omega
   | some d' =>
     have hj2 : (d, Al.r j) ∈ (if d' < nt then (d', Al.r e.n) :: e.al else (d', .c .x) :: e.al) := hj'
     split at hj2
     · rcases List.mem_cons.1 hj2 with hh | hh
       · injection hh with _ h2; injection h2 with h2; omega
       · have := h.lt d j hh; omega
     · rcases List.mem_cons.1 hj2 with hh | hh
       · injection hh with _ h2; cases h2
       · have := h.lt d j hh; omega
theorem RI.alias (h : RI L S e a ns t nt) (x : Operand) (dst : Option Nat) : RI L S { e with al := dstAl nt dst (cAl e x) e.al } (a.put dst (a.eval x)) ns t nt := by
 refine ⟨fun y hy => ?_, by rw [put_size]; exact h.size, ?_⟩
 · cases dst with
   | none => exact h.mat y hy
   | some d =>
     have other : (∀ s, y = .tmp s → d ≠ s) → (a.put (some d) (a.eval x)).eval y = val L (ev (cOpd { e with al := dstAl nt (some d) (cAl e x) e.al } y) ns t) ∧ (wf S (ev (cOpd { e with al := dstAl nt (some d) (cAl e x) e.al } y) ns t)).v := by
      intro hn
      have e1 : cAl { e with al := dstAl nt (some d) (cAl e x) e.al } y = cAl e y := by
       cases y with
       | tmp s =>
         rw [cAl_tmp, cAl_tmp]
         show (match findA s (dstAl nt (some d) (cAl e x) e.al) with | some a => a | none => .t (tn s)) = _
         rw [findA_dst (hn s rfl)]
       | _ => rfl
      have e2 : ev (cOpd { e with al := dstAl nt (some d) (cAl e x) e.al } y) ns t = ev (cOpd e y) ns t := by
       show ev ((cAl _ y).opd e.n) ns t = _
       rw [e1]; rfl
      rw [e2] at hy ⊢
      have e3 : (a.put (some d) (a.eval x)).eval y = a.eval y := by
       cases y with
       | tmp s => exact put_other a d _ s (hn s rfl)
       | _ => rfl
      rw [e3]
      exact h.mat y hy
     cases y with
     | tmp s =>
       by_cases hd : d = s
       · subst hd
         by_cases hs : d < nt
         · have e1 : cAl { e with al := dstAl nt (some d) (cAl e x) e.al } (.tmp d) = cAl e x := by
            rw [cAl_tmp]
            show (match findA d (if d < nt then (d, cAl e x) :: e.al else (d, .c .x) :: e.al) with | some a => a | none => .t (tn d)) = _
            rw [if_pos hs, findA_cons, if_pos rfl]
           have e2 : ev (cOpd { e with al := dstAl nt (some d) (cAl e x) e.al } (.tmp d)) ns t = ev (cOpd e x) ns t := by
            show ev ((cAl _ _).opd e.n) ns t = _
            rw [e1]; rfl
           rw [e2] at hy ⊢
           have := h.mat x hy
           refine ⟨?_, this.2⟩
           rw [← this.1]
           show (a.put (some d) (a.eval x)).tmps.getD d undef = _
           rw [put_getD _ _ _ _ (Nat.lt_of_lt_of_le hs h.size), if_pos rfl]
         · exfalso
           have e1 : cAl { e with al := dstAl nt (some d) (cAl e x) e.al } (.tmp d) = .c .x := by
            rw [cAl_tmp]
            show (match findA d (if d < nt then (d, cAl e x) :: e.al else (d, .c .x) :: e.al) with | some a => a | none => .t (tn d)) = _
            rw [if_neg hs, findA_cons, if_pos rfl]
           apply hy
           show ev ((cAl _ _).opd e.n) ns t = .x
           rw [e1]; rfl
       · exact other (fun s' hs' => by cases hs'; exact hd)
     | const v => exact other (fun s hs => by cases hs)
     | global g => exact other (fun s hs => by cases hs)
     | func f => exact other (fun s hs => by cases hs)
 · intro d j hj
   have hj' : (d, Al.r j) ∈ dstAl nt dst (cAl e x) e.al := hj
   cases dst with
   | none => exact h.lt d j hj'
   | some d' =>
     have hj2 : (d, Al.r j) ∈ (if d' < nt then (d', cAl e x) :: e.al else (d', .c .x) :: e.al) := hj'
     split at hj2
     · rcases List.mem_cons.1 hj2 with hh | hh
       · injection hh with _ h2; exact cAl_lt h x j h2.symm
       · exact h.lt d j hh
     · rcases List.mem_cons.1 hj2 with hh | hh
       · injection hh with _ h2; cases h2
       · exact h.lt d j hh
end
end Go.Ev

namespace Go.Ev
section
variable {P : Program} {rd : Option Nat} {nt : Nat} {ops : Array Oper}
theorem wanted_none {o : Oper} (h : o.guard = none) (f : Nat → Option Bool) : Region.wanted o f = true := by simp [Region.wanted, h]
theorem guard_good {v : V} {q : Bool → R} {r : R} (h : (guardK v q r).Good) : (∃ z, v = .b z ∧ guardK v q r = q z) ∨ (v ≠ .x ∧ (∀ z, v ≠ .b z) ∧ guardK v q r = r) := by
 cases v <;> first
  | exact (bad_good h).elim
  | exact .inl ⟨_, rfl, rfl⟩
  | exact .inr ⟨by simp, by simp, rfl⟩
theorem val_bool {L : Loc} {v : V} {z : Bool} (h : val L v = .bool z) : v = .b z := by
 cases v <;> first | (cases h; rfl) | cases h | exact absurd h (by show endSl _ _ _ _ ≠ _; unfold endSl; split <;> simp)
theorem ops_sound {cal : Cal} (hcal : CalOk P cal) : ∀ (l : List Nat) (e : Ce) (a : Act) (ns : List V) (t : T) (d : List D) (h : H) (c : Nm) (w : World) (L : Loc) (S : Ns) (k : List V → List D → H → Nm → R) (Q : Exit → Act → World → Prop),
 GOk P L S → RI L S e a ns t nt → Rel L S h w → Bd S c → DR L S d a.defers → (execL (cOps P nt ops l e).1 cal ns t d h c k).Good →
 (∀ ns' d' h' c' L' S' a' w', Stp L S h c w L' S' h' c' w' → RI L' S' (cOps P nt ops l e).2 a' ns' t nt → a'.tmps.size = a.tmps.size → DR L' S' d' a'.defers → execL (cOps P nt ops l e).1 cal ns t d h c k = k ns' d' h' c' → Q .normal a' w') →
 (∀ ch d' h' c' chain L' S' a' w', Stp L S h c w L' S' h' c' w' → ChR L' S' ch chain → DR L' S' d' a'.defers → execL (cOps P nt ops l e).1 cal ns t d h c k = .panic ch t d' h' c' → Q (.panic chain) a' w') →
 wpOpsIn (fnc rd) 0 P ops Q l a w := by
 intro l
 induction l with
 | nil =>
   intro e a ns t d h c w L S k Q _ hri hr hb hd hg hk _
   exact hk ns d h c L S a w (Stp.refl hr hb) hri rfl hd rfl
 | cons i l ih =>
   intro e a ns t d h c w L S k Q hgok hri hr hb hd hg hk hp
   unfold wpOpsIn
   cases ho : ops[i]? with
   | none =>
     simp only
     have e1 : cOps P nt ops (i :: l) e = cOps P nt ops l e := by rw [cOps]; simp only [ho]
     rw [e1] at hg hk hp
     exact ih e a ns t d h c w L S k Q hgok hri hr hb hd hg hk hp
   | some o =>
     simp only
     cases hpm : plainMove o with
     | some x =>
       have e1 : cOps P nt ops (i :: l) e = cOps P nt ops l { e with al := dstAl nt o.dst (cAl e x) e.al } := by rw [cOps]; simp only [ho, hpm]
       rw [e1] at hg hk hp
       have hgd : o.guard = none ∧ (o.op = .move x ∨ o.op = .assign x) := by
        unfold plainMove at hpm
        split at hpm
        · rename_i h1 h2; cases hpm; exact ⟨h1, .inl h2⟩
        · rename_i h1 h2; cases hpm; exact ⟨h1, .inr h2⟩
        · cases hpm
       rw [if_pos (wanted_none hgd.1 _)]
       refine ⟨fun _ _ => trivial, ?_⟩
       have hnd : ∀ c, o.op ≠ .defer c := by intro c hc; rcases hgd.2 with h | h <;> rw [h] at hc <;> cases hc
       have hrun : (execOp a.eval o).run P w = .ok (.value (a.eval x)) w := by rcases hgd.2 with h | h <;> simp [execOp, h]
       rw [Oper.semAt_eq _ _ _ hnd, hrun, Oper.uponIn_value]
       refine ih _ (a.put o.dst (a.eval x)) ns t d h c w L S k Q hgok (hri.alias x o.dst) hr hb (by cases o.dst <;> exact hd) hg ?_ hp
       intro ns' d' h' c' L' S' a' w' h1 h2 h3 h4 h5
       exact hk ns' d' h' c' L' S' a' w' h1 h2 (h3.trans (put_size _ _ _)) h4 h5
     | none =>
       have e1 : cOps P nt ops (i :: l) e = (cOpG P ops e o :: (cOps P nt ops l { e with al := dstAl nt o.dst (.r e.n) e.al, n := e.n + 1 }).1, (cOps P nt ops l { e with al := dstAl nt o.dst (.r e.n) e.al, n := e.n + 1 }).2) := by rw [cOps]; simp only [ho, hpm]
       rw [e1] at hg hk hp
       have rest : ∀ (v : V) (d1 : List D) (h1 : H) (c1 : Nm) (L1 : Loc) (S1 : Ns) (ds1 : List Deferred) (w1 : World), Stp L S h c w L1 S1 h1 c1 w1 → (wf S1 v).v → DR L1 S1 d1 ds1 →
        execL (cOpG P ops e o :: (cOps P nt ops l { e with al := dstAl nt o.dst (.r e.n) e.al, n := e.n + 1 }).1) cal ns t d h c k = execL (cOps P nt ops l { e with al := dstAl nt o.dst (.r e.n) e.al, n := e.n + 1 }).1 cal (v :: ns) t d1 h1 c1 k →
        wpOpsIn (fnc rd) 0 P ops Q l ({ a with defers := ds1 }.put o.dst (val L1 v)) w1 := by
        intro v d1 h1 c1 L1 S1 ds1 w1 hst hv hds heq
        have hri1 := (hri.congr hst.sub hst.agr).push hv o.dst ds1
        refine ih _ _ (v :: ns) t d1 h1 c1 w1 L1 S1 k Q ?_ hri1 hst.rel hst.bd (by cases o.dst <;> exact hds) (heq ▸ hg) ?_ ?_
        · intro g hgl
          have := hgok g hgl
          exact ⟨hst.sub _ this.1, (hst.agr _ this.1).1.trans this.2⟩
        · intro ns' d' h' c' L' S' a' w' g1 g2 g3 g4 g5
          exact hk ns' d' h' c' L' S' a' w' (hst.trans g1) g2 (g3.trans (put_size _ _ _)) g4 (heq.trans g5)
        · intro ch d' h' c' chain L' S' a' w' g1 g2 g3 g4
          exact hp ch d' h' c' chain L' S' a' w' (hst.trans g1) g2 g3 (heq.trans g4)
       have doit : ∀ (io : Iop), OS P rd e o io → (execO io cal ns t d h c (fun v d h c => execL (cOps P nt ops l { e with al := dstAl nt o.dst (.r e.n) e.al, n := e.n + 1 }).1 cal (v :: ns) t d h c k)).Good →
        execL (cOpG P ops e o :: (cOps P nt ops l { e with al := dstAl nt o.dst (.r e.n) e.al, n := e.n + 1 }).1) cal ns t d h c k = execO io cal ns t d h c (fun v d h c => execL (cOps P nt ops l { e with al := dstAl nt o.dst (.r e.n) e.al, n := e.n + 1 }).1 cal (v :: ns) t d h c k) →
        o.wpIn (fnc rd) 0 P a w (wpOpsIn (fnc rd) 0 P ops Q l) Q := by
        intro io hos hgo heq
        refine ⟨fun _ _ => trivial, ?_⟩
        refine hos cal a ns t d h c w L S _ (wpOpsIn (fnc rd) 0 P ops Q l) Q hcal hgok hri.mat hr hb hd hgo ?_ ?_
        · intro v d1 h1 c1 L1 S1 ds1 w1 g1 g2 g3 g4
          exact rest v d1 h1 c1 L1 S1 ds1 w1 g1 g2 g3 (heq.trans g4)
        · intro ch h1 c1 chain L1 S1 w1 g1 g2 g3
          exact hp ch d h1 c1 chain L1 S1 a w1 g1 g2 (hd.congr g1.sub g1.agr) (heq.trans g3)
       cases hgd : o.guard with
       | none =>
         rw [if_pos (wanted_none hgd _)]
         have e2 : cOpG P ops e o = cOp P e o := by unfold cOpG; rw [hgd]
         refine doit (cOp P e o) cOp_OS ?_ (by rw [e2]; rfl)
         have hg2 := hg
         rw [e2] at hg2
         exact hg2
       | some gw =>
         obtain ⟨g, want⟩ := gw
         cases hgt : (ops[g]?).bind (·.dst) with
         | none =>
           have e2 : cOpG P ops e o = .bad 337 := by unfold cOpG; rw [hgd]; simp only [hgt]
           rw [e2] at hg
           exact (bad_good hg).elim
         | some s =>
           have e2 : cOpG P ops e o = .g (cOpd e (.tmp s)) want (cOp P e o) := by unfold cOpG; rw [hgd]; simp only [hgt]
           have hg2 := hg
           rw [e2] at hg2
           have hg3 : (guardK (ev (cOpd e (.tmp s)) ns t) (fun z => Bool.rec (execL (cOps P nt ops l { e with al := dstAl nt o.dst (.r e.n) e.al, n := e.n + 1 }).1 cal (.u :: ns) t d h c k)
            (execO (cOp P e o) cal ns t d h c (fun v d h c => execL (cOps P nt ops l { e with al := dstAl nt o.dst (.r e.n) e.al, n := e.n + 1 }).1 cal (v :: ns) t d h c k)) (Bool.rec (notB want) want z))
            (execL (cOps P nt ops l { e with al := dstAl nt o.dst (.r e.n) e.al, n := e.n + 1 }).1 cal (.u :: ns) t d h c k)).Good := hg2
           have eq3 : execL (cOpG P ops e o :: (cOps P nt ops l { e with al := dstAl nt o.dst (.r e.n) e.al, n := e.n + 1 }).1) cal ns t d h c k = guardK (ev (cOpd e (.tmp s)) ns t) (fun z => Bool.rec (execL (cOps P nt ops l { e with al := dstAl nt o.dst (.r e.n) e.al, n := e.n + 1 }).1 cal (.u :: ns) t d h c k)
            (execO (cOp P e o) cal ns t d h c (fun v d h c => execL (cOps P nt ops l { e with al := dstAl nt o.dst (.r e.n) e.al, n := e.n + 1 }).1 cal (v :: ns) t d h c k)) (Bool.rec (notB want) want z))
            (execL (cOps P nt ops l { e with al := dstAl nt o.dst (.r e.n) e.al, n := e.n + 1 }).1 cal (.u :: ns) t d h c k) := by rw [e2]; rfl
           have skip : execL (cOpG P ops e o :: (cOps P nt ops l { e with al := dstAl nt o.dst (.r e.n) e.al, n := e.n + 1 }).1) cal ns t d h c k = execL (cOps P nt ops l { e with al := dstAl nt o.dst (.r e.n) e.al, n := e.n + 1 }).1 cal (.u :: ns) t d h c k →
            (∀ f, o.about P w a.eval = some f → (fnc rd).fn f) ∧ wpOpsIn (fnc rd) 0 P ops Q l (a.put o.dst undef) w := fun heq =>
            ⟨fun _ _ => trivial, rest .u d h c L S a.defers w (Stp.refl hr hb) trivial hd heq⟩
           have hslot : ev (cOpd e (.tmp s)) ns t ≠ .x → a.tmps.getD s undef = val L (ev (cOpd e (.tmp s)) ns t) := fun hx => (hri.mat (.tmp s) hx).1
           have hy : ∀ z, yielded ops a.tmps g = some z ↔ a.tmps.getD s undef = .bool z := by
            intro z
            unfold yielded
            rw [hgt]
            simp only [Option.bind_some, Array.getD_eq_getD_getElem?]
            cases ht : a.tmps[s]? with
            | none => simp [undef]
            | some y => cases y <;> simp
           have hwant : Region.wanted o (yielded ops a.tmps) = decide (yielded ops a.tmps g = some want) := by
            rw [Bool.eq_iff_iff]; simp [Region.wanted, hgd]
           rcases guard_good hg3 with ⟨z, hz, e4⟩ | ⟨hnx, hnb, e4⟩
           · have hs := hslot (by rw [hz]; simp)
             rw [hz] at hs
             have hyz : yielded ops a.tmps g = some z := (hy z).2 hs
             rw [e4] at hg3
             by_cases hzw : z = want
             · subst hzw
               rw [if_pos (by rw [hwant, hyz]; simp)]
               refine doit (cOp P e o) cOp_OS ?_ (eq3.trans (e4.trans ?_))
               · cases z <;> exact hg3
               · cases z <;> rfl
             · rw [if_neg (by rw [hwant, hyz]; simp [hzw])]
               refine skip (eq3.trans (e4.trans ?_))
               cases z <;> cases want <;> first | rfl | exact absurd rfl hzw
           · have hs := hslot hnx
             have hyn : yielded ops a.tmps g ≠ some want := fun hh => hnb want (val_bool (hs.symm.trans ((hy want).1 hh)))
             rw [if_neg (by rw [hwant]; simp [hyn])]
             exact skip (eq3.trans e4)
theorem cWr_get (far n : Nat) (ns : List V) (t0 : T) : ∀ (al : List (Nat × Al)) (seen : Nat) (t : T) (s : Nat),
 T.get (tn s) (wrL (cWr far n al seen) ns t0 t) = match (if Nat.testBit far s = true ∧ Nat.testBit seen s = false then findA s al else none) with
  | some a => ev (a.opd n) ns t0
  | none => T.get (tn s) t := by
 intro al
 induction al with
 | nil => intro seen t s; split <;> simp_all [cWr, wrL, findA]
 | cons p r ih =>
   intro seen t s
   obtain ⟨d, x⟩ := p
   by_cases hc : (Nat.testBit far d && !Nat.testBit seen d) = true
   · have e1 : wrL (cWr far n ((d, x) :: r) seen) ns t0 t = wrL (cWr far n r (Nat.lor seen (Nat.shiftLeft 1 d))) ns t0 (T.set (tn d) (ev (x.opd n) ns t0) t) := by
      rw [cWr, if_pos hc]; rfl
     rw [e1, ih]
     rw [Bool.and_eq_true, Bool.not_eq_true'] at hc
     by_cases hd : d = s
     · subst hd
       have hb : Nat.testBit (Nat.lor seen (Nat.shiftLeft 1 d)) d = true := by
        show Nat.testBit (seen ||| (1 <<< d)) d = true
        simp [Nat.testBit_or, Nat.testBit_shiftLeft]
       rw [if_neg (by rw [hb]; simp), if_pos hc, findA_cons, if_pos rfl]
       simp only
       rw [tget_set, if_pos rfl]
     · have hb : Nat.testBit (Nat.lor seen (Nat.shiftLeft 1 d)) s = Nat.testBit seen s := by
        show Nat.testBit (seen ||| (1 <<< d)) s = _
        rw [Nat.testBit_or, Nat.testBit_shiftLeft]
        by_cases hds : d ≤ s
        · have : s - d ≠ 0 := by omega
          simp [Nat.testBit_one_eq_true_iff_self_eq_zero, this]
        · simp [hds]
       rw [hb, findA_cons, if_neg hd, tget_set, if_neg (fun hh => hd (tn_inj hh).symm)]
   · have e1 : wrL (cWr far n ((d, x) :: r) seen) ns t0 t = wrL (cWr far n r seen) ns t0 t := by
      rw [cWr, if_neg hc]
     rw [e1, ih]
     by_cases hd : d = s
     · subst hd
       have hnc : ¬ (Nat.testBit far d = true ∧ Nat.testBit seen d = false) := fun hh => hc (by rw [Bool.and_eq_true, Bool.not_eq_true']; exact hh)
       rw [if_neg hnc, if_neg hnc]
     · rw [findA_cons, if_neg hd]
theorem cV_spec {L : Loc} {S : Ns} {v : Value} (h : cV v ≠ .x) : val L (cV v) = v ∧ (wf S (cV v)).v := by
 have e1 : cV v = if (wfb (ofVal 4 v)).v = true then ofVal 4 v else .x := rfl
 rw [e1] at h ⊢
 split at h
 · rename_i hz
   rw [if_pos hz]
   exact ⟨ofVal_spec L 4 v hz, (wfb_wf (c := S) _).1 hz⟩
 · exact absurd rfl h
theorem RI.start {L : Loc} {S : Ns} {a : Act} {t : T} (hg : GOk P L S) (ht : TM L S t a.tmps) (hs : nt ≤ a.tmps.size) : RI L S ⟨[], 0, P.globals.size⟩ a [] t nt := by
 refine ⟨fun x hx => ?_, hs, fun d j h => by cases h⟩
 cases x with
 | tmp s => exact ht s hx
 | const v => have := cV_spec (L := L) (S := S) (v := v) hx; exact ⟨this.1.symm, this.2⟩
 | global g =>
   have e1 : cOpd ⟨[], 0, P.globals.size⟩ (.global g) = (if g < P.globals.size then Al.c (.p (gn g) 0) else .c .x : Al).opd 0 := rfl
   rw [e1] at hx ⊢
   split at hx
   · rename_i hlt
     rw [if_pos hlt]
     have := hg g hlt
     exact ⟨by show Value.pointer (some ⟨g, 0, none⟩) = Value.pointer (some ⟨L.b (gn g), 0, none⟩); rw [this.2], this.1⟩
   · exact absurd rfl hx
 | func f => exact ⟨rfl, trivial, trivial, trivial⟩
theorem RI.finish {L : Loc} {S : Ns} {e : Ce} {a : Act} {ns : List V} {t : T} {far : Nat} (h : RI L S e a ns t nt) (hf : FarT far t) : TM L S (wrL (cWr far e.n e.al 0) ns t t) a.tmps ∧ FarT far (wrL (cWr far e.n e.al 0) ns t t) := by
 have key : ∀ s, T.get (tn s) (wrL (cWr far e.n e.al 0) ns t t) ≠ .x → Nat.testBit far s = true ∧ T.get (tn s) (wrL (cWr far e.n e.al 0) ns t t) = ev (cOpd e (.tmp s)) ns t := by
  intro s hx
  rw [cWr_get] at hx ⊢
  by_cases hfs : Nat.testBit far s = true
  · rw [if_pos ⟨hfs, by simp⟩] at hx ⊢
    refine ⟨hfs, ?_⟩
    show _ = ev ((cAl e (.tmp s)).opd e.n) ns t
    rw [cAl_tmp]
    cases findA s e.al <;> rfl
  · rw [if_neg (fun hh => hfs hh.1)] at hx
    exact absurd (hf s hx) hfs
 refine ⟨fun s hx => ?_, fun s hx => (key s hx).1⟩
 have hk := (key s hx).2
 rw [hk] at hx ⊢
 exact h.mat (.tmp s) hx
end
end Go.Ev

namespace Go.Ev
def RdOk (L : Loc) (S : Ns) : Option Nat → Option Nm → Prop
 | none, none => True
 | some l, some n => S n ∧ L.b n = l
 | _, _ => False
theorem RdOk.congr {S S' : Ns} {L L' : Loc} {rd : Option Nat} {rn : Option Nm} (hs : ∀ n, S n → S' n) (ha : Agr S L L') (h : RdOk L S rd rn) : RdOk L' S' rd rn := by
 cases rd <;> cases rn <;> first | exact h | exact ⟨hs _ h.1, (ha _ h.1).1.trans h.2⟩
structure St (P : Program) (rd : Option Nat) (rn : Option Nm) (far nt : Nat) (t : T) (d : List D) (h : H) (c : Nm) (a : Act) (w : World) (L : Loc) (S : Ns) : Prop where
 tm : TM L S t a.tmps
 far : FarT far t
 size : nt ≤ a.tmps.size
 dr : DR L S d a.defers
 rel : Rel L S h w
 bd : Bd S c
 gok : GOk P L S
 rdk : RdOk L S rd rn
structure Out (P : Program) (rd : Option Nat) (rn : Option Nm) (far nt : Nat) (h : H) (c : Nm) (w : World) (L : Loc) (S : Ns) (r : R) (k : KN) (Q : Exit → Act → World → Prop) : Prop where
 norm : ∀ t' d' h' c' L' S' a' w', Stp L S h c w L' S' h' c' w' → St P rd rn far nt t' d' h' c' a' w' L' S' → r = k t' d' h' c' → Q .normal a' w'
 ret : ∀ t' d' h' c' L' S' a' w', Stp L S h c w L' S' h' c' w' → St P rd rn far nt t' d' h' c' a' w' L' S' → r = .ret t' d' h' c' → Q .ret a' w'
 exit : ∀ id t' d' h' c' L' S' a' w', Stp L S h c w L' S' h' c' w' → St P rd rn far nt t' d' h' c' a' w' L' S' → r = .exit id t' d' h' c' → Q (.exit id) a' w'
 panic : ∀ ch chain t' d' h' c' L' S' a' w', Stp L S h c w L' S' h' c' w' → DR L' S' d' a'.defers → ChR L' S' ch chain → r = .panic ch t' d' h' c' → Q (.panic chain) a' w'
def CS (P : Program) (rd : Option Nat) (rn : Option Nm) (far nt : Nat) (cd : Code) (rc : RC) : Prop := ∀ (cal : Cal) (t : T) (d : List D) (h : H) (c : Nm) (k : KN) (a : Act) (w : World) (L : Loc) (S : Ns) (Q : Exit → Act → World → Prop),
 CalOk P cal → St P rd rn far nt t d h c a w L S → (rc cal t d h c k).Good → Out P rd rn far nt h c w L S (rc cal t d h c k) k Q → cd.wpIn (fnc rd) 0 P Q a w
section
variable {P : Program} {rd : Option Nat} {rn : Option Nm} {far nt : Nat}
theorem St.gokStp {h h' : H} {c c' : Nm} {w w' : World} {L L' : Loc} {S S' : Ns} (hg : GOk P L S) (hst : Stp L S h c w L' S' h' c' w') : GOk P L' S' := fun g hgl =>
 let this := hg g hgl
 ⟨hst.sub _ this.1, (hst.agr _ this.1).1.trans this.2⟩
theorem CS.bad {cd : Code} {n : Nat} : CS P rd rn far nt cd (rBad n) := fun _ _ _ _ _ _ _ _ _ _ _ _ _ hg _ => (bad_good hg).elim
theorem CS.skip : CS P rd rn far nt .skip rSkip := fun _ t d h c _ a w L S _ _ hs _ ho => wpIn_skip (ho.norm t d h c L S a w (Stp.refl hs.rel hs.bd) hs rfl)
theorem CS.label {l : Nat} : CS P rd rn far nt (.label l) rSkip := fun _ t d h c _ a w L S _ _ hs _ ho => wpIn_label (ho.norm t d h c L S a w (Stp.refl hs.rel hs.bd) hs rfl)
theorem CS.exit {id : Nat} : CS P rd rn far nt (.exit id) (rExit id) := fun _ t d h c _ a w L S _ _ hs _ ho => wpIn_exit (ho.exit id t d h c L S a w (Stp.refl hs.rel hs.bd) hs rfl)
theorem CS.ret : CS P rd rn far nt .ret rRet := fun _ t d h c _ a w L S _ _ hs _ ho => wpIn_ret (ho.ret t d h c L S a w (Stp.refl hs.rel hs.bd) hs rfl)
theorem CS.region {id : Nat} {ops : Array Oper} : CS P rd rn far nt (.region id ops false) (rRegion P far nt ops) := by
 intro cal t d h c k a w L S Q hcal hs hg ho
 refine wpIn_region ?_
 have hg' : (execL (cOps P nt ops (List.range ops.size) ⟨[], 0, P.globals.size⟩).1 cal [] t d h c (fun n d h c => k (wrL (cWr far (cOps P nt ops (List.range ops.size) ⟨[], 0, P.globals.size⟩).2.n (cOps P nt ops (List.range ops.size) ⟨[], 0, P.globals.size⟩).2.al 0) n t t) d h c)).Good := hg
 refine ops_sound hcal (List.range ops.size) ⟨[], 0, P.globals.size⟩ a [] t d h c w L S _ Q hs.gok (RI.start hs.gok hs.tm hs.size) hs.rel hs.bd hs.dr hg' ?_ ?_
 · intro ns' d' h' c' L' S' a' w' h1 h2 h3 h4 h5
   have hf := h2.finish hs.far
   exact ho.norm _ d' h' c' L' S' a' w' h1 ⟨hf.1, hf.2, h2.size, h4, h1.rel, h1.bd, St.gokStp hs.gok h1, hs.rdk.congr h1.sub h1.agr⟩ h5
 · intro ch d' h' c' chain L' S' a' w' h1 h2 h3 h4
   exact ho.panic ch chain t d' h' c' L' S' a' w' h1 h3 h2 h4
theorem CS.seq {x y : Code} {rx ry : RC} (hx : CS P rd rn far nt x rx) (hy : CS P rd rn far nt y ry) : CS P rd rn far nt (.seq x y) (rSeq rx ry) := by
 intro cal t d h c k a w L S Q hcal hs hg ho
 refine wpIn_seq (hx cal t d h c _ a w L S _ hcal hs hg ⟨?_, ?_, ?_, ?_⟩)
 · intro t' d' h' c' L' S' a' w' h1 h2 h3
   refine hy cal t' d' h' c' k a' w' L' S' Q hcal h2 (h3 ▸ hg) ⟨?_, ?_, ?_, ?_⟩
   · intro t2 d2 h2' c2 L2 S2 a2 w2 g1 g2 g3
     exact ho.norm t2 d2 h2' c2 L2 S2 a2 w2 (h1.trans g1) g2 (h3.trans g3)
   · intro t2 d2 h2' c2 L2 S2 a2 w2 g1 g2 g3
     exact ho.ret t2 d2 h2' c2 L2 S2 a2 w2 (h1.trans g1) g2 (h3.trans g3)
   · intro id t2 d2 h2' c2 L2 S2 a2 w2 g1 g2 g3
     exact ho.exit id t2 d2 h2' c2 L2 S2 a2 w2 (h1.trans g1) g2 (h3.trans g3)
   · intro ch chain t2 d2 h2' c2 L2 S2 a2 w2 g1 g2 g3 g4
     exact ho.panic ch chain t2 d2 h2' c2 L2 S2 a2 w2 (h1.trans g1) g2 g3 (h3.trans g4)
 · exact ho.ret
 · exact ho.exit
 · exact ho.panic
theorem CS.cond {x : Operand} {p q : Code} {rp rq : RC} (hp : CS P rd rn far nt p rp) (hq : CS P rd rn far nt q rq) : CS P rd rn far nt (.cond x p q) (rCond (cOpd ⟨[], 0, P.globals.size⟩ x) rp rq) := by
 intro cal t d h c k a w L S Q hcal hs hg ho
 have hg' : (asB (ev (cOpd ⟨[], 0, P.globals.size⟩ x) [] t) (fun z => Bool.rec (rq cal t d h c k) (rp cal t d h c k) z)).Good := hg
 obtain ⟨z, hz, e1⟩ := asB_good hg'
 have hm := (RI.start (nt := nt) hs.gok hs.tm hs.size).mat.at x hz (by simp)
 have e2 : rCond (cOpd ⟨[], 0, P.globals.size⟩ x) rp rq cal t d h c k = (Bool.rec (rq cal t d h c k) (rp cal t d h c k) z : R) := e1
 refine wpIn_cond (t := z) hm.1 ?_
 rw [e2] at hg ho
 cases z
 · exact hq cal t d h c k a w L S Q hcal hs hg ho
 · exact hp cal t d h c k a w L S Q hcal hs hg ho
theorem CS.block {id : Nat} {x : Code} {rx : RC} (hx : CS P rd rn far nt x rx) : CS P rd rn far nt (.block id x) (rBlock id rx) := by
 intro cal t d h c k a w L S Q hcal hs hg ho
 have e0 : rBlock id rx cal t d h c k = R.rec (motive := fun _ => Nat → KN → R) (fun n _ _ => .bad n) (fun t d h c _ k => k t d h c) (fun t d h c _ _ => .ret t d h c)
  (fun id' t d h c id k => Bool.rec (.exit id' t d h c) (k t d h c) (Nat.beq id' id)) (fun ch t d h c _ _ => .panic ch t d h c) (rx cal t d h c .norm) id k := rfl
 rw [e0] at hg ho
 have hgx : (rx cal t d h c .norm).Good := by
  intro n hn
  rw [hn] at hg
  exact bad_good hg
 refine wpIn_block (hx cal t d h c .norm a w L S _ hcal hs hgx ⟨?_, ?_, ?_, ?_⟩)
 · intro t' d' h' c' L' S' a' w' h1 h2 h3
   rw [h3] at ho
   exact ho.norm t' d' h' c' L' S' a' w' h1 h2 rfl
 · intro t' d' h' c' L' S' a' w' h1 h2 h3
   rw [h3] at ho
   exact ho.ret t' d' h' c' L' S' a' w' h1 h2 rfl
 · intro id' t' d' h' c' L' S' a' w' h1 h2 h3
   rw [h3] at ho
   have ho' : Out P rd rn far nt h c w L S (Bool.rec (.exit id' t' d' h' c') (k t' d' h' c') (Nat.beq id' id)) k Q := ho
   show (if id' = id then Q .normal a' w' else Q (.exit id') a' w')
   by_cases hid : id' = id
   · rw [if_pos hid]
     have : Nat.beq id' id = true := by rw [Nat.beq_eq]; exact hid
     rw [this] at ho'
     exact ho'.norm t' d' h' c' L' S' a' w' h1 h2 rfl
   · rw [if_neg hid]
     have : Nat.beq id' id = false := by
      cases hb : Nat.beq id' id
      · rfl
      · exact absurd (Nat.beq_eq.mp hb) hid
     rw [this] at ho'
     exact ho'.exit id' t' d' h' c' L' S' a' w' h1 h2 rfl
 · intro ch chain t' d' h' c' L' S' a' w' h1 h2 h3 h4
   rw [h4] at ho
   exact ho.panic ch chain t' d' h' c' L' S' a' w' h1 h2 h3 rfl
theorem CS.loop {x : Code} {rx : RC} (hx : CS P rd rn far nt x rx) (lf : Nat) : CS P rd rn far nt (.loop x) (rLoopC lf rx) := by
 intro cal t d h c k a w L S Q hcal hs hg ho
 have e0 : rLoopC lf rx cal t d h c k = rLoop lf rx cal t d h c := rfl
 rw [e0] at hg ho
 refine wpIn_loop_rounds lf ?_
 clear e0
 induction lf generalizing t d h c a w L S with
 | zero => exact (bad_good hg).elim
 | succ n ih =>
   rw [roundsIn_succ]
   refine hx cal t d h c (fun t d h c => rLoop n rx cal t d h c) a w L S _ hcal hs hg ⟨?_, ?_, ?_, ?_⟩
   · intro t' d' h' c' L' S' a' w' h1 h2 h3
     have h3' : rLoop (n + 1) rx cal t d h c = rLoop n rx cal t' d' h' c' := h3
     refine ih t' d' h' c' a' w' L' S' h2 (h3' ▸ hg) ⟨?_, ?_, ?_, ?_⟩
     · intro t2 d2 h2' c2 L2 S2 a2 w2 g1 g2 g3
       exact ho.norm t2 d2 h2' c2 L2 S2 a2 w2 (h1.trans g1) g2 (h3'.trans g3)
     · intro t2 d2 h2' c2 L2 S2 a2 w2 g1 g2 g3
       exact ho.ret t2 d2 h2' c2 L2 S2 a2 w2 (h1.trans g1) g2 (h3'.trans g3)
     · intro id t2 d2 h2' c2 L2 S2 a2 w2 g1 g2 g3
       exact ho.exit id t2 d2 h2' c2 L2 S2 a2 w2 (h1.trans g1) g2 (h3'.trans g3)
     · intro ch chain t2 d2 h2' c2 L2 S2 a2 w2 g1 g2 g3 g4
       exact ho.panic ch chain t2 d2 h2' c2 L2 S2 a2 w2 (h1.trans g1) g2 g3 (h3'.trans g4)
   · exact ho.ret
   · exact ho.exit
   · exact ho.panic
theorem stepR_scope {b : Frame} {k : List Item} {cs : List Frame} {a : Act} {w : World} {c : Code} : step P (lone (b.atR a (.code (.scope c) :: k)) cs w) = .next (lone (b.atR a (.code c :: .inScope c :: k)) cs w) :=
 step_lone_go (by simp [stepG, stepG.exec, Frame.atR])
theorem stepR_inScope {b : Frame} {k : List Item} {cs : List Frame} {a : Act} {w : World} {c : Code} : step P (lone (b.atR a (.inScope c :: k)) cs w) = .next (lone (b.atR a k) cs w) :=
 step_lone_go (by simp [stepG, stepG.exec, Frame.atR])
theorem wpIn_scope {F : Fence} {n : Nat} {c : Code} {Q : Exit → Act → World → Prop} {a : Act} {w : World} (h : c.wpIn F n P (fun e a w => match e with | .goto _ => False | e => Q e a w) a w) : (Code.scope c).wpIn F n P Q a w := by
 intro b k cs hro hb hr
 have h0 : (lone (b.atR a (.code (.scope c) :: k)) cs w).fenced P F := fenced_calm hb hr rfl
 obtain ⟨e, a₁, w₁, hq, harr⟩ := h b (.inScope c :: k) cs hro hb hr
 cases e with
 | normal => exact ⟨.normal, a₁, w₁, hq, .head h0 stepR_scope (StepsIn.trans harr (.one (fenced_calm hb hr rfl) stepR_inScope))⟩
 | exit id =>
   have hx : exitTo id (.inScope c :: k) = exitTo id k := by simp [exitTo]
   exact ⟨.exit id, a₁, w₁, hq, fun k' hk => .head h0 stepR_scope (harr.1 k' (by rw [hx]; exact hk)),
    fun hr' hk => let ⟨k₁, h1, h2⟩ := harr.2 hr' (by rw [hx]; exact hk); ⟨k₁, h1, .head h0 stepR_scope h2⟩⟩
 | goto l => exact hq.elim
 | ret => exact ⟨_, a₁, w₁, hq, .of_steps (.one h0 stepR_scope) harr⟩
 | panic ch => exact ⟨_, a₁, w₁, hq, .of_steps (.one h0 stepR_scope) harr⟩
 | outgrown => exact ⟨_, a₁, w₁, hq, .of_steps (.one h0 stepR_scope) harr⟩
theorem CS.scope {x : Code} {rx : RC} (hx : CS P rd rn far nt x rx) : CS P rd rn far nt (.scope x) (rBlock0 rx) := by
 intro cal t d h c k a w L S Q hcal hs hg ho
 have e0 : rBlock0 rx cal t d h c k = R.rec (motive := fun _ => KN → R) (fun n _ => .bad n) (fun t d h c k => k t d h c) (fun t d h c _ => .ret t d h c)
  (fun id t d h c _ => .exit id t d h c) (fun ch t d h c _ => .panic ch t d h c) (rx cal t d h c .norm) k := rfl
 rw [e0] at hg ho
 have hgx : (rx cal t d h c .norm).Good := by
  intro n hn
  rw [hn] at hg
  exact bad_good hg
 refine wpIn_scope (hx cal t d h c .norm a w L S _ hcal hs hgx ⟨?_, ?_, ?_, ?_⟩)
 · intro t' d' h' c' L' S' a' w' h1 h2 h3
   rw [h3] at ho
   exact ho.norm t' d' h' c' L' S' a' w' h1 h2 rfl
 · intro t' d' h' c' L' S' a' w' h1 h2 h3
   rw [h3] at ho
   exact ho.ret t' d' h' c' L' S' a' w' h1 h2 rfl
 · intro id' t' d' h' c' L' S' a' w' h1 h2 h3
   rw [h3] at ho
   exact ho.exit id' t' d' h' c' L' S' a' w' h1 h2 rfl
 · intro ch chain t' d' h' c' L' S' a' w' h1 h2 h3 h4
   rw [h4] at ho
   exact ho.panic ch chain t' d' h' c' L' S' a' w' h1 h2 h3 rfl
end
end Go.Ev

namespace Go.Ev
section
variable {P : Program} {far : Nat}
theorem iniL_get (_ : Loc) (S : Ns) {args : V} (_ : (wf S args).s) : ∀ (n j : Nat) (t : T) (s : Nat), T.get (tn s) (iniL (cIni far n j) args t) = if Nat.testBit far s = true ∧ j ≤ s ∧ s < j + n then nthC (U.ofNat s) args else T.get (tn s) t := by
 intro n
 induction n with
 | zero => intro j t s; rw [if_neg (by omega)]; rfl
 | succ n ih =>
   intro j t s
   by_cases hf : Nat.testBit far j = true
   · have e1 : iniL (cIni far (n + 1) j) args t = iniL (cIni far n (j + 1)) args (T.set (tn j) (nthC (U.ofNat j) args) t) := by
      rw [cIni, if_pos hf]; rfl
     rw [e1, ih]
     by_cases hj : s = j
     · subst hj
       rw [if_neg (by omega), if_pos ⟨hf, by omega, by omega⟩, tget_set, if_pos rfl]
     · by_cases hc : Nat.testBit far s = true ∧ j + 1 ≤ s ∧ s < j + 1 + n
       · rw [if_pos hc, if_pos ⟨hc.1, by omega, by omega⟩]
       · rw [if_neg hc, if_neg (fun hh => hc ⟨hh.1, by omega, by omega⟩), tget_set, if_neg (fun hh => hj (tn_inj hh))]
   · have e1 : iniL (cIni far (n + 1) j) args t = iniL (cIni far n (j + 1)) args t := by
      rw [cIni, if_neg hf]; rfl
     rw [e1, ih]
     by_cases hj : s = j
     · subst hj
       rw [if_neg (by omega), if_neg (fun hh => hf hh.1)]
     · by_cases hc : Nat.testBit far s = true ∧ j + 1 ≤ s ∧ s < j + 1 + n
       · rw [if_pos hc, if_pos ⟨hc.1, by omega, by omega⟩]
       · rw [if_neg hc, if_neg (fun hh => hc ⟨hh.1, by omega, by omega⟩)]
theorem ini_TM (L : Loc) (S : Ns) {args : V} (ha : (wf S args).s) (n m : Nat) : TM L S (iniL (cIni far n 0) args .e) ((lsv L args).toArray ++ Array.replicate m undef) ∧ FarT far (iniL (cIni far n 0) args .e) := by
 refine ⟨fun s hx => ?_, fun s hx => ?_⟩
 · rw [iniL_get L S ha] at hx ⊢
   split at hx
   · rename_i hc
     rw [if_pos hc]
     have := nthC_spec L S s args ha hx
     refine ⟨?_, this.2⟩
     have hlt := (List.getElem?_eq_some_iff.1 this.1).1
     rw [Array.getD_eq_getD_getElem?, Array.getElem?_append, if_pos (by simpa using hlt), List.getElem?_toArray, this.1]; rfl
   · rw [tget_e] at hx; exact absurd rfl hx
 · rw [iniL_get L S ha] at hx
   split at hx
   · rename_i hc; exact hc.1
   · rw [tget_e] at hx; exact absurd rfl hx
def resOf (tmps : Array Value) : ResultVar → Sem Value
 | .tmp t => pure (tmps.getD t undef)
 | .cell a t => do loadVar t (← asAddr (tmps.getD a undef))
theorem results_eq (fn : Func) (tmps : Array Value) : results fn tmps = (fn.results.mapM (resOf tmps) >>= fun vs => pure (if h : vs.size = 1 then vs[0] else .tuple vs)) := by
 unfold results
 congr
theorem getRs_good {L : Loc} {S : Ns} {t : T} {h : H} {w : World} {tmps : Array Value} (hg : GOk P L S) (ht : TM L S t tmps) (hr : Rel L S h w) {r : ResultVar} (hk : okRes P r = true) {q : V → C} (hgd : CGood (getRs (rsOf P r) t h q)) :
 ∃ v, getRs (rsOf P r) t h q = q v ∧ (wf S v).v ∧ (resOf tmps r).run P w = .ok (val L v) w := by
 cases r with
 | tmp s =>
   have e0 : getRs (rsOf P (.tmp s)) t h q = (Bool.rec (.bad 411) (q (T.get (tn s) t)) (nx (T.get (tn s) t)) : C) := rfl
   rw [e0] at hgd ⊢
   cases hz : nx (T.get (tn s) t)
   · rw [hz] at hgd; exact absurd rfl (hgd 411)
   · have hx := (nx_iff _).1 hz
     have := ht s hx
     refine ⟨_, rfl, this.2, ?_⟩
     simp only [resOf, Sem.run_pure, this.1]
 | cell s ty =>
   have e0 : getRs (rsOf P (.cell s ty)) t h q = R.rec (motive := fun _ => (V → C) → C) (fun n _ => .bad n) (fun t _ _ _ q => q (T.get .h t)) (fun _ _ _ _ _ => .bad 412) (fun _ _ _ _ _ _ => .bad 412) (fun _ _ _ _ _ _ => .bad 412)
    (hLoad (isAggT P ty) (szT P ty) (.t (tn s)) (H.get (nmOf (T.get (tn s) t)) h) [] t (fun v => .norm (.nd .e v .e) [] h .h)) q := rfl
   rw [e0] at hgd ⊢
   let o : Oper := { (default : Oper) with op := .load ty (.tmp s), guard := none }
   let a : Act := { tmps := tmps, defers := [] }
   have hmat := (RI.start (P := P) (nt := 0) (a := a) hg ht (Nat.zero_le _)).mat
   have hgr : (hLoad (isAggT P ty) (szT P ty) (.t (tn s)) (H.get (nmOf (T.get (tn s) t)) h) [] t (fun v => .norm (.nd .e v .e) [] h .h)).Good := by
    intro n hn
    rw [hn] at hgd
    exact hgd n rfl
   obtain ⟨v, h1, h2, h3⟩ := RS.load (P := P) (L := L) (S := S) (e := ⟨[], 0, P.globals.size⟩) (o := o) (t := ty) (x := .tmp s) rfl hk a [] t _ w _ hmat (fun hn => hr.blk _ hn) hgr
   have h2' : hLoad (isAggT P ty) (szT P ty) (.t (tn s)) (H.get (nmOf (T.get (tn s) t)) h) [] t (fun v => .norm (.nd .e v .e) [] h .h) = .norm (.nd .e v .e) [] h .h := h2
   rw [h2']
   refine ⟨v, rfl, h1, ?_⟩
   obtain ⟨n, off, hx, _⟩ := asP_good hgr
   have hxv : T.get (tn s) t = .p n off := hx
   have := (ht s (by rw [hxv]; simp)).1
   rw [hxv] at this
   have hx1 : tmps.getD s undef = .pointer (some ⟨L.b n, off, none⟩) := this
   have hx2 : a.eval (.tmp s) = .pointer (some ⟨L.b n, off, none⟩) := hx1
   have ho : o.op = .load ty (.tmp s) := rfl
   simp only [execOp, ho, Instr.loadAt, hx2, Instr.sureAddr, Sem.run_bind, Sem.run_pure, Result.andThen_ok] at h3
   simp only [resOf, hx1, asAddr, Sem.run_bind, Sem.run_pure, Result.andThen_ok]
   cases hl : (loadVar ty ⟨L.b n, off, none⟩).run P w with
   | halt _ _ => rw [hl] at h3; cases h3
   | ok y w2 =>
     rw [hl] at h3
     simp only [Result.andThen_ok] at h3
     injection h3 with h4 h5
     injection h4 with h6
     rw [h6, h5]
theorem getAll_good {L : Loc} {S : Ns} {t : T} {h : H} {w : World} {tmps : Array Value} (hg : GOk P L S) (ht : TM L S t tmps) (hr : Rel L S h w) : ∀ (rs : List ResultVar) (q : V → C), rs.all (okRes P) = true → CGood (getAll (rs.map (rsOf P)) t h q) →
 ∃ vs, getAll (rs.map (rsOf P)) t h q = q vs ∧ (wf S vs).s ∧ (rs.mapM (resOf tmps)).run P w = .ok (lsv L vs) w := by
 intro rs
 induction rs with
 | nil => intro q _ _; exact ⟨.nil, rfl, trivial, by simp; rfl⟩
 | cons r rs ih =>
   intro q hk hgd
   rw [List.all_cons, Bool.and_eq_true] at hk
   have hgd' : CGood (getRs (rsOf P r) t h (fun v => getAll (rs.map (rsOf P)) t h (fun w => q (.cons v w)))) := hgd
   obtain ⟨v, e1, h1, h2⟩ := getRs_good hg ht hr hk.1 hgd'
   rw [e1] at hgd'
   obtain ⟨vs, e2, h3, h4⟩ := ih _ hk.2 hgd'
   refine ⟨.cons v vs, e1.trans e2, ⟨h1, h3⟩, ?_⟩
   rw [List.mapM_cons]
   simp only [Sem.run_bind, h2, h4, Result.andThen_ok, Sem.run_pure]
   rfl
theorem packRs_val {L : Loc} {S : Ns} {vs : V} (hw : (wf S vs).s) : (wf S (packRs ((lsv L vs).length == 1) ((lsv L vs).length == 0) vs)).v ∧
 val L (packRs ((lsv L vs).length == 1) ((lsv L vs).length == 0) vs) = (if h : (lsv L vs).toArray.size = 1 then (lsv L vs).toArray[0] else .tuple (lsv L vs).toArray) := by
 cases vs <;> first | exact hw.elim | skip
 case nil => exact ⟨trivial, rfl⟩
 case cons a d =>
  cases d <;> first | exact hw.2.elim | skip
  case nil => exact ⟨hw.1, rfl⟩
  case cons b d2 =>
   refine ⟨hw, ?_⟩
   have hl : (lsv L (.cons a (.cons b d2))).length = (lsv L d2).length + 2 := rfl
   have h1 : ((lsv L (.cons a (.cons b d2))).length == 1) = false := by rw [hl]; simp
   have h2 : ((lsv L (.cons a (.cons b d2))).length == 0) = false := by rw [hl]; simp
   rw [h1, h2, dif_neg (by rw [List.size_toArray, hl]; omega)]
   rfl
theorem results_run {L : Loc} {S : Ns} {fn : Func} {t : T} {h : H} {w : World} {tmps : Array Value} (hg : GOk P L S) (ht : TM L S t tmps) (hr : Rel L S h w) (hk : fn.results.toList.all (okRes P) = true) {q : V → C} (hgd : CGood (getAll (fn.results.toList.map (rsOf P)) t h q)) :
 ∃ vs, getAll (fn.results.toList.map (rsOf P)) t h q = q vs ∧ (wf S (packRs (fn.results.size == 1) (fn.results.size == 0) vs)).v ∧ (results fn tmps).run P w = .ok (val L (packRs (fn.results.size == 1) (fn.results.size == 0) vs)) w := by
 obtain ⟨vs, e1, h1, h2⟩ := getAll_good hg ht hr fn.results.toList q hk hgd
 have hlen : (lsv L vs).length = fn.results.size := by
  have gen : ∀ (f : ResultVar → Sem Value) (l : List ResultVar) (w w' : World) (ys : List Value), (l.mapM f).run P w = .ok ys w' → ys.length = l.length := by
   intro f l
   induction l with
   | nil => intro w w' ys h; simp at h; rw [h.1]; rfl
   | cons x l ih =>
     intro w w' ys h
     rw [List.mapM_cons] at h
     simp only [Sem.run_bind] at h
     cases hx : (f x).run P w with
     | halt _ _ => rw [hx] at h; cases h
     | ok y w1 =>
       rw [hx] at h
       simp only [Result.andThen_ok] at h
       cases hl : (l.mapM f).run P w1 with
       | halt _ _ => rw [hl] at h; cases h
       | ok zs w2 =>
         rw [hl] at h
         simp only [Result.andThen_ok, Sem.run_pure] at h
         injection h with h3 h4
         rw [← h3, List.length_cons, List.length_cons, ih w1 w2 zs hl]
  rw [gen _ _ _ _ _ h2, Array.length_toList]
 have hp := packRs_val (L := L) h1
 rw [hlen] at hp
 refine ⟨vs, e1, hp.1, ?_⟩
 rw [results_eq, Array.mapM_eq_mapM_toList]
 simp only [Sem.run_bind, Sem.run_map, h2, Result.andThen_ok, Sem.run_pure]
 rw [hp.2]
end
end Go.Ev

namespace Go.Ev
section
variable {P : Program}
theorem run_take {w : World} {r : Nat} (h : w.heap[r]? = some (.deferred (some []))) : (Instr.takeDeferred r).run P w = .ok [] { w with heap := w.heap.setIfInBounds r (.deferred none) } := by
 simp [Instr.takeDeferred, getObj, setObj, Sem.run, h]
theorem unw_good {fn : Func} {tmps : Array Value} {R : Ending → World → Prop} {cal : Cal} {q : H → Nm → C} : ∀ (d : List D) (ds : List Deferred) (h : H) (c : Nm) (w : World) (L : Loc) (S : Ns),
 DR L S d ds → Rel L S h w → Bd S c → CGood (unwL d cal h c q) →
 (∀ h' c' w', Stp L S h c w L S h' c' w' → unwL d cal h c q = q h' c' → LeavesIn (fnc none) 0 P fn tmps R [] .returning w') → LeavesInM (fnc none) 0 P fn tmps R ds .returning w := by
 intro d
 induction d with
 | nil =>
   intro ds h c w L S hd hr hb hg hk
   cases ds with
   | nil => exact hk h c w (Stp.refl hr hb) rfl
   | cons _ _ => exact hd.elim
 | cons x d ih =>
   intro ds h c w L S hd hr hb hg hk
   cases ds with
   | nil => exact hd.elim
   | cons y ds =>
     cases x with
     | call fv args => exact absurd rfl (hg 413)
     | rcvd => exact absurd rfl (hg 416)
     | mark r =>
       obtain ⟨⟨hS, rfl⟩, hd2⟩ := hd
       have e0 : unwL (.mark r :: d) cal h c q = Blk.rec (motive := fun _ => C) (.bad 414) (fun _ _ _ _ _ _ => .bad 414) (fun _ _ => .bad 414) (fun _ _ _ => .bad 414) (fun _ _ _ _ _ _ _ _ _ _ => .bad 414)
        (fun z => Bool.rec (.bad 415) (unwL d cal (H.set r (.dfd false) h) c q) z) (H.get r h) := rfl
       rw [e0] at hg
       cases hb' : H.get r h <;> rw [hb'] at hg <;> first
        | exact absurd rfl (hg 414)
        | skip
       case dfd z =>
        cases z
        · exact absurd rfl (hg 415)
        have hg' : CGood (unwL d cal (H.set r (.dfd false) h) c q) := hg
        obtain ⟨_, ob, hob, hbr⟩ := hr.blk r (by rw [hb']; simp)
        rw [hb'] at hbr
        cases ob with
        | deferred ds0 =>
          have hds : ds0 = some [] := hbr
          subst hds
          have hst : Stp L S h c w L S (H.set r (.dfd false) h) c { w with heap := w.heap.setIfInBounds (L.b r) (.deferred none) } :=
           Stp.put hr hb (by rw [hb']; simp) (o := .deferred none) rfl (Go.MapKept.heap_set hob).1 (fun r' hr' => (Go.MapKept.heap_set hob).2 r' hr') (by simp) (by rw [hb']; rfl)
          refine ⟨by simp, .inl ⟨L.b r, _, rfl, run_take hob, ?_⟩⟩
          refine ih ds _ c _ L S hd2 hst.rel hb hg' fun h' c' w' h1 h2 => hk h' c' w' (hst.trans h1) ?_
          rw [e0, hb']
          exact h2
        | _ => exact hbr.elim
theorem fn_sound {f : FuncId} {fn : Func} {cd : Code} {body : RC} {m : Nat} (hf : P.funcs[f]? = some fn) (hb : fn.body = some cd) (hcs : CS P none none (maskF fn) fn.ntmps cd body) (hk : fn.results.toList.all (okRes P) = true)
 {cal : Cal} {args : V} {h : H} {c : Nm} {L : Loc} {S : Ns} {w : World} (hcal : CalOk P cal) (hr : Rel L S h w) (hbd : Bd S c) (hgok : GOk P L S) (ha : (wf S args).s)
 {r : C} (he : runF (.mk f body (cIni (maskF fn) m 0) (fn.results.toList.map (rsOf P)) (fn.results.size == 1) (fn.results.size == 0)) cal args h c = r) (hg : CGood r) :
 CallsIn (fnc none) 0 P f (lsv L args).toArray w (CPost L S h c w r) := by
 have e0 : runF (.mk f body (cIni (maskF fn) m 0) (fn.results.toList.map (rsOf P)) (fn.results.size == 1) (fn.results.size == 0)) cal args h c =
  R.rec (motive := fun _ => C) (fun n => .bad (Bool.rec n (Nat.add (Nat.mul 1000000 f) n) (Nat.ble n 999999))) (fun t d h c => finK (fn.results.toList.map (rsOf P)) (fn.results.size == 1) (fn.results.size == 0) cal t d h c) (fun t d h c => finK (fn.results.toList.map (rsOf P)) (fn.results.size == 1) (fn.results.size == 0) cal t d h c) (fun _ _ _ _ _ => .bad 417)
   (fun ch _ d h c => Bool.rec (.bad 418) (.panic ch h c) (isE d)) (body cal (iniL (cIni (maskF fn) m 0) args .e) [] h c .norm) := rfl
 rw [e0] at he
 have hgb : (body cal (iniL (cIni (maskF fn) m 0) args .e) [] h c .norm).Good := by
  intro n hn
  rw [hn] at he
  exact hg _ he.symm
 obtain ⟨htm, hfar⟩ := ini_TM (far := maskF fn) L S ha m (fn.ntmps - (lsv L args).toArray.size)
 have hst : St P none none (maskF fn) fn.ntmps (iniL (cIni (maskF fn) m 0) args .e) [] h c { tmps := (lsv L args).toArray ++ Array.replicate (fn.ntmps - (lsv L args).toArray.size) undef, defers := [] } w L S :=
  ⟨htm, hfar, by simp; omega, trivial, hr, hbd, hgok, trivial⟩
 have fin : ∀ t' d' h' c' L' S' (a' : Act) w', Stp L S h c w L' S' h' c' w' → St P none none (maskF fn) fn.ntmps t' d' h' c' a' w' L' S' → finK (fn.results.toList.map (rsOf P)) (fn.results.size == 1) (fn.results.size == 0) cal t' d' h' c' = r → LeavesInM (fnc none) 0 P fn a'.tmps (CPost L S h c w r) a'.defers .returning w' := by
  intro t' d' h' c' L' S' a' w' h1 h2 h3
  have h3' : unwL d' cal h' c' (fun h c => getAll (fn.results.toList.map (rsOf P)) t' h (fun v => .ret (packRs (fn.results.size == 1) (fn.results.size == 0) v) h c)) = r := h3
  refine unw_good d' a'.defers h' c' w' L' S' h2.dr h2.rel h2.bd (h3' ▸ hg) fun h'' c'' w'' g1 g2 => ?_
  rw [h3'] at g2
  obtain ⟨vs, e1, g3, g4⟩ := results_run (St.gokStp h2.gok g1) h2.tm g1.rel hk (g2 ▸ hg)
  rw [e1] at g2
  refine ⟨_, g4, ?_⟩
  rw [g2]
  exact ⟨L', S', rfl, g3, h1.trans g1⟩
 refine callsIn_of_wp_marks hf hb trivial (hcs cal _ [] h c .norm _ w L S _ hcal hst hgb ⟨?_, ?_, ?_, ?_⟩)
 · intro t' d' h' c' L' S' a' w' h1 h2 h3
   rw [h3] at he
   exact fin t' d' h' c' L' S' a' w' h1 h2 he
 · intro t' d' h' c' L' S' a' w' h1 h2 h3
   rw [h3] at he
   exact fin t' d' h' c' L' S' a' w' h1 h2 he
 · intro id t' d' h' c' L' S' a' w' h1 h2 h3
   rw [h3] at he
   exact absurd he.symm (hg 417)
 · intro ch chain t' d' h' c' L' S' a' w' h1 h2 h3 h4
   rw [h4] at he
   have he' : (Bool.rec (.bad 418) (.panic ch h' c') (isE d') : C) = r := he
   cases d' with
   | cons _ _ => exact absurd he'.symm (hg 418)
   | nil =>
     have hd : a'.defers = [] := by
      cases hq : a'.defers with
      | nil => rfl
      | cons _ _ => rw [hq] at h2; exact h2.elim
     show LeavesInM (fnc none) 0 P fn a'.tmps (CPost L S h c w r) a'.defers (.panicking chain) w'
     rw [hd]
     have he2 : r = .panic ch h' c' := he'.symm
     show CPost L S h c w r (.panicked chain) w'
     rw [he2]
     exact ⟨L', S', chain, rfl, h3, h1⟩
end
end Go.Ev

namespace Go.Ev
section
variable {P : Program} {rd : Option Nat} {far nt fid lf : Nat} {rn : Option Nm}
theorem comp_CS (hdraw : ∀ (id : Nat) (ops : Array Oper), CS P rd rn far nt (.region id ops true) (rRegionD P far nt ops)) (hrange : ∀ (g : Operand) (ps : Array Tmp) (a b : Code), CS P rd rn far nt (.rangeFunc g ps a b) (rRange P fid far nt (cOpd ⟨[], 0, P.globals.size⟩ g) ps.toList a b rn)) : ∀ cd : Code, CS P rd rn far nt cd (comp P P.globals.size far nt fid lf rn cd) := by
 intro cd
 induction cd with
 | skip => exact CS.skip
 | region id ops dr =>
   cases dr
   · exact CS.region
   · exact hdraw id ops
 | seq a b iha ihb => have := CS.seq iha ihb; exact this
 | cond x a b iha ihb => have := CS.cond (x := x) iha ihb; exact this
 | block id a ih => have := CS.block (id := id) ih; exact this
 | loop a ih => have := CS.loop ih lf; exact this
 | rangeFunc g ps a b _ _ => exact hrange g ps a b
 | exit id => exact CS.exit
 | scope a ih => have := CS.scope ih; exact this
 | label l => exact CS.label
 | goto l => exact CS.bad
 | ret => exact CS.ret
 | _ => exact CS.bad
end
end Go.Ev

namespace Go.Ev
section
variable {P : Program}
theorem appC_ls (L : Loc) (S : Ns) : ∀ v y : V, (wf S v).s → (wf S y).s → lsv L (appC v y) = lsv L v ++ lsv L y ∧ (wf S (appC v y)).s := by
 intro v
 induction v with
 | nil => intro y _ hy; exact ⟨rfl, hy⟩
 | cons a d _ ih =>
   intro y hv hy
   have := ih y hv.2 hy
   exact ⟨by show val L a :: lsv L (appC d y) = val L a :: lsv L d ++ lsv L y; rw [this.1]; rfl, ⟨hv.1, this.2⟩⟩
 | _ => intro y hv; exact hv.elim
def NamesOk (P : Program) : Prop := ∀ (f : FuncId) (fn : Func), P.funcs[f]? = some fn → (fn.name == "runtime.NumGoroutine") = false
theorem run_callFunc (hn : NamesOk P) {f : FuncId} {fn : Func} {cd : Code} (hf : P.funcs[f]? = some fn) (hb : fn.body = some cd) (args : Array Value) (w : World) : (callFunc f args).run P w = .ok (.enter f args) w := by
 have h1 : ¬ fn.name = "runtime.NumGoroutine" := by have := hn f fn hf; simpa using this
 simp [callFunc, hf, hb, h1]
def OrcOk (P : Program) (f : FuncId) (g : Cal → V → H → Nm → C) : Prop := ∀ (cal : Cal) (args : V) (h : H) (c : Nm) (L : Loc) (S : Ns) (w : World), CalOk P cal → Rel L S h w → Bd S c → GOk P L S → (wf S args).s → CGood (g cal args h c) →
 Doing P (CPost L S h c w (g cal args h c)) ((callFunc f (lsv L args).toArray).run P w)
theorem call_func {O : Orc} {lf : Nat} (hn : NamesOk P) (hO : ∀ f g, O f = some g → OrcOk P f g) {cal : Cal} (hcal : CalOk P cal)
 (hD : ∀ (far nt id : Nat) (ops : Array Oper), CS P none none far nt (.region id ops true) (rRegionD P far nt ops)) (hR : ∀ (far nt fid : Nat) (g : Operand) (ps : Array Tmp) (a b : Code), CS P none none far nt (.rangeFunc g ps a b) (rRange P fid far nt (cOpd ⟨[], 0, P.globals.size⟩ g) ps.toList a b none))
 {f : FuncId} {args : V} {h : H} {c : Nm} {L : Loc} {S : Ns} {w : World} (hr : Rel L S h w) (hbd : Bd S c) (hgok : GOk P L S) (ha : (wf S args).s) (hg : CGood (runF (fnI P O lf f) cal args h c)) :
 Doing P (CPost L S h c w (runF (fnI P O lf f) cal args h c)) ((callFunc f (lsv L args).toArray).run P w) := by
 cases hOf : O f with
 | some g =>
   have e1 : fnI P O lf f = .orc g := by unfold fnI; rw [hOf]
   rw [e1] at hg ⊢
   exact hO f g hOf cal args h c L S w hcal hr hbd hgok ha hg
 | none =>
   cases hf : P.funcs[f]? with
   | none =>
     have e1 : fnI P O lf f = .bad 421 := by unfold fnI; rw [hOf]; simp only [hf]
     rw [e1] at hg
     exact absurd rfl (hg 421)
   | some fn =>
     cases hb : fn.body with
     | none =>
       have e1 : fnI P O lf f = .bad (1000 + f) := by unfold fnI; rw [hOf]; simp only [hf, hb]
       rw [e1] at hg
       exact absurd rfl (hg _)
     | some cd =>
       cases hk : fn.results.toList.all (okRes P)
       · have e1 : fnI P O lf f = .bad 436 := by unfold fnI; rw [hOf]; simp only [hf, hb, hk]; rfl
         rw [e1] at hg
         exact absurd rfl (hg 436)
       · have e1 : fnI P O lf f = .mk f (comp P P.globals.size (maskF fn) fn.ntmps f lf none cd) (cIni (maskF fn) (fn.params.size + fn.nfree) 0) (fn.results.toList.map (rsOf P)) (fn.results.size == 1) (fn.results.size == 0) := by
          unfold fnI; rw [hOf]; simp only [hf, hb, hk, if_true]
         rw [run_callFunc hn hf hb]
         rw [e1] at hg ⊢
         exact fn_sound hf hb (comp_CS (hD (maskF fn) fn.ntmps) (hR (maskF fn) fn.ntmps f) cd) hk hcal hr hbd hgok ha rfl hg
theorem step_func {O : Orc} {lf : Nat} (hn : NamesOk P) (hO : ∀ f g, O f = some g → OrcOk P f g) {cal : Cal} (hcal : CalOk P cal)
 (hD : ∀ (far nt id : Nat) (ops : Array Oper), CS P none none far nt (.region id ops true) (rRegionD P far nt ops)) (hR : ∀ (far nt fid : Nat) (g : Operand) (ps : Array Tmp) (a b : Code), CS P none none far nt (.rangeFunc g ps a b) (rRange P fid far nt (cOpd ⟨[], 0, P.globals.size⟩ g) ps.toList a b none))
 {f : FuncId} {F G args : V} {h : H} {c : Nm} {L : Loc} {S : Ns} {w : World} (hr : Rel L S h w) (hbd : Bd S c) (hgok : GOk P L S) (hv : (wf S (.f (.func f) F G)).v) (ha : (wf S args).s)
 (hg : CGood (stepV P O lf (.f (.func f) F G) cal args h c)) :
 Doing P (CPost L S h c w (stepV P O lf (.f (.func f) F G) cal args h c)) ((do let d ← Deferred.ofValue (val L (.f (.func f) F G)) (lsv L args).toArray; invoke d.target d.args : Sem Next).run P w) := by
 have e0 : stepV P O lf (.f (.func f) F G) cal args h c = runF (fnI P O lf f) cal (appC F (appC args G)) h c := rfl
 rw [e0] at hg ⊢
 have h1 := appC_ls L S args G ha hv.2.2
 have h2 := appC_ls L S F (appC args G) hv.2.1 h1.2
 have hd := call_func (L := L) (S := S) (w := w) hn hO hcal hD hR hr hbd hgok h2.2 hg
 have e1 : (lsv L (appC F (appC args G))).toArray = ((lsv L F).toArray ++ (lsv L args).toArray) ++ (lsv L G).toArray := by
  rw [h2.1, h1.1]; apply Array.ext'; simp
 rw [e1] at hd
 have e2 : (do let d ← Deferred.ofValue (val L (.f (.func f) F G)) (lsv L args).toArray; invoke d.target d.args : Sem Next).run P w = (callFunc f (((lsv L F).toArray ++ (lsv L args).toArray) ++ (lsv L G).toArray)).run P w := by
  show (do let d ← Deferred.ofValue (.func (.func f) (lsv L F).toArray (lsv L G).toArray) (lsv L args).toArray; invoke d.target d.args : Sem Next).run P w = _
  simp only [Deferred.ofValue, Sem.run_bind, Sem.run_pure, Result.andThen_ok, invoke]
 rw [e2]
 exact hd
end
end Go.Ev

namespace Go.Ev
section
variable {P : Program}
theorem meth_dir {t f : Nat} {name : String} (h : meth P t name = .dir f) (k : Nat) (v : Value) (w : World) : (method (k + 1) t v name).run P w = .ok (f, v) w := by
 unfold meth at h
 cases hi : P.info? t with
 | none => rw [hi] at h; cases h
 | some i =>
   rw [hi] at h
   simp only at h
   cases hm : i.methods.find? (·.name == name) with
   | none => rw [hm] at h; cases h
   | some m =>
     rw [hm] at h
     simp only at h
     split at h
     · rename_i hp
       cases hf : m.func with
       | none => rw [hf] at h; cases h
       | some fp =>
         obtain ⟨f0, ptr⟩ := fp
         rw [hf] at h
         simp only at h
         have hpath : m.path.toList = [] := by
          have := Array.isEmpty_iff.1 hp
          rw [this]
         have hti : (typeInfo t).run P w = .ok i w := run_typeInfo w hi
         cases hu : P.underlying t with
         | none => rw [hu] at h; cases h
         | some d =>
           rw [hu] at h
           have hrec : ∀ wr, f0 = f → (receiverAt t (.val v) ptr wr).run P w = .ok v w := by
            intro wr hff
            cases ptr <;> cases d <;> first
             | (cases h; done)
             | (simp only at h; split at h <;> cases h; done)
             | simp [receiverAt, run_underlying hu, Place.get]
           have hff : f0 = f := by
            cases ptr <;> cases d <;> first
             | (cases h; done)
             | (injection h; done)
             | (simp only at h; split at h <;> cases h; done)
           simp only [method, Sem.run_bind, hti, Result.andThen_ok, hm, hpath, follow, Sem.run_pure, hf, hrec _ hff, hff]
     · cases h
theorem run_ssaWrap (xt : TypeId) (a : Addr) (name : String) (w : World) : (Builtin.ssaWrapNilChk_ #[xt] xt #[.pointer (some a), strVal "", strVal name]).run P w = .ok (.pointer (some a)) w := rfl
theorem meth_load {t f sz : Nat} {agg : Bool} {name : String} (h : meth P t name = .load f agg sz) : ∃ el, okT P el = true ∧ agg = isAggT P el ∧ sz = szT P el ∧
 ∀ (k b off : Nat) (v : Value) (w : World), (loadVar el ⟨b, off, none⟩).run P w = .ok v w → (method (k + 1) t (.pointer (some ⟨b, off, none⟩)) name).run P w = .ok (f, v) w := by
 unfold meth at h
 cases hi : P.info? t with
 | none => rw [hi] at h; cases h
 | some i =>
   rw [hi] at h
   simp only at h
   cases hm : i.methods.find? (·.name == name) with
   | none => rw [hm] at h; cases h
   | some m =>
     rw [hm] at h
     simp only at h
     split at h
     · rename_i hp
       cases hf : m.func with
       | none => rw [hf] at h; cases h
       | some fp =>
         obtain ⟨f0, ptr⟩ := fp
         rw [hf] at h
         simp only at h
         have hpath : m.path.toList = [] := by
          have := Array.isEmpty_iff.1 hp
          rw [this]
         have hti : ∀ w, (typeInfo t).run P w = .ok i w := fun w => run_typeInfo w hi
         cases hu : P.underlying t with
         | none => rw [hu] at h; cases h
         | some d =>
           rw [hu] at h
           cases ptr <;> cases d <;> simp only [reduceCtorEq] at h
           rename_i el
           split at h
           · rename_i hk
             simp only [Mt.load.injEq] at h
             obtain ⟨rfl, rfl, rfl⟩ := h
             refine ⟨el, hk, rfl, rfl, fun k b off v w hv => ?_⟩
             simp only [method, Sem.run_bind, hti, Result.andThen_ok, hm, hpath, follow, Sem.run_pure, hf, receiverAt, run_underlying hu, Place.get, hp, if_true, run_ssaWrap, asAddr, hv]
           · cases h
     · cases h
theorem load_good {L : Loc} {S : Ns} {h : H} {w : World} (hg : GOk P L S) (hr : Rel L S h w) {v : V} (hv : v ≠ .x → (wf S v).v) {el : TypeId} (hk : okT P el = true) {k : K1} (hgd : (rdK (.c v) (hLoad (isAggT P el) (szT P el) (.c v)) [] .e h k).Good) :
 ∃ n off y, v = .p n off ∧ (wf S y).v ∧ rdK (.c v) (hLoad (isAggT P el) (szT P el) (.c v)) [] .e h k = k y ∧ (loadVar el ⟨L.b n, off, none⟩).run P w = .ok (val L y) w := by
 have e0 : rdK (.c v) (hLoad (isAggT P el) (szT P el) (.c v)) [] .e h k = hLoad (isAggT P el) (szT P el) (.t (tn 0)) (H.get (nmOf v) h) [] (.nd .e v .e) k := rfl
 rw [e0] at hgd ⊢
 obtain ⟨n, off, hx, _⟩ := asP_good hgd
 have hxv : v = .p n off := hx
 let o : Oper := { (default : Oper) with op := .load el (.tmp 0), guard := none }
 let a : Act := { tmps := #[val L v], defers := [] }
 have hT : ∀ s, T.get (tn s) (.nd .e v .e) ≠ .x → s = 0 := by
  intro s hs
  rcases Nat.eq_zero_or_pos s with h0 | h0
  · exact h0
  · exfalso
    apply hs
    have hne : tn s ≠ .h := fun hh => by have h1 := congrArg Nm.toNat hh; rw [tn_toNat] at h1; simp [Nm.toNat] at h1; omega
    cases ht : tn s with
    | h => exact absurd ht hne
    | o p => rw [tget_o]; exact tget_e p
    | i p => rw [tget_i]; exact tget_e p
 have ht : TM L S (.nd .e v .e) a.tmps := by
  intro s hs
  have h0 := hT s hs
  subst h0
  have e1 : T.get (tn 0) (.nd .e v .e) = v := rfl
  rw [e1] at hs ⊢
  exact ⟨rfl, hv hs⟩
 have hmat := (RI.start (P := P) (nt := 0) (a := a) hg ht (Nat.zero_le _)).mat
 obtain ⟨y, h1, h2, h3⟩ := RS.load (P := P) (L := L) (S := S) (e := ⟨[], 0, P.globals.size⟩) (o := o) (t := el) (x := .tmp 0) rfl hk a [] (.nd .e v .e) _ w k hmat (fun hn => hr.blk _ hn) hgd
 refine ⟨n, off, y, hxv, h1, h2, ?_⟩
 have hx2 : a.eval (.tmp 0) = .pointer (some ⟨L.b n, off, none⟩) := by
  show val L v = _
  rw [hxv]; rfl
 have ho : o.op = .load el (.tmp 0) := rfl
 simp only [execOp, ho, Instr.loadAt, hx2, Instr.sureAddr, Sem.run_bind, Sem.run_pure, Result.andThen_ok] at h3
 cases hl : (loadVar el ⟨L.b n, off, none⟩).run P w with
 | halt _ _ => rw [hl] at h3; cases h3
 | ok y w2 =>
   rw [hl] at h3
   simp only [Result.andThen_ok] at h3
   injection h3 with h4 h5
   injection h4 with h6
   rw [h6, h5]
theorem call_meth {L : Loc} {S : Ns} {h : H} {c : Nm} {w : World} (hg : GOk P L S) (hr : Rel L S h w) {name : String} {q : Nat → V → H → Nm → C} {args : V} (ha : (wf S args).s)
 (hq : ∀ f as, (wf S as).s → CGood (q f as h c) → Doing P (CPost L S h c w (q f as h c)) ((callFunc f (lsv L as).toArray).run P w)) (hgd : CGood (callMeth P name q args h c)) :
 ∃ recv rest, lsv L args = recv :: rest ∧ Doing P (CPost L S h c w (callMeth P name q args h c)) ((callMethod recv name rest.toArray).run P w) := by
 cases args <;> first | exact ha.elim | exact absurd rfl (hgd 424) | skip
 case cons A R0 =>
  cases A <;> first | exact absurd rfl (hgd 425) | skip
  case ifc t W =>
   refine ⟨.iface t (val L W), lsv L R0, rfl, ?_⟩
   have e0 : callMeth P name q (.cons (.ifc t W) R0) h c = runM (meth P t name) q W R0 h c := rfl
   rw [e0] at hgd ⊢
   have hfuel : ∃ k, P.types.size + Made.depth = k + 1 := ⟨P.types.size + 99, rfl⟩
   obtain ⟨k, hk⟩ := hfuel
   have hcm : ∀ f y, (method (k + 1) t (val L W) name).run P w = .ok (f, y) w → (callMethod (.iface t (val L W)) name (lsv L R0).toArray).run P w = (callFunc f (#[y] ++ (lsv L R0).toArray)).run P w := by
    intro f y hm
    simp only [callMethod, Sem.run_bind, run_program, Result.andThen_ok, hk, hm]
   cases hmt : meth P t name with
   | bad => rw [hmt] at hgd; exact absurd rfl (hgd 423)
   | dir f =>
     rw [hmt] at hgd
     have e1 : runM (.dir f) q W R0 h c = q f (.cons W R0) h c := rfl
     rw [e1] at hgd ⊢
     rw [hcm f _ (meth_dir hmt k _ w)]
     have := hq f (.cons W R0) ⟨ha.1, ha.2⟩ hgd
     have e2 : (lsv L (.cons W R0)).toArray = #[val L W] ++ (lsv L R0).toArray := by apply Array.ext'; simp [lsv, den]
     rw [e2] at this
     exact this
   | load f agg sz =>
     obtain ⟨el, hk1, rfl, rfl, hml⟩ := meth_load hmt
     rw [hmt] at hgd
     have e1 : runM (.load f (isAggT P el) (szT P el)) q W R0 h c = R.rec (motive := fun _ => C) (fun n => .bad n) (fun t _ h c => q f (.cons (T.get .h t) R0) h c) (fun _ _ _ _ => .bad 422) (fun _ _ _ _ _ => .bad 422) (fun _ _ _ _ _ => .bad 422)
      (rdK (.c W) (hLoad (isAggT P el) (szT P el) (.c W)) [] .e h (fun v => .norm (.nd .e v .e) [] h c)) := rfl
     rw [e1] at hgd ⊢
     have hgr : (rdK (.c W) (hLoad (isAggT P el) (szT P el) (.c W)) [] .e h (fun v => .norm (.nd .e v .e) [] h c)).Good := by
      intro n hn
      rw [hn] at hgd
      exact hgd n rfl
     obtain ⟨n, off, y, rfl, h1, h2, h3⟩ := load_good hg hr (v := W) (fun _ => ha.1) hk1 hgr
     rw [h2] at hgd ⊢
     have := hq f (.cons y R0) ⟨h1, ha.2⟩ hgd
     rw [hcm f _ (hml k (L.b n) off (val L y) w h3)]
     have e2 : (lsv L (.cons y R0)).toArray = #[val L y] ++ (lsv L R0).toArray := by apply Array.ext'; simp [lsv, den]
     rw [e2] at this
     exact this
end
end Go.Ev

namespace Go.Ev
section
variable {P : Program} {L : Loc} {S : Ns}
theorem asFnB_good {v : V} {r : R} (h : (asFnB P v r).Good) : ∃ g F C, v = .f g F C ∧ hasBody P g = true ∧ asFnB P v r = r := by
 cases v <;> first | exact (bad_good h).elim | skip
 case f g F C =>
  have e0 : asFnB P (.f g F C) r = (Bool.rec (.bad 405) r (hasBody P g) : R) := rfl
  rw [e0] at h ⊢
  obtain ⟨h1, h2⟩ := rec_good h
  exact ⟨g, F, C, rfl, h1, h2⟩
theorem hasBody_spec {g : Fn} (h : hasBody P g = true) : ∃ (f : FuncId) (fn : Func) (cd : Code), g = .func f ∧ P.funcs[f]? = some fn ∧ fn.body = some cd := by
 cases g <;> first | cases h | skip
 case func f =>
  have h' : (match P.funcs[f]? with | some fn => fn.body.isSome | none => false) = true := h
  cases hf : P.funcs[f]? with
  | none => rw [hf] at h'; cases h'
  | some fn =>
    rw [hf] at h'
    obtain ⟨cd, hcd⟩ := Option.isSome_iff_exists.1 h'
    exact ⟨f, fn, cd, rfl, hf, hcd⟩
theorem asLoop_good {b : Blk} {q : Nat → Option Code → Nat → Nat → Nat → T → List Nat → Code → Code → Nm → R} (h : (asLoop b q).Good) : ∃ st pe fi fa nt t ps as bo dn, b = .loop st pe fi fa nt t ps as bo dn ∧ asLoop b q = q st pe fi fa nt t ps as bo dn := by
 cases b <;> first | exact (bad_good h).elim | exact ⟨_, _, _, _, _, _, _, _, _, _, rfl, rfl⟩
theorem BR.loop {n : Nm} {st : Nat} {pe : Option Code} {fi fa nt : Nat} {t : T} {ps : List Nat} {as bo : Code} {dn : Nm} {o : Obj} (h : BR L S n (.loop st pe fi fa nt t ps as bo dn) o) :
 ∃ r, o = .loop r ∧ r.state = lsOf st ∧ r.pending = pe ∧ TM L S t r.tmps ∧ r.params.toList = ps ∧ r.assign = as ∧ r.body = bo ∧ r.defers = L.b dn ∧ S dn ∧ FarT fa t ∧ nt ≤ r.tmps.size ∧ ∀ p ∈ ps, Nat.testBit fa p = true ∧ p < nt := by
 cases o <;> first | exact h.elim | exact ⟨_, rfl, h⟩
theorem lsOf_busy {st : Nat} (h : lsOf st = .busy) : st = 1 := by
 match st with
 | 0 => cases h
 | 1 => rfl
 | 2 => cases h
 | n + 3 => cases h
theorem rec_false {z : Bool} {n : Nat} {r : R} (h : (Bool.rec r (.bad n) z : R).Good) : z = false ∧ (Bool.rec r (.bad n) z : R) = r := by
 cases z
 · exact ⟨rfl, rfl⟩
 · exact (bad_good h).elim
theorem Stp.loopSet {h : H} {c : Nm} {w : World} (hr : Rel L S h w) (hb : Bd S c) {n : Nm} {st : Nat} {pe : Option Code} {fi fa nt : Nat} {t : T} {ps : List Nat} {as bo : Code} {dn : Nm} (hn : H.get n h = .loop st pe fi fa nt t ps as bo dn) :
 ∃ r, w.heap[L.b n]? = some (.loop r) ∧ r.state = lsOf st ∧ r.pending = pe ∧ TM L S t r.tmps ∧ r.params.toList = ps ∧ r.assign = as ∧ r.body = bo ∧ r.defers = L.b dn ∧ S n ∧ S dn ∧ FarT fa t ∧ nt ≤ r.tmps.size ∧ (∀ p ∈ ps, Nat.testBit fa p = true ∧ p < nt) ∧
   ∀ (st' : Nat) (pe' : Option Code) (r' : Loop), r' = { r with state := lsOf st', pending := pe' } → Stp L S h c w L S (H.set n (.loop st' pe' fi fa nt t ps as bo dn) h) c (w.putObj (L.b n) (.loop r')) := by
 obtain ⟨hS, o, ho, hbr⟩ := hr.blk n (by rw [hn]; simp)
 rw [hn] at hbr
 obtain ⟨r, rfl, h1, h2, h3, h4, h5, h6, h7, h8, h9, h10, h11⟩ := hbr.loop
 refine ⟨r, ho, h1, h2, h3, h4, h5, h6, h7, hS, h8, h9, h10, h11, fun st' pe' r' hr' => ?_⟩
 subst hr'
 exact Stp.put hr hb (by rw [hn]; simp) (o := .loop { r with state := lsOf st', pending := pe' }) ⟨rfl, rfl, h3, h4, h5, h6, h7, h8, h9, h10, h11⟩ (Go.MapKept.heap_set ho).1 (fun r' hr' => (Go.MapKept.heap_set ho).2 r' hr') (by simp) (by rw [hn]; rfl)
end
section
variable {P : Program} {rd : Option Nat} {rn : Option Nm} {far nt fid : Nat}
theorem range_tail (hn : NamesOk P) {cal : Cal} {t : T} {d d2 : List D} {h h2 : H} {c c2 : Nm} {k : KN} {a : Act} {w w2 : World} {L L2 : Loc} {S S2 : Ns} {Q : Exit → Act → World → Prop} {r : R} {g : Operand} {ps : List Nat} {as bo : Code} {ln dn : Nm}
 {f : FuncId} {fn : Func} {cd : Code} {F0 C0 : V} {mark : List Deferred}
 (hcal : CalOk P cal) (hs : St P rd rn far nt t d h c a w L S) (hf : P.funcs[f]? = some fn) (hcd : fn.body = some cd) (hv : a.eval g = val L (.f (.func f) F0 C0)) (hw : (wf S (.f (.func f) F0 C0)).v)
 (hst : Stp L S h c w L2 S2 (H.set ln (.loop 0 none fid far nt t ps as bo dn) h2) c2 w2) (hS2 : S2 ln) (hdr : DR L2 S2 d2 (mark ++ a.defers))
 (hr : r = C.rec (motive := fun _ => R) (fun e => .bad e)
  (fun _ h c => asLoop (H.get ln h) (fun st pe fi fa nt t' ps a b dn => Bool.rec (rJump pe t d2 (H.set ln (.loop 3 pe fi fa nt t' ps a b dn) h) c k) (.bad 403) (Nat.beq st 1)))
  (fun ch h c => .panic ch t d2 h c)
  (cal (.f (.func f) F0 C0) (.cons (.yl ln) .nil) (H.set ln (.loop 0 none fid far nt t ps as bo dn) h2) c2))
 (hg : r.Good) (ho : Out P rd rn far nt h c w L S r k Q) :
 ∃ (d : Deferred) (w₁' : World) (f' : FuncId) (args : Array Value) (w₃ : World),
   (resolve a.eval (rangeCall g (L2.b ln)) 0).run P w2 = .ok d w₁' ∧ (invoke d.target d.args).run P w₁' = .ok (.enter f' args) w₃ ∧
   CallsIn (fnc rd) 0 P f' args w₃ (rangePost (fnc rd) 0 P (L2.b ln) Q { a with defers := mark ++ a.defers }) := by
 have hw2 : (wf S2 (.f (.func f) F0 C0)).v := (wf_mono hst.sub _).1 hw
 have hgok2 : GOk P L2 S2 := St.gokStp hs.gok hst
 have hcg : CGood (cal (.f (.func f) F0 C0) (.cons (.yl ln) .nil) (H.set ln (.loop 0 none fid far nt t ps as bo dn) h2) c2) := by
  intro n hh
  rw [hh] at hr
  exact hg n hr
 have hdo := hcal (.f (.func f) F0 C0) (.cons (.yl ln) .nil) _ c2 L2 S2 w2 hst.rel hst.bd hgok2 hw2 ⟨hS2, trivial⟩ hcg
 have e1 : val L2 (.f (.func f) F0 C0) = a.eval g := by rw [hv]; exact (den_congr hst.agr _).1 hw
 have e2 : (lsv L2 (.cons (.yl ln) .nil)).toArray = #[.func (.yield (L2.b ln)) #[] #[]] := rfl
 have e3 : val L2 (.f (.func f) F0 C0) = .func (.func f) (lsv L2 F0).toArray (lsv L2 C0).toArray := rfl
 rw [e2] at hdo
 have hres : (resolve a.eval (rangeCall g (L2.b ln)) 0).run P w2 = .ok { target := .fn (.func f) (lsv L2 C0).toArray, args := (lsv L2 F0).toArray ++ #[.func (.yield (L2.b ln)) #[] #[]] } w2 := by
  have hmap : Array.map a.eval #[Operand.const (Value.func (Fn.yield (L2.b ln)) #[] #[])] = #[Value.func (Fn.yield (L2.b ln)) #[] #[]] := by simp [Act.eval]
  simp only [resolve, ← e1, e3, Deferred.ofValue, hmap, Sem.run_pure]
 have hinv : (invoke (.fn (.func f) (lsv L2 C0).toArray) ((lsv L2 F0).toArray ++ #[.func (.yield (L2.b ln)) #[] #[]])).run P w2 = .ok (.enter f (((lsv L2 F0).toArray ++ #[.func (.yield (L2.b ln)) #[] #[]]) ++ (lsv L2 C0).toArray)) w2 := by
  simp only [invoke]
  exact run_callFunc hn hf hcd _ w2
 have hdo2 : (do let d ← Deferred.ofValue (val L2 (.f (.func f) F0 C0)) #[.func (.yield (L2.b ln)) #[] #[]]; invoke d.target d.args : Sem Next).run P w2 = .ok (.enter f (((lsv L2 F0).toArray ++ #[.func (.yield (L2.b ln)) #[] #[]]) ++ (lsv L2 C0).toArray)) w2 := by
  rw [e3]
  simp only [Deferred.ofValue, Sem.run_bind, Sem.run_pure, Result.andThen_ok]
  exact hinv
 rw [hdo2] at hdo
 refine ⟨_, _, _, _, _, hres, hinv, (callsIn_fnc hdo).mono fun en w' hpost => ?_⟩
 cases hC : cal (.f (.func f) F0 C0) (.cons (.yl ln) .nil) (H.set ln (.loop 0 none fid far nt t ps as bo dn) h2) c2 with
 | bad n => exact absurd hC (hcg n)
 | panic ch h' c' =>
   rw [hC] at hpost hr
   obtain ⟨L', S', chain, rfl, h4, h5⟩ := hpost
   exact ho.panic ch chain t d2 h' c' L' S' { a with defers := mark ++ a.defers } w' (hst.trans h5) (hdr.congr h5.sub h5.agr) h4 hr
 | ret v h' c' =>
   rw [hC] at hpost hr
   obtain ⟨L', S', rfl, h4, h5⟩ := hpost
   have hr0 : r = asLoop (H.get ln h') (fun st pe fi fa nt t' ps a b dn => Bool.rec (rJump pe t d2 (H.set ln (.loop 3 pe fi fa nt t' ps a b dn) h') c' k) (.bad 403) (Nat.beq st 1)) := hr
   have hg0 := good_of hr0 hg
   obtain ⟨st, pe, fi', fa', nt', t', ps', as', bo', dn', hb, e5⟩ := asLoop_good hg0
   have hg1 := good_of e5 hg0
   obtain ⟨hz, e6⟩ := rec_false hg1
   have hg2 := good_of e6 hg1
   obtain ⟨rc, k1, k2, k3, _, _, _, _, _, k9, _, _, _, _, k10⟩ := Stp.loopSet h5.rel h5.bd hb
   have hl : L'.b ln = L2.b ln := (h5.agr ln hS2).1
   have hnb : rc.state ≠ .busy := by
    intro hh
    rw [k2] at hh
    rw [lsOf_busy hh] at hz
    cases hz
   have hend := run_endLoop (P := P) k1 hnb
   have hst2 := k10 3 pe { rc with state := .exhausted } (by rw [← k3]; rfl)
   have hall := (hst.trans h5).trans hst2
   have hrr : r = rJump pe t d2 (H.set ln (.loop 3 pe fi' fa' nt' t' ps' as' bo' dn') h') c' k := hr0.trans (e5.trans e6)
   rw [hl] at hend hst2 hall
   obtain ⟨w4, hw4⟩ : ∃ w4, w4 = w'.putObj (L2.b ln) (.loop { rc with state := .exhausted }) := ⟨_, rfl⟩
   rw [← hw4] at hend hst2 hall
   have hSt : St P rd rn far nt t d2 (H.set ln (.loop 3 pe fi' fa' nt' t' ps' as' bo' dn') h') c' { a with defers := mark ++ a.defers } w4 L' S' :=
    ⟨hs.tm.congr (hst.trans h5).sub (hst.trans h5).agr, hs.far, hs.size, hdr.congr h5.sub h5.agr, hst2.rel, hst2.bd, St.gokStp hs.gok hall, hs.rdk.congr hall.sub hall.agr⟩
   rw [k3] at hend
   refine ⟨pe, _, hend, ?_⟩
   cases pe with
   | none => exact ho.norm t d2 _ c' L' S' _ _ hall hSt hrr
   | some j =>
     cases j <;> first
      | (rw [hrr] at hg; exact (bad_good hg).elim)
      | skip
     case exit id => exact wpIn_exit (ho.exit id t d2 _ c' L' S' _ _ hall hSt hrr)
     case ret => exact wpIn_ret (ho.ret t d2 _ c' L' S' _ _ hall hSt hrr)
theorem nm_ne_succ (c : Nm) : c ≠ Nm.succ c := fun h => by have := congrArg Nm.toNat h; rw [nm_succ] at this; omega
theorem CS.range (hn : NamesOk P) {g : Operand} {ps : Array Tmp} {as bo : Code} : CS P rd rn far nt (.rangeFunc g ps as bo) (rRange P fid far nt (cOpd ⟨[], 0, P.globals.size⟩ g) ps.toList as bo rn) := by
 intro cal t d h c k a w L S Q hcal hs hg ho
 obtain ⟨hz, e0⟩ := rec_good (z := ps.toList.all (fun p => Nat.testBit far p && decide (p < nt))) hg
 have e0' : rRange P fid far nt (cOpd ⟨[], 0, P.globals.size⟩ g) ps.toList as bo rn cal t d h c k = _ := e0
 have hg0 := good_of e0 hg
 obtain ⟨gf, F0, C0, hv, hb, e1⟩ := asFnB_good hg0
 have hg1 := good_of e1 hg0
 obtain ⟨f, fn, cd, rfl, hf, hcd⟩ := hasBody_spec hb
 have hm := (RI.start (nt := nt) hs.gok hs.tm hs.size).mat.at g hv (by simp)
 have hps : ∀ p ∈ ps.toList, Nat.testBit far p = true ∧ p < nt := by
  intro p hp
  have := List.all_eq_true.1 hz p hp
  rw [Bool.and_eq_true, decide_eq_true_eq] at this
  exact this
 have hrdk := hs.rdk
 cases rn with
 | none =>
   cases rd with
   | some l => exact hrdk.elim
   | none =>
     have hc1 : ¬ S c := nm_bd hs.bd (Nat.le_refl _)
     have st1 := Stp.alloc hs.rel hs.bd hc1 (Nat.le_refl _) (b := .dfd true) (o := .deferred (some [])) (k := 0) (w' := w.alloc (.deferred (some []))) rfl rfl ⟨rfl, rfl, rfl⟩ (c' := Nm.succ c) (by rw [nm_succ]; omega) (by rw [nm_succ]; omega)
     have hc2 : ¬ addN S c (Nm.succ c) := nm_bd st1.bd (Nat.le_refl _)
     refine wpIn_rangeFunc fun fn0 _ => ?_
     have hbr : BR ((L.put c w.heap.size 0).put (Nm.succ c) (w.alloc (.deferred (some []))).heap.size 0) (addN (addN S c) (Nm.succ c)) (Nm.succ c) (.loop 0 none fid far nt t ps.toList as bo c)
      (.loop { state := .ready, pending := none, fn := fn0, tmps := a.tmps, params := ps, assign := as, body := bo, defers := w.heap.size }) := by
      have ha1 := Loc.put_agr (L := L) (S := S) w.heap.size 0 hc1
      have ha2 := Loc.put_agr (L := L.put c w.heap.size 0) (S := addN S c) (w.alloc (.deferred (some []))).heap.size 0 hc2
      refine ⟨rfl, rfl, (hs.tm.congr (S' := addN S c) (fun _ h => .inl h) ha1).congr (fun _ h => .inl h) ha2, rfl, rfl, rfl, ?_, .inl (.inr rfl), hs.far, hs.size, hps⟩
      show w.heap.size = _
      rw [(ha2 c (.inr rfl)).1, Loc.put_b]
     have st2 := Stp.alloc st1.rel st1.bd hc2 (Nat.le_refl _) hbr (w' := (w.alloc (.deferred (some []))).alloc (.loop { state := .ready, pending := none, fn := fn0, tmps := a.tmps, params := ps, assign := as, body := bo, defers := w.heap.size })) rfl ⟨rfl, rfl, rfl⟩ (c' := Nm.succ (Nm.succ c)) (by rw [nm_succ (Nm.succ c)]; omega) (by rw [nm_succ (Nm.succ c)]; omega)
     have hst := st1.trans st2
     have hSc : addN (addN S c) (Nm.succ c) c := .inl (.inr rfl)
     have hdr : DR ((L.put c w.heap.size 0).put (Nm.succ c) (w.alloc (.deferred (some []))).heap.size 0) (addN (addN S c) (Nm.succ c)) (.mark c :: d) ([{ target := .collected w.heap.size, args := #[] }] ++ a.defers) := by
      refine ⟨⟨hSc, ?_⟩, hs.dr.congr hst.sub hst.agr⟩
      rw [(st2.agr c (.inr rfl)).1, Loc.put_b]
     have hbl : ((L.put c w.heap.size 0).put (Nm.succ c) (w.alloc (.deferred (some []))).heap.size 0).b (Nm.succ c) = w.heap.size + 1 := by rw [Loc.put_b]; simp
     obtain ⟨dd, w1', f', args, w3, q1, q2, q3⟩ := range_tail (mark := [{ target := .collected w.heap.size, args := #[] }]) hn hcal hs hf hcd hm.1 hm.2 hst (.inr rfl) hdr (e0'.trans (e1.trans (by rw [hv]))) hg ho
     rw [hbl] at q1 q3
     exact ⟨_, _, _, dd, w1', f', args, w3, run_enterLoop_outer _ _ _ _ _, q1, fun _ _ => trivial, q2, fun hd => (by cases hd), q3⟩
 | some o =>
   cases rd with
   | none => exact hrdk.elim
   | some l0 =>
     obtain ⟨hSo, hbo⟩ := hrdk
     have hg2 : (asLoop (H.get o h) (fun _ _ _ _ _ _ _ _ _ dn => C.rec (motive := fun _ => R) (fun e => .bad e)
      (fun _ h c' => asLoop (H.get c h) (fun st pe fi fa nt t' ps a b dn => Bool.rec (rJump pe t d (H.set c (.loop 3 pe fi fa nt t' ps a b dn) h) c' k) (.bad 403) (Nat.beq st 1)))
      (fun ch h c => .panic ch t d h c)
      (cal (ev (cOpd ⟨[], 0, P.globals.size⟩ g) [] t) (.cons (.yl c) .nil) (H.set c (.loop 0 none fid far nt t ps.toList as bo dn) h) (Nm.succ c)))).Good := hg1
     obtain ⟨st, pe, fi', fa', nt', t', ps', as', bo', dn, hb0, e2⟩ := asLoop_good hg2
     have hg3 := good_of e2 hg2
     obtain ⟨hS0, ob, hob, hbr0⟩ := hs.rel.blk o (by rw [hb0]; simp)
     rw [hb0] at hbr0
     obtain ⟨r0, rfl, _, _, _, _, _, _, hdf, hSd, _⟩ := hbr0.loop
     rw [hbo] at hob
     have hc1 : ¬ S c := nm_bd hs.bd (Nat.le_refl _)
     refine wpIn_rangeFunc fun fn0 _ => ?_
     have hbr : BR (L.put c w.heap.size 0) (addN S c) c (.loop 0 none fid far nt t ps.toList as bo dn)
      (.loop { state := .ready, pending := none, fn := fn0, tmps := a.tmps, params := ps, assign := as, body := bo, defers := r0.defers }) := by
      have ha1 := Loc.put_agr (L := L) (S := S) w.heap.size 0 hc1
      refine ⟨rfl, rfl, hs.tm.congr (fun _ h => .inl h) ha1, rfl, rfl, rfl, ?_, .inl hSd, hs.far, hs.size, hps⟩
      show r0.defers = _
      rw [(ha1 dn hSd).1, hdf]
     have hst := Stp.alloc hs.rel hs.bd hc1 (Nat.le_refl _) hbr (w' := w.alloc (.loop { state := .ready, pending := none, fn := fn0, tmps := a.tmps, params := ps, assign := as, body := bo, defers := r0.defers })) rfl ⟨rfl, rfl, rfl⟩ (c' := Nm.succ c) (by rw [nm_succ]; omega) (by rw [nm_succ]; omega)
     have hdr : DR (L.put c w.heap.size 0) (addN S c) d ([] ++ a.defers) := hs.dr.congr hst.sub hst.agr
     have hbl : (L.put c w.heap.size 0).b c = w.heap.size := Loc.put_b _ _ _
     obtain ⟨dd, w1', f', args, w3, q1, q2, q3⟩ := range_tail (mark := []) hn hcal hs hf hcd hm.1 hm.2 hst (.inr rfl) hdr (e0'.trans (e1.trans (e2.trans (by rw [hv])))) hg ho
     rw [hbl] at q1 q3
     exact ⟨_, _, _, dd, w1', f', args, w3, run_enterLoop_inner hob _ _ _ _ _, q1, fun _ _ => trivial, q2, fun hd => (by cases hd), q3⟩
end
end Go.Ev

namespace Go.Ev
section
variable {P : Program} {L : Loc} {S : Ns}
theorem setPs_spec {far : Nat} : ∀ (ps : List Nat) (args : V) (t : T) (tm : Array Value), (wf S args).s → lenC args = ps.length → (∀ p ∈ ps, Nat.testBit far p = true ∧ p < tm.size) → TM L S t tm → FarT far t →
 TM L S (setPs ps args t) ((ps.zip (lsv L args)).foldl (fun tm x => tm.setIfInBounds x.1 x.2) tm) ∧ FarT far (setPs ps args t) ∧ ((ps.zip (lsv L args)).foldl (fun tm x => tm.setIfInBounds x.1 x.2) tm).size = tm.size := by
 intro ps
 induction ps with
 | nil => intro args t tm _ _ _ ht hf; exact ⟨ht, hf, rfl⟩
 | cons p ps ih =>
   intro args t tm ha hl hp ht hf
   cases args <;> first | exact ha.elim | skip
   case nil => cases hl
   case cons A W =>
    have e1 : setPs (p :: ps) (.cons A W) t = setPs ps W (T.set (tn p) A t) := rfl
    have e2 : ((p :: ps).zip (lsv L (.cons A W))).foldl (fun tm x => tm.setIfInBounds x.1 x.2) tm = (ps.zip (lsv L W)).foldl (fun tm x => tm.setIfInBounds x.1 x.2) (tm.setIfInBounds p (val L A)) := rfl
    have hl' : lenC W = ps.length := Nat.succ.inj hl
    have hp0 := hp p (.head _)
    have ht' : TM L S (T.set (tn p) A t) (tm.setIfInBounds p (val L A)) := by
     intro s hs
     rw [tget_set] at hs ⊢
     by_cases hsp : s = p
     · subst hsp
       rw [if_pos rfl]
       refine ⟨?_, ha.1⟩
       simp [Array.getD_eq_getD_getElem?, hp0.2]
     · have hne : tn s ≠ tn p := fun h => hsp (tn_inj h)
       rw [if_neg hne] at hs ⊢
       have := ht s hs
       refine ⟨?_, this.2⟩
       rw [← this.1]
       simp [Array.getD_eq_getD_getElem?, Ne.symm hsp]
    have hf' : FarT far (T.set (tn p) A t) := by
     intro s hs
     rw [tget_set] at hs
     by_cases hsp : s = p
     · subst hsp; exact hp0.1
     · rw [if_neg (fun h => hsp (tn_inj h))] at hs; exact hf s hs
    have := ih W (T.set (tn p) A t) (tm.setIfInBounds p (val L A)) ha.2 hl' (fun q hq => by simpa using hp q (.tail _ hq)) ht' hf'
    rw [e1, e2]
    exact ⟨this.1, this.2.1, by rw [this.2.2]; simp⟩
theorem lenC_ls : ∀ v : V, (wf S v).s → (lsv L v).length = lenC v := by
 intro v
 induction v with
 | nil => intro _; rfl
 | cons a d _ ih => intro h; show (lsv L d).length + 1 = Nat.succ (lenC d); rw [ih h.2]
 | _ => intro h; exact h.elim
theorem asLoopC_good {b : Blk} {q : Nat → Option Code → Nat → Nat → Nat → T → List Nat → Code → Code → Nm → C} (h : CGood (asLoopC b q)) : ∃ st pe fi fa nt t ps as bo dn, b = .loop st pe fi fa nt t ps as bo dn ∧ asLoopC b q = q st pe fi fa nt t ps as bo dn := by
 cases b <;> first | exact absurd rfl (h 433) | exact ⟨_, _, _, _, _, _, _, _, _, _, rfl, rfl⟩
theorem crec_good {z : Bool} {n : Nat} {r : C} (h : CGood (Bool.rec (.bad n) r z : C)) : z = true ∧ (Bool.rec (.bad n) r z : C) = r := by
 cases z
 · exact absurd rfl (h n)
 · exact ⟨rfl, rfl⟩
noncomputable def endQ (j : Option Code) (a : Nm) (h : H) (c : Nm) : Nat → Option Code → Nat → Nat → Nat → T → List Nat → Code → Code → Nm → R := fun _ _ fi fa nt t ps as_ b dn => match j with
 | none => .norm (.nd .e (.b true) .e) [] (H.set a (.loop 0 none fi fa nt t ps as_ b dn) h) c
 | some x => .norm (.nd .e (.b false) .e) [] (H.set a (.loop 2 (some x) fi fa nt t ps as_ b dn) h) c
theorem endR_eq (j : Option Code) (a : Nm) (h : H) (c : Nm) : endR j a h c = R.rec (motive := fun _ => C) (fun n => .bad n) (fun t _ h c => .ret (T.get .h t) h c) (fun _ _ _ _ => .bad 428) (fun _ _ _ _ _ => .bad 428) (fun _ _ _ _ _ => .bad 428)
 (asLoop (H.get a h) (endQ j a h c)) := rfl
theorem endR_good {h : H} {c : Nm} {w : World} (hr : Rel L S h w) (hb : Bd S c) {a : Nm} (j : Option Code) (hg : CGood (endR j a h c)) :
 ∃ v w', (Instr.endRound (L.b a) j).run P w = .ok v w' ∧ CPost L S h c w (endR j a h c) (.returned v) w' := by
 have e0 := endR_eq j a h c
 have hg1 : (asLoop (H.get a h) (endQ j a h c)).Good := by
  intro n hn
  rw [e0, hn] at hg
  exact hg n rfl
 obtain ⟨st, pe, fi, fa, nt, t, ps, as, bo, dn, hb0, e1⟩ := asLoop_good hg1
 rw [e1] at e0
 obtain ⟨rc, k1, k2, k3, _, _, _, _, _, k9, _, _, _, _, k10⟩ := Stp.loopSet hr hb hb0
 have hend := run_endRound (P := P) j k1
 refine ⟨_, _, hend, ?_⟩
 cases j with
 | none =>
   have e2 : endR none a h c = .ret (.b true) (H.set a (.loop 0 none fi fa nt t ps as bo dn) h) c := e0
   rw [e2]
   exact ⟨L, S, rfl, trivial, k10 0 none _ rfl⟩
 | some x =>
   have e2 : endR (some x) a h c = .ret (.b false) (H.set a (.loop 2 (some x) fi fa nt t ps as bo dn) h) c := e0
   rw [e2]
   exact ⟨L, S, rfl, trivial, k10 2 (some x) _ rfl⟩
theorem CPost.after {h h' : H} {c c' : Nm} {w w' w'' : World} {L' : Loc} {S' : Ns} (hst : Stp L S h c w L' S' h' c' w') {r : C} {e : Ending} (hp : CPost L' S' h' c' w' r e w'') : CPost L S h c w r e w'' := by
 cases r with
 | bad n => exact hp.elim
 | ret v h2 c2 => obtain ⟨L2, S2, e1, h1, h3⟩ := hp; exact ⟨L2, S2, e1, h1, hst.trans h3⟩
 | panic ch h2 c2 => obtain ⟨L2, S2, chain, e1, h1, h3⟩ := hp; exact ⟨L2, S2, chain, e1, h1, hst.trans h3⟩
theorem yield_sound {lf : Nat} (hcs : ∀ (rd : Option Nat) (rn : Option Nm) (far nt fid : Nat) (cd : Code), CS P rd rn far nt cd (comp P P.globals.size far nt fid lf rn cd)) {cal : Cal} (hcal : CalOk P cal)
 {a0 : Nm} {args : V} {h : H} {c : Nm} {w : World} (hr : Rel L S h w) (hbd : Bd S c) (hgok : GOk P L S) (hS : S a0) (ha : (wf S args).s) (hg : CGood (roundA P lf cal a0 args h c)) :
 Doing P (CPost L S h c w (roundA P lf cal a0 args h c)) ((Instr.yield (L.b a0) (lsv L args).toArray).run P w) := by
 obtain ⟨st, pe, fi, fa, nt, t, ps, as, bo, dn, hb0, e1⟩ := asLoopC_good hg
 have e1' : roundA P lf cal a0 args h c = _ := e1
 rw [e1'] at hg ⊢
 clear e1 e1'
 obtain ⟨hz, e2⟩ := crec_good hg
 have hlen : lenC args = ps.length := Nat.beq_eq.mp hz
 rw [e2] at hg ⊢
 clear e2 hz
 obtain ⟨rc, k1, k2, k3, k4, k5, k6, k7, k8, k9, k10, k11, k12, k13, _⟩ := Stp.loopSet hr hbd hb0
 have hsz : (lsv L args).toArray.size = rc.params.size := by
  rw [List.size_toArray, lenC_ls args ha, hlen, ← k5, Array.length_toList]
 rw [run_yield k1 hsz]
 have hfold : (rc.params.zip (lsv L args).toArray).foldl (fun tmps (x : Tmp × Value) => tmps.setIfInBounds x.1 x.2) rc.tmps = (ps.zip (lsv L args)).foldl (fun tm x => tm.setIfInBounds x.1 x.2) rc.tmps := by
  rw [← Array.foldl_toList, Array.toList_zip, k5]
 have hsp := setPs_spec (L := L) (S := S) (far := fa) ps args t rc.tmps ha hlen (fun p hp => ⟨(k13 p hp).1, Nat.lt_of_lt_of_le (k13 p hp).2 k12⟩) k4 k11
 show RoundIn (fnc none) 0 P (L.b a0) rc.fn ((rc.params.zip (lsv L args).toArray).foldl (fun tmps (x : Tmp × Value) => tmps.setIfInBounds x.1 x.2) rc.tmps) rc.assign rc.body w _
 rw [hfold, k6, k7]
 have hSt : St P (some (L.b a0)) (some a0) fa nt (setPs ps args t) [] h c { tmps := (ps.zip (lsv L args)).foldl (fun tm x => tm.setIfInBounds x.1 x.2) rc.tmps, defers := [] } w L S :=
  ⟨hsp.1, hsp.2.1, by rw [hsp.2.2]; exact k12, trivial, hr, hbd, hgok, hS, rfl⟩
 generalize hr1 : comp P P.globals.size fa nt fi lf (some a0) as cal (setPs ps args t) [] h c .norm = r1 at hg ⊢
 have hg1 : r1.Good := by
  intro n hn
  rw [hn] at hg
  exact hg n rfl
 refine roundIn_of_wpIn trivial ?_
 refine hcs (some (L.b a0)) (some a0) fa nt fi as cal _ [] h c .norm _ w L S _ hcal hSt (by rw [hr1]; exact hg1) ⟨?_, ?_, ?_, ?_⟩ <;> rw [hr1]
 · intro t' d' h' c' L' S' a' w' h1 h2 h3
   rw [h3] at hg ⊢
   have hg2 : CGood (asLoopC (H.get a0 h') (fun st pe fi' fa' nt' t0 ps' as' b' dn => Bool.rec (.bad 431) (roundB P lf cal a0 bo fi fa nt t' d' (H.set a0 (.loop 1 pe fi' fa' nt' t0 ps' as' b' dn) h') c') (Nat.beq st 0))) := hg
   show ∃ w₂, (Instr.beginRound (L.b a0)).run P w' = .ok () w₂ ∧ bo.wpIn ((fnc none).inRound (L.b a0)) 0 P (roundPost P (L.b a0) (CPost L S h c w (asLoopC (H.get a0 h') (fun st pe fi' fa' nt' t0 ps' as' b' dn => Bool.rec (.bad 431) (roundB P lf cal a0 bo fi fa nt t' d' (H.set a0 (.loop 1 pe fi' fa' nt' t0 ps' as' b' dn) h') c') (Nat.beq st 0))))) a' w₂
   obtain ⟨st2, pe2, fi2, fa2, nt2, t2, ps2, as2, bo2, dn2, hb2, e3⟩ := asLoopC_good hg2
   rw [e3] at hg2 ⊢
   obtain ⟨hz2, e4⟩ := crec_good hg2
   have hst0 : st2 = 0 := Nat.beq_eq.mp hz2
   rw [e4] at hg2 ⊢
   clear e3 e4 hg
   obtain ⟨rc2, q1, q2, q3, _, _, _, _, _, _, _, _, _, _, q10⟩ := Stp.loopSet h1.rel h1.bd hb2
   have hl : L'.b a0 = L.b a0 := (h1.agr a0 hS).1
   rw [hst0] at q2
   have hst1 := q10 1 pe2 { rc2 with state := .busy } (by rw [← q3]; rfl)
   rw [hl] at q1 hst1
   refine ⟨_, run_beginRound q1 q2, ?_⟩
   have hall := h1.trans hst1
   have hSt2 : St P (some (L.b a0)) (some a0) fa nt t' d' (H.set a0 (.loop 1 pe2 fi2 fa2 nt2 t2 ps2 as2 bo2 dn2) h') c' a' (w'.putObj (L.b a0) (.loop { rc2 with state := .busy })) L' S' :=
    ⟨h2.tm, h2.far, h2.size, h2.dr, hst1.rel, hst1.bd, h2.gok, h2.rdk⟩
   have e5 : roundB P lf cal a0 bo fi fa nt t' d' (H.set a0 (.loop 1 pe2 fi2 fa2 nt2 t2 ps2 as2 bo2 dn2) h') c' =
    R.rec (motive := fun _ => C) (fun n => .bad n) (fun _ _ h c => endR none a0 h c) (fun _ _ h c => endR (some .ret) a0 h c) (fun id _ _ h c => endR (some (.exit id)) a0 h c) (fun _ _ _ _ _ => .bad 429)
     (comp P P.globals.size fa nt fi lf (some a0) bo cal t' d' (H.set a0 (.loop 1 pe2 fi2 fa2 nt2 t2 ps2 as2 bo2 dn2) h') c' .norm) := rfl
   rw [e5] at hg2 ⊢
   generalize hr2 : comp P P.globals.size fa nt fi lf (some a0) bo cal t' d' (H.set a0 (.loop 1 pe2 fi2 fa2 nt2 t2 ps2 as2 bo2 dn2) h') c' .norm = r2 at hg2 ⊢
   have hg3 : r2.Good := by
    intro n hn
    rw [hn] at hg2
    exact hg2 n rfl
   have fin : ∀ (j : Option Code) (L3 : Loc) (S3 : Ns) (h3 : H) (c3 : Nm) (w3 : World), Stp L' S' (H.set a0 (.loop 1 pe2 fi2 fa2 nt2 t2 ps2 as2 bo2 dn2) h') c' (w'.putObj (L.b a0) (.loop { rc2 with state := .busy })) L3 S3 h3 c3 w3 → CGood (endR j a0 h3 c3) →
    ∃ v w4, (Instr.endRound (L.b a0) j).run P w3 = .ok v w4 ∧ CPost L S h c w (endR j a0 h3 c3) (.returned v) w4 := by
    intro j L3 S3 h3 c3 w3 hs3 hgj
    obtain ⟨v, w4, p1, p2⟩ := endR_good (P := P) hs3.rel hs3.bd j hgj
    have hl3 : L3.b a0 = L.b a0 := ((hall.trans hs3).agr a0 hS).1
    rw [hl3] at p1
    exact ⟨v, w4, p1, p2.after (hall.trans hs3)⟩
   refine hcs (some (L.b a0)) (some a0) fa nt fi bo cal t' d' _ c' .norm a' _ L' S' _ hcal hSt2 (by rw [hr2]; exact hg3) ⟨?_, ?_, ?_, ?_⟩ <;> rw [hr2]
   · intro t3 d3 h3 c3 L3 S3 a3 w3 g1 g2 g3
     rw [g3] at hg2 ⊢
     exact fin none L3 S3 h3 c3 w3 g1 hg2
   · intro t3 d3 h3 c3 L3 S3 a3 w3 g1 g2 g3
     rw [g3] at hg2 ⊢
     exact fin (some .ret) L3 S3 h3 c3 w3 g1 hg2
   · intro id t3 d3 h3 c3 L3 S3 a3 w3 g1 g2 g3
     rw [g3] at hg2 ⊢
     exact fin (some (.exit id)) L3 S3 h3 c3 w3 g1 hg2
   · intro ch chain t3 d3 h3 c3 L3 S3 a3 w3 g1 g2 g3 g4
     rw [g4] at hg2
     exact absurd rfl (hg2 429)
 · intro t' d' h' c' L' S' a' w' h1 h2 h3
   rw [h3] at hg
   exact absurd rfl (hg 432)
 · intro id t' d' h' c' L' S' a' w' h1 h2 h3
   rw [h3] at hg
   exact absurd rfl (hg 432)
 · intro ch chain t' d' h' c' L' S' a' w' h1 h2 h3 h4
   rw [h4] at hg
   exact absurd rfl (hg 432)
end
end Go.Ev
