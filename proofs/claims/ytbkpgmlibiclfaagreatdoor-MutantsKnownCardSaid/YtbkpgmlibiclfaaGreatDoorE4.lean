/- Operations that write or make; each operation does what its handler says. -/
import Derived.Test.YtbkpgmlibiclfaaGreatDoorE3
import Derived.Lib.ConvBytes
import Derived.Laws.AppendOwn
set_option maxRecDepth 4000

namespace Go.Ev
section
variable {P : Program} {rd : Option Nat} {L : Loc} {S : Ns} {e : Ce} {o : Oper}
theorem okC_spec (L : Loc) (S : Ns) : ∀ v : V, okC v = true → ((wf S v).k → (∀ y ∈ chv L v, y.oneCell' = true) ∧ tw v = wd v) ∧ ((wf S v).l → (∀ y ∈ lcv L v, y.oneCell' = true) ∧ (lcv L v).length = tw v) := by
 intro v
 induction v with
 | cons a d iha ihd =>
   intro h
   have h' : (okC a && okC d) = true := h
   rw [Bool.and_eq_true] at h'
   refine ⟨fun h => h.elim, fun hw => ?_⟩
   have h1 := (iha h'.1).1 hw.1
   have h2 := (ihd h'.2).2 hw.2
   refine ⟨fun y hy => ?_, ?_⟩
   · rw [den_cons_lc] at hy
     rcases List.mem_append.1 hy with hy | hy
     · exact h1.1 y hy
     · exact h2.1 y hy
   · rw [den_cons_lc, List.length_append, ch_length, h2.2, ← h1.2]; rfl
 | sp w W ih =>
   intro h
   have h' : (Nat.beq w (tw W) && okC W) = true := h
   rw [Bool.and_eq_true, Nat.beq_eq] at h'
   refine ⟨fun hw => ?_, fun h => h.elim⟩
   have h2 := (ih h'.2).2 hw
   have e1 : chv L (.sp w W) = lcv L W := by
    show fit w (lcv L W) = _
    exact fit_self (by rw [h2.2, h'.1])
   exact ⟨by rw [e1]; exact h2.1, h'.1.symm⟩
 | nil => exact fun _ => ⟨fun h => h.elim, fun _ => ⟨fun y hy => (by cases hy), rfl⟩⟩
 | bs l n =>
   refine fun _ => ⟨fun _ => ⟨fun y hy => ?_, rfl⟩, fun h => h.elim⟩
   obtain ⟨j, _, rfl⟩ := List.mem_map.1 hy
   rfl
 | agg w cs _ => intro h; cases h
 | tup vs _ => intro h; cases h
 | x => intro h; cases h
 | u => intro h; cases h
 | f g F C _ _ =>
   refine fun _ => ⟨fun _ => ⟨fun y hy => ?_, rfl⟩, fun h => h.elim⟩
   rw [List.mem_singleton.1 hy]; rfl
 | ifc t W _ =>
   refine fun _ => ⟨fun _ => ⟨fun y hy => ?_, rfl⟩, fun h => h.elim⟩
   rw [List.mem_singleton.1 hy]; rfl
 | se nm off wd' =>
   refine fun _ => ⟨fun _ => ⟨fun y hy => ?_, rfl⟩, fun h => h.elim⟩
   rw [List.mem_singleton.1 hy]
   show (endSl _ _ _ _).oneCell' = true
   unfold endSl
   split <;> rfl
 | _ =>
   refine fun _ => ⟨fun _ => ⟨fun y hy => ?_, rfl⟩, fun h => h.elim⟩
   rw [List.mem_singleton.1 hy]; rfl
def putA (arr : Array Value) (o : Nat) (vs : List Value) : Array Value := (arr.toList.take o ++ (vs ++ arr.toList.drop (o + vs.length))).toArray
theorem putA_size {arr : Array Value} {o : Nat} {vs : List Value} (h : o + vs.length ≤ arr.size) : (putA arr o vs).size = arr.size := by
 simp [putA]; omega
theorem put_take {l y : List Value} {N o m : Nat} (hy : y.length = m) (h : o + m ≤ N) (hN : N ≤ l.length) : (l.take o ++ (y ++ l.drop (o + m))).take N = (l.take N).take o ++ (y ++ (l.take N).drop (o + m)) := by
 rw [List.take_append, List.length_take, Nat.min_eq_left (by omega), List.take_of_length_le (l := l.take o) (by rw [List.length_take]; omega), List.take_take, Nat.min_eq_left (by omega : o ≤ N), List.take_append, hy, List.take_of_length_le (l := y) (by omega), List.drop_take]
 congr 3; omega
theorem setCells_heap (b el : Nat) (fr : Nat × Nat) : ∀ (vs : List Value) (o : Nat) (w : World) (arr : Array Value), w.heap[b]? = some (.cells arr el fr) → o + vs.length ≤ arr.size →
 (w.setCells b o vs).heap = w.heap.setIfInBounds b (.cells (putA arr o vs) el fr)
 | [], o, w, arr, hw, _ => by
   have : putA arr o [] = arr := by simp [putA]
   rw [this, set_same hw]; rfl
 | v :: r, o, w, arr, hw, h => by
   have hh : (w.setCell ⟨b, o, none⟩ v).heap[b]? = some (.cells (arr.setIfInBounds o v) el fr) := by
    show (w.heap.modify b _)[b]? = _
    rw [Array.getElem?_modify, if_pos rfl, hw]; rfl
   simp only [List.length_cons] at h
   rw [World.setCells, setCells_heap b el fr r (o + 1) _ _ hh (by rw [Array.size_setIfInBounds]; omega)]
   have e1 : putA (arr.setIfInBounds o v) (o + 1) r = putA arr o (v :: r) := by
    apply Array.ext'
    simp only [putA, Array.toList_setIfInBounds, List.length_cons]
    have hl : o < arr.toList.length := by rw [Array.length_toList]; omega
    rw [List.drop_set_of_lt (by omega), List.take_set, List.take_succ_eq_append_getElem hl, List.set_append_right _ _ (by simp; omega)]
    simp [Nat.min_eq_left (show o ≤ arr.size by omega), Nat.add_comm, Nat.add_left_comm]
   rw [e1]
   apply Array.ext_getElem?
   intro j
   show ((w.heap.modify b _).setIfInBounds b _)[j]? = _
   rw [Array.getElem?_setIfInBounds, Array.getElem?_setIfInBounds, Array.getElem?_modify, Array.size_modify]
   by_cases hj : b = j
   · simp [hj]
   · simp [hj]
theorem setCells_out (b : Nat) : ∀ (vs : List Value) (o : Nat) (w : World), WOut w (w.setCells b o vs)
 | [], _, w => WOut.refl w
 | v :: r, o, w => by
   have h1 : WOut w (w.setCell ⟨b, o, none⟩ v) := ⟨rfl, rfl, rfl⟩
   exact h1.trans (setCells_out b r (o + 1) _)
theorem notRo_row {el sz N fz of m : Nat} {op : Bool} {cs : V} (hle : of + m ≤ N) (hm : 0 < m) (hfz : fz ≤ of) : isRo (.row el sz N op fz cs) = false := by
 have : ¬ N ≤ fz := by omega
 cases op <;> simp [isRo, this]
theorem BR.put {nm : Nm} {el el2 sz N fz of : Nat} {op : Bool} {cs y : V} {m : Nat} {arr : Array Value} {fr : Nat × Nat} (h : BR L S nm (.row el sz N op fz cs) (.cells arr el2 fr)) (hy : (wf S y).k) (hw : wd y = m) (hm : 0 < m) (hle : of + m ≤ N) :
 BR L S nm (.row el sz N op fz (setC cs of m y)) (.cells (putA arr of (chv L y)) el2 fr) := by
 obtain ⟨h1, h2, h3, h4⟩ := id h
 obtain ⟨arr', fr', el3, hq, hcs, _, htk, hN, _, _⟩ := h.row
 cases hq
 have hs := (setC_spec L S hy hw hm cs).2 hcs of
 have hlen : (chv L y).length = m := by rw [ch_length, hw]
 have hsz : (putA arr of (chv L y)).size = arr.size := putA_size (by omega)
 refine ⟨h1, hs.2, by rw [hsz]; exact h3, ?_⟩
 have htk' : (putA arr of (chv L y)).toList.take N = fit N (lcv L (setC cs of m y)) := by
  rw [hs.1, fit_put _ _ hlen hle, ← htk]
  show ((arr.toList.take of ++ (chv L y ++ arr.toList.drop (of + (chv L y).length)))).take N = _
  rw [hlen]
  exact put_take hlen hle (by rw [Array.length_toList]; exact hN)
 cases op
 · simp only [Bool.false_eq_true, if_false] at h4 ⊢
   have hNs : N = arr.size := by rw [← Array.length_toList, h4, fit_length]
   rw [← htk', List.take_of_length_le (by rw [Array.length_toList, hsz, hNs]; exact Nat.le_refl _)]
 · simp only [if_true] at h4 ⊢
   exact ⟨htk', by rw [hsz]; exact h4.2⟩
theorem put_step {h : H} {c nm : Nm} {w : World} {el sz N fz of m : Nat} {op : Bool} {cs y : V} (hr : Rel L S h w) (hb : Bd S c) (hn : H.get nm h = .row el sz N op fz cs) (hy : (wf S y).k) (hw : wd y = m) (hm : 0 < m) (hle : of + m ≤ N) (hfz : fz ≤ of) (hok : okC y = true) :
 ∃ w', (storeCells ⟨L.b nm, of, none⟩ (chv L y)).run P w = .ok () w' ∧ Stp L S h c w L S (H.set nm (.row el sz N op fz (setC cs of m y)) h) c w' := by
 obtain ⟨hS, ob, hob, hbr⟩ := hr.blk nm (by rw [hn]; simp)
 rw [hn] at hbr
 obtain ⟨arr, fr, el2, rfl, hcs, hfr, htk, hN, _, _⟩ := hbr.row
 have hlen : (chv L y).length = m := by rw [ch_length, hw]
 have hone := ((okC_spec L S y hok).1 hy).1
 have hcell : ∀ j, j < (chv L y).length → (w.cell? ⟨L.b nm, of + 0 + j, none⟩).isSome = true := fun j hj => by
  rw [cell_of_row w _ _ arr el2 fr hob, Nat.add_zero, Array.getElem?_eq_getElem (by omega)]; rfl
 have hfrz : ∀ j, j < (chv L y).length → w.frozen? ⟨L.b nm, of + 0 + j, none⟩ = false := fun j hj => by
  have := hfr.2 (of + 0 + j) (by omega) (by omega)
  obtain ⟨f1, f2⟩ := fr
  simp only [World.frozen?, hob]
  rw [Bool.eq_false_iff]
  intro hh
  rw [Bool.and_eq_true, decide_eq_true_eq, decide_eq_true_eq] at hh
  exact this hh
 have hrun := run_storeCells_cells (P := P) (L.b nm) of (chv L y) 0 w hcell hfrz hone
 rw [Nat.add_zero] at hrun
 have hheap := setCells_heap (L.b nm) el2 fr (chv L y) of w arr hob (by omega)
 have hlt := lt_size hob
 refine ⟨_, hrun, Stp.put hr hb (by rw [hn]; simp) (hbr.put hy hw hm hle) ?_ (fun r hne => ?_) ?_ (by rw [hn]; exact notRo_row hle hm hfz) (setCells_out _ _ _ _)⟩
 · rw [hheap, Array.getElem?_setIfInBounds, if_pos rfl, if_pos hlt]
 · rw [hheap, Array.getElem?_setIfInBounds, if_neg (Ne.symm hne)]
 · rw [hheap]; simp
theorem WS.store {t : TypeId} {x y : Operand} (ho : o.op = .store t x y) (hk : okT P t = true) (hp : 0 < szT P t) : WS P L S e o (hStore (isAggT P t) (szT P t) (cOpd e x) (cOpd e y)) := by
 obtain ⟨⟨d, hd⟩, ⟨i, hi⟩, h1⟩ := okT_spec hk
 intro cal a ns T dd h c w k hm hr hb hg
 obtain ⟨nm, of, hx, e1⟩ := asP_good hg
 have g1 := good_of e1 hg
 obtain ⟨hne, ck, e2, hck⟩ := toCk_good (c := S) (L := L) g1
 have g2 := good_of e2 g1
 obtain ⟨el, s, N, op, fz, cs, hn, e3⟩ := asRow_good g2
 have g3 := good_of e3 g2
 obtain ⟨h4, e4⟩ := rec_good (z := Nat.ble (Nat.add of (szT P t)) N) g3
 have g4 := good_of e4 g3
 obtain ⟨h5, e5⟩ := rec_good (z := Nat.ble fz of) g4
 have g5 := good_of e5 g4
 obtain ⟨h6, e6⟩ := rec_good (z := okC ck) g5
 rw [Nat.ble_eq] at h4 h5
 have vx := hm.at x hx (by simp)
 have vy := hm y hne
 obtain ⟨hc1, hc2, hc3⟩ := hck vy.2
 have hw : wd ck = szT P t := by
  rw [hc3]
  cases hz : isAggT P t
  · simp [h1 hz]
  · simp
 obtain ⟨w', hrun, hst⟩ := put_step (P := P) hr hb hn hc2 hw hp h4 h5 h6
 refine ⟨.u, _, c, L, S, w', .skip, e1.trans (e2.trans (e3.trans (e4.trans (e5.trans e6)))), hst, trivial, ?_, .inr ⟨rfl, rfl⟩⟩
 have hx1 : a.eval x = .pointer (some ⟨L.b nm, of, none⟩) := vx.1
 have hsz : (sizeOf t).run P w = .ok (szT P t) w := run_sizeOf w hi
 have hcs : (a.eval y).cells.size = szT P t := by
  rw [vy.1, ← Array.length_toList, ← hc1, ch_length, hw]
 rw [hc1, ← vy.1] at hrun
 have : (Instr.storeAt t (a.eval x) (a.eval y)).run P w = .ok () w' := by
  simp only [Instr.storeAt, hx1, Instr.sureAddr, Sem.run_bind, Sem.run_pure, Result.andThen_ok, storeVar, hsz, hcs, ne_eq, not_true_eq_false, if_false, hrun]
 simp [execOp, ho, this]
end
end Go.Ev

namespace Go.Ev
section
variable {P : Program} {rd : Option Nat} {S : Ns} {e : Ce} {o : Oper}
theorem zeroCh_spec {t : TypeId} {z : V} (h : zeroCh P t = some z) : ∃ i zv, P.info? t = some i ∧ i.zero = some zv ∧ i.size = szT P t ∧ (∀ L : Loc, zv.cells.toList = fit (szT P t) (lcv L z)) ∧ (∀ c : Ns, (wf c z).l) := by
 unfold zeroCh at h
 have key : ∀ (v : V), zeroOf P t = v → (wfb v).v = true → ∃ i, P.info? t = some i ∧ (∀ L, i.zero = some (val L v)) ∧ i.size = szT P t := by
  intro v hv hw
  obtain ⟨i, hi, _⟩ := zeroOf_spec (P := P) (L := ⟨fun _ => 0, fun _ => 0⟩) (t := t) (by rw [hv]; exact hw)
  refine ⟨i, hi, fun L => ?_, by simp [szT, Program.cellsOf, hi]⟩
  obtain ⟨i', hi', h0⟩ := zeroOf_spec (P := P) (L := L) (t := t) (by rw [hv]; exact hw)
  rw [hi] at hi'; cases hi'
  rw [h0, hv]
 have sc : ∀ (v : V), zeroOf P t = v → (if (szT P t == 1 && (wfb v).v && isSc v) = true then some (V.cons v .nil) else none) = some z → ∃ i zv, P.info? t = some i ∧ i.zero = some zv ∧ i.size = szT P t ∧ (∀ L : Loc, zv.cells.toList = fit (szT P t) (lcv L z)) ∧ (∀ c : Ns, (wf c z).l) := by
  intro v hv hif
  split at hif
  · rename_i hc
    rw [Bool.and_eq_true, Bool.and_eq_true, beq_iff_eq] at hc
    cases hif
    obtain ⟨i, hi, h0, hs⟩ := key v hv hc.1.2
    have hsc := isSc_spec hc.2
    refine ⟨i, _, hi, h0 ⟨fun _ => 0, fun _ => 0⟩, hs, fun L => ?_, fun c => ⟨hsc.2.2.1 c ((wfb_wf (c := c) v).1 hc.1.2), trivial⟩⟩
    have e1 : val ⟨fun _ => 0, fun _ => 0⟩ v = val L v := by
     have h1 := h0 ⟨fun _ => 0, fun _ => 0⟩
     rw [h0 L] at h1
     exact (Option.some.inj h1).symm
    rw [e1, hsc.2.2.2.2 L]
    show [val L v] = fit (szT P t) (chv L v ++ [])
    rw [hsc.2.1 L, hc.1.1, fit_self (by simp)]; rfl
  · cases hif
 cases hv : zeroOf P t with
 | agg w cs =>
   rw [hv] at h
   simp only at h
   split at h
   · rename_i hc
     rw [Bool.and_eq_true, beq_iff_eq] at hc
     cases h
     obtain ⟨i, hi, h0, hs⟩ := key _ hv hc.2
     refine ⟨i, _, hi, h0 ⟨fun _ => 0, fun _ => 0⟩, hs, fun L => ?_, fun c => (wfb_wf (c := c) (.agg w z)).1 hc.2⟩
     have e1 : val ⟨fun _ => 0, fun _ => 0⟩ (.agg w z) = val L (.agg w z) := by
      have h1 := h0 ⟨fun _ => 0, fun _ => 0⟩
      rw [h0 L] at h1
      exact (Option.some.inj h1).symm
     rw [e1, ← hc.1]; rfl
   · cases h
 | _ => rw [hv] at h; exact sc _ hv h
theorem fr0 (fz n : Nat) {sz : Nat} : frOk fz n sz (0, 0) := ⟨.inr ⟨Nat.le_refl _, .inl rfl⟩, fun _ _ _ h => Nat.not_lt_zero _ h.2⟩
theorem BR.new {L : Loc} {nm : Nm} {el sz N : Nat} {cs : V} {arr : Array Value} (hw : (wf S cs).l) (h : arr.toList = fit N (lcv L cs)) : BR L S nm (.row el sz N false 0 cs) (.cells arr el (0, 0)) :=
 ⟨.inl rfl, hw, fr0 _ _, by simpa using h⟩
section
variable {L : Loc}
theorem put_lc {n : Nm} {b k : Nat} {cs : V} (hn : ¬ S n) (hw : (wf S cs).l) : lcv (L.put n b k) cs = lcv L cs ∧ (wf (addN S n) cs).l :=
 ⟨(den_congr (Loc.put_agr b k hn) cs).2.2.1 hw, (wf_mono (fun _ h => .inl h) cs).2.2.1 hw⟩
theorem AS.alloc {el : TypeId} (ho : o.op = .alloc el) {z : V} (hz : zeroCh P el = some z) : AS P L S e o (hAlloc el (szT P el) z) := by
 intro a ns T q _ _
 obtain ⟨i, zv, hi, h0, hs, hc, hw⟩ := zeroCh_spec hz
 refine ⟨fun a => .p a 0, .row el (szT P el) (szT P el) false 0 z, rfl, fun n w hn => ⟨{ w with heap := w.heap.push (.cells zv.cells el (0, 0)) }, _, 0, ?_, rfl, ⟨rfl, rfl, rfl⟩, BR.new (hw _) (hc _), .inr rfl⟩⟩
 have hzr := run_zeroValue_of (P := P) hi h0 w
 simp only [execOp, ho, Instr.alloc, Sem.run_bind, hzr, Result.andThen_ok, newVar, newRow, run_newObj, Sem.run_pure]
 show Result.ok (Next.value (Value.pointer (some ⟨w.heap.size, 0, none⟩))) _ = Result.ok (Next.value (Value.pointer (some ⟨(L.put n w.heap.size 0).b n, 0, none⟩))) _
 rw [Loc.put_b]
theorem AS.box {el : TypeId} {x : Operand} (ho : o.op = .box el x) (hk : okT P el = true) : AS P L S e o (hBox el (szT P el) (isAggT P el) (cOpd e x)) := by
 intro a ns T q hm hg
 obtain ⟨hne, y, e1, hy⟩ := toCk_good (c := S) (L := L) hg
 have vx := hm x hne
 obtain ⟨h1, h2, h3⟩ := hy vx.2
 have hwd : wd y = szT P el := by
  rw [h3]
  cases hz : isAggT P el
  · simp [(okT_spec hk).2.2 hz]
  · simp
 refine ⟨fun a => .p a 0, .row el (szT P el) (szT P el) false 0 (.cons y .nil), e1, fun n w hn => ?_⟩
 have hwy : (wf S (V.cons y .nil)).l := ⟨h2, trivial⟩
 have hp := put_lc (L := L) (b := w.heap.size) (k := 0) hn hwy
 refine ⟨{ w with heap := w.heap.push (.cells (a.eval x).cells el (0, 0)) }, _, 0, ?_, rfl, ⟨rfl, rfl, rfl⟩, BR.new hp.2 ?_, .inr rfl⟩
 · simp only [execOp, ho, Instr.box, Sem.run_bind, newVar, newRow, run_newObj, Result.andThen_ok, Sem.run_pure]
   show Result.ok (Next.value (Value.pointer (some ⟨w.heap.size, 0, none⟩))) _ = Result.ok (Next.value (Value.pointer (some ⟨(L.put n w.heap.size 0).b n, 0, none⟩))) _
   rw [Loc.put_b]
 · rw [hp.1, vx.1, ← h1]
   show chv L y = fit _ (chv L y ++ [])
   rw [List.append_nil, fit_self (by rw [ch_length, hwd])]
theorem repK_spec (L : Loc) {y : V} (hy : (wf S y).k) (n : Nat) : lcv L (repK y n) = (List.replicate n (chv L y)).flatten ∧ (wf S (repK y n)).l := by
 have gen : ∀ y : V, (wf S y).k → lcv L (Nat.rec (motive := fun _ => V) .nil (fun _ ih => .cons y ih) n) = (List.replicate n (chv L y)).flatten ∧ (wf S (Nat.rec (motive := fun _ => V) .nil (fun _ ih => .cons y ih) n : V)).l := by
  intro y hy
  induction n with
  | zero => exact ⟨rfl, trivial⟩
  | succ n ih =>
    refine ⟨?_, hy, ih.2⟩
    rw [List.replicate_succ, List.flatten_cons, ← ih.1]; rfl
 cases y with
 | i k m =>
   show lcv L (Bool.rec (Nat.rec (motive := fun _ => V) .nil (fun _ ih => .cons (.i k m) ih) n) (.cons (.bs n 0) .nil) (Bool.and (Nat.beq k 4) (isZ m)) : V) = _ ∧ (wf S (Bool.rec (Nat.rec (motive := fun _ => V) .nil (fun _ ih => .cons (.i k m) ih) n) (.cons (.bs n 0) .nil) (Bool.and (Nat.beq k 4) (isZ m)) : V)).l
   cases hz : Bool.and (Nat.beq k 4) (isZ m)
   · exact gen _ hy
   · have hz' : (Nat.beq k 4 && isZ m) = true := hz
     rw [Bool.and_eq_true, Nat.beq_eq, isZ_eq, decide_eq_true_eq] at hz'
     obtain ⟨rfl, rfl⟩ := hz'
     refine ⟨?_, ⟨Nat.two_pow_pos _, trivial⟩⟩
     show (List.range n).map (fun j => iv 4 (byteAt 0 j)) ++ [] = (List.replicate n [iv 4 0]).flatten
     rw [List.append_nil, List.flatten_replicate_singleton]
     have : ∀ j, iv 4 (byteAt 0 j) = iv 4 0 := fun j => by
      congr 1
      rw [byteAt_eq]; simp
     simp only [this]
     rw [List.map_const', List.length_range]
 | _ => exact gen _ hy
theorem mod_flat {l : List Value} {d : Value} (_ : 0 < l.length) : ∀ n, (List.range (n * l.length)).map (fun i => l[i % l.length]?.getD d) = (List.replicate n l).flatten := by
 intro n
 apply List.ext_getElem?
 intro i
 induction n generalizing i with
 | zero => simp
 | succ n ih =>
   rw [List.replicate_succ, List.flatten_cons, List.getElem?_append, List.getElem?_map]
   by_cases hi : i < l.length
   · rw [if_pos hi, List.getElem?_range (by rw [Nat.succ_mul]; omega), Option.map_some, Nat.mod_eq_of_lt hi, List.getElem?_eq_getElem hi]; try rfl
   · rw [if_neg hi, ← ih (i - l.length), List.getElem?_map]
     by_cases h2 : i < (n + 1) * l.length
     · rw [List.getElem?_range h2, List.getElem?_range (by rw [Nat.succ_mul] at h2; omega), Option.map_some, Option.map_some, Nat.mod_eq_sub_mod (by omega)]
     · rw [List.getElem?_eq_none (by rw [List.length_range]; omega), List.getElem?_eq_none (by rw [List.length_range]; rw [Nat.succ_mul] at h2; omega)]; try rfl
end
end
end Go.Ev

namespace Go.Ev
section
variable {P : Program} {rd : Option Nat} {S : Ns} {e : Ce} {o : Oper} {L : Loc}
theorem zeros_spec {t : TypeId} {z : V} (hz : zeroCh P t = some z) (hp : 0 < szT P t) : ∃ i zv, P.info? t = some i ∧ i.zero = some zv ∧ i.size = szT P t ∧ (∀ (L : Loc) (n : Nat), ((Array.range (n * szT P t)).map fun j => zv.cells[j % zv.cells.size]!).toList = fit (n * szT P t) (lcv L (repK (mkSp z (szT P t)) n))) ∧ (∀ (c : Ns) (n : Nat), (wf c (repK (mkSp z (szT P t)) n)).l) ∧
 zv.cells.size = szT P t ∧ ∀ (L : Loc) (n : Nat), (lcv L (repK (mkSp z (szT P t)) n)).length = n * szT P t := by
 obtain ⟨i, zv, hi, h0, hs, hc, hw⟩ := zeroCh_spec hz
 have hlen : zv.cells.size = szT P t := by rw [← Array.length_toList, hc ⟨fun _ => 0, fun _ => 0⟩, fit_length]
 have hm := fun (L : Loc) (c : Ns) => mkSp_spec L c (szT P t) (hw c)
 have hfl : ∀ (L : Loc) (n : Nat), lcv L (repK (mkSp z (szT P t)) n) = (List.replicate n zv.cells.toList).flatten := fun L n => by
  rw [(repK_spec L (hm L (fun _ => True)).2.2 n).1, (hm L (fun _ => True)).1, hc L]
 have hlf : ∀ (L : Loc) (n : Nat), (lcv L (repK (mkSp z (szT P t)) n)).length = n * szT P t := fun L n => by
  rw [hfl]; simp [List.length_flatten, hlen]
 refine ⟨i, zv, hi, h0, hs, fun L n => ?_, fun c n => (repK_spec ⟨fun _ => 0, fun _ => 0⟩ (hm ⟨fun _ => 0, fun _ => 0⟩ c).2.2 n).2, hlen, hlf⟩
 rw [fit_self (hlf L n), hfl]
 have hl' : zv.cells.toList.length = szT P t := by rw [Array.length_toList, hlen]
 have := mod_flat (l := zv.cells.toList) (d := default) (by rw [hl']; exact hp) n
 rw [hl'] at this
 rw [← this]
 simp only [Array.toList_map, Array.toList_range, hlen]
 apply List.map_congr_left
 intro j _
 have hj : j % szT P t < zv.cells.size := by rw [hlen]; exact Nat.mod_lt _ hp
 rw [getElem!_pos zv.cells _ hj, ← Array.getElem_toList, List.getElem?_eq_getElem (by rw [Array.length_toList]; exact hj)]; rfl
theorem cBuildSl_sound {t : TypeId} {len : Nat} {ps : Array (Nat × Operand)} (ho : o.op = .buildSlice t len ps) {f : AH} (hc : cBuildSl P t len (cOpd e) ps.toList = .a f) : AS P L S e o f := by
 unfold cBuildSl at hc
 cases hu : P.underlying t with
 | none => rw [hu] at hc; cases hc
 | some d =>
 rw [hu] at hc
 cases d with
 | slice el =>
   simp only at hc
   cases hz : zeroCh P el with
   | none => rw [hz] at hc; cases hc
   | some z =>
     rw [hz] at hc
     simp only at hc
     cases hps : cParts P (fun i => some (i * szT P el, el)) (cOpd e) ps.toList (len * szT P el) with
     | none => rw [hps] at hc; cases hc
     | some l =>
       rw [hps] at hc
       simp only at hc
       split at hc
       · rename_i hk
         rw [Bool.and_eq_true, decide_eq_true_eq, decide_eq_true_eq] at hk
         injection hc with hc
         subst hc
         intro a ns T q hm hg
         obtain ⟨i, zv, hi, h0, hs, hcells, hw, hzs, _⟩ := zeros_spec hz hk.1
         obtain ⟨cs', cells', e1, h1, h2, h3⟩ := hParts_good (L := L) (c := S) (pl := fun i => some (i * szT P el, szT P el)) (fun i o t h => by simp only [Option.some.injEq, Prod.mk.injEq] at h ⊢; obtain ⟨h1, h2⟩ := h; subst h2; exact ⟨h1, rfl⟩) hm ps.toList l (repK (mkSp z (szT P el)) len)
          ((Array.range (len * szT P el)).map fun j => zv.cells[j % zv.cells.size]!) _ hps (hw S len) (hcells L len) hg
         refine ⟨fun a => .sl a 0 len len, .row el (szT P el) (Nat.mul len (szT P el)) false 0 cs', e1, fun n w hn => ?_⟩
         have hp := put_lc (L := L) (b := w.heap.size) (k := 0) hn h1
         refine ⟨{ w with heap := w.heap.push (.cells cells' el (0, 0)) }, _, 0, ?_, rfl, ⟨rfl, rfl, rfl⟩, BR.new hp.2 (by rw [hp.1]; exact h3), .inr rfl⟩
         have hzr := run_zeroValue_of (P := P) hi h0 w
         have hsz : (sizeOf el).run P w = .ok (szT P el) w := run_sizeOf w hi
         have hpl : (ps.map fun (x : Nat × Operand) => (x.1, a.eval x.2)).toList = ps.toList.map fun p => (p.1, a.eval p.2) := by simp
         have hnb : ¬ (len * szT P el > 2 ^ 24) := by have := hk.2; omega
         have fin : Result.ok (Next.value (Value.slice (some ⟨w.heap.size, 0, none⟩) len len)) { w with heap := w.heap.push (.cells cells' el (0, 0)) } = Result.ok (Next.value (val (L.put n w.heap.size 0) (.sl n 0 len len))) { w with heap := w.heap.push (.cells cells' el (0, 0)) } := by
          show _ = Result.ok (Next.value (Value.slice (some ⟨(L.put n w.heap.size 0).b n, 0, none⟩) len len)) _
          rw [Loc.put_b]
         by_cases h00 : len * szT P el = 0
         · have hcz : (Array.range (len * szT P el)).map (fun j => (#[] : Array Value)[j % (#[] : Array Value).size]!) = (Array.range (len * szT P el)).map fun j => zv.cells[j % zv.cells.size]! := by simp [h00]
           simp only [execOp, ho, Instr.buildSlice, Sem.run_bind, run_underlying hu, Result.andThen_ok, hsz, if_neg hnb, Sem.run_pure, if_pos h00, hcz, hpl, h2, newRow, run_newObj]
           exact fin
         · simp only [execOp, ho, Instr.buildSlice, Sem.run_bind, run_underlying hu, Result.andThen_ok, hsz, if_neg hnb, Sem.run_pure, if_neg h00, hzr, hpl, h2, newRow, run_newObj]
           exact fin
       · cases hc
 | _ => cases hc
theorem asN_small {k n : Nat} (_ : (wf S (.i k n)).v) (hn : n < 9223372036854775808) : IntKind.i64.wrap (n : Int) = n := by
 rw [wrap_val .i64 (show n < 2 ^ 64 from Nat.lt_of_lt_of_le hn (by decide)), if_neg]
 rintro ⟨_, h2⟩
 have h3 : (2 : Nat) ^ (IntKind.i64.bits - 1) = 9223372036854775808 := rfl
 rw [h3] at h2; omega
theorem cMakeSl_sound {t : TypeId} {x y : Operand} (ho : o.op = .makeSlice t x y) {f : AH} (hc : cMakeSl P t (cOpd e x) (cOpd e y) = .a f) : AS P L S e o f := by
 unfold cMakeSl at hc
 cases hu : P.underlying t with
 | none => rw [hu] at hc; cases hc
 | some d =>
 rw [hu] at hc
 cases d with
 | slice el =>
   simp only at hc
   cases hz : zeroCh P el with
   | none => rw [hz] at hc; cases hc
   | some z =>
     rw [hz] at hc
     simp only at hc
     split at hc
     · rename_i hk
       rw [Bool.and_eq_true, decide_eq_true_eq] at hk
       injection hc with hc
       subst hc
       intro a ns T q hm hg
       obtain ⟨i, zv, hi, h0, hs, hcells, hw, hzs, _⟩ := zeros_spec hz hk.1
       have hby : i.bytes ≤ 1048576 := by
        have := hk.2
        unfold bytesOk at this
        rw [hi] at this
        simpa using this
       obtain ⟨kx, l, hx, e1, vx0⟩ := asN_good (c := S) hg
       have g1 := good_of e1 hg
       obtain ⟨ky, cc, hy, e2, vy0⟩ := asN_good (c := S) g1
       have g2 := good_of e2 g1
       obtain ⟨h3, e3⟩ := rec_good (z := Nat.ble l cc) g2
       have g3 := good_of e3 g2
       obtain ⟨h4, e4⟩ := rec_good (z := Nat.ble cc 1048576) g3
       rw [Nat.ble_eq] at h3 h4
       have vx := hm.at x hx (by simp)
       have vy := hm.at y hy (by simp)
       have hx1 := vx.1.trans (vx0 vx.2 L)
       have hy1 := vy.1.trans (vy0 vy.2 L)
       refine ⟨fun a => .sl a 0 l cc, .row el (szT P el) (Nat.mul cc (szT P el)) false 0 (repK (mkSp z (szT P el)) cc), e1.trans (e2.trans (e3.trans e4)), fun n w hn => ?_⟩
       refine ⟨{ w with heap := w.heap.push (.cells ((Array.range (cc * szT P el)).map fun j => zv.cells[j % zv.cells.size]!) el (0, 0)) }, _, 0, ?_, rfl, ⟨rfl, rfl, rfl⟩, BR.new (hw _ _) (hcells _ _), .inr rfl⟩
       have hzr := run_zeroValue_of (P := P) hi h0 w
       have hsz : (sizeOf el).run P w = .ok (szT P el) w := run_sizeOf w hi
       have w1 : IntKind.i64.wrap (l : Int) = l := asN_small (S := S) vx.2 (by omega)
       have w2 : IntKind.i64.wrap (cc : Int) = cc := asN_small (S := S) vy.2 (by omega)
       have hbig : ¬ ((i.bytes : Int) * (cc : Int) > 2 ^ 48) := by
        have h5 : i.bytes * cc ≤ 1048576 * 1048576 := Nat.mul_le_mul hby h4
        have h6 : ((i.bytes * cc : Nat) : Int) ≤ ((1048576 * 1048576 : Nat) : Int) := Int.ofNat_le.2 h5
        rw [Int.natCast_mul] at h6
        omega
       have hcond : ((decide ((cc : Int) < 0) || decide ((i.bytes : Int) * (cc : Int) > 2 ^ 48)) || decide ((l : Int) < 0) || decide ((l : Int) > (cc : Int))) = false := by
        simp only [hbig, decide_false, Bool.or_false, Bool.or_eq_false_iff, decide_eq_false_iff_not]
        refine ⟨⟨?_, ?_⟩, ?_⟩ <;> omega
       have fin : Result.ok (Next.value (Value.slice (some ⟨w.heap.size, 0, none⟩) l cc)) { w with heap := w.heap.push (.cells ((Array.range (cc * szT P el)).map fun j => zv.cells[j % zv.cells.size]!) el (0, 0)) } = Result.ok (Next.value (val (L.put n w.heap.size 0) (.sl n 0 l cc))) { w with heap := w.heap.push (.cells ((Array.range (cc * szT P el)).map fun j => zv.cells[j % zv.cells.size]!) el (0, 0)) } := by
        show _ = Result.ok (Next.value (Value.slice (some ⟨(L.put n w.heap.size 0).b n, 0, none⟩) l cc)) _
        rw [Loc.put_b]
       have hai : ∀ (k : IntKind) (m : Int), (asInt (.int k m)).run P w = .ok m w := fun k m => rfl
       have hti : (typeInfo el).run P w = .ok i w := run_typeInfo w hi
       have hcond' : ((decide ((cc : Int) < 0) || decide ((i.bytes : Int) * (cc : Int) > 2 ^ 48)) || decide ((l : Int) < 0) || decide ((l : Int) > (cc : Int))) = true ↔ False := by rw [hcond]; simp
       by_cases h00 : cc * szT P el = 0
       · have hcz : (Array.range (cc * szT P el)).map (fun j => (#[] : Array Value)[j % (#[] : Array Value).size]!) = (Array.range (cc * szT P el)).map fun j => zv.cells[j % zv.cells.size]! := by simp [h00]
         simp only [execOp, ho, Instr.makeSlice, Sem.run_bind, run_underlying hu, Result.andThen_ok, hx1, hy1, hai, hti, w1, w2, hcond, Bool.false_eq_true, if_false, run_askRoom, Int.toNat_natCast, hsz, if_pos h00, Sem.run_pure, hcz, newRow, run_newObj]
         exact fin
       · simp only [execOp, ho, Instr.makeSlice, Sem.run_bind, run_underlying hu, Result.andThen_ok, hx1, hy1, hai, hti, w1, w2, hcond, Bool.false_eq_true, if_false, run_askRoom, Int.toNat_natCast, hsz, if_neg h00, hzr, Sem.run_pure, newRow, run_newObj]
         exact fin
     · cases hc
 | _ => cases hc
end
end Go.Ev

namespace Go.Ev
section
variable {P : Program} {rd : Option Nat} {S : Ns} {e : Ce} {o : Oper} {L : Loc}
theorem cap_ge (w : World) (need old el : Nat) : need ≤ grownCap w need old el := by
 show need ≤ need + _
 omega
theorem heap_push {w w' : World} {ob : Obj} (h1 : ∀ j, j < w.heap.size → w'.heap[j]? = w.heap[j]?) (h2 : w'.heap[w.heap.size]? = some ob) (h3 : w'.heap.size = w.heap.size + 1) : w'.heap = w.heap.push ob := by
 apply Array.ext_getElem?
 intro j
 rw [Array.getElem?_push]
 by_cases hj : j = w.heap.size
 · subst hj; rw [if_pos rfl, h2]
 · rw [if_neg hj]
   by_cases hl : j < w.heap.size
   · exact h1 j hl
   · rw [Array.getElem?_eq_none (by omega), Array.getElem?_eq_none (by omega)]
theorem AS.strBytes {s d el : TypeId} {x : Operand} (ho : o.op = .convert s d x) (hs : P.underlying s = some .string) (hd : P.underlying d = some (.slice el)) (he : P.underlying el = some (.int .u8)) : AS P L S e o (hStrBytes el (cOpd e x)) := by
 intro a ns T q hm hg
 obtain ⟨l, n, hx, e1⟩ := asS_good hg
 have vx := hm.at x hx (by simp)
 have hx1 : a.eval x = .string ⟨(bytesL l n).toArray⟩ := vx.1
 have hn : n < 2 ^ (8 * l) := vx.2
 have hsz : (⟨(bytesL l n).toArray⟩ : ByteArray).size = l := by
  show (bytesL l n).toArray.size = l
  simp [bytesL]
 have g1 := good_of e1 hg
 obtain ⟨hlt63, e2⟩ := rec_good (z := lt l 9223372036854775808) g1
 rw [lt_iff] at hlt63
 refine ⟨fun a => .so a 0 0 l, .row el 1 l true 0 (.cons (.bs l n) .nil), e1.trans e2, fun nm w hnm => ?_⟩
 have hcap := cap_ge w l 0 el
 have hrun := Go.Lib.run_convert_string_bytes (P := P) w s d el ⟨(bytesL l n).toArray⟩ hs hd he
 rw [hsz] at hrun
 refine ⟨_, .cells (Go.Lib.bytesCells w el ⟨(bytesL l n).toArray⟩) el ((Go.Lib.bytesCells w el ⟨(bytesL l n).toArray⟩).size, (Go.Lib.bytesCells w el ⟨(bytesL l n).toArray⟩).size + 1), grownCap w l 0 el - l, ?_,
  heap_push (fun j hj => Go.Lib.bytesWorld_at_old w el ⟨(bytesL l n).toArray⟩ j hj) (Go.Lib.bytesWorld_at_new w el ⟨(bytesL l n).toArray⟩) (Go.Lib.bytesWorld_size w el ⟨(bytesL l n).toArray⟩), ⟨rfl, rfl, rfl⟩, ?_, .inr rfl⟩
 · simp only [execOp, ho, hx1, Sem.run_bind, hrun, Result.andThen_ok, Sem.run_pure]
   show Result.ok (Next.value (Value.slice (some ⟨w.heap.size, 0, none⟩) l (grownCap w l 0 el))) _ = Result.ok (Next.value (Value.slice (some ⟨(L.put nm w.heap.size (grownCap w l 0 el - l)).b nm, 0, none⟩) l (l + 0 + (L.put nm w.heap.size (grownCap w l 0 el - l)).k nm))) _
   rw [Loc.put_b, Loc.put_k, show l + 0 + (grownCap w l 0 el - l) = grownCap w l 0 el by omega]
 · have hcs : (Go.Lib.bytesCells w el ⟨(bytesL l n).toArray⟩).size = grownCap w l 0 el := by
    unfold Go.Lib.bytesCells
    rw [hsz]
    simp [bytesL]; omega
   refine ⟨.inl rfl, ⟨hn, trivial⟩, ⟨.inr ⟨Nat.le_succ _, .inr rfl⟩, fun i _ hi h => ?_⟩, ?_⟩
   · have := h.1; simp only at this; omega
   · rw [if_pos rfl]
     have hmx := grownCap_le_maxLen w l 0 el (by unfold maxLen; omega)
     refine ⟨?_, by rw [hcs, Loc.put_k]; omega, by rw [Loc.put_k]; omega⟩
     show _ = fit l (chv _ (.bs l n) ++ [])
     rw [List.append_nil, fit_self (by rw [ch_length]; rfl), chv_bs]
     unfold Go.Lib.bytesCells
     rw [Array.toList_append, List.take_append_of_le_length (by simp [bytesL])]
     rw [List.take_of_length_le (by simp [bytesL])]
     simp only [Array.toList_map]
     rfl
theorem WS.markS {s el : TypeId} {x : Operand} (ho : o.op = .convert s s x) (hs : P.underlying s = some (.slice el)) (he : P.underlying el = some (.int .u8)) : WS P L S e o (hMarkS (cOpd e x)) := by
 intro cal a ns T dd h c w k hm hr hb hg
 have key : ∀ (nm : Nm) (off l cap : Nat) (v : V), ev (cOpd e x) ns T = v → v ≠ .x → val L v = .slice (some ⟨L.b nm, off, none⟩) l cap →
  (asRow (H.get nm h) (fun _ sz _ _ fz _ => Bool.rec (.bad 57) (k v dd h c) (Bool.and (isZ fz) (Nat.beq sz 1)))).Good →
  ∃ (w' : World), (asRow (H.get nm h) (fun _ sz _ _ fz _ => Bool.rec (.bad 57) (k v dd h c) (Bool.and (isZ fz) (Nat.beq sz 1)))) = k v dd h c ∧ Stp L S h c w L S h c w' ∧ (wf S v).v ∧ (execOp a.eval o).run P w = .ok (.value (val L v)) w' := by
  intro nm off l cap v hx hne hv hg
  obtain ⟨el', sz', N, op, fz, cs, hn, e2⟩ := asRow_good hg
  have g2 := good_of e2 hg
  obtain ⟨h3, e3⟩ := rec_good (z := Bool.and (isZ fz) (Nat.beq sz' 1)) g2
  rw [Bool.and_eq_true, isZ_eq, decide_eq_true_eq, Nat.beq_eq] at h3
  obtain ⟨h3, h3s⟩ := h3
  subst h3
  have vx := hm.at x hx hne
  obtain ⟨hS, ob, hob, hbr⟩ := hr.blk nm (by rw [hn]; simp)
  rw [hn] at hbr
  obtain ⟨arr, fr, el2, rfl, hcs, hfr, htk, hN, hN1, hN2⟩ := hbr.row
  have hsh : w.shape? (L.b nm) = some (el2, arr.size) := by simp [World.shape?, hob]
  obtain ⟨f1, f2⟩ := fr
  let fr' : Nat × Nat := if (f1 == f2) = true then (arr.size, arr.size + 1) else (min f1 arr.size, max f2 (arr.size + 1))
  have hheap : (w.freeze ⟨L.b nm, arr.size, none⟩ 1).heap = w.heap.setIfInBounds (L.b nm) (.cells arr el2 fr') := by
   apply Array.ext_getElem?
   intro j
   show (w.heap.modify (L.b nm) _)[j]? = _
   rw [Array.getElem?_modify, Array.getElem?_setIfInBounds]
   by_cases hj : L.b nm = j
   · subst hj
     rw [if_pos rfl, if_pos rfl, if_pos (lt_size hob), hob]
     rfl
   · rw [if_neg hj, if_neg hj]
  have hlt := lt_size hob
  have hbr' : BR L S nm (.row el' sz' N op 0 cs) (.cells arr el2 fr') := by
   obtain ⟨h1, h2, _, h4⟩ := hbr
   refine ⟨h1, h2, ?_, h4⟩
   obtain ⟨hle, hfr⟩ := hfr
   replace hle : f1 ≤ f2 := (hle.resolve_left (Nat.lt_irrefl 0)).1
   simp only at hfr
   by_cases hf : f1 = f2
   · have : fr' = (arr.size, arr.size + 1) := by simp [fr', hf]
     rw [this]
     exact ⟨.inr ⟨Nat.le_succ _, .inr h3s⟩, fun i _ hi h => by have := h.1; simp only at this; omega⟩
   · have hge : arr.size ≤ f1 := by
      rcases Nat.lt_or_ge f1 arr.size with h | h
      · exact absurd ⟨Nat.le_refl _, by omega⟩ (hfr f1 (Nat.zero_le _) h)
      · exact h
     have : fr' = (min f1 arr.size, max f2 (arr.size + 1)) := by simp [fr', hf]
     rw [this, Nat.min_eq_right hge]
     exact ⟨.inr ⟨by simp only; omega, .inr h3s⟩, fun i _ hi h => by have := h.1; simp only at this; omega⟩
  refine ⟨w.freeze ⟨L.b nm, arr.size, none⟩ 1, e2.trans e3, ?_, vx.2, ?_⟩
  · have := Stp.put (w' := w.freeze ⟨L.b nm, arr.size, none⟩ 1) hr hb (by rw [hn]; simp) hbr' (by rw [hheap, Array.getElem?_setIfInBounds, if_pos rfl, if_pos hlt]) (fun r hne => by rw [hheap, Array.getElem?_setIfInBounds, if_neg (Ne.symm hne)]) (by rw [hheap]; simp) (by rw [hn]; cases op <;> simp [isRo]) ⟨rfl, rfl, rfl⟩
    refine this.ext fun n => ?_
    rw [hget_set]
    split
    · rename_i h; rw [h, hn]
    · rfl
  · have hx1 := vx.1.trans hv
    simp only [execOp, ho, hx1, Sem.run_bind, convert, run_underlying hs, run_underlying he, Result.andThen_ok, beq_self_eq_true, markStringish, run_shape, hsh, run_freeze, Sem.run_pure, hv]
 cases hx : ev (cOpd e x) ns T <;> simp only [hMarkS, hx] at hg ⊢ <;> first
  | exact (bad_good hg).elim
  | skip
 case sl nm off l cap =>
  obtain ⟨w', h1, h2, h3, h4⟩ := key nm off l cap _ hx (by simp) rfl hg
  exact ⟨_, h, c, L, S, w', _, h1, h2, h3, h4, .inl rfl⟩
 case so nm off r l =>
  obtain ⟨w', h1, h2, h3, h4⟩ := key nm off l _ _ hx (by simp) rfl hg
  exact ⟨_, h, c, L, S, w', _, h1, h2, h3, h4, .inl rfl⟩
end
end Go.Ev

namespace Go.Ev
section
variable {P : Program} {rd : Option Nat} {S : Ns} {e : Ce} {o : Oper} {L : Loc}
def Src (P : Program) (L : Loc) (S : Ns) (w : World) (sz : Nat) (v : V) (m : Nat) (ys : V) : Prop :=
 (wf S ys).l ∧ (∀ w' : World, w'.heap = w.heap → (Builtin.lenOf (val L v)).run P w' = .ok m w' ∧ ∀ n, n ≤ m → (Builtin.firstCells sz n (val L v)).run P w' = .ok (fit (n * sz) (lcv L ys)).toArray w')
theorem cell_heap {w w' : World} (h : w'.heap = w.heap) (a : Addr) : w'.cell? a = w.cell? a := by simp [World.cell?, h]
theorem fit_pre {n m : Nat} {l : List Value} (h : n ≤ m) : (fit m l).take n = fit n l := by
 have := fit_part (o := 0) (n := n) (N := m) l (by omega)
 simpa using this
theorem row_src {w : World} {nm : Nm} {el s N fz off l cap sz : Nat} {op : Bool} {cs : V} {ob : Obj} (hob : w.heap[L.b nm]? = some ob) (hbr : BR L S nm (.row el s N op fz cs) ob) (hle : off + l * sz ≤ N) :
 ∀ w' : World, w'.heap = w.heap → ∀ n, n ≤ l → (Builtin.firstCells sz n (.slice (some ⟨L.b nm, off, none⟩) l cap)).run P w' = .ok (fit (n * sz) (lcv L (subC cs off (l * sz)))).toArray w' := by
 intro w' hw n hn
 obtain ⟨arr, fr, el2, rfl, hcs, _, htk, hN, _, _⟩ := hbr.row
 have hsub := (subC_spec L S cs).2 hcs off (l * sz)
 have hnl : n * sz ≤ l * sz := Nat.mul_le_mul_right _ hn
 have hr := row_range hob htk hN (o := off) (n := n * sz) (by omega)
 have e1 : fit (n * sz) (lcv L (subC cs off (l * sz))) = fit (n * sz) ((lcv L cs).drop off) := by
  rw [hsub.1]
  have h1 := fit_take (n := l * sz) ((lcv L cs).drop off)
  rw [← fit_pre hnl, h1, fit_pre hnl]
 rw [e1]
 exact run_firstCells_some (P := P) w' sz n ⟨L.b nm, off, none⟩ l cap _ (by rw [fit_length]) (fun j v hj => by rw [Addr.add_mid, cell_heap hw]; exact hr j v hj)
theorem slCells_good {sz : Nat} {v : V} {h : H} {w : World} {q : Nat → V → R} (hr : Rel L S h w) (hv : (wf S v).v) (hg : (slCells sz v h q).Good) : ∃ m ys, slCells sz v h q = q m ys ∧ Src P L S w sz v m ys := by
 have key : ∀ (nm : Nm) (off l cap : Nat), val L v = .slice (some ⟨L.b nm, off, none⟩) l cap → (asRow (H.get nm h) (fun _ _ N _ _ cs => Bool.rec (.bad 83) (q l (subC cs off (Nat.mul l sz))) (Nat.ble (Nat.add off (Nat.mul l sz)) N))).Good →
  ∃ m ys, (asRow (H.get nm h) (fun _ _ N _ _ cs => Bool.rec (.bad 83) (q l (subC cs off (Nat.mul l sz))) (Nat.ble (Nat.add off (Nat.mul l sz)) N))) = q m ys ∧ Src P L S w sz v m ys := by
  intro nm off l cap hval hg
  obtain ⟨el, s, N, op, fz, cs, hn, e2⟩ := asRow_good hg
  have g2 := good_of e2 hg
  obtain ⟨h3, e3⟩ := rec_good (z := Nat.ble (Nat.add off (Nat.mul l sz)) N) g2
  rw [Nat.ble_eq] at h3
  obtain ⟨hS, ob, hob, hbr⟩ := hr.blk nm (by rw [hn]; simp)
  rw [hn] at hbr
  obtain ⟨arr, fr, el2, hq, hcs, _⟩ := hbr.row
  refine ⟨l, _, e2.trans e3, ((subC_spec L S cs).2 hcs off (l * sz)).2, fun w' hw => ⟨?_, fun n hn => ?_⟩⟩
  · rw [hval]; rfl
  · rw [hval]; exact row_src hob hbr h3 w' hw n hn
 cases v <;> first | exact (bad_good hg).elim | skip
 case s l n =>
  obtain ⟨h1, e1⟩ := rec_good (z := Nat.beq sz 1) hg
  rw [Nat.beq_eq] at h1
  subst h1
  refine ⟨l, _, e1, ⟨hv, trivial⟩, fun w' _ => ⟨?_, fun k hk => ?_⟩⟩
  · show (Builtin.lenOf (.string ⟨(bytesL l n).toArray⟩)).run P w' = _
    have : (⟨(bytesL l n).toArray⟩ : ByteArray).size = l := by show (bytesL l n).toArray.size = l; simp [bytesL]
    simp only [Builtin.lenOf, this, Sem.run_pure]
  · show (Builtin.firstCells 1 k (.string ⟨(bytesL l n).toArray⟩)).run P w' = _
    simp only [Builtin.firstCells, Sem.run_pure, Nat.mul_one]
    congr 1
    show _ = (fit k (chv L (.bs l n) ++ [])).toArray
    rw [List.append_nil, chv_bs, ← fit_pre hk, fit_self (by simp [bytesL])]
    apply Array.ext'
    rw [Array.toList_map, ByteArray.data_extract, Array.toList_extract, List.extract_eq_take_drop, List.drop_zero, Nat.sub_zero]
    simp only [List.map_take]
    rfl
 case sl nm off l cap => exact key nm off l cap rfl hg
 case so nm off r l => exact key nm off l _ rfl hg
 case se nm off wd' =>
  have hv : ∃ ad cap, val L (.se nm off wd') = .slice (some ad) 0 cap := by
   show ∃ ad cap, endSl _ _ _ _ = .slice (some ad) 0 cap
   unfold endSl
   split <;> exact ⟨_, _, rfl⟩
  obtain ⟨ad, cap, hv⟩ := hv
  refine ⟨0, .nil, rfl, trivial, fun w' _ => ⟨by rw [hv]; rfl, fun n hn => ?_⟩⟩
  have : n = 0 := by omega
  subst this
  rw [hv, Nat.zero_mul]
  exact run_firstCells_some (P := P) w' sz 0 ad 0 cap [] (by simp) (fun j v hj => by simp at hj)
 case ns =>
  refine ⟨0, .nil, rfl, trivial, fun w' _ => ⟨rfl, fun n hn => ?_⟩⟩
  have : n = 0 := by omega
  subst this
  show (Builtin.firstCells sz 0 (.slice none 0 0)).run P w' = _
  simp only [Builtin.firstCells, Sem.run_pure, Nat.zero_mul]
  rfl
def AppOk (P : Program) (t u : TypeId) (xv : Value) (el sz m : Nat) (zc : Array Value) (new : List Value) (w : World) : Prop :=
 (∀ (base : Option Addr) (sLen sCap : Nat) (w' : World) (ty : TypeId), sLen + m ≤ sCap → (match base with | none => w' = w | some a => (storeCells (a.add (sLen * sz)) new).run P w = .ok () w') →
  (Builtin.append_ #[t, u] ty #[.slice base sLen sCap, xv]).run P w = .ok (.slice base (sLen + m) sCap) w') ∧
 (∀ (base : Option Addr) (sLen sCap : Nat) (old : List Value) (ty : TypeId), sCap < sLen + m → sLen + m ≤ 1048576 → (∀ w' : World, w'.heap = w.heap → (Builtin.firstCells sz sLen (.slice base sLen sCap)).run P w' = .ok old.toArray w') →
  (Builtin.append_ #[t, u] ty #[.slice base sLen sCap, xv]).run P w = .ok (.slice (some ⟨w.heap.size, 0, none⟩) (sLen + m) (grownCap w (sLen + m) sCap el)) (w.drew.alloc (.cells (old.toArray ++ new.toArray ++ Builtin.zeroCells zc (grownCap w (sLen + m) sCap el - (sLen + m))) el)))
theorem appOk_of {t u el : TypeId} {i : TypeInfo} {zv xv : Value} {d : TypeDesc} {m : Nat} {new : List Value} {w : World} (ht : P.underlying t = some (.slice el)) (hu : P.underlying u = some d) (hd : ∀ k, d ≠ .int k) (hi : P.info? el = some i) (hz : i.zero = some zv) (hby : i.bytes ≤ 1048576)
 (hx : ∀ w' : World, w'.heap = w.heap → (Builtin.lenOf xv).run P w' = .ok m w' ∧ (Builtin.firstCells i.size m xv).run P w' = .ok new.toArray w') : AppOk P t u xv el i.size m zv.cells new w := by
 have hsz : ∀ W : World, (sizeOf el).run P W = .ok i.size W := fun W => by simp [sizeOf, typeInfo, hi]
 have hti : ∀ W : World, (typeInfo el).run P W = .ok i W := fun W => run_typeInfo W hi
 have hzr : ∀ W : World, (zeroValue el).run P W = .ok zv W := fun W => run_zeroValue_of hi hz W
 refine ⟨fun base sLen sCap w' ty hle hst => ?_, fun base sLen sCap old ty hlt hneed hold => ?_⟩
 · have h1 := hx w rfl
   simp only [Builtin.append_, List.getElem?_toArray, List.getElem?_cons_zero, List.getElem?_cons_succ, Sem.run_bind, run_underlying ht, run_underlying hu, Result.andThen_ok, hsz, Sem.run_pure, Sem.run_ite, Bool.false_eq_true, if_false, Bool.not_false, if_true, h1.1, if_pos hle, h1.2]
   cases base with
   | none => subst hst; rfl
   | some ad => simp only [Sem.run_bind, hst, Result.andThen_ok, Sem.run_pure]
 · have h1 := hx w rfl
   have h2 := hx w.drew rfl
   have ho := hold w.drew rfl
   have hn : ¬ (sLen + m ≤ sCap) := by omega
   have h48 : ¬ (Builtin.nextslicecap (sLen + m) sCap * i.bytes > 2 ^ 48) := by
    have := growslice_fits (bytes := i.bytes) hlt (by
     have := Nat.mul_le_mul hneed hby
     omega)
    omega
   have h63' : ¬ (((sLen + m : Nat) : Int) > IntKind.i64.max ∧ (False ∨ i.bytes = 0)) := by
    rintro ⟨h, _⟩
    have h3 : IntKind.i64.max = 9223372036854775807 := by decide
    rw [h3] at h
    omega
   simp only [Builtin.append_, List.getElem?_toArray, List.getElem?_cons_zero, List.getElem?_cons_succ, Sem.run_bind, run_underlying ht, run_underlying hu, Result.andThen_ok, hsz, hti, hzr, Sem.run_pure, Sem.run_ite, Bool.false_eq_true, if_false, Bool.not_false, if_true, h1.1, if_neg hn, if_neg h63', if_neg h48, run_choose_drew, Question.forced, run_askRoom, ho, h2.2, newRow, run_newObj_alloc]
   rfl
theorem appOk_zero {t u el : TypeId} {i : TypeInfo} {zv : Value} {kd : IntKind} {m : Nat} {w : World} {kx : IntKind} (ht : P.underlying t = some (.slice el)) (hu : P.underlying u = some (.int kd)) (hi : P.info? el = some i) (hz : i.zero = some zv) (hby : i.bytes ≤ 1048576) (hm : m ≤ 1048576) (hp : 0 < i.size) :
 AppOk P t u (.int kx (m : Int)) el i.size m zv.cells (Builtin.zeroCells zv.cells m).toList w := by
 have hsz : ∀ W : World, (sizeOf el).run P W = .ok i.size W := fun W => by simp [sizeOf, typeInfo, hi]
 have hti : ∀ W : World, (typeInfo el).run P W = .ok i W := fun W => run_typeInfo W hi
 have hzr : ∀ W : World, (zeroValue el).run P W = .ok zv W := fun W => run_zeroValue_of hi hz W
 have hai : ∀ (k : IntKind) (z : Int) (W : World), (asInt (.int k z)).run P W = .ok z W := fun k z W => rfl
 have hw : IntKind.i64.wrap (m : Int) = m := by
  rw [wrap_val .i64 (show m < 2 ^ 64 by omega), if_neg]
  rintro ⟨_, h2⟩
  have h3 : (2 : Nat) ^ (IntKind.i64.bits - 1) = 9223372036854775808 := rfl
  rw [h3] at h2; omega
 have h0 : ¬ ((m : Int) < 0) := by omega
 have hbig : ¬ ((m : Int) * (i.bytes : Int) > 2 ^ 48) := by
  have h5 : m * i.bytes ≤ 1048576 * 1048576 := Nat.mul_le_mul hm hby
  have h6 : ((m * i.bytes : Nat) : Int) ≤ ((1048576 * 1048576 : Nat) : Int) := Int.ofNat_le.2 h5
  rw [Int.natCast_mul] at h6
  omega
 have hz0 : ∀ W : World, (if m * i.size = 0 then Result.ok #[] W else Result.ok (Builtin.zeroCells zv.cells m) W) = Result.ok (Builtin.zeroCells zv.cells m) W := fun W => by
  by_cases h : m * i.size = 0
  · have hm0 : m = 0 := by
     rcases Nat.mul_eq_zero.1 h with h | h
     · exact h
     · omega
    rw [if_pos h, hm0]
    simp [Builtin.zeroCells]
  · rw [if_neg h]
 refine ⟨fun base sLen sCap w' ty hle hst => ?_, fun base sLen sCap old ty hlt hneed hold => ?_⟩
 · simp only [Builtin.append_, List.getElem?_toArray, List.getElem?_cons_zero, List.getElem?_cons_succ, Sem.run_bind, run_underlying ht, run_underlying hu, Result.andThen_ok, hsz, hti, hzr, hai, hw, if_neg h0, if_neg hbig, Sem.run_pure, Sem.run_ite, Bool.false_eq_true, if_false, Bool.not_true, if_true, Int.toNat_natCast, if_pos hle, hz0]
   cases base with
   | none => subst hst; rfl
   | some ad => simp only [Sem.run_bind, hst, Result.andThen_ok, Sem.run_pure]
 · have ho := hold w.drew rfl
   have hn : ¬ (sLen + m ≤ sCap) := by omega
   have h48 : ¬ (Builtin.nextslicecap (sLen + m) sCap * i.bytes > 2 ^ 48) := by
    have := growslice_fits (bytes := i.bytes) hlt (by
     have := Nat.mul_le_mul hneed hby
     omega)
    omega
   have h63' : ¬ (((sLen + m : Nat) : Int) > IntKind.i64.max ∧ (True ∨ i.bytes = 0)) := by
    rintro ⟨h, _⟩
    have h3 : IntKind.i64.max = 9223372036854775807 := by decide
    rw [h3] at h
    omega
   simp only [Builtin.append_, List.getElem?_toArray, List.getElem?_cons_zero, List.getElem?_cons_succ, Sem.run_bind, run_underlying ht, run_underlying hu, Result.andThen_ok, hsz, hti, hzr, hai, hw, if_neg h0, if_neg hbig, Sem.run_pure, Sem.run_ite, Bool.false_eq_true, if_false, Bool.not_true, if_true, Int.toNat_natCast, if_neg hn, if_neg h63', if_neg h48, run_choose_drew, Question.forced, run_askRoom, ho, hz0, newRow, run_newObj_alloc]
   rfl
theorem ln_spec (L : Loc) : ∀ v : V, (wf S v).l → (lcv L v).length = ln v := by
 intro v
 induction v with
 | cons a d _ ih =>
   intro h
   rw [den_cons_lc, List.length_append, ch_length, ih h.2]; rfl
 | nil => intro _; rfl
 | _ => intro h; exact h.elim
theorem bsApp {l n l2 n2 : Nat} (_ : n < 2 ^ (8 * l)) (_ : n2 < 2 ^ (8 * l2)) : (List.range (l + l2)).map (fun j => iv 4 (byteAt (bytesPut n l l2 n2) j)) = (List.range l).map (fun j => iv 4 (byteAt n j)) ++ (List.range l2).map (fun j => iv 4 (byteAt n2 j)) := by
 rw [List.range_add, List.map_append, List.map_map]
 congr 1
 · refine List.map_congr_left fun j hj => ?_
   rw [List.mem_range] at hj
   rw [byteAt_put, if_neg (by omega), if_pos hj]
 · refine List.map_congr_left fun j hj => ?_
   rw [List.mem_range] at hj
   show iv 4 (byteAt (bytesPut n l l2 n2) (l + j)) = _
   rw [byteAt_put, if_pos (by omega), Nat.add_sub_cancel_left]
theorem bsApp_lt {l n l2 n2 : Nat} (h1 : n < 2 ^ (8 * l)) (h2 : n2 < 2 ^ (8 * l2)) : bytesPut n l l2 n2 < 2 ^ (8 * (l + l2)) :=
 bytesPut_lt (Nat.lt_of_lt_of_le h1 (Nat.pow_le_pow_right (by decide) (by omega))) h2 (Nat.le_refl _)
def BsIs (L : Loc) (A : V) (l n : Nat) : Prop := n < 2 ^ (8 * l) ∧ chv L A = (List.range l).map fun j => iv 4 (byteAt n j)
theorem oneC_spec {v : V} {q : V → V} {r : V} : oneC v q r = r ∨ ∃ A, v = .cons A .nil ∧ oneC v q r = q A := by
 cases v <;> first | exact .inl rfl | skip
 case cons A W => cases W <;> first | exact .inl rfl | exact .inr ⟨A, rfl, rfl⟩
theorem asBs_spec (L : Loc) (S : Ns) {A : V} {q : Nat → Nat → V} {r : V} (h : (wf S A).k) : asBs A q r = r ∨ ∃ l n, BsIs L A l n ∧ asBs A q r = q l n := by
 cases A <;> first | exact .inl rfl | skip
 case bs l n => exact .inr ⟨l, n, ⟨h, rfl⟩, rfl⟩
 case i k n =>
  have e0 : asBs (.i k n) q r = (Bool.rec r (q 1 n) (Nat.beq k 4) : V) := rfl
  cases hk : Nat.beq k 4
  · rw [hk] at e0; exact .inl e0
  · rw [hk] at e0
    rw [Nat.beq_eq] at hk
    subst hk
    have hn : n < 256 := h.1
    refine .inr ⟨1, n, ⟨hn, ?_⟩, e0⟩
    have : byteAt n 0 = n := by rw [byteAt_eq, Nat.mul_zero, Nat.pow_zero, Nat.div_one]; omega
    show [iv 4 n] = [iv 4 (byteAt n 0)]
    rw [this]
 case sp w W =>
  have e0 : asBs (.sp w W) q r = oneC W (fun A => (v_bs (α := (Nat → V)) (fun _ => r) (fun l n => fun w => Bool.rec r (q l n) (Nat.beq l w)) A) w) r := rfl
  rcases oneC_spec (v := W) (q := fun A => (v_bs (α := (Nat → V)) (fun _ => r) (fun l n => fun w => Bool.rec r (q l n) (Nat.beq l w)) A) w) (r := r) with e | ⟨A, rfl, e⟩
  · exact .inl (e0.trans e)
  rw [e] at e0
  cases A <;> first | exact .inl e0 | skip
  case bs l n =>
   have e1 : asBs (.sp w (.cons (.bs l n) .nil)) q r = (Bool.rec r (q l n) (Nat.beq l w) : V) := e0
   cases hk : Nat.beq l w
   · rw [hk] at e1; exact .inl e1
   · rw [hk] at e1
     rw [Nat.beq_eq] at hk
     subst hk
     refine .inr ⟨l, n, ⟨h.1, ?_⟩, e1⟩
     show fit l (((List.range l).map fun j => iv 4 (byteAt n j)) ++ []) = _
     rw [List.append_nil, fit_self (by simp)]
theorem appP_spec (L : Loc) (S : Ns) (a b : V) (ha : (wf S a).l) (hb : (wf S b).l) : lcv L (appP a b) = lcv L a ++ lcv L b ∧ (wf S (appP a b)).l := by
 unfold appP
 rcases oneC_spec (v := a) (q := fun A => oneC b (fun B => asBs A (fun l n => asBs B (fun l2 n2 => .cons (.bs (Nat.add l l2) (bytesPut n l l2 n2)) .nil) (appC a b)) (appC a b)) (appC a b)) (r := appC a b) with e | ⟨A, hA, e⟩
 · rw [e]; exact appC_spec L S a b ha hb
 rw [e]
 rcases oneC_spec (v := b) (q := fun B => asBs A (fun l n => asBs B (fun l2 n2 => .cons (.bs (Nat.add l l2) (bytesPut n l l2 n2)) .nil) (appC a b)) (appC a b)) (r := appC a b) with e | ⟨B, hB, e⟩
 · rw [e]; exact appC_spec L S a b ha hb
 rw [e]
 have ha' := ha
 have hb' := hb
 rw [hA] at ha'
 rw [hB] at hb'
 rcases asBs_spec L S (q := fun l n => asBs B (fun l2 n2 => .cons (.bs (Nat.add l l2) (bytesPut n l l2 n2)) .nil) (appC a b)) (r := appC a b) ha'.1 with e | ⟨l, n, ⟨h1, h2⟩, e⟩
 · rw [e]; exact appC_spec L S a b ha hb
 rw [e]
 rcases asBs_spec L S (q := fun l2 n2 => .cons (.bs (Nat.add l l2) (bytesPut n l l2 n2)) .nil) (r := appC a b) hb'.1 with e | ⟨l2, n2, ⟨h3, h4⟩, e⟩
 · rw [e]; exact appC_spec L S a b ha hb
 rw [e]
 refine ⟨?_, bsApp_lt h1 h3, trivial⟩
 rw [hA, hB, den_cons_lc, den_cons_lc, den_cons_lc, h2, h4]
 show (List.range (l + l2)).map (fun j => iv 4 (byteAt (bytesPut n l l2 n2) j)) ++ [] = _
 rw [bsApp h1 h3]
 show _ = (_ ++ []) ++ (_ ++ [])
 simp only [List.append_nil]
theorem app2_good {w : Nat} {a b : V} {q : V → R} (ha : (wf S a).l) (hb : (wf S b).l) (hg : (app2 w a b q).Good) (n : Nat) : app2 w a b q = q (appP a b) ∧ (wf S (appP a b)).l ∧ (lcv L a).length = w ∧ fit (w + n) (lcv L (appP a b)) = lcv L a ++ fit n (lcv L b) := by
 obtain ⟨h1, e1⟩ := rec_good (z := Nat.beq (ln a) w) hg
 rw [Nat.beq_eq] at h1
 have hs := appP_spec L S a b ha hb
 have hl : (lcv L a).length = w := by rw [ln_spec L a ha, h1]
 refine ⟨e1, hs.2, hl, ?_⟩
 rw [hs.1, fit_app _ _ hl (by omega), show w + n - w = n by omega]
theorem zeroCells_size (zc : Array Value) (n : Nat) : (Builtin.zeroCells zc n).size = n * zc.size := by simp [Builtin.zeroCells]
theorem open_step {h : H} {c : Nm} {w : World} {el sz l cap : Nat} {zs : V} {zc : Array Value} (hr : Rel L S h w) (hb : Bd S c) (hzs : (wf S zs).l) (hzc : zc.size = sz) (hcap : l ≤ cap) (hcapm : cap ≤ maxLen) {fz : Nat} {h2 : H} (hh : h2 = h ∨ ∃ a, h2 = H.set a .no h ∧ isRo (H.get a h) = false) {all : Array Value} (hall : all.toList = fit (l * sz) (lcv L zs)) :
 Stp L S h c w (L.put c w.heap.size (cap - l)) (addN S c) (H.set c (.row el sz (l * sz) true fz zs) h2) (Nm.succ c) (w.drew.alloc (.cells (all ++ Builtin.zeroCells zc (cap - l)) el)) ∧
  val (L.put c w.heap.size (cap - l)) (.so c 0 0 l) = .slice (some ⟨w.heap.size, 0, none⟩) l cap ∧ (wf (addN S c) (.so c 0 0 l)).v := by
 have hnc : ¬ S c := nm_bd hb (Nat.le_refl _)
 have hp := put_lc (L := L) (b := w.heap.size) (k := cap - l) hnc hzs
 have hals : all.size = l * sz := by rw [← Array.length_toList, hall, fit_length]
 have hbr : BR (L.put c w.heap.size (cap - l)) (addN S c) c (.row el sz (l * sz) true fz zs) (.cells (all ++ Builtin.zeroCells zc (cap - l)) el (0, 0)) := by
  refine ⟨.inl rfl, hp.2, fr0 _ _, ?_⟩
  rw [if_pos rfl]
  refine ⟨?_, by rw [Array.size_append, zeroCells_size, hals, hzc, Loc.put_k], by rw [Loc.put_k, ← Nat.add_mul]; exact Nat.mul_le_mul_right _ (by omega)⟩
  rw [Array.toList_append, List.take_append_of_le_length (by rw [Array.length_toList, hals]; exact Nat.le_refl _), List.take_of_length_le (by rw [Array.length_toList, hals]; exact Nat.le_refl _), hall, hp.1]
 have hst := Stp.alloc (w' := w.drew.alloc (.cells (all ++ Builtin.zeroCells zc (cap - l)) el)) hr hb hnc (Nat.le_refl _) hbr rfl ⟨rfl, rfl, rfl⟩ (c' := Nm.succ c) (by rw [nm_succ]; omega) (by rw [nm_succ]; omega)
 refine ⟨?_, ?_, .inr rfl⟩
 · rcases hh with rfl | ⟨a, rfl, hro⟩
   · exact hst
   · by_cases hac : a = c
     · subst hac
       exact hst.ext fun n => by rw [hget_set, hget_set, hget_set]; split <;> rfl
     · refine (hst.forget a hro).ext fun n => ?_
       rw [hget_set, hget_set, hget_set, hget_set]
       by_cases h1 : n = a
       · subst h1; rw [if_pos rfl, if_neg hac, if_pos rfl]
       · rw [if_neg h1]
         by_cases h2 : n = c
         · rw [if_pos h2, if_pos h2]
         · rw [if_neg h2, if_neg h2, if_neg h1]
 · show Value.slice (some ⟨(L.put c w.heap.size (cap - l)).b c, 0, none⟩) l (l + 0 + (L.put c w.heap.size (cap - l)).k c) = _
   rw [Loc.put_b, Loc.put_k, show l + 0 + (cap - l) = cap by omega]
end
end Go.Ev

namespace Go.Ev
section
variable {P : Program} {rd : Option Nat} {S : Ns} {e : Ce} {o : Oper} {L : Loc}
theorem putRow_good {nm : Nm} {off m : Nat} {ys r : V} {d : List D} {h : H} {c : Nm} {k : KW} {w : World} (hr : Rel L S h w) (hb : Bd S c) (hys : (wf S ys).l) (hm : 0 < m) (hg : (putRow nm off m ys r d h c k).Good) :
 ∃ h' w', putRow nm off m ys r d h c k = k r d h' c ∧ (storeCells ⟨L.b nm, off, none⟩ (fit m (lcv L ys))).run P w = .ok () w' ∧ Stp L S h c w L S h' c w' := by
 obtain ⟨el, s, N, op, fz, cs, hn, e1⟩ := asRow_good hg
 have g1 := good_of e1 hg
 obtain ⟨h2, e2⟩ := rec_good (z := Nat.ble (Nat.add off m) N) g1
 have g2 := good_of e2 g1
 obtain ⟨h3, e3⟩ := rec_good (z := Nat.ble fz off) g2
 have g3 := good_of e3 g2
 obtain ⟨h4, e4⟩ := rec_good (z := okC (mkSp ys m)) g3
 rw [Nat.ble_eq] at h2 h3
 have hs := mkSp_spec L S m hys
 obtain ⟨w', h5, h6⟩ := put_step (P := P) hr hb hn hs.2.2 hs.2.1 hm h2 h3 h4
 rw [hs.1] at h5
 exact ⟨_, w', e1.trans (e2.trans (e3.trans e4)), h5, h6⟩
theorem appK_good {t u el sz m : Nat} {xv : Value} {zc : Array Value} {w : World} {s ys : V} {d : List D} {h : H} {c : Nm} {k : KW} (hp : 0 < sz) (hzc : zc.size = sz) (hr : Rel L S h w) (hb : Bd S c) (hs : (wf S s).v) (hys : (wf S ys).l)
 (happ : AppOk P t u xv el sz m zc (fit (m * sz) (lcv L ys)) w) (hg : (appK el sz s m ys d h c k).Good) (ty : TypeId) :
 ∃ (v : V) (h' : H) (c' : Nm) (L' : Loc) (S' : Ns) (w' : World), appK el sz s m ys d h c k = k v d h' c' ∧ Stp L S h c w L' S' h' c' w' ∧ (wf S' v).v ∧ (Builtin.append_ #[t, u] ty #[val L s, xv]).run P w = .ok (val L' v) w' ∧ s ≠ .x := by
 cases s <;> first | exact (bad_good hg).elim | skip
 case ns =>
  have hg' : (Bool.rec (newOpen el sz m ys d h c k) (k .ns d h c) (isZ m) : R).Good := hg
  have e0 : appK el sz .ns m ys d h c k = (Bool.rec (newOpen el sz m ys d h c k) (k .ns d h c) (isZ m) : R) := rfl
  cases hz : isZ m
  · rw [hz] at hg' e0
    rw [isZ_eq, decide_eq_false_iff_not] at hz
    obtain ⟨h1, e1⟩ := rec_good (z := Nat.ble m 1048576) hg'
    rw [Nat.ble_eq] at h1
    have hrun := happ.2 none 0 0 [] ty (by omega) (by omega) (fun w' _ => by
     show (Builtin.firstCells sz 0 (.slice none 0 0)).run P w' = _
     simp only [Builtin.firstCells, Sem.run_pure])
    rw [Nat.zero_add] at hrun
    have hcap := cap_ge w m 0 el
    obtain ⟨h2, h3, h4⟩ := open_step (el := el) (h2 := h) (fz := 0) (all := (fit (m * sz) (lcv L ys)).toArray) hr hb hys hzc hcap (grownCap_le_maxLen w _ _ _ (by unfold maxLen; omega)) (.inl rfl) rfl
    refine ⟨.so c 0 0 m, _, _, _, _, _, e0.trans e1, h2, h4, ?_, by simp⟩
    rw [h3]
    show (Builtin.append_ #[t, u] ty #[.slice none 0 0, xv]).run P w = _
    rw [hrun]
    simp
  · rw [hz] at hg' e0
    rw [isZ_eq, decide_eq_true_eq] at hz
    subst hz
    exact ⟨.ns, h, c, L, S, w, e0, Stp.refl hr hb, trivial, happ.1 none 0 0 w ty (Nat.le_refl _) rfl, by simp⟩
 case sl nm off l cap =>
  have hg' : (Bool.rec (asRow (H.get nm h) (fun _ _ N _ _ cs => Bool.rec (.bad 87) (app2 (Nat.mul l sz) (subC cs off (Nat.mul l sz)) ys (fun zs => newOpen el sz (Nat.add l m) zs d h c k)) (Nat.ble (Nat.add off (Nat.mul l sz)) N)))
   (Bool.rec (putRow nm (Nat.add off (Nat.mul l sz)) (Nat.mul m sz) ys (.sl nm off (Nat.add l m) cap) d h c k) (k (.sl nm off l cap) d h c) (isZ m)) (Nat.ble (Nat.add l m) cap) : R).Good := hg
  have e0 : appK el sz (.sl nm off l cap) m ys d h c k = (Bool.rec (asRow (H.get nm h) (fun _ _ N _ _ cs => Bool.rec (.bad 87) (app2 (Nat.mul l sz) (subC cs off (Nat.mul l sz)) ys (fun zs => newOpen el sz (Nat.add l m) zs d h c k)) (Nat.ble (Nat.add off (Nat.mul l sz)) N)))
   (Bool.rec (putRow nm (Nat.add off (Nat.mul l sz)) (Nat.mul m sz) ys (.sl nm off (Nat.add l m) cap) d h c k) (k (.sl nm off l cap) d h c) (isZ m)) (Nat.ble (Nat.add l m) cap) : R) := rfl
  cases hfit : Nat.ble (Nat.add l m) cap
  · rw [hfit] at hg' e0
    have hlt : cap < l + m := by
     rcases Nat.lt_or_ge cap (l + m) with h | h
     · exact h
     · have : Nat.ble (Nat.add l m) cap = true := by rw [Nat.ble_eq]; exact h
       rw [hfit] at this; cases this
    obtain ⟨el', s', N, op, fz, cs, hn, e1⟩ := asRow_good hg'
    have g1 := good_of e1 hg'
    obtain ⟨h2, e2⟩ := rec_good (z := Nat.ble (Nat.add off (Nat.mul l sz)) N) g1
    have g2 := good_of e2 g1
    rw [Nat.ble_eq] at h2
    obtain ⟨hS, ob, hob, hbr⟩ := hr.blk nm (by rw [hn]; simp)
    rw [hn] at hbr
    have hcs : (wf S cs).l := by obtain ⟨_, _, _, _, hcs, _⟩ := hbr.row; exact hcs
    have hsub := (subC_spec L S cs).2 hcs off (l * sz)
    obtain ⟨e3, h3, h4, h5⟩ := app2_good (w := Nat.mul l sz) hsub.2 hys g2 (m * sz)
    have g3 := good_of e3 g2
    obtain ⟨h6, e4⟩ := rec_good (z := Nat.ble (Nat.add l m) 1048576) g3
    rw [Nat.ble_eq] at h6
    have hold := row_src (cap := cap) (P := P) hob hbr h2
    have hlen : (lcv L (subC cs off (l * sz))).length = l * sz := h4
    have hrun := happ.2 (some ⟨L.b nm, off, none⟩) l cap (lcv L (subC cs off (l * sz))) ty hlt h6 (fun w' hw' => by
     rw [hold w' hw' l (Nat.le_refl _), fit_self hlen])
    have hcap := cap_ge w (l + m) cap el
    have hall : ((lcv L (subC cs off (l * sz))).toArray ++ (fit (m * sz) (lcv L ys)).toArray).toList = fit ((l + m) * sz) (lcv L (appP (subC cs off (l * sz)) ys)) := by
     rw [Nat.add_mul]
     have h5' : fit (l * sz + m * sz) (lcv L (appP (subC cs off (l * sz)) ys)) = _ := h5
     rw [h5']; simp
    obtain ⟨h7, h8, h9⟩ := open_step (el := el) (h2 := h) (fz := 0) hr hb h3 hzc hcap (grownCap_le_maxLen w (l + m) _ _ (by have h6' : l + m ≤ 1048576 := h6; unfold maxLen; omega)) (.inl rfl) hall
    refine ⟨.so c 0 0 (l + m), _, _, _, _, _, e0.trans (e1.trans (e2.trans (e3.trans e4))), h7, h9, ?_, by simp⟩
    rw [h8]
    exact hrun
  · rw [hfit] at hg' e0
    rw [Nat.ble_eq] at hfit
    cases hz : isZ m
    · rw [hz] at hg' e0
      rw [isZ_eq, decide_eq_false_iff_not] at hz
      have hmp : 0 < m * sz := Nat.mul_pos (by omega) hp
      obtain ⟨h', w', e1, h1, h2⟩ := putRow_good (P := P) hr hb hys hmp hg'
      refine ⟨.sl nm off (l + m) cap, h', c, L, S, w', e0.trans e1, h2, hs, ?_, by simp⟩
      refine happ.1 (some ⟨L.b nm, off, none⟩) l cap w' ty hfit ?_
      show (storeCells (Addr.add ⟨L.b nm, off, none⟩ (l * sz)) _).run P w = _
      rw [addr_add]; exact h1
    · rw [hz] at hg' e0
      rw [isZ_eq, decide_eq_true_eq] at hz
      subst hz
      refine ⟨.sl nm off l cap, h, c, L, S, w, e0, Stp.refl hr hb, hs, ?_, by simp⟩
      refine happ.1 (some ⟨L.b nm, off, none⟩) l cap w ty hfit ?_
      rw [Nat.zero_mul]; rfl
 case so nm off r l =>
  have vs : val L (.so nm off r l) = .slice (some ⟨L.b nm, off, none⟩) l (l + r + L.k nm) := rfl
  have e0 : appK el sz (.so nm off r l) m ys d h c k = (Bool.rec (Bool.rec (asRow (H.get nm h) (fun el' s' N op fz cs =>
   Bool.rec (.bad 88) (Bool.rec (.bad 89) (Bool.rec (.bad 117) (app2 (Nat.mul l sz) (subC cs 0 (Nat.mul l sz)) ys (fun zs => Bool.rec (.bad 118) (k (.so c 0 0 (Nat.add l m)) d (H.set c (.row el' s' (Nat.mul (Nat.add l m) sz) true fz zs) (H.set nm .no h)) (Nm.succ c)) (okC (mkSp ys (Nat.mul m sz)))))
    (Bool.and (Bool.and (Nat.beq el' el) (Nat.beq s' sz)) (Nat.ble (Nat.add l m) 1048576))) (Bool.and (Bool.and op (Nat.ble fz (Nat.mul l sz))) (Nat.beq N (Nat.mul (Nat.add l r) sz)))) (isZ off)))
   (putRow nm (Nat.add off (Nat.mul l sz)) (Nat.mul m sz) ys (.so nm off (Nat.sub r m) (Nat.add l m)) d h c k)
   (Nat.ble m r))
   (k (.so nm off r l) d h c) (isZ m) : R) := rfl
  have hg' := good_of e0 hg
  cases hz : isZ m
  · rw [hz] at hg' e0
    rw [isZ_eq, decide_eq_false_iff_not] at hz
    have hmp : 0 < m * sz := Nat.mul_pos (by omega) hp
    cases hmr : Nat.ble m r
    · rw [hmr] at hg' e0
      have hlt : r < m := by
       rcases Nat.lt_or_ge r m with h | h
       · exact h
       · have : Nat.ble m r = true := by rw [Nat.ble_eq]; exact h
         rw [hmr] at this; cases this
      obtain ⟨el', s', N, op, fz, cs, hn, e1⟩ := asRow_good hg'
      have g1 := good_of e1 hg'
      obtain ⟨h2, e2⟩ := rec_good (z := isZ off) g1
      have g2 := good_of e2 g1
      obtain ⟨h3, e3⟩ := rec_good (z := Bool.and (Bool.and op (Nat.ble fz (Nat.mul l sz))) (Nat.beq N (Nat.mul (Nat.add l r) sz))) g2
      have g3 := good_of e3 g2
      obtain ⟨h4, e4⟩ := rec_good (z := Bool.and (Bool.and (Nat.beq el' el) (Nat.beq s' sz)) (Nat.ble (Nat.add l m) 1048576)) g3
      have g4 := good_of e4 g3
      rw [isZ_eq, decide_eq_true_eq] at h2
      subst h2
      have h3' : ((op && Nat.ble fz (Nat.mul l sz)) && Nat.beq N (Nat.mul (Nat.add l r) sz)) = true := h3
      have h4' : ((Nat.beq el' el && Nat.beq s' sz) && Nat.ble (Nat.add l m) 1048576) = true := h4
      rw [Bool.and_eq_true, Bool.and_eq_true, Nat.ble_eq, Nat.beq_eq] at h3'
      rw [Bool.and_eq_true, Bool.and_eq_true, Nat.ble_eq, Nat.beq_eq, Nat.beq_eq] at h4'
      obtain ⟨⟨rfl, hfz⟩, hN⟩ := h3'
      obtain ⟨⟨rfl, rfl⟩, hbd⟩ := h4'
      obtain ⟨hS, ob, hob, hbr⟩ := hr.blk nm (by rw [hn]; simp)
      rw [hn] at hbr
      obtain ⟨arr, fr, el2, rfl, hcs, hfr, htk, hNle, _, hsz⟩ := id hbr.row
      obtain ⟨hel, _⟩ := id hbr
      replace hel : el' = el2 := (hel.resolve_right fun h => by cases h.2.2).symm
      subst hel
      have hsz' := hsz rfl
      have hsub := (subC_spec L S cs).2 hcs 0 (l * s')
      obtain ⟨e5, h5, h6, h7⟩ := app2_good (w := Nat.mul l s') hsub.2 hys g4 (m * s')
      have g5 := good_of e5 g4
      obtain ⟨h8, e6⟩ := rec_good (z := okC (mkSp ys (Nat.mul m s'))) g5
      have hlen : (lcv L (subC cs 0 (l * s'))).length = l * s' := h6
      have hNv : N = (l + r) * s' := hN
      have hlN : l * s' ≤ N := by rw [hNv]; exact Nat.mul_le_mul_right _ (by omega)
      have eall : appK el' s' (.so nm 0 r l) m ys d h c k = _ := e0.trans (e1.trans (e2.trans (e3.trans (e4.trans (e5.trans e6)))))
      have h7' : fit ((l + m) * s') (lcv L (appP (subC cs 0 (l * s')) ys)) = lcv L (subC cs 0 (l * s')) ++ fit (m * s') (lcv L ys) := by
       rw [Nat.add_mul]; exact h7
      by_cases hfit : l + m ≤ l + r + L.k nm
      · -- in its place
        have hs := mkSp_spec L S (m * s') hys
        have hone := ((okC_spec L S _ h8).1 hs.2.2).1
        have hch : chv L (mkSp ys (Nat.mul m s')) = fit (m * s') (lcv L ys) := hs.1
        rw [hch] at hone
        have hcapsz : arr.size = (l + r + L.k nm) * s' := by rw [hsz'.1, hNv, ← Nat.add_mul]
        have hroom : l * s' + m * s' ≤ arr.size := by rw [hcapsz, ← Nat.add_mul]; exact Nat.mul_le_mul_right _ hfit
        have hcell : ∀ j, j < (fit (m * s') (lcv L ys)).length → (w.cell? ⟨L.b nm, l * s' + 0 + j, none⟩).isSome = true := fun j hj => by
         rw [fit_length] at hj
         rw [cell_of_row w _ _ arr el' fr hob, Nat.add_zero, Array.getElem?_eq_getElem (by omega)]; rfl
        have hfrz : ∀ j, j < (fit (m * s') (lcv L ys)).length → w.frozen? ⟨L.b nm, l * s' + 0 + j, none⟩ = false := fun j hj => by
         rw [fit_length] at hj
         have hfz' : fz ≤ l * s' := hfz
         have := hfr.2 (l * s' + 0 + j) (by omega) (by omega)
         obtain ⟨f1, f2⟩ := fr
         simp only [World.frozen?, hob]
         rw [Bool.eq_false_iff]
         intro hh
         rw [Bool.and_eq_true, decide_eq_true_eq, decide_eq_true_eq] at hh
         exact this hh
        have hrun := run_storeCells_cells (P := P) (L.b nm) (l * s') (fit (m * s') (lcv L ys)) 0 w hcell hfrz hone
        have hadd : (storeCells ⟨L.b nm, l * s', none⟩ (fit (m * s') (lcv L ys))).run P w = .ok () (w.setCells (L.b nm) (l * s' + 0) (fit (m * s') (lcv L ys))) := hrun
        rw [Nat.add_zero] at hadd
        have hheap := setCells_heap (L.b nm) el' fr (fit (m * s') (lcv L ys)) (l * s') w arr hob (by rw [fit_length]; exact hroom)
        have hlt' := lt_size hob
        have hnc : ¬ S c := nm_bd hb (Nat.le_refl _)
        have hpz := put_lc (L := L) (b := L.b nm) (k := l + r + L.k nm - (l + m)) hnc h5
        have hps : (putA arr (l * s') (fit (m * s') (lcv L ys))).size = arr.size := putA_size (by rw [fit_length]; exact hroom)
        have harr : arr.toList.take (l * s') = lcv L (subC cs 0 (l * s')) := by
         have h9 : (arr.toList.take N).take (l * s') = (fit N (lcv L cs)).take (l * s') := by rw [htk]
         rw [List.take_take, Nat.min_eq_left hlN, fit_pre hlN] at h9
         rw [h9, hsub.1, List.drop_zero, ← fit_take, fit_self (by have := hlen; rw [hsub.1, List.drop_zero] at this; exact this)]
        have hbr' : BR (L.put c (L.b nm) (l + r + L.k nm - (l + m))) (addN S c) c (.row el' s' ((l + m) * s') true fz (appP (subC cs 0 (l * s')) ys)) (.cells (putA arr (l * s') (fit (m * s') (lcv L ys))) el' fr) := by
         refine ⟨.inl rfl, hpz.2, by rw [hps]; exact hfr, ?_⟩
         rw [if_pos rfl]
         refine ⟨?_, ?_, ?_⟩
         · rw [hpz.1, h7', ← harr]
           show (arr.toList.take (l * s') ++ (fit (m * s') (lcv L ys) ++ arr.toList.drop (l * s' + (fit (m * s') (lcv L ys)).length))).take ((l + m) * s') = _
           rw [← List.append_assoc, List.take_append_of_le_length, List.take_of_length_le]
           · rw [List.length_append, List.length_take, fit_length, Array.length_toList, Nat.add_mul]; omega
           · rw [List.length_append, List.length_take, fit_length, Array.length_toList, Nat.add_mul]; omega
         · rw [hps, hcapsz, Loc.put_k, ← Nat.add_mul]
           congr 1; omega
         · have hq := hsz'.2
           rw [hNv, ← Nat.add_mul] at hq
           rw [Loc.put_k, ← Nat.add_mul, show l + m + (l + r + L.k nm - (l + m)) = l + r + L.k nm by omega]
           exact hq
        have hst := Stp.rename (w' := w.setCells (L.b nm) (l * s') (fit (m * s') (lcv L ys))) hr hb (n := nm) (by rw [hn]; simp) hnc (Nat.le_refl _) hbr' (by rw [hheap, Array.getElem?_setIfInBounds, if_pos rfl, if_pos hlt']) (fun r' hne => by rw [hheap, Array.getElem?_setIfInBounds, if_neg (Ne.symm hne)]) (by rw [hheap]; simp) (by rw [hn]; simp [isRo]) (setCells_out _ _ _ _) (c' := Nm.succ c) (by rw [nm_succ]; omega) (by rw [nm_succ]; omega)
        refine ⟨.so c 0 0 (l + m), _, _, _, _, _, eall, hst, .inr rfl, ?_, by simp⟩
        have hv : val (L.put c (L.b nm) (l + r + L.k nm - (l + m))) (.so c 0 0 (l + m)) = .slice (some ⟨L.b nm, 0, none⟩) (l + m) (l + r + L.k nm) := by
         show Value.slice (some ⟨(L.put c (L.b nm) (l + r + L.k nm - (l + m))).b c, 0, none⟩) (l + m) (l + m + 0 + (L.put c (L.b nm) (l + r + L.k nm - (l + m))).k c) = _
         rw [Loc.put_b, Loc.put_k, show l + m + 0 + (l + r + L.k nm - (l + m)) = l + r + L.k nm by omega]
        rw [hv, vs]
        refine happ.1 (some ⟨L.b nm, 0, none⟩) l (l + r + L.k nm) _ ty hfit ?_
        show (storeCells (Addr.add ⟨L.b nm, 0, none⟩ (l * s')) _).run P w = _
        rw [addr_add, Nat.zero_add]; exact hadd
      · -- elsewhere
        have hold := row_src (cap := l + r + L.k nm) (off := 0) (l := l) (sz := s') (P := P) hob hbr (by omega)
        have hrun := happ.2 (some ⟨L.b nm, 0, none⟩) l (l + r + L.k nm) (lcv L (subC cs 0 (l * s'))) ty (by omega) hbd (fun w' hw' => by
         rw [hold w' hw' l (Nat.le_refl _), fit_self hlen])
        have hcap := cap_ge w (l + m) (l + r + L.k nm) el'
        have hall : ((lcv L (subC cs 0 (l * s'))).toArray ++ (fit (m * s') (lcv L ys)).toArray).toList = fit ((l + m) * s') (lcv L (appP (subC cs 0 (l * s')) ys)) := by
         rw [h7']; simp
        obtain ⟨h9, h10, h11⟩ := open_step (el := el') (h2 := H.set nm .no h) (fz := fz) hr hb h5 hzc hcap (grownCap_le_maxLen w (l + m) _ _ (by have h6' : l + m ≤ 1048576 := hbd; unfold maxLen; omega)) (.inr ⟨nm, rfl, by rw [hn]; simp [isRo]⟩) hall
        refine ⟨.so c 0 0 (l + m), _, _, _, _, _, eall, h9, h11, ?_, by simp⟩
        rw [h10]
        exact hrun
    · rw [hmr] at hg' e0
      rw [Nat.ble_eq] at hmr
      obtain ⟨h', w', e1, h1, h2⟩ := putRow_good (P := P) hr hb hys hmp hg'
      refine ⟨.so nm off (r - m) (l + m), h', c, L, S, w', e0.trans e1, h2, hs, ?_, by simp⟩
      have hv : val L (.so nm off (r - m) (l + m)) = .slice (some ⟨L.b nm, off, none⟩) (l + m) (l + r + L.k nm) := by
       show Value.slice (some ⟨L.b nm, off, none⟩) (l + m) (l + m + (r - m) + L.k nm) = _
       rw [show l + m + (r - m) = l + r by omega]
      rw [hv, vs]
      refine happ.1 (some ⟨L.b nm, off, none⟩) l (l + r + L.k nm) w' ty (by omega) ?_
      show (storeCells (Addr.add ⟨L.b nm, off, none⟩ (l * sz)) _).run P w = _
      rw [addr_add]; exact h1
  · rw [hz] at hg' e0
    rw [isZ_eq, decide_eq_true_eq] at hz
    subst hz
    refine ⟨.so nm off r l, h, c, L, S, w, e0, Stp.refl hr hb, hs, ?_, by simp⟩
    rw [vs]
    refine happ.1 (some ⟨L.b nm, off, none⟩) l (l + r + L.k nm) w ty (by omega) ?_
    rw [Nat.zero_mul]; rfl
end
end Go.Ev

namespace Go.Ev
section
variable {P : Program} {rd : Option Nat} {S : Ns} {e : Ce} {o : Oper} {L : Loc} {cl : Call} {t u : TypeId} {x y : Operand}
theorem cAppend_sound (ho : o.op = .call cl) (hb0 : cl.callee = .builtin .append) (hx : cl.args = #[x, y]) (ht : cl.argTypes = #[t, u]) {f : WH} (hc : cAppend P t u (cOpd e x) (cOpd e y) = .w f) : WS P L S e o f := by
 unfold cAppend at hc
 cases hu : P.underlying t with
 | none => rw [hu] at hc; cases hc
 | some d =>
 rw [hu] at hc
 cases d with
 | slice el =>
   simp only at hc
   cases hz : zeroCh P el with
   | none => rw [hz] at hc; cases hc
   | some z =>
     rw [hz] at hc
     simp only at hc
     split at hc
     · rename_i hk
       rw [Bool.and_eq_true, decide_eq_true_eq] at hk
       obtain ⟨i, zv, hi, h0, hs, hcells, hw, hzs, hll⟩ := zeros_spec hz hk.1
       have hby : i.bytes ≤ 1048576 := by
        have := hk.2
        unfold bytesOk at this
        rw [hi] at this
        simpa using this
       cases hu2 : P.underlying u with
       | none => rw [hu2] at hc; cases hc
       | some du =>
       rw [hu2] at hc
       have plain : (∀ k, du ≠ .int k) → f = hAppend el (szT P el) (cOpd e x) (cOpd e y) → WS P L S e o f := by
        intro hnk hf
        subst hf
        intro cal a ns T dd h c w k hm hr hb hg
        have hg0 : (slCells (szT P el) (ev (cOpd e y) ns T) h (fun m ys => appK el (szT P el) (ev (cOpd e x) ns T) m ys dd h c k)).Good := hg
        have hyx : ev (cOpd e y) ns T ≠ .x := by intro hh; rw [hh] at hg0; exact bad_good hg0
        have vy := hm y hyx
        obtain ⟨m, ys, e1, hys, hsrc⟩ := slCells_good (P := P) hr vy.2 hg0
        have g1 := good_of e1 hg0
        have happ := appOk_of (t := t) (w := w) (new := fit (m * szT P el) (lcv L ys)) hu hu2 hnk hi h0 hby (fun w' hw' => by
         rw [hs]
         exact ⟨(hsrc w' hw').1, (hsrc w' hw').2 m (Nat.le_refl _)⟩)
        rw [hs] at happ
        have hxx : ev (cOpd e x) ns T ≠ .x := by intro hh; rw [hh] at g1; exact bad_good g1
        have vx := hm x hxx
        obtain ⟨v, h', c', L', S', w', e2, h1, h2, h3, _⟩ := appK_good (P := P) hk.1 hzs hr hb vx.2 hys happ g1 o.type
        refine ⟨v, h', c', L', S', w', _, e1.trans e2, h1, h2, ?_, .inl rfl⟩
        rw [run_builtin ho hb0, hx, ht]
        have hmap : (#[x, y] : Array Operand).map a.eval = #[val L (ev (cOpd e x) ns T), val L (ev (cOpd e y) ns T)] := by simp [vx.1, vy.1]
        rw [hmap]
        simp only [builtin, Sem.run_bind, h3, Result.andThen_ok, Sem.run_pure]
       cases du with
       | int kd =>
         simp only [Iop.w.injEq] at hc
         subst hc
         intro cal a ns T dd h c w k hm hr hb hg
         obtain ⟨ky, m, hy, e1, vy0⟩ := asN_good (c := S) hg
         have g1 := good_of e1 hg
         obtain ⟨h3, e3⟩ := rec_good (z := Nat.ble m 1048576) g1
         have g3 := good_of e3 g1
         rw [Nat.ble_eq] at h3
         have vy := hm.at y hy (by simp)
         have hy1 := vy.1.trans (vy0 vy.2 L)
         have hxx : ev (cOpd e x) ns T ≠ .x := by intro hh; rw [hh] at g3; exact bad_good g3
         have vx := hm x hxx
         have happ := appOk_zero (P := P) (t := t) (u := u) (w := w) (m := m) (kx := kOf ky) hu hu2 hi h0 hby h3 (by rw [hs]; exact hk.1)
         have hnew : (Builtin.zeroCells zv.cells m).toList = fit (m * szT P el) (lcv L (repK (mkSp z (szT P el)) m)) := by
          rw [← hcells L m]
          unfold Builtin.zeroCells
          rw [hzs]
         rw [hs, hnew] at happ
         obtain ⟨v, h', c', L', S', w', e2, h1, h2, h4, _⟩ := appK_good (P := P) hk.1 hzs hr hb vx.2 (hw S m) happ g3 o.type
         refine ⟨v, h', c', L', S', w', _, e1.trans (e3.trans e2), h1, h2, ?_, .inl rfl⟩
         rw [run_builtin ho hb0, hx, ht]
         have hmap : (#[x, y] : Array Operand).map a.eval = #[val L (ev (cOpd e x) ns T), .int (kOf ky) (m : Int)] := by simp [vx.1, hy1]
         rw [hmap]
         simp only [builtin, Sem.run_bind, h4, Result.andThen_ok, Sem.run_pure]
       | _ =>
         simp only [Iop.w.injEq] at hc
         exact plain (by intro k hh; cases hh) hc.symm
     · cases hc
 | _ => cases hc
theorem fit_zero (l : List Value) : fit 0 l = [] := by simp [fit]
theorem cCopy_sound (ho : o.op = .call cl) (hb0 : cl.callee = .builtin .copy) (hx : cl.args = #[x, y]) (ht : cl.argTypes = #[t, u]) {f : WH} (hc : cCopy P t (cOpd e x) (cOpd e y) = .w f) : WS P L S e o f := by
 unfold cCopy at hc
 cases hu : P.underlying t with
 | none => rw [hu] at hc; cases hc
 | some d =>
 rw [hu] at hc
 cases d with
 | slice el =>
   simp only at hc
   split at hc
   · rename_i hk
     rw [decide_eq_true_eq] at hk
     injection hc with hc
     subst hc
     obtain ⟨i, hi⟩ := info_of_sz (P := P) (t := el) (by omega)
     intro cal a ns T dd h c w k hm hr hb hg
     have hsz : ∀ W, (sizeOf el).run P W = .ok (szT P el) W := fun W => run_sizeOf W hi
     have hg0 : (slCells (szT P el) (ev (cOpd e y) ns T) h (fun m ys => Bool.rec (.bad 119) ((V.rec (motive := fun _ => (Nat → V → List D → H → Nm → KW → R))
 (fun _ _ _ _ _ _ => .bad 91) (fun _ _ _ _ _ _ => .bad 91) (fun _ _ => fun _ _ _ _ _ _ => .bad 91) (fun _ => fun _ _ _ _ _ _ => .bad 91) (fun _ _ => fun _ _ _ _ _ _ => .bad 91) (fun _ _ _ _ _ _ => .bad 91) (fun _ _ => fun _ _ _ _ _ _ => .bad 91) (fun a o l _ => fun m ys d h ct k => Bool.rec (Bool.rec (putRow a o (Nat.mul l (szT P el)) (subC ys 0 (Nat.mul l (szT P el))) (.i 3 l) d h ct k) (k (.i 3 0) d h ct) (isZ l)) (Bool.rec (putRow a o (Nat.mul m (szT P el)) ys (.i 3 m) d h ct k) (k (.i 3 0) d h ct) (isZ m)) (Nat.ble m l)) (fun a o _ l => fun m ys d h ct k => Bool.rec (Bool.rec (putRow a o (Nat.mul l (szT P el)) (subC ys 0 (Nat.mul l (szT P el))) (.i 3 l) d h ct k) (k (.i 3 0) d h ct) (isZ l)) (Bool.rec (putRow a o (Nat.mul m (szT P el)) ys (.i 3 m) d h ct k) (k (.i 3 0) d h ct) (isZ m)) (Nat.ble m l)) (fun _ _ _ => fun _ _ _ _ _ _ => .bad 91) (fun _ _ d h c k => k (.i 3 0) d h c) (fun _ => fun _ _ _ _ _ _ => .bad 91) (fun _ _ _ _ _ _ => .bad 91) (fun _ _ _ _ _ => fun _ _ _ _ _ _ => .bad 91) (fun _ _ _ _ _ _ => .bad 91) (fun _ => fun _ _ _ _ _ _ => .bad 91) (fun _ _ _ => fun _ _ _ _ _ _ => .bad 91) (fun _ _ _ _ _ _ => .bad 91) (fun _ _ _ => fun _ _ _ _ _ _ => .bad 91) (fun _ _ => fun _ _ _ _ _ _ => .bad 91) (fun _ _ _ _ _ _ => .bad 91) (fun _ _ _ _ => fun _ _ _ _ _ _ => .bad 91) (fun _ _ => fun _ _ _ _ _ _ => .bad 91) (fun _ _ _ => fun _ _ _ _ _ _ => .bad 91) (ev (cOpd e x) ns T)) m ys dd h c k) (lt m 9223372036854775808))).Good := hg
     have hyx : ev (cOpd e y) ns T ≠ .x := by intro hh; rw [hh] at hg0; exact bad_good hg0
     have vy := hm y hyx
     obtain ⟨m, ys, e1, hys, hsrc⟩ := slCells_good (P := P) hr vy.2 hg0
     have g1 := good_of e1 hg0
     obtain ⟨h2, e2⟩ := rec_good (z := lt m 9223372036854775808) g1
     have g2 := good_of e2 g1
     rw [lt_iff] at h2
     have hxx : ev (cOpd e x) ns T ≠ .x := by intro hh; rw [hh] at g2; exact bad_good g2
     have vx := hm x hxx
     have fin : ∀ (r : Value) (w' : World), (Builtin.copy_ #[t, u] o.type #[val L (ev (cOpd e x) ns T), val L (ev (cOpd e y) ns T)]).run P w = .ok r w' → (execOp a.eval o).run P w = .ok (.value r) w' := by
      intro r w' hrun
      rw [run_builtin ho hb0, hx, ht]
      have hmap : (#[x, y] : Array Operand).map a.eval = #[val L (ev (cOpd e x) ns T), val L (ev (cOpd e y) ns T)] := by simp [vx.1, vy.1]
      rw [hmap]
      simp only [builtin, Sem.run_bind, hrun, Result.andThen_ok, Sem.run_pure]
     have run : ∀ (base : Option Addr) (dl dc n : Nat) (w' : World), n = Nat.min m dl → (match base with | none => w' = w | some ad => (storeCells ad (fit (n * szT P el) (lcv L ys))).run P w = .ok () w') →
      (Builtin.copy_ #[t, u] o.type #[.slice base dl dc, val L (ev (cOpd e y) ns T)]).run P w = .ok (goInt n) w' := by
      intro base dl dc n w' hn hst
      subst hn
      have h3 := (hsrc w rfl).1
      have h4 := (hsrc w rfl).2 (Nat.min m dl) (Nat.min_le_left _ _)
      simp only [Builtin.copy_, List.getElem?_toArray, List.getElem?_cons_zero, List.getElem?_cons_succ, Sem.run_bind, run_underlying hu, Result.andThen_ok, h3, hsz, h4]
      cases base with
      | none => subst hst; rfl
      | some ad => simp only [Sem.run_bind, hst, Result.andThen_ok, Sem.run_pure]
     have key : ∀ (nm : Nm) (off l cap : Nat), val L (ev (cOpd e x) ns T) = .slice (some ⟨L.b nm, off, none⟩) l cap →
      (Bool.rec (Bool.rec (putRow nm off (Nat.mul l (szT P el)) (subC ys 0 (Nat.mul l (szT P el))) (.i 3 l) dd h c k) (k (.i 3 0) dd h c) (isZ l)) (Bool.rec (putRow nm off (Nat.mul m (szT P el)) ys (.i 3 m) dd h c k) (k (.i 3 0) dd h c) (isZ m)) (Nat.ble m l) : R).Good →
      ∃ (v : V) (h' : H) (w' : World), (Bool.rec (Bool.rec (putRow nm off (Nat.mul l (szT P el)) (subC ys 0 (Nat.mul l (szT P el))) (.i 3 l) dd h c k) (k (.i 3 0) dd h c) (isZ l)) (Bool.rec (putRow nm off (Nat.mul m (szT P el)) ys (.i 3 m) dd h c k) (k (.i 3 0) dd h c) (isZ m)) (Nat.ble m l) : R) = k v dd h' c ∧
        Stp L S h c w L S h' c w' ∧ (wf S v).v ∧ (execOp a.eval o).run P w = .ok (.value (val L v)) w' := by
      intro nm off l cap hv hg
      have zero : Nat.min m l = 0 → ∃ (w' : World), Stp L S h c w L S h c w' ∧ (wf S (.i 3 0)).v ∧ (execOp a.eval o).run P w = .ok (.value (val L (.i 3 0))) w' := by
       intro h0
       refine ⟨w, Stp.refl hr hb, (goInt_val L (n := 0) (by omega)).2 S, fin _ _ ?_⟩
       rw [hv, ← (goInt_val L (n := 0) (by omega)).1]
       refine run _ l cap 0 w h0.symm ?_
       rw [Nat.zero_mul, fit_zero]; rfl
      cases hml : Nat.ble m l
      · rw [hml] at hg
        have hlt : l < m := by
         rcases Nat.lt_or_ge l m with h | h
         · exact h
         · have : Nat.ble m l = true := by rw [Nat.ble_eq]; exact h
           rw [hml] at this; cases this
        cases hz : isZ l
        · rw [hz] at hg
          rw [isZ_eq, decide_eq_false_iff_not] at hz
          have hsub := (subC_spec L S ys).2 hys 0 (l * szT P el)
          obtain ⟨h', w', e3, h3, h4⟩ := putRow_good (P := P) hr hb hsub.2 (Nat.mul_pos (by omega) hk) hg
          have hgi := goInt_val L (n := l) (by omega)
          refine ⟨.i 3 l, h', w', e3, h4, hgi.2 S, fin _ _ ?_⟩
          rw [hv, ← hgi.1]
          refine run _ l cap l w' (Nat.min_eq_right (Nat.le_of_lt hlt)).symm ?_
          rw [hsub.1, List.drop_zero, fit_take] at h3
          exact h3
        · rw [isZ_eq, decide_eq_true_eq] at hz
          subst hz
          obtain ⟨w', h3, h4, h5⟩ := zero (Nat.min_eq_right (Nat.zero_le _))
          exact ⟨.i 3 0, h, w', rfl, h3, h4, h5⟩
      · rw [hml] at hg
        rw [Nat.ble_eq] at hml
        cases hz : isZ m
        · rw [hz] at hg
          rw [isZ_eq, decide_eq_false_iff_not] at hz
          obtain ⟨h', w', e3, h3, h4⟩ := putRow_good (P := P) hr hb hys (Nat.mul_pos (by omega) hk) hg
          have hgi := goInt_val L (n := m) (by omega)
          refine ⟨.i 3 m, h', w', e3, h4, hgi.2 S, fin _ _ ?_⟩
          rw [hv, ← hgi.1]
          exact run _ l cap m w' (Nat.min_eq_left hml).symm h3
        · rw [isZ_eq, decide_eq_true_eq] at hz
          subst hz
          obtain ⟨w', h3, h4, h5⟩ := zero (Nat.min_eq_left (Nat.zero_le _))
          exact ⟨.i 3 0, h, w', rfl, h3, h4, h5⟩
     have e12 : hCopy (szT P el) (cOpd e x) (cOpd e y) cal ns T dd h c k = _ := e1.trans e2
     cases hxe : ev (cOpd e x) ns T <;> rw [hxe] at g2 e12 <;> first
      | exact (bad_good g2).elim
      | skip
     case sl nm off l cap =>
      obtain ⟨v, h', w', h5, h6, h7, h8⟩ := key nm off l cap (by rw [hxe]; rfl) g2
      exact ⟨v, h', c, L, S, w', _, e12.trans h5, h6, h7, h8, .inl rfl⟩
     case so nm off r l =>
      obtain ⟨v, h', w', h5, h6, h7, h8⟩ := key nm off l _ (by rw [hxe]; rfl) g2
      exact ⟨v, h', c, L, S, w', _, e12.trans h5, h6, h7, h8, .inl rfl⟩
     case ns =>
      have hgi := goInt_val L (n := 0) (by omega)
      refine ⟨.i 3 0, h, c, L, S, w, _, e12, Stp.refl hr hb, hgi.2 S, fin _ _ ?_, .inl rfl⟩
      rw [hxe, ← hgi.1]
      exact run none 0 0 0 w (Nat.min_eq_right (Nat.zero_le _)).symm rfl
   · cases hc
 | _ => cases hc
theorem cClear_sound (ho : o.op = .call cl) (hb0 : cl.callee = .builtin .clear) (hx : cl.args = #[x]) (ht : cl.argTypes = #[t]) {f : WH} (hc : cClear P t (cOpd e x) = .w f) : WS P L S e o f := by
 unfold cClear at hc
 cases hu : P.underlying t with
 | none => rw [hu] at hc; cases hc
 | some d =>
 rw [hu] at hc
 cases d with
 | slice el =>
   simp only at hc
   cases hz : zeroCh P el with
   | none => rw [hz] at hc; cases hc
   | some z =>
   rw [hz] at hc
   simp only at hc
   split at hc
   · rename_i hk
     rw [decide_eq_true_eq] at hk
     injection hc with hc
     subst hc
     obtain ⟨i, zv, hi, h0, hs, hcells, hw, hzs, _⟩ := zeros_spec hz hk
     intro cal a ns T dd h c w k hm hr hb hg
     have fin : ∀ (w' : World), (Builtin.clear_ #[t] o.type #[val L (ev (cOpd e x) ns T)]).run P w = .ok (.tuple #[]) w' → ev (cOpd e x) ns T ≠ .x → (execOp a.eval o).run P w = .ok (.value (val L (.tup .nil))) w' := by
      intro w' hrun hxx
      have vx := hm x hxx
      rw [run_builtin ho hb0, hx, ht]
      have hmap : (#[x] : Array Operand).map a.eval = #[val L (ev (cOpd e x) ns T)] := by simp [vx.1]
      rw [hmap]
      simp only [builtin, Sem.run_bind, hrun, Result.andThen_ok, Sem.run_pure]
      rfl
     have hzr : ∀ W, (zeroValue el).run P W = .ok zv W := fun W => run_zeroValue_of (P := P) hi h0 W
     have key : ∀ (nm : Nm) (off l cap : Nat), ev (cOpd e x) ns T ≠ .x → val L (ev (cOpd e x) ns T) = .slice (some ⟨L.b nm, off, none⟩) l cap →
      (Bool.rec (putRow nm off (Nat.mul l (szT P el)) (repK (mkSp z (szT P el)) l) (.tup .nil) dd h c k) (k (.tup .nil) dd h c) (isZ l) : R).Good →
      ∃ (h' : H) (w' : World), (Bool.rec (putRow nm off (Nat.mul l (szT P el)) (repK (mkSp z (szT P el)) l) (.tup .nil) dd h c k) (k (.tup .nil) dd h c) (isZ l) : R) = k (.tup .nil) dd h' c ∧
        Stp L S h c w L S h' c w' ∧ (execOp a.eval o).run P w = .ok (.value (val L (.tup .nil))) w' := by
      intro nm off l cap hne hv hg
      cases hzl : isZ l with
      | true =>
        rw [hzl] at hg
        rw [isZ_eq, decide_eq_true_eq] at hzl
        subst hzl
        refine ⟨h, w, rfl, Stp.refl hr hb, fin w ?_ hne⟩
        rw [hv]
        simp only [Builtin.clear_, List.getElem?_toArray, List.getElem?_cons_zero, Sem.run_bind, run_underlying hu, Result.andThen_ok, Sem.run_pure]
      | false =>
        rw [hzl] at hg
        rw [isZ_eq, decide_eq_false_iff_not] at hzl
        obtain ⟨h', w', e3, h3, h4⟩ := putRow_good (P := P) hr hb (hw S l) (Nat.mul_pos (by omega) hk) hg
        refine ⟨h', w', e3, h4, fin w' ?_ hne⟩
        rw [hv]
        have hnew : (Builtin.zeroCells zv.cells l).toList = fit (l * szT P el) (lcv L (repK (mkSp z (szT P el)) l)) := by
         rw [← hcells L l]
         unfold Builtin.zeroCells
         rw [hzs]
        have h3' : (storeCells ⟨L.b nm, off, none⟩ (fit (l * szT P el) (lcv L (repK (mkSp z (szT P el)) l)))).run P w = .ok () w' := h3
        rw [← hnew] at h3'
        cases l with
        | zero => exact absurd rfl hzl
        | succ l => simp only [Builtin.clear_, List.getElem?_toArray, List.getElem?_cons_zero, Sem.run_bind, run_underlying hu, Result.andThen_ok, hzr, h3', Sem.run_pure]
     have e0 : ∀ v, ev (cOpd e x) ns T = v → hClear (szT P el) (mkSp z (szT P el)) (cOpd e x) cal ns T dd h c k = (V.rec (motive := fun _ => (List D → H → Nm → KW → R))
 (fun _ _ _ _ => .bad 130) (fun _ _ _ _ => .bad 130) (fun _ _ => fun _ _ _ _ => .bad 130) (fun _ => fun _ _ _ _ => .bad 130) (fun _ _ => fun _ _ _ _ => .bad 130) (fun _ _ _ _ => .bad 130) (fun _ _ => fun _ _ _ _ => .bad 130) (fun a o l _ => fun d h ct k => Bool.rec (putRow a o (Nat.mul l (szT P el)) (repK (mkSp z (szT P el)) l) (.tup .nil) d h ct k) (k (.tup .nil) d h ct) (isZ l)) (fun a o _ l => fun d h ct k => Bool.rec (putRow a o (Nat.mul l (szT P el)) (repK (mkSp z (szT P el)) l) (.tup .nil) d h ct k) (k (.tup .nil) d h ct) (isZ l)) (fun _ _ _ => fun _ _ _ _ => .bad 130) (fun d h c k => k (.tup .nil) d h c) (fun _ => fun _ _ _ _ => .bad 130) (fun _ _ _ _ => .bad 130) (fun _ _ _ _ _ => fun _ _ _ _ => .bad 130) (fun _ _ _ _ => .bad 130) (fun _ => fun _ _ _ _ => .bad 130) (fun _ _ _ => fun _ _ _ _ => .bad 130) (fun _ _ _ _ => .bad 130) (fun _ _ _ => fun _ _ _ _ => .bad 130) (fun _ _ => fun _ _ _ _ => .bad 130) (fun _ _ _ _ => .bad 130) (fun _ _ _ _ => fun _ _ _ _ => .bad 130) (fun _ _ => fun _ _ _ _ => .bad 130) (fun _ _ _ => fun _ _ _ _ => .bad 130) v) dd h c k := fun v hv => by subst hv; rfl
     cases hxe : ev (cOpd e x) ns T <;> (have e1 := e0 _ hxe; rw [e1] at hg ⊢) <;> first
      | exact (bad_good hg).elim
      | skip
     case sl nm off l cap =>
      obtain ⟨h', w', h5, h6, h7⟩ := key nm off l cap (by rw [hxe]; simp) (by rw [hxe]; rfl) hg
      exact ⟨.tup .nil, h', c, L, S, w', _, h5, h6, trivial, h7, .inl rfl⟩
     case so nm off r l =>
      obtain ⟨h', w', h5, h6, h7⟩ := key nm off l _ (by rw [hxe]; simp) (by rw [hxe]; rfl) hg
      exact ⟨.tup .nil, h', c, L, S, w', _, h5, h6, trivial, h7, .inl rfl⟩
     case ns =>
      refine ⟨.tup .nil, h, c, L, S, w, _, rfl, Stp.refl hr hb, trivial, fin w ?_ (by rw [hxe]; simp), .inl rfl⟩
      rw [hxe]
      show (Builtin.clear_ #[t] o.type #[.slice none 0 0]).run P w = _
      simp only [Builtin.clear_, List.getElem?_toArray, List.getElem?_cons_zero, Sem.run_bind, run_underlying hu, Result.andThen_ok, Sem.run_pure]
   · cases hc
 | _ => cases hc
end
end Go.Ev

namespace Go.Ev
open Go.MapKept
section
variable {P : Program} {S : Ns} {e : Ce} {o : Oper} {L : Loc} {cl : Call} {t u : TypeId} {x y : Operand}
theorem entsR_del (L : Loc) {b : Nat} : ∀ (es : V) (xs : List MapEntry), entsR L es xs → (wf S es).s → entsR L (delM es b) (xs.eraseP fun x => x.born == b) ∧ (wf S (delM es b)).s := by
 intro es
 induction es with
 | nil =>
   intro xs h _
   cases xs with
   | nil => exact ⟨trivial, trivial⟩
   | cons _ _ => exact h.elim
 | cons a w _ ih =>
   intro xs h hw
   cases xs with
   | nil => exact h.elim
   | cons x xs =>
     have hi := ih xs h.2 hw.2
     have hw2 : (wf S w).s := hw.2
     obtain ⟨⟨k', v', b', rfl, h1, h2, h3⟩, h4⟩ := h
     have e1 : delM (.cons (ent k' v' b') w) b = (Bool.rec (.cons (ent k' v' b') (delM w b)) w (Nat.beq b' b) : V) := rfl
     rw [e1, bool_rec_eq]
     simp only [Nat.beq_eq]
     by_cases hb : b' = b
     · subst hb
       rw [if_pos rfl, List.eraseP_cons_of_pos (by simp [h3])]
       exact ⟨h4, hw2⟩
     · rw [if_neg hb, List.eraseP_cons_of_neg (by simp only [h3, beq_iff_eq]; exact hb)]
       exact ⟨⟨⟨k', v', b', rfl, h1, h2, h3⟩, hi.1⟩, ⟨hw.1, hi.2⟩⟩
 | _ => intro xs _ hw; exact hw.elim
theorem erase_born : ∀ {xs : List MapEntry} {i : Nat} {x : MapEntry}, (xs.map (·.born)).Pairwise (· < ·) → xs[i]? = some x → (xs.eraseP fun y => y.born == x.born) = xs.eraseIdx i := by
 intro xs
 induction xs with
 | nil => intro i x _ hx; simp at hx
 | cons y ys ih =>
   intro i x hp hx
   rw [List.map_cons, List.pairwise_cons] at hp
   cases i with
   | zero =>
     obtain rfl : y = x := by simpa using hx
     rw [List.eraseP_cons_of_pos (by simp)]
     rfl
   | succ i =>
     have hx' : ys[i]? = some x := by simpa using hx
     have hlt := hp.1 x.born (List.mem_map.2 ⟨x, List.mem_of_getElem? hx', rfl⟩)
     rw [List.eraseP_cons_of_neg (by simp only [beq_iff_eq]; omega), ih hp.2 hx']
     rfl
theorem BR.mapDel {nm : Nm} {es : V} {cl i : Nat} {x : MapEntry} {ents : Array MapEntry} (h : BR L S nm (.map es cl) (.map ents cl)) (hx : ents.toList[i]? = some x) :
 BR L S nm (.map (delM es x.born) cl) (.map (ents.eraseIdxIfInBounds i) cl) := by
 obtain ⟨_, h2, h3, h4, h5⟩ := h
 have hp := entsR_del L es ents.toList h3 h2 (b := x.born)
 have e1 : (ents.eraseIdxIfInBounds i).toList = ents.toList.eraseP (fun y => y.born == x.born) := by
  rw [erase_born h4 hx, Array.toList_eraseIdxIfInBounds]
 have hsub : (ents.toList.eraseP (fun y => y.born == x.born)).Sublist ents.toList := List.eraseP_sublist
 exact ⟨rfl, hp.2, by rw [e1]; exact hp.1, by rw [e1]; exact h4.sublist (hsub.map _), fun y hy => h5 y (hsub.subset (by rw [e1] at hy; exact hy))⟩
theorem cDelete_sound (ho : o.op = .call cl) (hb0 : cl.callee = .builtin .delete) (hx : cl.args = #[x, y]) (ht : cl.argTypes = #[t, u]) {f : WH} (hc : cDelete P t (cOpd e x) (cOpd e y) = .w f) : WS P L S e o f := by
 unfold cDelete at hc
 cases hu : P.underlying t with
 | none => rw [hu] at hc; cases hc
 | some d =>
 rw [hu] at hc
 cases d with
 | map kt et =>
   simp only at hc
   cases hky : cKey P kt with
   | none => rw [hky] at hc; cases hc
   | some ky =>
     rw [hky] at hc
     injection hc with hc
     subst hc
     intro cal a ns T dd h c w k hm hr hb hg
     have hkey := cKey_spec (P := P) (L := L) (S := S) hky
     obtain ⟨nm, hx0, e1⟩ := asM_good hg
     have g1 := good_of e1 hg
     obtain ⟨es, cl0, hn, e2⟩ := asMap_good g1
     have g2 := good_of e2 g1
     obtain ⟨hne, hat⟩ := hkey _ _ g2
     have vy := hm y hne
     obtain ⟨e3, hk⟩ := hat vy.2
     have g4 := good_of e3 g2
     have vx := hm.at x hx0 (by simp)
     have hx1 : a.eval x = .map (some (L.b nm)) := vx.1
     obtain ⟨hS, ob, hob, hbr⟩ := hr.blk nm (by rw [hn]; simp)
     rw [hn] at hbr
     cases ob with
     | map ents clock =>
       obtain ⟨rfl, hes, hrr, _, _⟩ := id hbr
       have fin : ∀ w', (Builtin.delete_ #[t, u] o.type #[.map (some (L.b nm)), val L (ev (cOpd e y) ns T)]).run P w = .ok (.tuple #[]) w' → (execOp a.eval o).run P w = .ok (.value (val L (.tup .nil))) w' := by
        intro w' hrun
        rw [run_builtin ho hb0, hx, ht]
        have hmap : (#[x, y] : Array Operand).map a.eval = #[.map (some (L.b nm)), val L (ev (cOpd e y) ns T)] := by simp [vy.1, hx1]
        rw [hmap]
        simp only [builtin, Sem.run_bind, hrun, Result.andThen_ok, Sem.run_pure]
        rfl
       rcases findM_key hk es ents.toList hes hrr g4 with ⟨i, x', k', v', b', g5, g6, g7, g8, g9, g10, g11⟩ | ⟨g5, g6⟩
       · subst g7
         refine ⟨.tup .nil, _, c, L, S, _, _, e1.trans (e2.trans (e3.trans g10)), map_step hr hb hn hob (hbr.mapDel g5), trivial, fin _ ?_, .inl rfl⟩
         simp only [Builtin.delete_, List.getElem?_toArray, List.getElem?_cons_zero, List.getElem?_cons_succ, Sem.run_bind, run_underlying hu, Result.andThen_ok, MapKept.run_getObj_map hob, hk.1, g11, run_setObj_map _ hob, Sem.run_pure]
       · have hst : Stp L S h c w L S h c { w with heap := w.heap.setIfInBounds (L.b nm) (.map ents clock) } := Stp.same hr hb (set_same hob)
         refine ⟨.tup .nil, h, c, L, S, _, _, e1.trans (e2.trans (e3.trans g5)), hst, trivial, fin _ ?_, .inl rfl⟩
         simp only [Builtin.delete_, List.getElem?_toArray, List.getElem?_cons_zero, List.getElem?_cons_succ, Sem.run_bind, run_underlying hu, Result.andThen_ok, MapKept.run_getObj_map hob, hk.1, g6, run_setObj_map _ hob, Sem.run_pure]
     | _ => exact hbr.elim
 | _ => cases hc
end
end Go.Ev

namespace Go.Ev
section
variable {P : Program} {S : Ns} {e : Ce} {o : Oper} {L : Loc}
theorem callsIn_fnc {rd : Option Nat} {n : Nat} {f : FuncId} {args : Array Value} {w : World} {R : Ending → World → Prop} (h : CallsIn (fnc none) 0 P f args w R) : CallsIn (fnc rd) n P f args w R :=
 ⟨trivial, fun cs _ => h.2 cs (fun d hd => by cases hd)⟩
theorem roundIn_fnc {rd : Option Nat} {n l : Nat} {f : FuncId} {tmps : Array Value} {as body : Code} {w : World} {R : Ending → World → Prop} (h : RoundIn (fnc none) 0 P l f tmps as body w R) : RoundIn (fnc rd) n P l f tmps as body w R :=
 ⟨trivial, fun c cs _ => h.2 c cs (fun d hd => by cases hd)⟩
theorem doing_upon {rd : Option Nat} {a : Act} {next : Act → World → Prop} {Q : Exit → Act → World → Prop} {R : Ending → World → Prop} {x : Result Next} (h : Doing P R x)
 (hR : ∀ en w', R en w' → match en with | .returned v => next (a.put o.dst v) w' | .panicked chain => Q (.panic chain) a w' | .outgrown => LetsOut Q) : o.uponIn (fnc rd) 0 P a next Q x := by
 cases x with
 | halt => exact h.elim
 | ok y w =>
   cases y <;> first | exact h.elim | skip
   · rw [Oper.uponIn_enter]
     refine ⟨fun hd => (by cases hd), (callsIn_fnc h).mono fun en w' hr => ?_⟩
     have := hR en w' hr
     cases en <;> exact this
   · rw [Oper.uponIn_round]
     refine ⟨fun hd => (by cases hd), (roundIn_fnc h).mono fun en w' hr => ?_⟩
     have := hR en w' hr
     cases en <;> exact this
theorem cgood_of {k : KW} {t : T} {d : List D} {r : C} (h : (C.rec (motive := fun _ => KW → T → List D → R) (fun e _ _ _ => .bad e) (fun v h c k _ d => k v d h c) (fun ch h c _ t d => .panic ch t d h c) r k t d : R).Good) : CGood r := by
 cases r with
 | bad n => exact (bad_good h).elim
 | ret v h c => intro n hh; cases hh
 | panic ch h c => intro n hh; cases hh
theorem OS.call {rd : Option Nat} {c₀ : Call} {f : Opnd} {l : List Opnd} (ho : o.op = .call c₀)
 (h : ∀ (L : Loc) (S : Ns) (a : Act) (ns : List V) (t : T) (q : V → R), Mat L S e a ns t → nx (ev f ns t) = true → (hList l ns t q).Good → ∃ args, hList l ns t q = q args ∧ (wf S args).s ∧ (wf S (ev f ns t)).v ∧
  ∀ w, (execOp a.eval o).run P w = (do let d ← Deferred.ofValue (val L (ev f ns t)) (lsv L args).toArray; invoke d.target d.args : Sem Next).run P w) :
 OS P rd e o (.w (hCall f l)) := by
 intro cal a ns t d hh c w L S k next Q hcal hgok hm hr hb hd hg hk hp
 have hg0 : (Bool.rec (.bad 120) (hList l ns t (fun args => C.rec (motive := fun _ => KW → T → List D → R) (fun e _ _ _ => .bad e) (fun v h c k _ d => k v d h c) (fun ch h c _ t d => .panic ch t d h c) (cal (ev f ns t) args hh c) k t d)) (nx (ev f ns t)) : R).Good := hg
 obtain ⟨h0, e0⟩ := rec_good hg0
 have g0 := good_of e0 hg0
 obtain ⟨args, e1, h1, h2, h3⟩ := h L S a ns t _ hm h0 g0
 have g1 := good_of e1 g0
 have hcg := cgood_of g1
 have hdo := hcal (ev f ns t) args hh c L S w hr hb hgok h2 h1 hcg
 rw [← h3 w] at hdo
 have hsem : o.semAt (fnc rd).round a.eval = execOp a.eval o := Oper.semAt_eq _ _ _ (by intro c hc; rw [ho] at hc; cases hc)
 rw [hsem]
 have eall : execO (.w (hCall f l)) cal ns t d hh c k = _ := e0.trans e1
 refine doing_upon hdo fun en w' hpost => ?_
 cases hC : cal (ev f ns t) args hh c with
 | bad n => exact absurd hC (hcg n)
 | ret v h' c' =>
   rw [hC] at hpost eall
   obtain ⟨L', S', rfl, h4, h5⟩ := hpost
   exact hk v d h' c' L' S' a.defers w' h5 h4 (hd.congr h5.sub h5.agr) eall
 | panic ch h' c' =>
   rw [hC] at hpost eall
   obtain ⟨L', S', chain, rfl, h4, h5⟩ := hpost
   exact hp ch h' c' chain L' S' w' h5 h4 eall
theorem OS.callV {rd : Option Nat} {c₀ : Call} {f : Operand} (ho : o.op = .call c₀) (hf : c₀.callee = .value f) : OS P rd e o (.w (hCall (cOpd e f) (c₀.args.toList.map (cOpd e)))) := by
 refine OS.call ho fun L S a ns t q hm hx hg => ?_
 obtain ⟨v, h1, h2, h3⟩ := hList_good hm c₀.args.toList _ hg
 have vf := hm f ((nx_iff _).1 hx)
 refine ⟨v, h1, h2, vf.2, fun w => ?_⟩
 have e1 : (c₀.args.toList.map a.eval).toArray = c₀.args.map a.eval := by apply Array.ext'; simp
 rw [h3, e1, ← vf.1]
 simp only [execOp, ho, resolve, hf]
theorem OS.callM {rd : Option Nat} {c₀ : Call} {r : Operand} {m : String} (ho : o.op = .call c₀) (hf : c₀.callee = .invoke r m) : OS P rd e o (.w (hCall (.c (.f (.method m) .nil .nil)) (cOpd e r :: c₀.args.toList.map (cOpd e)))) := by
 refine OS.call ho fun L S a ns t q hm hx hg => ?_
 have hg' : (hList ((r :: c₀.args.toList).map (cOpd e)) ns t q).Good := hg
 obtain ⟨v, h1, h2, h3⟩ := hList_good hm (r :: c₀.args.toList) _ hg'
 refine ⟨v, h1, h2, ⟨trivial, trivial, trivial⟩, fun w => ?_⟩
 have e1 : ((r :: c₀.args.toList).map a.eval).toArray = #[a.eval r] ++ c₀.args.map a.eval := by apply Array.ext'; simp
 rw [h3, e1]
 simp only [execOp, ho, resolve, hf]
 show _ = (do let d ← (pure { target := Target.fn (.method m) #[], args := #[] ++ (#[a.eval r] ++ c₀.args.map a.eval) } : Sem Deferred); invoke d.target d.args : Sem Next).run P w
 rw [Array.empty_append]
end
end Go.Ev

namespace Go.Ev
section
variable {P : Program} {L : Loc} {c : Nm → Prop} {e : Ce} {o : Oper} {t yt : TypeId} {x y : Operand}
theorem part_by {el : TypeId} (hu : P.underlying el = some (.int .u8)) (l : List UInt8) (j : Nat) (b : UInt8) (h : l[j]? = some b) (w : World) : (part el (l.map u8v).toArray j).run P w = .ok (u8v b) w := by
 have hag : (isAgg el).run P w = .ok false w := by simp only [isAgg, Sem.run_bind, run_underlying hu, Result.andThen_ok]; rfl
 have h2 : (l.map u8v).toArray[j]? = some (u8v b) := by simp [h]
 simp [part, hag, h2]
theorem eqItemsBy {el : TypeId} {i : TypeInfo} (hu : P.underlying el = some (.int .u8)) (d : Nat) (a b : List UInt8) (w : World) : ∀ is : List Nat, (∀ i ∈ is, i < a.length ∧ i < b.length) →
 (Op.eqItems (d + 1) el 1 (a.map u8v).toArray (b.map u8v).toArray is).run P w = .ok (is.all fun i => decide (a.getD i 0 = b.getD i 0)) w
 | [], _ => by simp [Op.eqItems]
 | i :: is, h => by
   obtain ⟨ha, hb⟩ := h i (by simp)
   have h1 := part_by (P := P) hu a i (a.getD i 0) (by rw [List.getElem?_eq_getElem ha]; simp [List.getD, List.getElem?_eq_getElem ha]) w
   have h2 := part_by (P := P) hu b i (b.getD i 0) (by rw [List.getElem?_eq_getElem hb]; simp [List.getD, List.getElem?_eq_getElem hb]) w
   have ih := eqItemsBy (i := ‹TypeInfo›) hu d a b w is (fun j hj => h j (by simp [hj]))
   have h3 : (Op.equalIn (d + 1) el (u8v (a.getD i 0)) (u8v (b.getD i 0))).run P w = .ok (decide (a.getD i 0 = b.getD i 0)) w := by
    have e1 : ((((a.getD i 0).toNat : Nat) : Int) == (((b.getD i 0).toNat : Nat) : Int)) = decide (a.getD i 0 = b.getD i 0) := by
     rw [Bool.eq_iff_iff, beq_iff_eq, decide_eq_true_eq]
     exact ⟨fun h => UInt8.toNat_inj.1 (by omega), fun h => by rw [h]⟩
    simp only [u8v, Op.equalIn, Sem.run_bind, run_underlying hu, Result.andThen_ok, if_true, Sem.run_pure, e1]
   simp only [Op.eqItems, Sem.run_bind, Nat.mul_one, h1, h2, h3, Result.andThen_ok, List.all_cons]
   by_cases e : a.getD i 0 = b.getD i 0
   · simp only [e, decide_true, Bool.not_true, Bool.false_eq_true, if_false, Bool.true_and]; exact ih
   · simp only [e, decide_false, Bool.not_false, if_true, Bool.false_and]; rfl
theorem all_rangeBy (a b : List UInt8) (n : Nat) (ha : a.length = n) (hb : b.length = n) : ((List.range n).all fun i => decide (a.getD i 0 = b.getD i 0)) = decide (a = b) := by
 rw [Bool.eq_iff_iff]
 simp only [List.all_eq_true, List.mem_range, decide_eq_true_eq]
 constructor
 · intro h
   apply List.ext_getElem (by omega)
   intro i h3 h4
   have := h i (by omega)
   simpa [List.getD, List.getElem?_eq_getElem h3, List.getElem?_eq_getElem h4] using this
 · rintro rfl _ _; rfl
theorem PS.eqBy {n : Nat} {el : TypeId} {neg : Bool} (ho : o.op = .binOp (if neg then .neq else .eql) t x y yt) (hu : P.underlying t = some (.array n el)) (h8 : isU8 P el = true) (h1 : szT P el = 1) (hgd : P.eqGuardType P.depth t = false) :
 PS P L c e o (hEqBy n neg (cOpd e x) (cOpd e y)) := by
 have hue := isU8_spec h8
 obtain ⟨i, hi⟩ := info_of_underlying hue
 intro a ns T k hm hg
 obtain ⟨w1, cs, hx, e1⟩ := asAgg_good hg
 have g1 := good_of e1 hg
 obtain ⟨w2, cs', hy, e2⟩ := asAgg_good g1
 have g2 := good_of e2 g1
 obtain ⟨h3, e3⟩ := rec_good (z := Bool.and (Nat.beq w1 n) (Nat.beq w2 n)) g2
 have g3 := good_of e3 g2
 have h3' : (Nat.beq w1 n && Nat.beq w2 n) = true := h3
 rw [Bool.and_eq_true, Nat.beq_eq, Nat.beq_eq] at h3'
 obtain ⟨rfl, rfl⟩ := h3'
 have vx := hm.at x hx (by simp)
 have vy := hm.at y hy (by simp)
 obtain ⟨p, e4, p1, p2⟩ := (bytesN_spec L c cs).2 vx.2 0 w2 _ g3
 have g4 := good_of e4 g3
 obtain ⟨q, e5, q1, q2⟩ := (bytesN_spec L c cs').2 vy.2 0 w2 _ g4
 have g5 := good_of e5 g4
 have cell : ∀ (W : V) (r : Nat), ((lcv L W).drop 0).take w2 = chv L (.bs w2 r) → fit w2 (lcv L W) = (bytesL w2 r).map u8v := fun W r h => by
  rw [List.drop_zero, chv_bs] at h
  rw [← fit_take, h, fit_self (by rw [List.length_map, bytesL_len])]
 have ex : a.eval x = .agg ((bytesL w2 p).map u8v).toArray := vx.1.trans (by show Value.agg (fit w2 (lcv L cs)).toArray = _; rw [cell cs p p2])
 have ey : a.eval y = .agg ((bytesL w2 q).map u8v).toArray := vy.1.trans (by show Value.agg (fit w2 (lcv L cs')).toArray = _; rw [cell cs' q q2])
 have heq : ∀ W, (Op.equal t (.agg ((bytesL w2 p).map u8v).toArray) (.agg ((bytesL w2 q).map u8v).toArray)).run P W = .ok (decide (bytesL w2 p = bytesL w2 q)) W := fun W => by
  show (Op.equalIn (9999 + 1) t _ _).run P W = _
  have hc : P.cellsOf el = 1 := h1
  rw [run_equalIn_array W 9999 _ _ hu hi, hc, eqItemsBy (i := i) hue 9998 _ _ W _ (fun j hj => by simp [bytesL] at hj ⊢; exact hj), all_rangeBy _ _ w2 (bytesL_len _ _) (bytesL_len _ _)]
 have hdec : decide (bytesL w2 p = bytesL w2 q) = Nat.beq p q := by
  rw [Bool.eq_iff_iff, decide_eq_true_eq, Nat.beq_eq]
  exact ⟨fun h => (str_inj p1 q1 h).2, fun h => by rw [h]⟩
 have eall : hEqBy w2 neg (cOpd e x) (cOpd e y) ns T k = _ := e1.trans (e2.trans (e3.trans (e4.trans e5)))
 have hgu : ∀ op W, (eqGuard op t x y (.agg ((bytesL w2 p).map u8v).toArray) (.agg ((bytesL w2 q).map u8v).toArray)).run P W = .ok () W := fun op W => by
  unfold eqGuard
  cases op <;> simp [hgd]
 refine ⟨.b (if neg then !(Nat.beq p q) else Nat.beq p q), trivial, ?_, fun W => ?_⟩
 · rw [eall]
   cases hb : Nat.beq p q
   · cases neg <;> rfl
   · cases neg <;> rfl
 · cases neg
   · simp only [execOp, ho, ex, ey, Sem.run_bind, Bool.false_eq_true, if_false, hgu, Result.andThen_ok, binOp, heq, Sem.run_pure, hdec]
     rfl
   · simp only [execOp, ho, ex, ey, Sem.run_bind, if_true, hgu, Result.andThen_ok, binOp, heq, Sem.run_pure, hdec]
     rfl
end
end Go.Ev

namespace Go.Ev
section
variable {P : Program}
variable {L : Loc} {c : Nm → Prop} {e : Ce} {o : Oper} {t yt : TypeId} {x y : Operand}
theorem PS.eqD {neg : Bool} {l : List Lf} (ho : o.op = .binOp (if neg then .neq else .eql) t x y yt) (hl : leavesT P 12 t 0 = some l) (hend : ∀ x ∈ l, leafEnd x ≤ szT P t) (hk : P.keyTypeAt 12 t = true) (hgd : P.eqGuardType P.depth t = false)
 (hagg : (match P.underlying t with | some (.array _ _) | some (.struct _) => true | _ => false) = true) : PS P L c e o (hEqD (szT P t) l neg (cOpd e x) (cOpd e y)) := by
 intro a ns T k hm hg
 obtain ⟨w1, cs, hx, e1⟩ := asAgg_good hg
 have g1 := good_of e1 hg
 obtain ⟨w2, cs', hy, e2⟩ := asAgg_good g1
 have g2 := good_of e2 g1
 obtain ⟨h3, e3⟩ := rec_good (z := Bool.and (Nat.beq w1 (szT P t)) (Nat.beq w2 (szT P t))) g2
 have g3 := good_of e3 g2
 have h3' : (Nat.beq w1 (szT P t) && Nat.beq w2 (szT P t)) = true := h3
 rw [Bool.and_eq_true, Nat.beq_eq, Nat.beq_eq] at h3'
 obtain ⟨rfl, hw2⟩ := h3'
 subst hw2
 have vx := hm.at x hx (by simp)
 have vy := hm.at y hy (by simp)
 obtain ⟨z, e4, h5, h6⟩ := tsAll_good (L := L) (S := c) (w := szT P t) vx.2 vy.2 l true _ hend g3
 have hc : szT P t = P.cellsOf t := rfl
 have ex : a.eval x = .agg (fit (szT P t) (lcv L cs)).toArray := vx.1
 have ey : a.eval y = .agg (fit (szT P t) (lcv L cs')).toArray := vy.1
 have kx := leaves_lits (P := P) (fit (szT P t) (lcv L cs)) 12 t 0 l hl (fun u hu => (h5 u hu).1) (by rw [fit_length, Nat.zero_add]; exact Nat.le_refl _)
 have ky := leaves_lits (P := P) (fit (szT P t) (lcv L cs')) 12 t 0 l hl (fun u hu => (h5 u hu).2) (by rw [fit_length, Nat.zero_add]; exact Nat.le_refl _)
 rw [List.drop_zero, List.take_of_length_le (by rw [fit_length]; exact Nat.le_refl _)] at kx ky
 have fm : ∀ W : V, (Value.agg (fit (szT P t) (lcv L W)).toArray).formed P t = true := by
  intro W
  simp only [Value.formed]
  cases hu : P.underlying t with
  | none => rw [hu] at hagg; cases hagg
  | some d =>
    rw [hu] at hagg
    cases d <;> first | (simp [fit_length, hc]; done) | cases hagg
 have heq : ∀ W, (Op.equal t (a.eval x) (a.eval y)).run P W = .ok z W := fun W => by
  obtain ⟨r, hr, hiff⟩ := run_equalIn_deep (P := P) 9988 12 t hk W 12 12 (a.eval x) (a.eval y) _ _ (by rw [ex]; exact fm cs) (by rw [ey]; exact fm cs') (by rw [ex]; exact kx) (by rw [ey]; exact ky)
  have : r = z := by
   rw [Bool.eq_iff_iff, hiff, h6]; simp
  rw [← this]
  exact hr
 have hgu : ∀ op W, (eqGuard op t x y (a.eval x) (a.eval y)).run P W = .ok () W := fun op W => by
  rw [ex, ey]
  unfold eqGuard
  cases op <;> simp [hgd]
 have nb : ∀ (op : BinOp) W, op = .eql ∨ op = .neq → (binOp op t (a.eval x) (a.eval y)).run P W = .ok (.bool (if op = .neq then !z else z)) W := fun op W ho => by
  have hq := heq W
  rw [ex, ey] at hq ⊢
  rcases ho with rfl | rfl
  · simp only [binOp, Sem.run_bind, hq, Result.andThen_ok, Sem.run_pure]; rfl
  · simp only [binOp, Sem.run_bind, hq, Result.andThen_ok, Sem.run_pure]; rfl
 have eall : hEqD (szT P t) l neg (cOpd e x) (cOpd e y) ns T k = _ := e1.trans (e2.trans (e3.trans e4))
 refine ⟨.b (if neg then !z else z), trivial, ?_, fun W => ?_⟩
 · rw [eall]
   cases neg <;> cases z <;> rfl
 · cases neg
   · simp only [execOp, ho, Sem.run_bind, Bool.false_eq_true, if_false, hgu, Result.andThen_ok, nb .eql W (.inl rfl), Sem.run_pure]
     rfl
   · simp only [execOp, ho, Sem.run_bind, if_true, hgu, Result.andThen_ok, nb .neq W (.inr rfl), Sem.run_pure]
     rfl
theorem cEqD_sound {op : BinOp} (ho : o.op = .binOp op t x y yt) (hagg : (match P.underlying t with | some (.array _ _) | some (.struct _) => true | _ => false) = true) {f : PH} (hc : cEqD P op t (cOpd e x) (cOpd e y) = .p f) : PS P L c e o f := by
 unfold cEqD at hc
 split at hc
 · rename_i hk
   rw [Bool.and_eq_true, Bool.not_eq_true'] at hk
   split at hc
   · rename_i l hl
     split at hc
     · rename_i he
       have hend : ∀ x ∈ l, leafEnd x ≤ szT P t := fun x hx => by simpa using List.all_eq_true.1 he x hx
       cases op <;> simp only [Iop.p.injEq, reduceCtorEq] at hc
       · subst hc; exact PS.eqD (neg := false) ho hl hend hk.2 hk.1 hagg
       · subst hc; exact PS.eqD (neg := true) ho hl hend hk.2 hk.1 hagg
     · cases hc
   · cases hc
 · cases hc
theorem ltI_spec (k : IntKind) {a b : Nat} (ha : a < 2 ^ k.bits) (hb : b < 2 ^ k.bits) : ltI k a b = decide (k.wrap a < k.wrap b) := flip_lt k a b ha hb
theorem cMin_sound {cl : Call} (ho : o.op = .call cl) (hb : cl.callee = .builtin .min) (hx : cl.args = #[x, y]) {f : PH} (hc : cMin P t (cOpd e x) (cOpd e y) = .p f) : PS P L c e o f := by
 unfold cMin at hc
 split at hc
 · rename_i k hu
   simp only [Iop.p.injEq] at hc
   subst hc
   refine PS.int2 (fun a b ha hb => ?_) fun ρ a b w ha hb' h1 h2 => ?_
   · cases ltI k b a
     · exact ha
     · exact hb
   · rw [run_builtin ho hb, hx]
     have e1 : (#[x, y] : Array Operand).map ρ = #[.int k (k.wrap a), .int k (k.wrap b)] := by simp [h1, h2]
     rw [e1]
     simp only [builtin, Builtin.min_, List.foldlM_cons, List.foldlM_nil, Builtin.min2, Sem.run_bind, Sem.run_pure, Result.andThen_ok]
     rw [ltI_spec k hb' ha]
     congr 3
     by_cases hlt : k.wrap (b : Int) < k.wrap (a : Int)
     · rw [if_pos hlt, decide_eq_true hlt]
     · rw [if_neg hlt, decide_eq_false hlt]
 · cases hc
theorem cMax_sound {cl : Call} (ho : o.op = .call cl) (hb : cl.callee = .builtin .max) (hx : cl.args = #[x, y]) {f : PH} (hc : cMax P t (cOpd e x) (cOpd e y) = .p f) : PS P L c e o f := by
 unfold cMax at hc
 split at hc
 · rename_i k hu
   simp only [Iop.p.injEq] at hc
   subst hc
   refine PS.int2 (fun a b ha hb => ?_) fun ρ a b w ha hb' h1 h2 => ?_
   · cases ltI k a b
     · exact ha
     · exact hb
   · rw [run_builtin ho hb, hx]
     have e1 : (#[x, y] : Array Operand).map ρ = #[.int k (k.wrap a), .int k (k.wrap b)] := by simp [h1, h2]
     rw [e1]
     simp only [builtin, Builtin.max_, List.foldlM_cons, List.foldlM_nil, Builtin.max2, Sem.run_bind, Sem.run_pure, Result.andThen_ok]
     rw [ltI_spec k ha hb']
     congr 3
     by_cases hlt : k.wrap (b : Int) > k.wrap (a : Int)
     · rw [if_pos hlt, decide_eq_true hlt]
     · rw [if_neg hlt, decide_eq_false hlt]
 · cases hc
theorem WS.store0 {S : Ns} (ho : o.op = .store t x y) (hk : okT P t = true) (hz : szT P t = 0) : WS P L S e o (hStore0 (cOpd e x) (cOpd e y)) := by
 obtain ⟨⟨d, hd⟩, ⟨i, hi⟩, h1⟩ := okT_spec hk
 intro cal a ns T dd h cc w k hm hr hb hg
 obtain ⟨nm, of, hx, e1⟩ := asP_good hg
 have g1 := good_of e1 hg
 obtain ⟨w0, cs, hy, e2⟩ := asAgg_good g1
 have g2 := good_of e2 g1
 obtain ⟨h4, e3⟩ := rec_good (z := isZ w0) g2
 rw [isZ_eq, decide_eq_true_eq] at h4
 subst h4
 have vx := hm.at x hx (by simp)
 have vy := hm.at y hy (by simp)
 refine ⟨.u, h, cc, L, S, w, .skip, e1.trans (e2.trans e3), Stp.refl hr hb, trivial, ?_, .inr ⟨rfl, rfl⟩⟩
 have hx1 : a.eval x = .pointer (some ⟨L.b nm, of, none⟩) := vx.1
 have hy1 : a.eval y = .agg #[] := vy.1.trans (by show Value.agg (fit 0 (lcv L cs)).toArray = _; simp [fit])
 have hsz : (sizeOf t).run P w = .ok (szT P t) w := run_sizeOf w hi
 have hcells : (a.eval y).cells = #[] := by rw [hy1]; rfl
 have : (Instr.storeAt t (a.eval x) (a.eval y)).run P w = .ok () w := by
  simp only [Instr.storeAt, hx1, Instr.sureAddr, Sem.run_bind, Sem.run_pure, Result.andThen_ok, storeVar, hsz, hcells, hz]
  rfl
 simp [execOp, ho, this]
end
end Go.Ev

namespace Go.Ev
def isP : Iop → Bool
 | .p _ | .bad _ => true
 | _ => false
def isRd : Iop → Bool
 | .r _ _ | .bad _ => true
 | _ => false
def isMk : Iop → Bool
 | .a _ | .bad _ => true
 | _ => false
def isWr : Iop → Bool
 | .w _ | .bad _ => true
 | _ => false
section
variable {P : Program} {rd : Option Nat} {e : Ce} {o : Oper}
theorem OS.bad {n : Nat} : OS P rd e o (.bad n) := by
 intro cal a ns t d hh c w L S k next Q _ _ _ _ _ _ hg
 exact (bad_good hg).elim
def OX (P : Program) (rd : Option Nat) (e : Ce) (o : Oper) : Iop → Prop
 | .p f => ∀ L S, PS P L S e o f
 | .r x f => ∀ L S, RS P L S e o x f
 | .a f => ∀ L S, AS P L S e o f
 | .w f => OS P rd e o (.w f)
 | .bad _ => True
 | _ => False
theorem OX.bad {n : Nat} : OX P rd e o (.bad n) := trivial
theorem OX.of_PS {f : PH} (_ : ∀ c, o.op ≠ .defer c) (h : ∀ L S, PS P L S e o f) : OX P rd e o (.p f) := h
theorem OX.of_RS {x : Opnd} {f : BH} (_ : ∀ c, o.op ≠ .defer c) (h : ∀ L S, RS P L S e o x f) : OX P rd e o (.r x f) := h
theorem OX.of_AS {f : AH} (_ : ∀ c, o.op ≠ .defer c) (h : ∀ L S, AS P L S e o f) : OX P rd e o (.a f) := h
theorem OX.of_WS {f : WH} (hnd : ∀ c, o.op ≠ .defer c) (h : ∀ L S, WS P L S e o f) : OX P rd e o (.w f) := OS.of_WS hnd h
theorem OX.OS {io : Iop} (hnd : ∀ c, o.op ≠ .defer c) (h : OX P rd e o io) : OS P rd e o io := by
 cases io with
 | p f => exact OS.of_PS hnd h
 | r x f => exact OS.of_RS hnd h
 | a f => exact OS.of_AS hnd h
 | w f => exact h
 | bad n => exact OS.bad
 | _ => exact h.elim
theorem OX.ofP {io : Iop} (hnd : ∀ c, o.op ≠ .defer c) (hk : isP io = true) (h : ∀ f, io = .p f → ∀ L S, PS P L S e o f) : OX P rd e o io := by
 cases io <;> first | exact OX.bad | exact OX.of_PS hnd (h _ rfl) | cases hk
theorem OX.ofR {io : Iop} (hnd : ∀ c, o.op ≠ .defer c) (hk : isRd io = true) (h : ∀ x f, io = .r x f → ∀ L S, RS P L S e o x f) : OX P rd e o io := by
 cases io <;> first | exact OX.bad | exact OX.of_RS hnd (h _ _ rfl) | cases hk
theorem OX.ofA {io : Iop} (hnd : ∀ c, o.op ≠ .defer c) (hk : isMk io = true) (h : ∀ f, io = .a f → ∀ L S, AS P L S e o f) : OX P rd e o io := by
 cases io <;> first | exact OX.bad | exact OX.of_AS hnd (h _ rfl) | cases hk
theorem OX.ofW {io : Iop} (hnd : ∀ c, o.op ≠ .defer c) (hk : isWr io = true) (h : ∀ f, io = .w f → ∀ L S, WS P L S e o f) : OX P rd e o io := by
 cases io <;> first | exact OX.bad | exact OX.of_WS hnd (h _ rfl) | cases hk
theorem isP_binI (k : IntKind) (op : BinOp) (x y : Opnd) : isP (cBinI k op x y) = true := by
 cases op <;> first | rfl | (unfold cBinI; simp only; split <;> rfl)
theorem isP_eq (g : V → V → Nat) (op : BinOp) (x y : Opnd) : isP (cEq g op x y) = true := by cases op <;> rfl
theorem isP_binS (op : BinOp) (x y : Opnd) : isP (cBinS op x y) = true := by cases op <;> rfl
theorem isP_binA (op : BinOp) (t : TypeId) (n : Nat) (el : TypeId) (x y : Opnd) : isP (cBinA P op t n el x y) = true := by
 unfold cBinA
 split
 · cases op <;> rfl
 · rfl
theorem isP_eqD (op : BinOp) (t : TypeId) (x y : Opnd) : isP (cEqD P op t x y) = true := by
 unfold cEqD
 split
 · split
   · split
     · cases op <;> rfl
     · rfl
   · rfl
 · rfl
theorem isP_bin (op : BinOp) (t : TypeId) (z : Bool) (x y : Opnd) : isP (cBin P op t z x y) = true := by
 unfold cBin
 split
 · exact isP_binI _ _ _ _
 · exact isP_binS _ _ _
 · exact isP_eq _ _ _ _
 · split
   · rfl
   · exact isP_eq _ _ _ _
 · exact isP_eq _ _ _ _
 · exact isP_eq _ _ _ _
 · exact isP_eq _ _ _ _
 · split
   · exact isP_eq _ _ _ _
   · rfl
 · split
   · exact isP_binA _ _ _ _ _ _
   · exact isP_eqD _ _ _ _
 · exact isP_eqD _ _ _ _
 · rfl
theorem isP_un (op : UnOp) (t : TypeId) (x : Opnd) : isP (cUn P op t x) = true := by
 cases op <;> first | rfl | (unfold cUn; simp only; split <;> first | rfl | (unfold cUnI; simp only; rfl))
theorem isP_build (t : TypeId) (q : Operand → Opnd) (l : List (Nat × Operand)) : isP (cBuild P t q l) = true := by
 unfold cBuild; repeat' split
 all_goals rfl
theorem isMk_buildSl (t : TypeId) (n : Nat) (q : Operand → Opnd) (l : List (Nat × Operand)) : isMk (cBuildSl P t n q l) = true := by
 unfold cBuildSl; repeat' split
 all_goals rfl
theorem isP_toArr (t : TypeId) (x : Opnd) : isP (cToArr P t x) = true := by
 unfold cToArr; repeat' split
 all_goals rfl
theorem isP_iface (t : TypeId) (x : Opnd) : isP (cIface P t x) = true := by
 unfold cIface; repeat' split
 all_goals rfl
theorem isMk_map (t : TypeId) : isMk (cMakeMap P t) = true := by
 unfold cMakeMap; repeat' split
 all_goals rfl
theorem isMk_alloc (t : TypeId) : isMk (cAlloc P t) = true := by
 unfold cAlloc; repeat' split
 all_goals rfl
theorem isMk_sl (t : TypeId) (x y : Opnd) : isMk (cMakeSl P t x y) = true := by
 unfold cMakeSl; repeat' split
 all_goals rfl
theorem isP_slice (t : TypeId) (x : Opnd) (lo hi mx : Option Opnd) : isP (cSlice P t x lo hi mx) = true := by
 unfold cSlice; repeat' split
 all_goals rfl
theorem isP_fieldAddr (t : TypeId) (x : Opnd) (j : Nat) : isP (cFieldAddr P t x j) = true := by
 unfold cFieldAddr; repeat' split
 all_goals rfl
theorem isP_field (t : TypeId) (x : Opnd) (j : Nat) : isP (cField P t x j) = true := by
 unfold cField; repeat' split
 all_goals rfl
theorem isP_idxA (t : TypeId) (x y : Opnd) : isP (cIdxA P t x y) = true := by
 unfold cIdxA; repeat' split
 all_goals rfl
theorem isP_idx (t : TypeId) (x y : Opnd) : isP (cIdx P t x y) = true := by
 unfold cIdx; repeat' split
 all_goals rfl
theorem isRd_lookup (t : TypeId) (ok : Bool) (x y : Opnd) : isRd (cLookup P t ok x y) = true := by
 unfold cLookup; repeat' split
 all_goals rfl
theorem isWr_upd (t : TypeId) (x y z : Opnd) : isWr (cMapUpd P t x y z) = true := by
 unfold cMapUpd; repeat' split
 all_goals rfl
theorem isWr_ent (t : TypeId) (x y : Opnd) : isWr (cMapEnt P t x y) = true := by
 unfold cMapEnt; repeat' split
 all_goals rfl
theorem isWr_append (t u : TypeId) (x y : Opnd) : isWr (cAppend P t u x y) = true := by
 unfold cAppend; repeat' split
 all_goals rfl
theorem isWr_copy (t : TypeId) (x y : Opnd) : isWr (cCopy P t x y) = true := by
 unfold cCopy; repeat' split
 all_goals rfl
theorem isWr_clear (t : TypeId) (x : Opnd) : isWr (cClear P t x) = true := by
 unfold cClear; repeat' split
 all_goals rfl
theorem isWr_delete (t : TypeId) (x y : Opnd) : isWr (cDelete P t x y) = true := by
 unfold cDelete; repeat' split
 all_goals rfl
theorem isP_min (t : TypeId) (x y : Opnd) : isP (cMin P t x y) = true := by
 unfold cMin; repeat' split
 all_goals rfl
theorem isP_max (t : TypeId) (x y : Opnd) : isP (cMax P t x y) = true := by
 unfold cMax; repeat' split
 all_goals rfl
theorem isP_assert (t : TypeId) (ok : Bool) (x : Opnd) : isP (cAssert P t ok x) = true := by
 unfold cAssert; repeat' split
 all_goals rfl
theorem cBin_sound {op : BinOp} {t yt : TypeId} {x y : Operand} (ho : o.op = .binOp op t x y yt) {f : PH} (hc : cBin P op t (isCst x || isCst y) (cOpd e x) (cOpd e y) = .p f) (L : Loc) (S : Ns) : PS P L S e o f := by
 unfold cBin at hc
 split at hc
 · exact cBin_int ho hc
 · exact cBinS_sound ho hc
 · rename_i hu; exact cEqB_sound ho hu hc
 · rename_i hu
   split at hc
   · cases hc
   · rename_i hz; exact cEqP_sound ho hu hz hc
 · rename_i hu; exact cEqS_sound ho hu hc
 · rename_i hu; exact cEqM_sound ho hu hc
 · rename_i hu; exact cEqF_sound ho hu hc
 · rename_i hu
   split at hc
   · rename_i hz; exact cEqI_sound ho hu hz hc
   · cases hc
 · rename_i hu
   split at hc
   · unfold cBinA at hc
     split at hc
     · rename_i hk
       rw [Bool.and_eq_true, Bool.and_eq_true, beq_iff_eq, Bool.not_eq_true'] at hk
       cases op <;> simp only [Iop.p.injEq, reduceCtorEq] at hc
       · subst hc; exact PS.eqBy (neg := false) ho hu hk.1.1 hk.1.2 hk.2
       · subst hc; exact PS.eqBy (neg := true) ho hu hk.1.1 hk.1.2 hk.2
     · cases hc
   · exact cEqD_sound ho (by rw [hu]) hc
 · rename_i hu
   exact cEqD_sound ho (by rw [hu]) hc
 · cases hc
theorem cIface_sound {t : TypeId} {x : Operand} (ho : o.op = .makeInterface t x) {f : PH} (hc : cIface P t (cOpd e x) = .p f) (L : Loc) (S : Ns) : PS P L S e o f := by
 unfold cIface at hc
 split at hc
 · cases hc
 · rename_i d hn hu
   simp only [Iop.p.injEq] at hc
   subst hc
   exact PS.iface ho hu (fun ms hh => by subst hh; exact hn ms rfl)
 · cases hc
theorem cAlloc_sound {t : TypeId} (ho : o.op = .alloc t) {f : AH} (hc : cAlloc P t = .a f) (L : Loc) (S : Ns) : AS P L S e o f := by
 unfold cAlloc at hc
 split at hc
 · rename_i z hz
   simp only [Iop.a.injEq] at hc
   subst hc
   exact AS.alloc ho hz
 · cases hc
theorem cMakeMap_sound {t : TypeId} (ho : o.op = .makeMap t none) {f : AH} (hc : cMakeMap P t = .a f) (L : Loc) (S : Ns) : AS P L S e o f := by
 unfold cMakeMap at hc
 split at hc
 · rename_i hu
   simp only [Iop.a.injEq] at hc
   subst hc
   exact AS.makeMap ho hu
 · cases hc
theorem plainB_plain {fn : Fn} (h : plainB fn = true) : Fn.plain fn := by cases fn <;> first | trivial | cases h
theorem cConv_OX {s d : TypeId} {x : Operand} (ho : o.op = .convert s d x) : OX P rd e o (cConv P s d (cOpd e x)) := by
 have hnd : ∀ c, o.op ≠ .defer c := by intro c hc; rw [ho] at hc; cases hc
 unfold cConv
 split
 · rename_i hs hd
   exact OX.ofP hnd rfl fun f hf L S => cConvI_sound ho hs hd hf
 · rename_i hs hd
   exact OX.of_PS hnd fun L S => PS.strId ho hs hd
 · rename_i hs hd
   split
   · rename_i he; exact OX.of_AS hnd fun L S => AS.strBytes ho hs hd he
   · exact OX.bad
 · rename_i hs hd
   split
   · rename_i he; exact OX.of_RS hnd fun L S => RS.bytesStr ho hs he hd
   · exact OX.bad
 · rename_i hs hd
   split
   · rename_i hsd
     subst hsd
     split
     · rename_i he
       rw [hs] at hd
       cases hd
       exact OX.of_WS hnd fun L S => WS.markS ho hs he
     · exact OX.bad
   · exact OX.bad
 · exact OX.bad
theorem cBuiltin_OX {cl : Call} {b : Builtin} (ho : o.op = .call cl) (hb : cl.callee = .builtin b) : OX P rd e o (cBuiltin P b cl.argTypes.toList (cl.args.toList.map (cOpd e))) := by
 have hnd : ∀ c, o.op ≠ .defer c := by intro c hc; rw [ho] at hc; cases hc
 generalize hts : cl.argTypes.toList = ts
 generalize hxs : cl.args.toList = xs
 unfold cBuiltin
 split
 · rename_i t x' hx'
   obtain ⟨x, rfl, rfl⟩ := map_one hx'
   have hx := arr_one hxs
   have ht := arr_one hts
   split
   · rename_i hu; exact OX.of_PS hnd fun L S => PS.len ho hb hx ht hu
   · rename_i hu; exact OX.of_PS hnd fun L S => PS.lenS ho hb hx ht hu
   · rename_i hu; exact OX.of_PS hnd fun L S => PS.lenA ho hb hx ht (.inl hu)
   · rename_i hu
     split
     · rename_i hu2; exact OX.of_PS hnd fun L S => PS.lenA ho hb hx ht (.inr ⟨_, hu, hu2⟩)
     · exact OX.bad
   · exact OX.bad
   · exact OX.bad
 · rename_i t x' hx'
   obtain ⟨x, rfl, rfl⟩ := map_one hx'
   have hx := arr_one hxs
   have ht := arr_one hts
   split
   · rename_i hu; exact OX.of_PS hnd fun L S => PS.cap ho hb hx ht hu
   · rename_i hu; exact OX.of_PS hnd fun L S => PS.capA ho hb hx ht hu
   · exact OX.bad
 · rename_i t u x' y' hx'
   cases xs with
   | nil => cases hx'
   | cons x r =>
     injection hx' with h1 h2
     obtain ⟨y, rfl, h3⟩ := map_one h2
     subst h1 h3
     exact OX.ofP hnd (isP_min _ _ _) fun f hf L S => cMin_sound ho hb (arr_two hxs) hf
 · rename_i t u x' y' hx'
   cases xs with
   | nil => cases hx'
   | cons x r =>
     injection hx' with h1 h2
     obtain ⟨y, rfl, h3⟩ := map_one h2
     subst h1 h3
     exact OX.ofP hnd (isP_max _ _ _) fun f hf L S => cMax_sound ho hb (arr_two hxs) hf
 · rename_i t u x' y' hx'
   cases xs with
   | nil => cases hx'
   | cons x r =>
     injection hx' with h1 h2
     obtain ⟨y, rfl, h3⟩ := map_one h2
     subst h1 h3
     exact OX.ofW hnd (isWr_append _ _ _ _) fun f hf L S => cAppend_sound ho hb (arr_two hxs) (arr_two hts) hf
 · rename_i t u x' y' hx'
   cases xs with
   | nil => cases hx'
   | cons x r =>
     injection hx' with h1 h2
     obtain ⟨y, rfl, h3⟩ := map_one h2
     subst h1 h3
     exact OX.ofW hnd (isWr_copy _ _ _) fun f hf L S => cCopy_sound ho hb (arr_two hxs) (arr_two hts) hf
 · rename_i t x' hx'
   obtain ⟨x, rfl, rfl⟩ := map_one hx'
   exact OX.ofW hnd (isWr_clear _ _) fun f hf L S => cClear_sound ho hb (arr_one hxs) (arr_one hts) hf
 · rename_i t u x' y' hx'
   cases xs with
   | nil => cases hx'
   | cons x r =>
     injection hx' with h1 h2
     obtain ⟨y, rfl, h3⟩ := map_one h2
     subst h1 h3
     exact OX.ofW hnd (isWr_delete _ _ _) fun f hf L S => cDelete_sound ho hb (arr_two hxs) (arr_two hts) hf
 · exact OX.bad
theorem OS.panic {x : Operand} (ho : o.op = .panic x) : OS P rd e o (.w (hPanic (cOpd e x))) := by
 intro cal a ns t d hh c w L S k next Q _ _ hm hr hb hd hg hk hp
 have hnd : ∀ c, o.op ≠ .defer c := by intro c hc; rw [ho] at hc; cases hc
 have e0 : execO (.w (hPanic (cOpd e x))) cal ns t d hh c k = V.rec (motive := fun _ => V → T → List D → H → Nm → R) (fun _ _ _ _ _ => .bad 96) (fun _ _ _ _ _ => .bad 96) (fun _ _ _ _ _ _ _ => .bad 96) (fun _ _ _ _ _ _ => .bad 96) (fun _ _ _ _ _ _ _ => .bad 96) (fun _ _ _ _ _ => .bad 96) (fun _ _ _ _ _ _ _ => .bad 96) (fun _ _ _ _ _ _ _ _ _ => .bad 96) (fun _ _ _ _ _ _ _ _ _ => .bad 96) (fun _ _ _ _ _ _ _ _ => .bad 96) (fun _ _ _ _ _ => .bad 96) (fun _ _ _ _ _ _ => .bad 96) (fun _ _ _ _ _ => .bad 96) (fun _ _ _ _ _ _ _ _ _ _ => .bad 96) (fun _ _ _ _ _ => .bad 96) (fun _ _ _ _ _ _ => .bad 96) (fun _ _ _ v t d h c => .panic v t d h c) (fun _ _ _ _ _ => .bad 96) (fun _ _ _ _ _ _ _ _ => .bad 96) (fun _ _ _ _ _ _ _ => .bad 96) (fun _ _ _ _ _ => .bad 96) (fun _ _ _ _ _ _ _ _ _ => .bad 96) (fun _ _ _ _ _ _ _ => .bad 96) (fun _ _ _ _ _ _ _ _ => .bad 96) (ev (cOpd e x) ns t) (ev (cOpd e x) ns t) t d hh c := rfl
 rw [e0] at hg
 cases hv : ev (cOpd e x) ns t <;> rw [hv] at hg <;> first
  | exact (bad_good hg).elim
  | skip
 case ifc tt W =>
  have vx := hm.at x hv (by simp)
  have hx : a.eval x = .iface tt (val L W) := vx.1
  have hrun : (execOp a.eval o).run P w = .halt (.panic (a.eval x)) w := by
   rw [hx]
   simp only [execOp, ho, hx, Instr.panic, goPanic]
   rfl
  rw [Oper.semAt_eq _ _ _ hnd, hrun, Oper.uponIn_panic]
  refine hp (.ifc tt W) hh c _ L S w (Stp.refl hr hb) ⟨vx.2, ?_⟩ ?_
  · rw [vx.1]
  · rw [e0, hv]
theorem cOp_OX : OX P rd e o (cOp P e o) := by
 have hnd : (∀ c, o.op ≠ .defer c) ∨ ∃ c, o.op = .defer c := by
  cases ho : o.op <;> first | exact .inr ⟨_, rfl⟩ | exact .inl (by intro c hc; cases hc)
 unfold cOp
 simp only
 rcases hnd with hnd | ⟨c, hc⟩
 case inr => rw [hc]; exact OX.bad
 split
 case h_1 x ho => exact OX.of_PS hnd fun L S => PS.move fun ρ w => by simp [execOp, ho]
 case h_2 x ho => exact OX.of_PS hnd fun L S => PS.move fun ρ w => by simp [execOp, ho]
 case h_3 c a b ho => exact OX.of_PS hnd fun L S => PS.pick ho
 case h_4 t ho => exact OX.ofA hnd (isMk_alloc _) fun f hf L S => cAlloc_sound ho hf L S
 case h_5 t x ho =>
  split
  · rename_i hk; exact OX.of_AS hnd fun L S => AS.box ho hk
  · exact OX.bad
 case h_6 t ps ho => exact OX.ofP hnd (isP_build _ _ _) fun f hf L S => cBuild_sound ho hf
 case h_7 t n ps ho => exact OX.ofA hnd (isMk_buildSl _ _ _ _) fun f hf L S => cBuildSl_sound ho hf
 case h_8 t x ho =>
  split
  · rename_i hk; exact OX.of_RS hnd fun L S => RS.load ho hk
  · exact OX.bad
 case h_9 t x y ho =>
  split
  · rename_i hk
    split
    · rename_i hz
      rw [decide_eq_true_eq] at hz
      exact OX.of_WS hnd fun L S => WS.store ho hk hz
    · rename_i hz
      rw [decide_eq_true_eq] at hz
      split
      · exact OX.of_WS hnd fun L S => WS.store0 ho hk (by omega)
      · exact OX.bad
  · exact OX.bad
 case h_10 x ho => exact OX.of_PS hnd fun L S => PS.nil ho
 case h_11 op t x y yt ho => exact OX.ofP hnd (isP_bin _ _ _ _ _) fun f hf L S => cBin_sound ho hf L S
 case h_12 op t x ho => exact OX.ofP hnd (isP_un _ _ _) fun f hf L S => cUn_sound ho hf
 case h_13 s d x ho => exact cConv_OX ho
 case h_14 t x ho => exact OX.ofP hnd (isP_toArr _ _) fun f hf L S => cToArr_sound ho hf
 case h_15 t x ho => exact OX.ofP hnd (isP_iface _ _) fun f hf L S => cIface_sound ho hf L S
 case h_16 fn a b ho =>
  split
  · rename_i hk; exact OX.of_PS hnd fun L S => PS.func ho (plainB_plain hk)
  · exact OX.bad
 case h_17 t ho => exact OX.ofA hnd (isMk_map _) fun f hf L S => cMakeMap_sound ho hf L S
 case h_18 t x y ho => exact OX.ofA hnd (isMk_sl _ _ _) fun f hf L S => cMakeSl_sound ho hf
 case h_19 t x lo hi mx ho => exact OX.ofP hnd (isP_slice _ _ _ _ _) fun f hf L S => cSlice_sound ho hf
 case h_20 t x j ho => exact OX.ofP hnd (isP_fieldAddr _ _ _) fun f hf L S => cFieldAddr_sound ho hf
 case h_21 t x j ho => exact OX.ofP hnd (isP_field _ _ _) fun f hf L S => cField_sound ho hf
 case h_22 t x y ho => exact OX.ofP hnd (isP_idxA _ _ _) fun f hf L S => cIdxA_sound ho hf
 case h_23 t x y ho => exact OX.ofP hnd (isP_idx _ _ _) fun f hf L S => cIdx_sound ho hf
 case h_24 t x y ok ho => exact OX.ofR hnd (isRd_lookup _ _ _ _) fun x f hf L S => cLookup_sound ho hf
 case h_25 t m k v ho => exact OX.ofW hnd (isWr_upd _ _ _ _) fun f hf L S => cMapUpd_sound (.inl ho) hf
 case h_26 t m k v ho => exact OX.ofW hnd (isWr_upd _ _ _ _) fun f hf L S => cMapUpd_sound (.inr ho) hf
 case h_27 t m k ho => exact OX.ofW hnd (isWr_ent _ _ _) fun f hf L S => cMapEnt_sound ho hf
 case h_28 t m s x ho => exact OX.of_WS hnd fun L S => WS.entSt ho
 case h_29 x xt ty ok ho => exact OX.ofP hnd (isP_assert _ _ _) fun f hf L S => cAssert_sound ho hf
 case h_30 x j ho => exact OX.of_PS hnd fun L S => PS.tup ho
 case h_31 x ho => exact OS.panic ho
 case h_32 c ho =>
  split
  · rename_i f hf; exact OS.callV ho hf
  · rename_i r m hf; exact OS.callM ho hf
  · rename_i b hf; exact cBuiltin_OX ho hf
 case h_33 => exact OX.bad
theorem cOp_OS : OS P rd e o (cOp P e o) := by
 have hnd : (∀ c, o.op ≠ .defer c) ∨ ∃ c, o.op = .defer c := by
  cases ho : o.op <;> first | exact .inr ⟨_, rfl⟩ | exact .inl (by intro c hc; cases hc)
 rcases hnd with hnd | ⟨c, hc⟩
 · exact cOp_OX.OS hnd
 · have e1 : cOp P e o = .bad 336 := by unfold cOp; simp only [hc]
   rw [e1]
   exact OS.bad
end
end Go.Ev
