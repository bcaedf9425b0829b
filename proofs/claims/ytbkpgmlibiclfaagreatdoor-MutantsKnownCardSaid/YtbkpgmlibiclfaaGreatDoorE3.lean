/- What the evaluator's memory stands for; operations that read it. -/
import Derived.Test.YtbkpgmlibiclfaaGreatDoorE2
import Derived.RecoverIn
import Derived.Deep.MidRow
import Derived.Laws.BytesString
import Derived.DeepKeys3
import Derived.Laws.Closers25b
import Derived.MapKept
set_option maxRecDepth 4000

namespace Go.Ev
abbrev Ns := Nm → Prop
theorem wf_mono {S S' : Ns} (hs : ∀ n, S n → S' n) : ∀ v : V, ((wf S v).v → (wf S' v).v) ∧ ((wf S v).k → (wf S' v).k) ∧ ((wf S v).l → (wf S' v).l) ∧ ((wf S v).s → (wf S' v).s) := by
 intro v
 induction v with
 | f g F C ihF ihC => exact ⟨fun h => ⟨h.1, ihF.2.2.2 h.2.1, ihC.2.2.2 h.2.2⟩, fun h => ⟨h.1, ihF.2.2.2 h.2.1, ihC.2.2.2 h.2.2⟩, fun h => h.elim, fun h => h.elim⟩
 | ifc t v ih => exact ⟨ih.1, ih.1, fun h => h.elim, fun h => h.elim⟩
 | agg w cs ih => exact ⟨ih.2.2.1, fun h => h.elim, fun h => h.elim, fun h => h.elim⟩
 | tup vs ih => exact ⟨ih.2.2.2, fun h => h.elim, fun h => h.elim, fun h => h.elim⟩
 | cons a d iha ihd => exact ⟨fun h => h.elim, fun h => h.elim, fun h => ⟨iha.2.1 h.1, ihd.2.2.1 h.2⟩, fun h => ⟨iha.1 h.1, ihd.2.2.2 h.2⟩⟩
 | sp w cs ih => exact ⟨fun h => h.elim, ih.2.2.1, fun h => h.elim, fun h => h.elim⟩
 | p a o => exact ⟨hs a, hs a, fun h => h.elim, fun h => h.elim⟩
 | sl a o l c => exact ⟨hs a, hs a, fun h => h.elim, fun h => h.elim⟩
 | so a o e l => exact ⟨hs a, hs a, fun h => h.elim, fun h => h.elim⟩
 | se a o w => exact ⟨hs a, hs a, fun h => h.elim, fun h => h.elim⟩
 | m a => exact ⟨hs a, hs a, fun h => h.elim, fun h => h.elim⟩
 | yl a => exact ⟨hs a, hs a, fun h => h.elim, fun h => h.elim⟩
 | _ => exact ⟨fun h => h, fun h => h, fun h => h, fun h => h⟩
def Agr (S : Ns) (L L' : Loc) : Prop := ∀ n, S n → L'.b n = L.b n ∧ L'.k n = L.k n
theorem den_congr {S : Ns} {L L' : Loc} (hs : Agr S L L') : ∀ v : V, ((wf S v).v → val L' v = val L v) ∧ ((wf S v).k → chv L' v = chv L v) ∧ ((wf S v).l → lcv L' v = lcv L v) ∧ ((wf S v).s → lsv L' v = lsv L v) := by
 intro v
 induction v with
 | f g F C ihF ihC =>
   have key : (wf S (.f g F C)).v → val L' (.f g F C) = val L (.f g F C) := fun h => by
    show Value.func g (lsv L' F).toArray (lsv L' C).toArray = Value.func g (lsv L F).toArray (lsv L C).toArray
    rw [ihF.2.2.2 h.2.1, ihC.2.2.2 h.2.2]
   exact ⟨key, fun h => by show [val L' (.f g F C)] = [val L (.f g F C)]; rw [key h], fun h => h.elim, fun h => h.elim⟩
 | ifc t v ih =>
   have key : (wf S (.ifc t v)).v → val L' (.ifc t v) = val L (.ifc t v) := fun h => by
    show Value.iface t (val L' v) = Value.iface t (val L v)
    rw [ih.1 h]
   exact ⟨key, fun h => by show [val L' (.ifc t v)] = [val L (.ifc t v)]; rw [key h], fun h => h.elim, fun h => h.elim⟩
 | agg w cs ih =>
   exact ⟨fun h => by show Value.agg (fit w (lcv L' cs)).toArray = Value.agg (fit w (lcv L cs)).toArray; rw [ih.2.2.1 h], fun h => h.elim, fun h => h.elim, fun h => h.elim⟩
 | tup vs ih =>
   exact ⟨fun h => by show Value.tuple (lsv L' vs).toArray = Value.tuple (lsv L vs).toArray; rw [ih.2.2.2 h], fun h => h.elim, fun h => h.elim, fun h => h.elim⟩
 | cons a d iha ihd =>
   exact ⟨fun h => h.elim, fun h => h.elim, fun h => by show chv L' a ++ lcv L' d = chv L a ++ lcv L d; rw [iha.2.1 h.1, ihd.2.2.1 h.2],
    fun h => by show val L' a :: lsv L' d = val L a :: lsv L d; rw [iha.1 h.1, ihd.2.2.2 h.2]⟩
 | sp w cs ih => exact ⟨fun h => h.elim, fun h => by show fit w (lcv L' cs) = fit w (lcv L cs); rw [ih.2.2.1 h], fun h => h.elim, fun h => h.elim⟩
 | p a o =>
   have key : S a → val L' (.p a o) = val L (.p a o) := fun h => by show Value.pointer (some ⟨L'.b a, o, none⟩) = Value.pointer (some ⟨L.b a, o, none⟩); rw [(hs a h).1]
   exact ⟨key, fun h => by show [val L' (.p a o)] = [val L (.p a o)]; rw [key h], fun h => h.elim, fun h => h.elim⟩
 | sl a o l c =>
   have key : S a → val L' (.sl a o l c) = val L (.sl a o l c) := fun h => by show Value.slice (some ⟨L'.b a, o, none⟩) l c = Value.slice (some ⟨L.b a, o, none⟩) l c; rw [(hs a h).1]
   exact ⟨key, fun h => by show [val L' (.sl a o l c)] = [val L (.sl a o l c)]; rw [key h], fun h => h.elim, fun h => h.elim⟩
 | so a o e l =>
   have key : S a → val L' (.so a o e l) = val L (.so a o e l) := fun h => by show Value.slice (some ⟨L'.b a, o, none⟩) l (l + e + L'.k a) = Value.slice (some ⟨L.b a, o, none⟩) l (l + e + L.k a); rw [(hs a h).1, (hs a h).2]
   exact ⟨key, fun h => by show [val L' (.so a o e l)] = [val L (.so a o e l)]; rw [key h], fun h => h.elim, fun h => h.elim⟩
 | se a o w =>
   have key : S a → val L' (.se a o w) = val L (.se a o w) := fun h => by show endSl (L'.b a) o w (L'.k a) = endSl (L.b a) o w (L.k a); rw [(hs a h).1, (hs a h).2]
   exact ⟨key, fun h => by show [val L' (.se a o w)] = [val L (.se a o w)]; rw [key h], fun h => h.elim, fun h => h.elim⟩
 | m a =>
   have key : S a → val L' (.m a) = val L (.m a) := fun h => by show Value.map (some (L'.b a)) = Value.map (some (L.b a)); rw [(hs a h).1]
   exact ⟨key, fun h => by show [val L' (.m a)] = [val L (.m a)]; rw [key h], fun h => h.elim, fun h => h.elim⟩
 | yl a =>
   have key : S a → val L' (.yl a) = val L (.yl a) := fun h => by show Value.func (.yield (L'.b a)) #[] #[] = Value.func (.yield (L.b a)) #[] #[]; rw [(hs a h).1]
   exact ⟨key, fun h => by show [val L' (.yl a)] = [val L (.yl a)]; rw [key h], fun h => h.elim, fun h => h.elim⟩
 | nil => exact ⟨fun _ => rfl, fun _ => rfl, fun _ => rfl, fun _ => rfl⟩
 | _ => exact ⟨fun _ => rfl, fun _ => rfl, fun h => h.elim, fun h => h.elim⟩
theorem Agr.refl (S : Ns) (L : Loc) : Agr S L L := fun _ _ => ⟨rfl, rfl⟩
theorem Agr.trans {S S' : Ns} {L L' L'' : Loc} (h : Agr S L L') (hs : ∀ n, S n → S' n) (h' : Agr S' L' L'') : Agr S L L'' :=
 fun n hn => ⟨((h' n (hs n hn)).1).trans (h n hn).1, ((h' n (hs n hn)).2).trans (h n hn).2⟩
theorem ofNat_toNat : ∀ (f n : Nat), 1 ≤ n → n < 2 ^ f → (Nm.ofNatF f n).toNat = n
 | 0, n, h1, h2 => by simp at h2; omega
 | f + 1, n, h1, h2 => by
   unfold Nm.ofNatF
   split
   · simp [Nm.toNat]; omega
   · split
     · show 2 * (Nm.ofNatF f (n / 2)).toNat = n
       rw [ofNat_toNat f (n / 2) (by omega) (by rw [Nat.pow_succ] at h2; omega)]; omega
     · show 2 * (Nm.ofNatF f (n / 2)).toNat + 1 = n
       rw [ofNat_toNat f (n / 2) (by omega) (by rw [Nat.pow_succ] at h2; omega)]; omega
theorem tn_toNat (s : Nat) : (tn s).toNat = s + 1 := ofNat_toNat _ _ (by omega) (by
 have : s + 1 < 2 ^ (s + 1) := Nat.lt_two_pow_self
 exact Nat.lt_of_lt_of_le this (Nat.pow_le_pow_right (by decide) (by omega)))
theorem tn_inj {s s' : Nat} (h : tn s = tn s') : s = s' := by
 have := congrArg Nm.toNat h
 rw [tn_toNat, tn_toNat] at this; omega
def TM (L : Loc) (S : Ns) (t : T) (tmps : Array Value) : Prop := ∀ s, T.get (tn s) t ≠ .x → tmps.getD s undef = val L (T.get (tn s) t) ∧ (wf S (T.get (tn s) t)).v
def FarT (far : Nat) (t : T) : Prop := ∀ s, T.get (tn s) t ≠ .x → Nat.testBit far s = true
def frOk (fz n sz : Nat) (fr : Nat × Nat) : Prop := (0 < fz ∨ (fr.1 ≤ fr.2 ∧ (fr = (0, 0) ∨ sz = 1))) ∧ ∀ i, fz ≤ i → i < n → ¬ (fr.1 ≤ i ∧ i < fr.2)
def entsR (L : Loc) : V → List MapEntry → Prop
 | .nil, [] => True
 | .cons e r, x :: xs => (∃ k v b, e = ent k v b ∧ x.key = val L k ∧ x.val = val L v ∧ x.born = b) ∧ entsR L r xs
 | _, _ => False
def lsOf : Nat → LoopState
 | 0 => .ready | 1 => .busy | 2 => .done | _ => .exhausted
def BR (L : Loc) (S : Ns) (n : Nm) : Blk → Obj → Prop
 | .row el sz N op fz cs, .cells arr el' fr => (el' = el ∨ (0 < fz ∧ N ≤ fz ∧ op = false)) ∧ (wf S cs).l ∧ frOk fz arr.size sz fr ∧
  (if op = true then arr.toList.take N = fit N (lcv L cs) ∧ arr.size = N + L.k n * sz ∧ N + L.k n * sz ≤ maxLen * sz else arr.toList = fit N (lcv L cs))
 | .map es cl, .map ents clock => clock = cl ∧ (wf S es).s ∧ entsR L es ents.toList ∧ (ents.toList.map (·.born)).Pairwise (· < ·) ∧ ∀ x ∈ ents.toList, x.born < cl
 | .dfd z, .deferred ds => ds = if z = true then some [] else none
 | .loop st pe _ far nt t ps as body dn, .loop r => r.state = lsOf st ∧ r.pending = pe ∧ TM L S t r.tmps ∧ r.params.toList = ps ∧ r.assign = as ∧ r.body = body ∧ r.defers = L.b dn ∧ S dn ∧
  FarT far t ∧ nt ≤ r.tmps.size ∧ ∀ p ∈ ps, Nat.testBit far p = true ∧ p < nt
 | _, _ => False
theorem TM.congr {S S' : Ns} {L L' : Loc} {t : T} {tmps : Array Value} (hs : ∀ n, S n → S' n) (ha : Agr S L L') (h : TM L S t tmps) : TM L' S' t tmps := fun s hx =>
 let ⟨h1, h2⟩ := h s hx
 ⟨h1.trans ((den_congr ha _).1 h2).symm, (wf_mono hs _).1 h2⟩
theorem entsR_congr {S : Ns} {L L' : Loc} (ha : Agr S L L') : ∀ (es : V) (xs : List MapEntry), (wf S es).s → entsR L es xs → entsR L' es xs
 | .nil, [], _, _ => trivial
 | .nil, _ :: _, _, h => h.elim
 | .cons e r, [], _, h => h.elim
 | .cons e r, x :: xs, hw, h => by
   obtain ⟨⟨k, v, b, rfl, h1, h2, h3⟩, h4⟩ := h
   have hw1 : (wf S k).v ∧ (wf S v).v := ⟨hw.1.1, hw.1.2.1⟩
   exact ⟨⟨k, v, b, rfl, h1.trans ((den_congr ha k).1 hw1.1).symm, h2.trans ((den_congr ha v).1 hw1.2).symm, h3⟩, entsR_congr ha r xs hw.2 h4⟩
 | .x, _, hw, _ => hw.elim
 | .u, _, hw, _ => hw.elim
 | .i _ _, _, hw, _ => hw.elim
 | .b _, _, hw, _ => hw.elim
 | .p _ _, _, hw, _ => hw.elim
 | .np, _, hw, _ => hw.elim
 | .s _ _, _, hw, _ => hw.elim
 | .sl _ _ _ _, _, hw, _ => hw.elim
 | .so _ _ _ _, _, hw, _ => hw.elim
 | .se _ _ _, _, hw, _ => hw.elim
 | .ns, _, hw, _ => hw.elim
 | .m _, _, hw, _ => hw.elim
 | .nm, _, hw, _ => hw.elim
 | .f _ _ _, _, hw, _ => hw.elim
 | .nf, _, hw, _ => hw.elim
 | .yl _, _, hw, _ => hw.elim
 | .ifc _ _, _, hw, _ => hw.elim
 | .ni, _, hw, _ => hw.elim
 | .agg _ _, _, hw, _ => hw.elim
 | .tup _, _, hw, _ => hw.elim
 | .bs _ _, _, hw, _ => hw.elim
 | .sp _ _, _, hw, _ => hw.elim
theorem BR.congr {S S' : Ns} {L L' : Loc} {n : Nm} {b : Blk} {o : Obj} (hs : ∀ n, S n → S' n) (ha : Agr S L L') (hn : S n) (h : BR L S n b o) : BR L' S' n b o := by
 cases b <;> cases o <;> first | exact h.elim | skip
 case row.cells el sz N op fz cs arr el' fr =>
  obtain ⟨h1, h2, h3, h4⟩ := h
  refine ⟨h1, (wf_mono hs _).2.2.1 h2, h3, ?_⟩
  rw [(den_congr ha _).2.2.1 h2, (ha n hn).2]; exact h4
 case map.map es cl ents clock =>
  obtain ⟨h1, h2, h3, h4⟩ := h
  exact ⟨h1, (wf_mono hs _).2.2.2 h2, entsR_congr ha _ _ h2 h3, h4⟩
 case loop.loop st pe fid far nt t ps as body dn r =>
  obtain ⟨h1, h2, h4, h5, h6, h7, h8, h9, h10⟩ := h
  exact ⟨h1, h2, h4.congr hs ha, h5, h6, h7, h8.trans (ha dn h9).1.symm, hs _ h9, h10⟩
 case dfd.deferred z ds => exact h
end Go.Ev

namespace Go.Ev
structure Rel (L : Loc) (S : Ns) (h : H) (w : World) : Prop where
 blk : ∀ n, H.get n h ≠ .no → S n ∧ ∃ o, w.heap[L.b n]? = some o ∧ BR L S n (H.get n h) o
 inj : ∀ n m, H.get n h ≠ .no → H.get m h ≠ .no → L.b n = L.b m → n = m
structure WOut (w w' : World) : Prop where
 os : w'.os = w.os
 tape : w'.tape = w.tape
 output : w'.output = w.output
theorem WOut.refl (w : World) : WOut w w := ⟨rfl, rfl, rfl⟩
theorem WOut.trans {a b c : World} (h : WOut a b) (h' : WOut b c) : WOut a c := ⟨h'.os.trans h.os, h'.tape.trans h.tape, h'.output.trans h.output⟩
def isRo : Blk → Bool
 | .row _ _ N op fz _ => !op && decide (N ≤ fz) && decide (0 < fz)
 | _ => false
theorem isRo_ne {b : Blk} (h : isRo b = true) : b ≠ .no := by rintro rfl; cases h
structure Stp (L : Loc) (S : Ns) (h : H) (c : Nm) (w : World) (L' : Loc) (S' : Ns) (h' : H) (c' : Nm) (w' : World) : Prop where
 sub : ∀ n, S n → S' n
 new : ∀ n, S' n → S n ∨ c.toNat ≤ n.toNat
 agr : Agr S L L'
 cle : c.toNat ≤ c'.toNat
 bd : ∀ n, S' n → n.toNat < c'.toNat
 relb : ∀ n, H.get n h ≠ .no → S n
 rel : Rel L' S' h' w'
 size : w.heap.size ≤ w'.heap.size
 kept : ∀ r o, w.heap[r]? = some o → (∀ n, H.get n h ≠ .no → isRo (H.get n h) = false → L.b n ≠ r) → w'.heap[r]? = some o
 roH : ∀ n, isRo (H.get n h) = true → H.get n h' = H.get n h
 out : WOut w w'
 dom : ∀ n, H.get n h' ≠ .no → (∃ m, H.get m h ≠ .no ∧ L'.b n = L.b m) ∨ w.heap.size ≤ L'.b n
theorem lt_size {α : Type} {a : Array α} {i : Nat} {x : α} (h : a[i]? = some x) : i < a.size := (Array.getElem?_eq_some_iff.1 h).1
section
variable {L L' L'' : Loc} {S S' S'' : Ns} {h h' h'' : H} {c c' c'' : Nm} {w w' w'' : World}
theorem Rel.lt (hr : Rel L S h w) {n : Nm} (hn : H.get n h ≠ .no) : L.b n < w.heap.size := let ⟨_, _, ho, _⟩ := hr.blk n hn; lt_size ho
theorem Stp.refl (hr : Rel L S h w) (hb : ∀ n, S n → n.toNat < c.toNat) : Stp L S h c w L S h c w where
 sub := fun _ hn => hn
 new := fun _ hn => .inl hn
 agr := Agr.refl S L
 cle := Nat.le_refl _
 bd := hb
 relb := fun n hn => (hr.blk n hn).1
 rel := hr
 size := Nat.le_refl _
 kept := fun _ _ ho _ => ho
 roH := fun _ _ => rfl
 out := WOut.refl w
 dom := fun n hn => .inl ⟨n, hn, rfl⟩
theorem Stp.trans (a : Stp L S h c w L' S' h' c' w') (b : Stp L' S' h' c' w' L'' S'' h'' c'' w'') : Stp L S h c w L'' S'' h'' c'' w'' where
 sub := fun n hn => b.sub n (a.sub n hn)
 new := fun n hn => by
  rcases b.new n hn with h1 | h1
  · exact a.new n h1
  · exact .inr (Nat.le_trans a.cle h1)
 agr := a.agr.trans a.sub b.agr
 cle := Nat.le_trans a.cle b.cle
 bd := b.bd
 relb := a.relb
 rel := b.rel
 size := Nat.le_trans a.size b.size
 kept := fun r o ho hn => by
  refine b.kept r o (a.kept r o ho hn) fun n hn' hro he => ?_
  rcases a.dom n hn' with ⟨m, hm, e⟩ | e
  · cases hrm : isRo (H.get m h) with
    | false => exact hn m hm hrm (e.symm.trans he)
    | true =>
      have e2 := a.roH m hrm
      have hm' : H.get m h' ≠ .no := by rw [e2]; exact hm
      have hb' : L'.b m = L.b m := (a.agr m (a.relb m hm)).1
      have hnm : n = m := a.rel.inj n m hn' hm' (by rw [hb', e])
      rw [hnm, e2, hrm] at hro; cases hro
  · have := lt_size ho; omega
 roH := fun n hn => by
  have h1 := a.roH n hn
  rw [← h1]
  exact b.roH n (by rw [h1]; exact hn)
 out := a.out.trans b.out
 dom := fun n hn => by
  rcases b.dom n hn with ⟨m, hm, e⟩ | e
  · rcases a.dom m hm with ⟨k, hk, e'⟩ | e'
    · exact .inl ⟨k, hk, e.trans e'⟩
    · exact .inr (by omega)
  · exact .inr (Nat.le_trans a.size e)
noncomputable def Loc.put (L : Loc) (n : Nm) (b k : Nat) : Loc := ⟨fun m => if m = n then b else L.b m, fun m => if m = n then k else L.k m⟩
theorem Loc.put_agr {n : Nm} (b k : Nat) (hn : ¬ S n) : Agr S L (L.put n b k) := fun m hm => by
 have : m ≠ n := fun e => hn (e ▸ hm)
 simp [Loc.put, this]
theorem Loc.put_b (n : Nm) (b k : Nat) : (L.put n b k).b n = b := by simp [Loc.put]
theorem Loc.put_k (n : Nm) (b k : Nat) : (L.put n b k).k n = k := by simp [Loc.put]
def addN (S : Ns) (n : Nm) : Ns := fun m => S m ∨ m = n
theorem nm_bd (hb : ∀ n, S n → n.toNat < c.toNat) {n : Nm} (hn : c.toNat ≤ n.toNat) : ¬ S n := fun h => by have := hb n h; omega
theorem Stp.alloc (hr : Rel L S h w) (hb : ∀ n, S n → n.toNat < c.toNat) {n : Nm} (hn : ¬ S n) (hc : c.toNat ≤ n.toNat) {b : Blk} {o : Obj} {k : Nat} (ho : BR (L.put n w.heap.size k) (addN S n) n b o)
 (hw : w'.heap = w.heap.push o) (hout : WOut w w' := by exact ⟨rfl, rfl, rfl⟩) {c' : Nm} (hcc : c.toNat ≤ c'.toNat) (hnc : n.toNat < c'.toNat) : Stp L S h c w (L.put n w.heap.size k) (addN S n) (H.set n b h) c' w' where
 sub := fun _ hm => .inl hm
 new := fun m hm => by
  rcases hm with hm | rfl
  · exact .inl hm
  · exact .inr hc
 agr := Loc.put_agr _ _ hn
 cle := hcc
 bd := fun m hm => by
  rcases hm with hm | rfl
  · have := hb m hm; omega
  · exact hnc
 relb := fun n hn => (hr.blk n hn).1
 rel := by
  have hget : ∀ m, H.get m (H.set n b h) = if m = n then b else H.get m h := fun m => hget_set n m b h
  refine ⟨fun m hm => ?_, fun m m' hm hm' e => ?_⟩
  · rw [hget] at hm ⊢
    by_cases hmn : m = n
    · subst hmn
      rw [if_pos rfl] at hm ⊢
      refine ⟨.inr rfl, o, ?_, ho⟩
      rw [Loc.put_b, hw, Array.getElem?_push_size]
    · rw [if_neg hmn] at hm ⊢
      obtain ⟨h1, o', h2, h3⟩ := hr.blk m hm
      refine ⟨.inl h1, o', ?_, h3.congr (fun _ h => .inl h) (Loc.put_agr _ _ hn) h1⟩
      rw [(Loc.put_agr (L := L) (S := S) w.heap.size k hn m h1).1, hw, Array.getElem?_push, if_neg (by have := lt_size h2; omega), h2]
  · rw [hget] at hm hm'
    by_cases hmn : m = n
    · by_cases hmn' : m' = n
      · rw [hmn, hmn']
      · rw [if_neg hmn'] at hm'
        subst hmn
        rw [Loc.put_b, (Loc.put_agr (L := L) (S := S) w.heap.size k hn m' (hr.blk m' hm').1).1] at e
        have := hr.lt hm'; omega
    · rw [if_neg hmn] at hm
      by_cases hmn' : m' = n
      · subst hmn'
        rw [Loc.put_b, (Loc.put_agr (L := L) (S := S) w.heap.size k hn m (hr.blk m hm).1).1] at e
        have := hr.lt hm; omega
      · rw [if_neg hmn'] at hm'
        rw [(Loc.put_agr (L := L) (S := S) w.heap.size k hn m (hr.blk m hm).1).1, (Loc.put_agr (L := L) (S := S) w.heap.size k hn m' (hr.blk m' hm').1).1] at e
        exact hr.inj m m' hm hm' e
 size := by rw [hw]; simp
 kept := fun r o' ho' _ => by rw [hw, Array.getElem?_push, if_neg (by have := lt_size ho'; omega), ho']
 roH := fun m hm => by
  have : m ≠ n := fun e => hn (e ▸ (hr.blk m (isRo_ne hm)).1)
  rw [hget_set, if_neg this]
 out := hout
 dom := fun m hm => by
  rw [hget_set] at hm
  by_cases hmn : m = n
  · subst hmn; exact .inr (by rw [Loc.put_b]; exact Nat.le_refl _)
  · rw [if_neg hmn] at hm
    exact .inl ⟨m, hm, (Loc.put_agr (L := L) (S := S) w.heap.size k hn m (hr.blk m hm).1).1⟩
theorem Stp.put (hr : Rel L S h w) (hb : ∀ n, S n → n.toNat < c.toNat) {n : Nm} (hn : H.get n h ≠ .no) {b : Blk} {o : Obj} (ho : BR L S n b o)
 (hw1 : w'.heap[L.b n]? = some o) (hw2 : ∀ r, r ≠ L.b n → w'.heap[r]? = w.heap[r]?) (hw3 : w'.heap.size = w.heap.size) (hro : isRo (H.get n h) = false) (hout : WOut w w' := by exact ⟨rfl, rfl, rfl⟩) : Stp L S h c w L S (H.set n b h) c w' where
 sub := fun _ hm => hm
 new := fun _ hm => .inl hm
 agr := Agr.refl S L
 cle := Nat.le_refl _
 bd := hb
 relb := fun n hn => (hr.blk n hn).1
 rel := by
  have hget : ∀ m, H.get m (H.set n b h) = if m = n then b else H.get m h := fun m => hget_set n m b h
  have hdom : ∀ m, H.get m (H.set n b h) ≠ .no → H.get m h ≠ .no := fun m hm => by
   rw [hget] at hm
   by_cases hmn : m = n
   · rw [hmn]; exact hn
   · rwa [if_neg hmn] at hm
  refine ⟨fun m hm => ?_, fun m m' hm hm' e => hr.inj m m' (hdom m hm) (hdom m' hm') e⟩
  by_cases hmn : m = n
  · subst hmn
    rw [hget, if_pos rfl]
    exact ⟨(hr.blk m hn).1, o, hw1, ho⟩
  · obtain ⟨h1, o', h2, h3⟩ := hr.blk m (hdom m hm)
    rw [hget, if_neg hmn]
    refine ⟨h1, o', ?_, h3⟩
    rw [hw2 _ fun e => hmn (hr.inj m n (hdom m hm) hn e), h2]
 size := by omega
 kept := fun r o' ho' hr' => by rw [hw2 r fun e => hr' n hn hro e.symm, ho']
 roH := fun m hm => by
  have : m ≠ n := fun e => by rw [e, hro] at hm; cases hm
  rw [hget_set, if_neg this]
 out := hout
 dom := fun m hm => by
  rw [hget_set] at hm
  by_cases hmn : m = n
  · subst hmn; exact .inl ⟨m, hn, rfl⟩
  · rw [if_neg hmn] at hm; exact .inl ⟨m, hm, rfl⟩
theorem Stp.same (hr : Rel L S h w) (hb : ∀ n, S n → n.toNat < c.toNat) (hw : w'.heap = w.heap) (hout : WOut w w' := by exact ⟨rfl, rfl, rfl⟩) : Stp L S h c w L S h c w' where
 sub := fun _ hm => hm
 new := fun _ hm => .inl hm
 agr := Agr.refl S L
 cle := Nat.le_refl _
 bd := hb
 relb := fun n hn => (hr.blk n hn).1
 rel := ⟨fun n hn => by rw [hw]; exact hr.blk n hn, hr.inj⟩
 size := by rw [hw]; exact Nat.le_refl _
 kept := fun r o ho _ => by rw [hw]; exact ho
 roH := fun _ _ => rfl
 out := hout
 dom := fun n hn => .inl ⟨n, hn, rfl⟩
theorem Stp.rename (hr : Rel L S h w) (hb : ∀ n, S n → n.toNat < c.toNat) {n m : Nm} (hn : H.get n h ≠ .no) (hm : ¬ S m) (hc : c.toNat ≤ m.toNat) {b : Blk} {o : Obj} {k : Nat} (ho : BR (L.put m (L.b n) k) (addN S m) m b o)
 (hw1 : w'.heap[L.b n]? = some o) (hw2 : ∀ r, r ≠ L.b n → w'.heap[r]? = w.heap[r]?) (hw3 : w'.heap.size = w.heap.size) (hro : isRo (H.get n h) = false) (hout : WOut w w') {c' : Nm} (hcc : c.toNat ≤ c'.toNat) (hnc : m.toNat < c'.toNat) :
 Stp L S h c w (L.put m (L.b n) k) (addN S m) (H.set m b (H.set n .no h)) c' w' where
 sub := fun _ h => .inl h
 new := fun q hq => by
  rcases hq with hq | rfl
  · exact .inl hq
  · exact .inr hc
 agr := Loc.put_agr _ _ hm
 cle := hcc
 bd := fun q hq => by
  rcases hq with hq | rfl
  · have := hb q hq; omega
  · exact hnc
 relb := fun n hn => (hr.blk n hn).1
 rel := by
  have hget : ∀ q, H.get q (H.set m b (H.set n .no h)) = if q = m then b else if q = n then .no else H.get q h := fun q => by rw [hget_set, hget_set]
  have hold : ∀ q, q ≠ m → H.get q (H.set m b (H.set n .no h)) ≠ .no → q ≠ n ∧ H.get q h ≠ .no := fun q hqm hq => by
   rw [hget, if_neg hqm] at hq
   by_cases hqn : q = n
   · rw [if_pos hqn] at hq; exact absurd rfl hq
   · rw [if_neg hqn] at hq; exact ⟨hqn, hq⟩
  have hLq : ∀ q, H.get q h ≠ .no → (L.put m (L.b n) k).b q = L.b q := fun q hq => (Loc.put_agr (L := L) (S := S) (L.b n) k hm q (hr.blk q hq).1).1
  refine ⟨fun q hq => ?_, fun q q' hq hq' e => ?_⟩
  · by_cases hqm : q = m
    · subst hqm
      rw [hget, if_pos rfl]
      exact ⟨.inr rfl, o, by rw [Loc.put_b]; exact hw1, ho⟩
    · obtain ⟨hqn, hq0⟩ := hold q hqm hq
      obtain ⟨h1, o', h2, h3⟩ := hr.blk q hq0
      rw [hget, if_neg hqm, if_neg hqn]
      refine ⟨.inl h1, o', ?_, h3.congr (fun _ h => .inl h) (Loc.put_agr _ _ hm) h1⟩
      rw [hLq q hq0, hw2 _ fun e => hqn (hr.inj q n hq0 hn e), h2]
  · by_cases hqm : q = m
    · by_cases hqm' : q' = m
      · rw [hqm, hqm']
      · obtain ⟨hqn, hq0⟩ := hold q' hqm' hq'
        subst hqm
        rw [Loc.put_b, hLq q' hq0] at e
        exact absurd (hr.inj n q' hn hq0 e).symm hqn
    · obtain ⟨hqn, hq0⟩ := hold q hqm hq
      by_cases hqm' : q' = m
      · subst hqm'
        rw [Loc.put_b, hLq q hq0] at e
        exact absurd (hr.inj q n hq0 hn e) hqn
      · obtain ⟨hqn', hq0'⟩ := hold q' hqm' hq'
        rw [hLq q hq0, hLq q' hq0'] at e
        exact hr.inj q q' hq0 hq0' e
 size := by omega
 kept := fun r o' ho' hr' => by rw [hw2 r fun e => hr' n hn hro e.symm, ho']
 roH := fun q hq => by
  have h1 : q ≠ n := fun e => by rw [e, hro] at hq; cases hq
  have h2 : q ≠ m := fun e => hm (e ▸ (hr.blk q (isRo_ne hq)).1)
  rw [hget_set, if_neg h2, hget_set, if_neg h1]
 out := hout
 dom := fun q hq => by
  by_cases hqm : q = m
  · subst hqm; exact .inl ⟨n, hn, Loc.put_b _ _ _⟩
  · rw [hget_set, if_neg hqm, hget_set] at hq
    by_cases hqn : q = n
    · rw [if_pos hqn] at hq; exact absurd rfl hq
    · rw [if_neg hqn] at hq
      exact .inl ⟨q, hq, (Loc.put_agr (L := L) (S := S) (L.b n) k hm q (hr.blk q hq).1).1⟩
theorem Stp.ext {h1 : H} (a : Stp L S h c w L' S' h1 c' w') (he : ∀ n, H.get n h1 = H.get n h') : Stp L S h c w L' S' h' c' w' where
 sub := a.sub
 new := a.new
 agr := a.agr
 cle := a.cle
 bd := a.bd
 relb := a.relb
 rel := ⟨fun n hn => by rw [← he n] at hn ⊢; exact a.rel.blk n hn, fun n m hn hm e => a.rel.inj n m (by rw [he n]; exact hn) (by rw [he m]; exact hm) e⟩
 size := a.size
 kept := a.kept
 roH := fun n hn => by rw [← he n]; exact a.roH n hn
 out := a.out
 dom := fun n hn => a.dom n (by rw [he n]; exact hn)
theorem Stp.forget (a : Stp L S h c w L' S' h' c' w') (m : Nm) (hro : isRo (H.get m h) = false) : Stp L S h c w L' S' (H.set m .no h') c' w' := by
 have hg : ∀ n, H.get n (H.set m .no h') ≠ .no → n ≠ m ∧ H.get n (H.set m .no h') = H.get n h' := fun n hn => by
  rw [hget_set] at hn ⊢
  by_cases hnm : n = m
  · rw [if_pos hnm] at hn; exact absurd rfl hn
  · rw [if_neg hnm]; exact ⟨hnm, rfl⟩
 exact {
  sub := a.sub
  new := a.new
  agr := a.agr
  cle := a.cle
  bd := a.bd
  relb := a.relb
  rel := ⟨fun n hn => by
      obtain ⟨_, h2⟩ := hg n hn
      rw [h2] at hn ⊢
      exact a.rel.blk n hn,
   fun n q hn hq e => a.rel.inj n q (by rw [← (hg n hn).2]; exact hn) (by rw [← (hg q hq).2]; exact hq) e⟩
  size := a.size
  kept := a.kept
  roH := fun n hn => by
   have : n ≠ m := fun e => by rw [e, hro] at hn; cases hn
   rw [hget_set, if_neg this]
   exact a.roH n hn
  out := a.out
  dom := fun n hn => a.dom n (by rw [← (hg n hn).2]; exact hn) }
end
end Go.Ev

namespace Go.Ev
def fnc (rd : Option Nat) : Fence := { fn := fun _ => True, depth := none, alive := false, round := rd }
def Bd (S : Ns) (c : Nm) : Prop := ∀ n, S n → n.toNat < c.toNat
def GOk (P : Program) (L : Loc) (S : Ns) : Prop := ∀ g, g < P.globals.size → S (gn g) ∧ L.b (gn g) = g
def ChR (L : Loc) (S : Ns) (ch : V) (chain : List PanicEntry) : Prop := (wf S ch).v ∧ chain = [{ v := val L ch, recovered := false }]
def DR1 (L : Loc) (S : Ns) : D → Deferred → Prop
 | .call fv args, d => (wf S fv).v ∧ (wf S args).s ∧ Deferred.ofValue (val L fv) (lsv L args).toArray = pure d
 | .mark r, d => S r ∧ d = { target := .collected (L.b r), args := #[] }
 | .rcvd, _ => False
def DR (L : Loc) (S : Ns) : List D → List Deferred → Prop
 | [], [] => True
 | x :: xs, d :: ds => DR1 L S x d ∧ DR L S xs ds
 | _, _ => False
theorem DR.congr {S S' : Ns} {L L' : Loc} (hs : ∀ n, S n → S' n) (ha : Agr S L L') : ∀ {xs : List D} {ds : List Deferred}, DR L S xs ds → DR L' S' xs ds
 | [], [], _ => trivial
 | [], _ :: _, h => h.elim
 | _ :: _, [], h => h.elim
 | x :: xs, d :: ds, h => by
   refine ⟨?_, DR.congr hs ha h.2⟩
   have h1 := h.1
   cases x with
   | call fv args =>
     obtain ⟨h2, h3, h4⟩ := h1
     exact ⟨(wf_mono hs _).1 h2, (wf_mono hs _).2.2.2 h3, by rw [(den_congr ha fv).1 h2, (den_congr ha args).2.2.2 h3]; exact h4⟩
   | mark r => exact ⟨hs r h1.1, by rw [(ha r h1.1).1]; exact h1.2⟩
   | rcvd => exact h1.elim
def CPost (L : Loc) (S : Ns) (h : H) (c : Nm) (w : World) : C → Ending → World → Prop
 | .ret v h' c', e, w' => ∃ L' S', e = .returned (val L' v) ∧ (wf S' v).v ∧ Stp L S h c w L' S' h' c' w'
 | .panic ch h' c', e, w' => ∃ L' S' chain, e = .panicked chain ∧ ChR L' S' ch chain ∧ Stp L S h c w L' S' h' c' w'
 | .bad _, _, _ => False
def Doing (P : Program) (R : Ending → World → Prop) : Result Next → Prop
 | .ok (.enter f args) w' => CallsIn (fnc none) 0 P f args w' R
 | .ok (.round l f tmps assign body) w' => RoundIn (fnc none) 0 P l f tmps assign body w' R
 | _ => False
theorem Doing.mono {P : Program} {R R' : Ending → World → Prop} (hr : ∀ e w, R e w → R' e w) : ∀ {x : Result Next}, Doing P R x → Doing P R' x := by
 intro x h
 cases x with
 | halt => exact h.elim
 | ok y w => cases y <;> first | exact h.elim | exact CallsIn.mono h hr | exact RoundIn.mono h hr
def CGood (r : C) : Prop := ∀ n, r ≠ .bad n
def CalOk (P : Program) (cal : Cal) : Prop := ∀ fv args h c L S w, Rel L S h w → Bd S c → GOk P L S → (wf S fv).v → (wf S args).s → CGood (cal fv args h c) →
 Doing P (CPost L S h c w (cal fv args h c)) ((do let d ← Deferred.ofValue (val L fv) (lsv L args).toArray; invoke d.target d.args : Sem Next).run P w)
section
variable (P : Program) (rd : Option Nat)
def OS (e : Ce) (o : Oper) (io : Iop) : Prop := ∀ (cal : Cal) (a : Act) (ns : List V) (t : T) (d : List D) (h : H) (c : Nm) (w : World) (L : Loc) (S : Ns) (k : KW) (next : Act → World → Prop) (Q : Exit → Act → World → Prop),
 CalOk P cal → GOk P L S → Mat L S e a ns t → Rel L S h w → Bd S c → DR L S d a.defers → (execO io cal ns t d h c k).Good →
 (∀ v d' h' c' L' S' ds' w', Stp L S h c w L' S' h' c' w' → (wf S' v).v → DR L' S' d' ds' → execO io cal ns t d h c k = k v d' h' c' → next ({ a with defers := ds' }.put o.dst (val L' v)) w') →
 (∀ ch h' c' chain L' S' w', Stp L S h c w L' S' h' c' w' → ChR L' S' ch chain → execO io cal ns t d h c k = .panic ch t d h' c' → Q (.panic chain) a w') →
 o.uponIn (fnc rd) 0 P a next Q ((o.semAt (fnc rd).round a.eval).run P w)
end
section
variable {P : Program} {rd : Option Nat} {e : Ce} {o : Oper}
theorem OS.of_PS {f : PH} (hnd : ∀ c, o.op ≠ .defer c) (h : ∀ L S, PS P L S e o f) : OS P rd e o (.p f) := by
 intro cal a ns t d hh c w L S k next Q _ _ hm hr hb hd hg hk _
 have hg' : (f ns t (fun v => k v d hh c)).Good := hg
 obtain ⟨v, h1, h2, h3⟩ := h L S a ns t _ hm hg'
 rw [Oper.semAt_eq _ _ _ hnd, h3 w, Oper.uponIn_value]
 exact hk v d hh c L S a.defers w (Stp.refl hr hb) h1 hd h2
def RB (L : Loc) (S : Ns) (w : World) (a : Nm) (b : Blk) : Prop := b ≠ .no → S a ∧ ∃ o, w.heap[L.b a]? = some o ∧ BR L S a b o
def RS (P : Program) (L : Loc) (S : Ns) (e : Ce) (o : Oper) (x : Opnd) (f : BH) : Prop := ∀ (a : Act) (ns : List V) (t : T) (b : Blk) (w : World) (k : K1), Mat L S e a ns t → RB L S w (nmOf (ev x ns t)) b → (f b ns t k).Good →
 ∃ v, (wf S v).v ∧ f b ns t k = k v ∧ (execOp a.eval o).run P w = .ok (.value (val L v)) w
theorem OS.of_RS {x : Opnd} {f : BH} (hnd : ∀ c, o.op ≠ .defer c) (h : ∀ L S, RS P L S e o x f) : OS P rd e o (.r x f) := by
 intro cal a ns t d hh c w L S k next Q _ _ hm hr hb hd hg hk _
 have hg' : (f (H.get (nmOf (ev x ns t)) hh) ns t (fun v => k v d hh c)).Good := hg
 obtain ⟨v, h1, h2, h3⟩ := h L S a ns t _ w _ hm (fun hn => hr.blk _ hn) hg'
 rw [Oper.semAt_eq _ _ _ hnd, h3, Oper.uponIn_value]
 exact hk v d hh c L S a.defers w (Stp.refl hr hb) h1 hd h2
def AS (P : Program) (L : Loc) (S : Ns) (e : Ce) (o : Oper) (f : AH) : Prop := ∀ (a : Act) (ns : List V) (t : T) (q : (Nm → V) → Blk → R), Mat L S e a ns t → (f ns t q).Good →
 ∃ (mk : Nm → V) (b : Blk), f ns t q = q mk b ∧ ∀ (n : Nm) (w : World), ¬ S n → ∃ (w' : World) (ob : Obj) (kc : Nat), (execOp a.eval o).run P w = .ok (.value (val (L.put n w.heap.size kc) (mk n))) w' ∧ w'.heap = w.heap.push ob ∧ WOut w w' ∧
   BR (L.put n w.heap.size kc) (addN S n) n b ob ∧ (wf (addN S n) (mk n)).v
theorem OS.of_AS {f : AH} (hnd : ∀ c, o.op ≠ .defer c) (h : ∀ L S, AS P L S e o f) : OS P rd e o (.a f) := by
 intro cal a ns t d hh c w L S k next Q _ _ hm hr hb hd hg hk _
 have hg' : (f ns t (fun v b => k (v c) d (H.set c b hh) (Nm.succ c))).Good := hg
 obtain ⟨mk, b, h1, h2⟩ := h L S a ns t _ hm hg'
 have hnc : ¬ S c := nm_bd hb (Nat.le_refl _)
 obtain ⟨w', ob, kc, h3, h4, hout, h5, h6⟩ := h2 c w hnc
 have hst := Stp.alloc hr hb hnc (Nat.le_refl _) h5 h4 hout (c' := Nm.succ c) (by rw [nm_succ]; omega) (by rw [nm_succ]; omega)
 rw [Oper.semAt_eq _ _ _ hnd, h3, Oper.uponIn_value]
 exact hk (mk c) d _ _ _ _ a.defers w' hst h6 (hd.congr hst.sub hst.agr) h1
end
end Go.Ev

namespace Go.Ev
section
variable {P : Program} {L : Loc} {c : Nm → Prop} {e : Ce}
theorem optI_good {a : Act} {ns : List V} {t : T} (hm : Mat L c e a ns t) {lo : Option Operand} {d : Nat} {q : Nat → R} (h : (optI (lo.map (cOpd e)) ns t d q).Good) :
 ∃ m, optI (lo.map (cOpd e)) ns t d q = q m ∧ (lo = none ∧ m = d ∨ ∃ x k, lo = some x ∧ a.eval x = .int k (m : Int)) := by
 cases lo with
 | none => exact ⟨d, rfl, .inl ⟨rfl, rfl⟩⟩
 | some x =>
   have hg : (asN (ev (cOpd e x) ns t) q).Good := h
   obtain ⟨k, m, hy, h1, h2⟩ := asN_good (c := c) hg
   have vy := hm.at x hy (by simp)
   exact ⟨m, h1, .inr ⟨x, _, rfl, vy.1.trans (h2 vy.2 L)⟩⟩
theorem run_sliceBound {k : IntKind} {m y : Nat} (code : BoundsCode) (h : m ≤ y) (w : World) : (Instr.sliceBound (.int k (m : Int)) y code).run P w = .ok m w := by
 have hc : (0 : Int) ≤ (m : Int) ∧ (m : Int) ≤ (y : Int) := ⟨by omega, by omega⟩
 simp only [Instr.sliceBound, Sem.run_bind, run_asIntOf, Result.andThen_ok, hc, and_self, if_true, Sem.run_pure, Int.toNat_natCast]
theorem run_bounds {ρ : Operand → Value} {isSl : Bool} {len cap l h m : Nat} {lo hi mx : Option Operand}
 (hl : lo = none ∧ l = 0 ∨ ∃ x k, lo = some x ∧ ρ x = .int k (l : Int)) (hh : hi = none ∧ h = len ∨ ∃ x k, hi = some x ∧ ρ x = .int k (h : Int))
 (hmm : mx = none ∧ m = cap ∨ ∃ x k, mx = some x ∧ ρ x = .int k (m : Int)) (hno : mx.isSome = true → hi.isSome = true) (h1 : l ≤ h) (h2 : h ≤ m) (h3 : m ≤ cap) (w : World) :
 (Instr.sliceBounds isSl len cap (lo.map ρ) (hi.map ρ) (mx.map ρ)).run P w = .ok (l, h, m) w := by
 rcases hmm with ⟨rfl, rfl⟩ | ⟨xm, km, rfl, em⟩
 · rcases hh with ⟨rfl, rfl⟩ | ⟨xh, kh, rfl, eh⟩
   · rcases hl with ⟨rfl, rfl⟩ | ⟨xl, kl, rfl, el⟩
     · simp [Instr.sliceBounds]
     · simp [Instr.sliceBounds, el, run_sliceBound _ h1]
   · rcases hl with ⟨rfl, rfl⟩ | ⟨xl, kl, rfl, el⟩
     · simp [Instr.sliceBounds, eh, run_sliceBound _ h2]
     · simp [Instr.sliceBounds, eh, run_sliceBound _ h2, el, run_sliceBound _ h1]
 · rcases hh with ⟨rfl, rfl⟩ | ⟨xh, kh, rfl, eh⟩
   · exact absurd (hno rfl) (by simp)
   · rcases hl with ⟨rfl, rfl⟩ | ⟨xl, kl, rfl, el⟩
     · simp [Instr.sliceBounds, em, run_sliceBound _ h3, eh, run_sliceBound _ h2]
     · simp [Instr.sliceBounds, em, run_sliceBound _ h3, eh, run_sliceBound _ h2, el, run_sliceBound _ h1]
theorem sliceK_good {b : Nm} {o cp lo hi mx sz : Nat} {k : K1} (h : (sliceK b o cp lo hi mx sz k).Good) :
 lo ≤ hi ∧ hi ≤ mx ∧ mx ≤ cp ∧ sliceK b o cp lo hi mx sz k = k (.sl b (if mx = lo then o else o + lo * sz) (hi - lo) (mx - lo)) := by
 obtain ⟨h1, e1⟩ := rec_good (z := Nat.ble lo hi) h
 have g1 := good_of e1 h
 obtain ⟨h2, e2⟩ := rec_good (z := Nat.ble hi mx) g1
 have g2 := good_of e2 g1
 obtain ⟨h3, e3⟩ := rec_good (z := Nat.ble mx cp) g2
 rw [Nat.ble_eq] at h1 h2 h3
 refine ⟨h1, h2, h3, (e1.trans (e2.trans e3)).trans ?_⟩
 have : (Bool.rec (Nat.add o (Nat.mul lo sz)) o (Nat.beq mx lo) : Nat) = if mx = lo then o else o + lo * sz := by
  rw [bool_rec_eq]
  simp only [Nat.beq_eq]; rfl
 rw [this]; rfl
theorem sl_addr (L : Loc) (b : Nm) (o lo mx sz : Nat) : (if mx = lo then (⟨L.b b, o, none⟩ : Addr) else Addr.add ⟨L.b b, o, none⟩ (lo * sz)) = ⟨L.b b, if mx = lo then o else o + lo * sz, none⟩ := by
 split
 · rfl
 · rw [addr_add]
theorem sliceO_good {b : Nm} {o r l lo hi sz : Nat} {k : K1} (h : (sliceO b o r l lo hi sz k).Good) :
 lo ≤ hi ∧ hi ≤ l + r ∧ (((lo = 0 ∨ lo < l + r) ∧ sliceO b o r l lo hi sz k = k (.so b (o + lo * sz) (l + r - hi) (hi - lo))) ∨ (lo = l + r ∧ lo ≠ 0 ∧ sliceO b o r l lo hi sz k = k (.se b o (lo * sz)))) := by
 obtain ⟨h1, e1⟩ := rec_good (z := Nat.ble lo hi) h
 have g1 := good_of e1 h
 obtain ⟨h2, e2⟩ := rec_good (z := Nat.ble hi (Nat.add l r)) g1
 rw [Nat.ble_eq] at h1 h2
 have h2' : hi ≤ l + r := h2
 refine ⟨h1, h2', ?_⟩
 cases hz : Bool.or (isZ lo) (lt lo (Nat.add l r)) with
 | true =>
   left
   have h3' : (isZ lo || lt lo (l + r)) = true := hz
   rw [Bool.or_eq_true, isZ_eq, lt_iff, decide_eq_true_eq] at h3'
   refine ⟨h3', e1.trans (e2.trans ?_)⟩
   rw [hz]; rfl
 | false =>
   right
   have h3' : (isZ lo || lt lo (l + r)) = false := hz
   rw [Bool.or_eq_false_iff, isZ_eq, decide_eq_false_iff_not] at h3'
   obtain ⟨h4, h5⟩ := h3'
   have h5' : ¬ lo < l + r := fun h => by rw [(lt_iff _ _).2 h] at h5; cases h5
   refine ⟨by omega, h4, e1.trans (e2.trans ?_)⟩
   rw [hz]; rfl
theorem cSlice_sound {o : Oper} {t : TypeId} {x : Operand} {lo hi mx : Option Operand} (ho : o.op = .slice t x lo hi mx) {f : PH}
 (hc : cSlice P t (cOpd e x) (lo.map (cOpd e)) (hi.map (cOpd e)) (mx.map (cOpd e)) = .p f) : PS P L c e o f := by
 unfold cSlice at hc
 cases hu : P.underlying t with
 | none => rw [hu] at hc; cases hc
 | some d =>
 rw [hu] at hc
 cases d with
 | slice el =>
   simp only at hc
   have hc' : szT P el ≠ 0 ∧ (mx.isSome = true → hi.isSome = true) ∧ Iop.p (hSliceSl (szT P el) (cOpd e x) (lo.map (cOpd e)) (hi.map (cOpd e)) (mx.map (cOpd e)) (mx.map (cOpd e)).isSome) = .p f := by
    by_cases hz : szT P el = 0
    · simp [hz] at hc
    · refine ⟨hz, ?_⟩
      cases mx <;> cases hi <;> simp [hz] at hc ⊢ <;> exact hc
   obtain ⟨hk, hmh, hc⟩ := hc'
   rw [Iop.p.injEq] at hc
   subst hc
   obtain ⟨i, hi'⟩ := info_of_sz hk
   have hsz : ∀ W, (sizeOf el).run P W = .ok (szT P el) W := fun W => run_sizeOf W hi'
   intro a ns T k hm hg
   have fin : ∀ (ad : Option Addr) (len cap l h m : Nat) (W : World), a.eval x = .slice ad len cap →
    (Instr.sliceBounds true len cap (lo.map a.eval) (hi.map a.eval) (mx.map a.eval)).run P W = .ok (l, h, m) W →
    (execOp a.eval o).run P W = .ok (.value (.slice (if m = l then ad else ad.map (·.add (l * szT P el))) (h - l) (m - l))) W := by
    intro ad len cap l h m W hx hb
    simp only [execOp, ho, Instr.sliceAt, hx, Sem.run_bind, run_underlying hu, Result.andThen_ok, Instr.slice, hb, hsz, Sem.run_pure]
   cases hx : ev (cOpd e x) ns T <;> simp only [hSliceSl, hx] at hg ⊢ <;> first
    | exact (bad_good hg).elim
    | skip
   case sl b off len cap =>
    have vx := hm.at x hx (by simp)
    obtain ⟨l, e1, hl⟩ := optI_good hm hg
    have g1 := good_of e1 hg
    obtain ⟨h, e2, hh⟩ := optI_good hm g1
    have g2 := good_of e2 g1
    obtain ⟨m, e3, hmm⟩ := optI_good hm g2
    have g3 := good_of e3 g2
    obtain ⟨h1, h2, h3, e4⟩ := sliceK_good g3
    refine ⟨.sl b (if m = l then off else off + l * szT P el) (h - l) (m - l), vx.2, e1.trans (e2.trans (e3.trans e4)), fun W => ?_⟩
    rw [fin _ len cap l h m W vx.1 (run_bounds hl hh hmm hmh h1 h2 h3 W)]
    show Result.ok (Next.value (.slice _ _ _)) W = Result.ok (Next.value (.slice (some ⟨L.b b, _, none⟩) _ _)) W
    rw [← sl_addr]
    split <;> rfl
   case so b off r len =>
    have vx := hm.at x hx (by simp)
    have hx1 : a.eval x = .slice (some ⟨L.b b, off, none⟩) len (len + r + L.k b) := vx.1
    obtain ⟨l, e1, hl⟩ := optI_good hm hg
    have g1 := good_of e1 hg
    obtain ⟨h, e2, hh⟩ := optI_good hm g1
    have g2 := good_of e2 g1
    cases mx with
    | none =>
      obtain ⟨h1, h2, h3⟩ := sliceO_good g2
      rcases h3 with ⟨h3, e4⟩ | ⟨h3, h5, e4⟩
      · refine ⟨.so b (off + l * szT P el) (len + r - h) (h - l), vx.2, e1.trans (e2.trans e4), fun W => ?_⟩
        rw [fin _ len _ l h _ W hx1 (run_bounds hl hh (.inl ⟨rfl, rfl⟩) hmh h1 (by omega) (Nat.le_refl _) W)]
        show Result.ok (Next.value (.slice _ _ _)) W = Result.ok (Next.value (.slice (some ⟨L.b b, off + l * szT P el, none⟩) (h - l) (h - l + (len + r - h) + L.k b))) W
        have en : len + r + L.k b - l = h - l + (len + r - h) + L.k b := by omega
        rw [en]
        rcases h3 with rfl | h3
        · simp only [Nat.zero_mul, Nat.add_zero, Option.map_some, addr_add, ite_self]
        · rw [if_neg (by omega)]
          simp only [Option.map_some, addr_add]
      · refine ⟨.se b off (l * szT P el), vx.2, e1.trans (e2.trans e4), fun W => ?_⟩
        rw [fin _ len _ l h _ W hx1 (run_bounds hl hh (.inl ⟨rfl, rfl⟩) hmh h1 (by omega) (Nat.le_refl _) W)]
        have hhl : h = l := by omega
        subst hhl
        show _ = Result.ok (Next.value (endSl (L.b b) off (h * szT P el) (L.k b))) W
        unfold endSl
        have en : len + r + L.k b - h = L.k b := by omega
        rw [en, Nat.sub_self]
        by_cases hk0 : L.k b = 0
        · rw [if_pos hk0, if_pos (by omega), hk0]
        · rw [if_neg hk0, if_neg (by omega)]
          simp only [Option.map_some, addr_add]
    | some xm =>
      have g2' : (optI (some (cOpd e xm)) ns T len (fun mx => sliceK b off len l h mx (szT P el) k)).Good := g2
      obtain ⟨m, e3, hmm⟩ := optI_good (lo := some xm) hm g2'
      have g3 := good_of e3 g2'
      obtain ⟨h1, h2, h3, e4⟩ := sliceK_good g3
      refine ⟨.sl b (if m = l then off else off + l * szT P el) (h - l) (m - l), vx.2, e1.trans (e2.trans (e3.trans e4)), fun W => ?_⟩
      have hmm' : (some xm : Option Operand) = none ∧ m = (len + r + L.k b) ∨ ∃ x k, some xm = some x ∧ a.eval x = .int k (m : Int) := by
       rcases hmm with ⟨h, _⟩ | h
       · cases h
       · exact .inr h
      rw [fin _ len _ l h m W hx1 (run_bounds hl hh hmm' hmh h1 h2 (by omega) W)]
      show Result.ok (Next.value (.slice _ _ _)) W = Result.ok (Next.value (.slice (some ⟨L.b b, _, none⟩) _ _)) W
      rw [← sl_addr]
      split <;> rfl
   case ns =>
    have vx := hm.at x hx (by simp)
    have hx1 : a.eval x = .slice none 0 0 := vx.1
    obtain ⟨l, e1, hl⟩ := optI_good hm hg
    have g1 := good_of e1 hg
    obtain ⟨h, e2, hh⟩ := optI_good hm g1
    have g2 := good_of e2 g1
    obtain ⟨m, e3, hmm⟩ := optI_good hm g2
    have g3 := good_of e3 g2
    obtain ⟨h3, e4⟩ := rec_good (z := Bool.and (isZ l) (Bool.and (isZ h) (isZ m))) g3
    have h3' : (isZ l && (isZ h && isZ m)) = true := h3
    rw [Bool.and_eq_true, Bool.and_eq_true, isZ_eq, isZ_eq, isZ_eq, decide_eq_true_eq, decide_eq_true_eq, decide_eq_true_eq] at h3'
    obtain ⟨rfl, rfl, rfl⟩ := h3'
    refine ⟨.ns, trivial, e1.trans (e2.trans (e3.trans e4)), fun W => ?_⟩
    rw [fin _ 0 0 0 0 0 W hx1 (run_bounds hl hh hmm hmh (Nat.le_refl _) (Nat.le_refl _) (Nat.le_refl _) W)]
    rfl
 | array n el =>
   simp only at hc
   have hc' : szT P el ≠ 0 ∧ (mx.isSome = true → hi.isSome = true) ∧ Iop.p (hSliceArr n (szT P el) (cOpd e x) (lo.map (cOpd e)) (hi.map (cOpd e)) (mx.map (cOpd e))) = .p f := by
    by_cases hz : szT P el = 0
    · simp [hz] at hc
    · refine ⟨hz, ?_⟩
      cases mx <;> cases hi <;> simp [hz] at hc ⊢ <;> exact hc
   obtain ⟨hk, hmh, hc⟩ := hc'
   rw [Iop.p.injEq] at hc
   subst hc
   obtain ⟨i, hi'⟩ := info_of_sz hk
   have hsz : ∀ W, (sizeOf el).run P W = .ok (szT P el) W := fun W => run_sizeOf W hi'
   intro a ns T k hm hg
   obtain ⟨b, off, hx, e0⟩ := asP_good hg
   have g0 := good_of e0 hg
   have vx := hm.at x hx (by simp)
   obtain ⟨l, e1, hl⟩ := optI_good hm g0
   have g1 := good_of e1 g0
   obtain ⟨h, e2, hh⟩ := optI_good hm g1
   have g2 := good_of e2 g1
   obtain ⟨m, e3, hmm⟩ := optI_good hm g2
   have g3 := good_of e3 g2
   obtain ⟨h1, h2, h3, e4⟩ := sliceK_good g3
   refine ⟨.sl b (if m = l then off else off + l * szT P el) (h - l) (m - l), vx.2, e0.trans (e1.trans (e2.trans (e3.trans e4))), fun W => ?_⟩
   have hx1 : a.eval x = .pointer (some ⟨L.b b, off, none⟩) := vx.1
   simp only [execOp, ho, Instr.sliceAt, hx1, Instr.sureAddr, Sem.run_bind, run_underlying hu, Result.andThen_ok, Sem.run_pure, run_bounds hl hh hmm hmh h1 h2 h3 W, hsz]
   rw [sl_addr]
   rfl
 | string =>
   simp only at hc
   have hmn : mx = none := by
    cases mx with
    | none => rfl
    | some _ => simp at hc
   subst hmn
   simp only [Option.map_none, Option.isSome_none, Bool.false_eq_true, if_false, Iop.p.injEq] at hc
   subst hc
   intro a ns T k hm hg
   obtain ⟨len, s, hx, e0⟩ := asS_good hg
   have g0 := good_of e0 hg
   have vx := hm.at x hx (by simp)
   obtain ⟨l, e1, hl⟩ := optI_good hm g0
   have g1 := good_of e1 g0
   obtain ⟨h, e2, hh⟩ := optI_good hm g1
   have g2 := good_of e2 g1
   obtain ⟨h3, e3⟩ := rec_good (z := Nat.ble l h) g2
   have g3 := good_of e3 g2
   obtain ⟨h4, e4⟩ := rec_good (z := Nat.ble h len) g3
   rw [Nat.ble_eq] at h3 h4
   refine ⟨.s (h - l) (bytesAt s l (h - l)), bytesAt_lt _ _ _, e0.trans (e1.trans (e2.trans (e3.trans e4))), fun W => ?_⟩
   have hx1 : a.eval x = .string ⟨(bytesL len s).toArray⟩ := vx.1
   have hsz : (⟨(bytesL len s).toArray⟩ : ByteArray).size = len := by
    show (bytesL len s).toArray.size = len
    simp [bytesL]
   have hb := run_bounds (P := P) (isSl := false) (mx := none) hl hh (.inl ⟨rfl, rfl⟩) (fun h => by cases h) h3 h4 (Nat.le_refl _) W
   have hb' : (Instr.sliceBounds false len len (lo.map a.eval) (hi.map a.eval) none).run P W = .ok (l, h, len) W := hb
   simp only [execOp, ho, Instr.sliceAt, hx1, Sem.run_bind, run_underlying hu, Result.andThen_ok, Instr.slice, Option.map_none, Option.isSome_none, Bool.false_eq_true, if_false, Sem.run_pure, hsz, hb']
   show Result.ok (Next.value (.string (ByteArray.extract _ l h))) W = Result.ok (Next.value (.string ⟨(bytesL (h - l) (bytesAt s l (h - l))).toArray⟩)) W
   have e5 : (ByteArray.extract ⟨(bytesL len s).toArray⟩ l h) = ⟨(bytesL (h - l) (bytesAt s l (h - l))).toArray⟩ := by
    apply ByteArray.ext
    rw [ByteArray.data_extract]
    apply Array.ext'
    simp only [Array.toList_extract, List.extract_eq_take_drop, bytesL]
    apply List.ext_getElem?
    intro j
    by_cases hj : j < h - l
    · rw [List.getElem?_take_of_lt hj, List.getElem?_drop, List.getElem?_map, List.getElem?_map, List.getElem?_range (by omega), List.getElem?_range hj, Option.map_some, Option.map_some, byteAt_bytesAt _ _ _ _ hj]
    · rw [List.getElem?_eq_none (by simp; omega), List.getElem?_eq_none (by simp; omega)]
   rw [e5]
 | _ => cases hc
theorem cToArr_sound {o : Oper} {t : TypeId} {x : Operand} (ho : o.op = .sliceToArrayPointer t x) {f : PH} (hc : cToArr P t (cOpd e x) = .p f) : PS P L c e o f := by
 unfold cToArr at hc
 cases hu : P.underlying t with
 | none => rw [hu] at hc; cases hc
 | some d =>
 rw [hu] at hc
 cases d with
 | array n el =>
   simp only [Iop.p.injEq] at hc
   subst hc
   intro a ns T k hm hg
   have fin : ∀ (b : Nm) (off len cap : Nat) (W : World), a.eval x = .slice (some ⟨L.b b, off, none⟩) len cap → ¬ len < n → (execOp a.eval o).run P W = .ok (.value (val L (.p b off))) W := by
    intro b off len cap W hx hl
    simp only [execOp, ho, Instr.arrayAt, hx, Sem.run_bind, run_underlying hu, Result.andThen_ok, if_neg hl, Sem.run_pure]
    rfl
   cases hx : ev (cOpd e x) ns T <;> simp only [hToArr, hx] at hg ⊢ <;> first
    | exact (bad_good hg).elim
    | skip
   case sl b off len cap =>
    have vx := hm.at x hx (by simp)
    obtain ⟨h1, e1⟩ := rec_good' (z := lt len n) hg
    exact ⟨.p b off, vx.2, e1, fun W => fin b off len _ W vx.1 (by rw [lt_false] at h1; omega)⟩
   case so b off r len =>
    have vx := hm.at x hx (by simp)
    obtain ⟨h1, e1⟩ := rec_good' (z := lt len n) hg
    exact ⟨.p b off, vx.2, e1, fun W => fin b off len _ W vx.1 (by rw [lt_false] at h1; omega)⟩
 | _ => cases hc
theorem PS.strId {o : Oper} {s d : TypeId} {x : Operand} (ho : o.op = .convert s d x) (hs : P.underlying s = some .string) (hd : P.underlying d = some .string) : PS P L c e o (hStrId (cOpd e x)) := by
 intro a ns T k hm hg
 obtain ⟨l, n, hx, h1⟩ := asS_good hg
 have vx := hm.at x hx (by simp)
 refine ⟨.s l n, vx.2, h1, fun W => ?_⟩
 have hx1 : a.eval x = .string ⟨(bytesL l n).toArray⟩ := vx.1
 simp only [execOp, ho, hx1, convert, Sem.run_bind, run_underlying hs, run_underlying hd, Result.andThen_ok, Sem.run_pure]
 rfl
theorem asrK_good {ok yes : Bool} {v z : V} {k : K1} (h : (asrK ok yes v z k).Good) :
 (yes = true ∧ ok = false ∧ asrK ok yes v z k = k v) ∨ (yes = true ∧ ok = true ∧ asrK ok yes v z k = k (.tup (.cons v (.cons (.b true) .nil)))) ∨ (yes = false ∧ ok = true ∧ asrK ok yes v z k = k (.tup (.cons z (.cons (.b false) .nil)))) := by
 cases yes <;> cases ok
 · exact (bad_good h).elim
 · exact .inr (.inr ⟨rfl, rfl, rfl⟩)
 · exact .inl ⟨rfl, rfl, rfl⟩
 · exact .inr (.inl ⟨rfl, rfl, rfl⟩)
theorem cAssert_sound {o : Oper} {ty xt : TypeId} {ok : Bool} {x : Operand} (ho : o.op = .typeAssert x xt ty ok) {f : PH} (hc : cAssert P ty ok (cOpd e x) = .p f) : PS P L c e o f := by
 unfold cAssert at hc
 cases hu : P.underlying ty with
 | none => rw [hu] at hc; cases hc
 | some d =>
 rw [hu] at hc
 have hni : (∀ ms, d ≠ .interface ms) ∧ (ok = true → (wfb (zeroOf P ty)).v = true) ∧ f = hAssert ok ty (zeroOf P ty) (cOpd e x) := by
  have hc0 : (∀ ms, d ≠ .interface ms) ∧ (if (ok && !(wfb (zeroOf P ty)).v) = true then Iop.bad 366 else .p (hAssert ok ty (zeroOf P ty) (cOpd e x))) = .p f := by
   cases d <;> first | exact ⟨fun _ h => Value.noConfusion (by cases h), hc⟩ | exact ⟨(by intro ms h; cases h), hc⟩ | cases hc
  refine ⟨hc0.1, fun hok => ?_, ?_⟩
  · cases hz : (wfb (zeroOf P ty)).v
    · rw [if_pos (by simp [hok, hz])] at hc0; cases hc0.2
    · rfl
  · have := hc0.2
    split at this
    · cases this
    · cases this; rfl
 obtain ⟨hd, hz, rfl⟩ := hni
 have hzr : ok = true → ∀ W, (zeroValue ty).run P W = .ok (val L (zeroOf P ty)) W := fun hok W => by
  obtain ⟨i, hi, h0⟩ := zeroOf_spec (P := P) (L := L) (hz hok)
  exact run_zeroValue_of hi h0 W
 intro a ns T k hm hg
 cases hx : ev (cOpd e x) ns T <;> simp only [hAssert, hx] at hg ⊢ <;> first
  | exact (bad_good hg).elim
  | skip
 case ni =>
  have vx := hm.at x hx (by simp)
  have hx1 : a.eval x = .nilIface := vx.1
  replace hg : (asrK ok false (zeroOf P ty) (zeroOf P ty) k).Good := hg
  show ∃ v, (wf c v).v ∧ asrK ok false (zeroOf P ty) (zeroOf P ty) k = k v ∧ _
  rcases asrK_good hg with ⟨h, _⟩ | ⟨h, _⟩ | ⟨_, rfl, e1⟩
  · cases h
  · cases h
  · refine ⟨.tup (.cons (zeroOf P ty) (.cons (.b false) .nil)), ⟨(wfb_wf (c := c) _).1 (hz rfl), trivial, trivial⟩, e1, fun W => ?_⟩
    simp only [execOp, ho, hx1, Instr.typeAssert, Sem.run_bind, run_underlying hu, Result.andThen_ok]
    cases d <;> first | exact absurd rfl (hd _) | (simp only [if_true, Sem.run_bind, hzr rfl, Result.andThen_ok, Sem.run_pure]; rfl)
 case ifc tt W0 =>
  have vx := hm.at x hx (by simp)
  have hx1 : a.eval x = .iface tt (val L W0) := vx.1
  replace hg : (asrK ok (Nat.beq tt ty) W0 (zeroOf P ty) k).Good := hg
  show ∃ v, (wf c v).v ∧ asrK ok (Nat.beq tt ty) W0 (zeroOf P ty) k = k v ∧ _
  rcases asrK_good hg with ⟨h, rfl, e1⟩ | ⟨h, rfl, e1⟩ | ⟨h, rfl, e1⟩
  · rw [Nat.beq_eq] at h
    subst h
    refine ⟨W0, vx.2, e1, fun W => ?_⟩
    simp only [execOp, ho, hx1, Instr.typeAssert, Sem.run_bind, run_underlying hu, Result.andThen_ok]
    cases d <;> first | exact absurd rfl (hd _) | (simp only [if_true, Bool.false_eq_true, if_false, Sem.run_pure, Result.andThen_ok])
  · rw [Nat.beq_eq] at h
    subst h
    refine ⟨.tup (.cons W0 (.cons (.b true) .nil)), ⟨vx.2, trivial, trivial⟩, e1, fun W => ?_⟩
    simp only [execOp, ho, hx1, Instr.typeAssert, Sem.run_bind, run_underlying hu, Result.andThen_ok]
    cases d <;> first | exact absurd rfl (hd _) | (simp only [if_true, Sem.run_pure, Result.andThen_ok]; rfl)
  · have hne : tt ≠ ty := fun hh => by subst hh; rw [Nat.beq_refl] at h; cases h
    refine ⟨.tup (.cons (zeroOf P ty) (.cons (.b false) .nil)), ⟨(wfb_wf (c := c) _).1 (hz rfl), trivial, trivial⟩, e1, fun W => ?_⟩
    simp only [execOp, ho, hx1, Instr.typeAssert, Sem.run_bind, run_underlying hu, Result.andThen_ok]
    cases d <;> first | exact absurd rfl (hd _) | (simp only [if_neg hne, if_true, Sem.run_bind, hzr rfl, Result.andThen_ok, Sem.run_pure]; rfl)
end
end Go.Ev

namespace Go.Ev
section
variable {P : Program} {L : Loc} {S : Ns} {e : Ce}
theorem asRow_good {b : Blk} {q : Nat → Nat → Nat → Bool → Nat → V → R} (h : (asRow b q).Good) : ∃ el sz n op fz cs, b = .row el sz n op fz cs ∧ asRow b q = q el sz n op fz cs := by
 cases b <;> first | exact ⟨_, _, _, _, _, _, rfl, rfl⟩ | exact (bad_good h).elim
theorem asMap_good {b : Blk} {q : V → Nat → R} (h : (asMap b q).Good) : ∃ es cl, b = .map es cl ∧ asMap b q = q es cl := by
 cases b <;> first | exact ⟨_, _, rfl, rfl⟩ | exact (bad_good h).elim
theorem BR.row {n : Nm} {el sz N fz : Nat} {op : Bool} {cs : V} {o : Obj} (h : BR L S n (.row el sz N op fz cs) o) :
 ∃ arr fr el', o = .cells arr el' fr ∧ (wf S cs).l ∧ frOk fz arr.size sz fr ∧ arr.toList.take N = fit N (lcv L cs) ∧ N ≤ arr.size ∧ (op = false → arr.size = N) ∧ (op = true → arr.size = N + L.k n * sz ∧ N + L.k n * sz ≤ maxLen * sz) := by
 cases o with
 | cells arr el' fr =>
   obtain ⟨_, h2, h3, h4⟩ := h
   refine ⟨arr, fr, el', rfl, h2, h3, ?_⟩
   cases op
   · simp only [Bool.false_eq_true, if_false] at h4
     have : arr.size = N := by rw [← Array.length_toList, h4, fit_length]
     exact ⟨by rw [h4, List.take_of_length_le (by rw [fit_length]; exact Nat.le_refl _)], by omega, fun _ => this, fun h => by cases h⟩
   · simp only [if_true] at h4
     exact ⟨h4.1, by omega, fun h => (by cases h), fun _ => h4.2⟩
 | _ => exact h.elim
theorem row_cell {arr : Array Value} {N : Nat} {cs : V} (ht : arr.toList.take N = fit N (lcv L cs)) {j : Nat} (hj : j < N) : arr[j]? = some ((lcv L cs)[j]?.getD undef) := by
 rw [← Array.getElem?_toList, ← List.getElem?_take_of_lt hj, ht, fit_getElem hj]
theorem fit_get {n : Nat} {l : List Value} {j : Nat} {v : Value} (h : (fit n l)[j]? = some v) : j < n ∧ v = l[j]?.getD undef := by
 have hj : j < n := by
  have := (List.getElem?_eq_some_iff.1 h).1
  rwa [fit_length] at this
 rw [fit_getElem hj] at h
 exact ⟨hj, (Option.some.inj h).symm⟩
theorem row_range {w : World} {b el : Nat} {arr : Array Value} {fr : Nat × Nat} {N : Nat} {cs : V} (hw : w.heap[b]? = some (.cells arr el fr)) (ht : arr.toList.take N = fit N (lcv L cs)) (_ : N ≤ arr.size) {o n : Nat} (h : o + n ≤ N) :
 w.rangeAt b o (fit n ((lcv L cs).drop o)) := by
 intro j v hv
 obtain ⟨hj, rfl⟩ := fit_get hv
 rw [cell_of_row w b (o + j) arr el fr hw, row_cell ht (by omega), List.getElem?_drop]
theorem unSp_spec (N : Nat) (cs : V) (h : (wf S cs).l) : fit N (lcv L (unSp N cs)) = fit N (lcv L cs) ∧ (wf S (unSp N cs)).l := by
 cases cs with
 | cons a d =>
   cases a with
   | sp w W =>
     show fit N (lcv L (Bool.rec (.cons (.sp w W) d) W (Bool.and (isNil d) (Nat.beq w N)) : V)) = _ ∧ (wf S (Bool.rec (.cons (.sp w W) d) W (Bool.and (isNil d) (Nat.beq w N)) : V)).l
     cases hz : Bool.and (isNil d) (Nat.beq w N)
     · exact ⟨rfl, h⟩
     · have hz' : (isNil d && Nat.beq w N) = true := hz
       rw [Bool.and_eq_true, Nat.beq_eq] at hz'
       obtain ⟨h1, rfl⟩ := hz'
       have hd : d = .nil := by cases d <;> first | rfl | cases h1
       subst hd
       refine ⟨?_, h.1⟩
       show fit w (lcv L W) = fit w (fit w (lcv L W) ++ [])
       rw [List.append_nil, fit_fit _ (Nat.le_refl _)]
   | _ => exact ⟨rfl, h⟩
 | _ => exact ⟨rfl, h⟩
theorem RS.load {o : Oper} {t : TypeId} {x : Operand} (ho : o.op = .load t x) (hk : okT P t = true) : RS P L S e o (cOpd e x) (hLoad (isAggT P t) (szT P t) (cOpd e x)) := by
 obtain ⟨⟨d, hd⟩, ⟨i, hi⟩, h1⟩ := okT_spec hk
 intro a ns T b w k hm hb hg
 obtain ⟨n, off, hx, e1⟩ := asP_good hg
 have g1 := good_of e1 hg
 obtain ⟨el, sz', N, op, fz, cs, rfl, e2⟩ := asRow_good g1
 have g2 := good_of e2 g1
 obtain ⟨hle, e3⟩ := rec_good (z := Nat.ble (Nat.add off (szT P t)) N) g2
 have g3 := good_of e3 g2
 rw [Nat.ble_eq] at hle
 have vx := hm.at x hx (by simp)
 obtain ⟨hS, ob, hob, hbr⟩ := hb (by simp)
 rw [hx] at hob hbr
 obtain ⟨arr, fr, el2, rfl, hcs, _, htk, hN, _, _⟩ := hbr.row
 have hx1 : a.eval x = .pointer (some ⟨L.b n, off, none⟩) := vx.1
 have hob' : w.heap[L.b n]? = some (.cells arr el2 fr) := hob
 have hsz : (P.info? t).map (·.size) = some (szT P t) := by rw [hi]; simp [szT, Program.cellsOf, hi]
 have hrun : ∀ v, (loadVar t ⟨L.b n, off, none⟩).run P w = .ok v w → (execOp a.eval o).run P w = .ok (.value v) w := by
  intro v hv
  simp only [execOp, ho, hx1, Instr.loadAt, Instr.sureAddr, Sem.run_bind, Sem.run_pure, Result.andThen_ok, hv]
 have e0 : hLoad (isAggT P t) (szT P t) (cOpd e x) (.row el sz' N op fz cs) ns T k = _ := e1.trans (e2.trans e3)
 cases hz : isAggT P t
 · rw [hz] at g3 e0
   have g3' : (kx (atC cs off) k).Good := g3
   obtain ⟨hx2, e4⟩ := kx_good g3'
   have hs := (atC_spec L S cs).2 hcs off
   refine ⟨atC cs off, hs.2, e0.trans e4, ?_⟩
   refine hrun _ ?_
   have hag : (isAgg t).run P w = .ok false w := by
    have := hz; unfold isAggT at this; rw [hd] at this
    simp only [isAgg, Sem.run_bind, run_underlying hd, Result.andThen_ok]
    cases d <;> first | rfl | exact absurd this (by simp)
   have h1z := h1 hz
   have hc : w.cell? ⟨L.b n, off, none⟩ = some (val L (atC cs off)) := by
    rw [cell_of_row w _ off arr el2 fr hob', row_cell htk (Nat.lt_of_lt_of_le (show off < off + szT P t by rw [h1z]; exact Nat.lt_succ_self _) hle), hs.1]
   simp only [loadVar, Sem.run_bind, hag, Result.andThen_ok, Bool.false_eq_true, if_false, Sem.run_ite, run_load, hc]
 · rw [hz] at g3 e0
   have hs := (subC_spec L S cs).2 hcs off (szT P t)
   have hu := unSp_spec (L := L) (szT P t) _ hs.2
   refine ⟨.agg (szT P t) (unSp (szT P t) (subC cs off (szT P t))), hu.2, e0, ?_⟩
   refine hrun _ ?_
   have hr := row_range hob' htk hN hle
   have := run_loadVar_mid (P := P) w (L.b n) off t _ d hr hd (by unfold isAggT at hz; rw [hd] at hz; cases d <;> first | rfl | cases hz) (by rw [fit_length]; exact hsz)
   rw [this]
   show Result.ok (Value.agg _) w = Result.ok (Value.agg (fit (szT P t) (lcv L (unSp (szT P t) (subC cs off (szT P t))))).toArray) w
   rw [hu.1, hs.1, fit_take]
end
end Go.Ev

namespace Go.Ev
section
variable {P : Program} {L : Loc} {S : Ns} {e : Ce}
def u8v (b : UInt8) : Value := .int .u8 (b.toNat : Int)
theorem iv4_byte (n o : Nat) : iv 4 (byteAt n o) = u8v (UInt8.ofNat (byteAt n o)) := by
 have hb := byteAt_lt n o
 show Value.int .u8 (IntKind.u8.wrap (byteAt n o)) = Value.int .u8 _
 rw [wrap_val .u8 (show byteAt n o < 2 ^ 8 from hb), if_neg (by simp [IntKind.signed])]
 simp [UInt8.toNat_ofNat', Nat.mod_eq_of_lt hb]
theorem chv_bs (l n : Nat) : chv L (.bs l n) = (bytesL l n).map u8v := by
 show (List.range l).map (fun j => iv 4 (byteAt n j)) = ((List.range l).map fun j => UInt8.ofNat (byteAt n j)).map u8v
 rw [List.map_map]
 exact List.map_congr_left fun j _ => iv4_byte n j
theorem bs_app (l n l' n' : Nat) (h : n < 2 ^ (8 * l)) : chv L (.bs (l + l') (n + n' <<< (8 * l))) = chv L (.bs l n) ++ chv L (.bs l' n') := by
 rw [chv_bs, chv_bs, chv_bs, bytesL_app _ _ _ _ h, List.map_append]
theorem bytesN_cons (a d : V) (o mm : Nat) (q : Nat → R) : bytesN (.cons a d) o mm q = if mm = 0 then q 0 else if wd a ≤ o then bytesN d (o - wd a) mm q else if o + mm ≤ wd a then bytesN a o mm q else
 bytesN a o (wd a - o) (fun y => bytesN d 0 (mm - (wd a - o)) (fun r => q (y + r <<< (8 * (wd a - o))))) := by
 show (Bool.rec (Bool.rec (Bool.rec _ _ (Nat.ble (Nat.add o mm) (wd a))) _ (Nat.ble (wd a) o)) _ (isZ mm) : R) = _
 rw [bool_rec_eq, bool_rec_eq, bool_rec_eq, isZ_eq]
 simp only [Nat.ble_eq, decide_eq_true_eq]
 rfl
def BN (L : Loc) (v : V) (l : List Value) (o mm : Nat) : Prop := ∀ q : Nat → R, (bytesN v o mm q).Good → ∃ n, bytesN v o mm q = q n ∧ n < 2 ^ (8 * mm) ∧ (l.drop o).take mm = chv L (.bs mm n)
theorem drop_take_app {l r : List Value} {o mm : Nat} (h1 : o < l.length) (h2 : l.length < o + mm) : ((l ++ r).drop o).take mm = (l.drop o).take (l.length - o) ++ r.take (mm - (l.length - o)) := by
 rw [List.drop_append_of_le_length (by omega), List.take_append, List.length_drop, List.take_of_length_le (l := l.drop o) (by rw [List.length_drop]; omega), List.take_of_length_le (l := l.drop o) (by rw [List.length_drop]; omega)]
theorem bytesN_spec (L : Loc) (S : Ns) : ∀ v : V, ((wf S v).k → ∀ o mm, 0 < mm → o + mm ≤ wd v → BN L v (chv L v) o mm) ∧ ((wf S v).l → ∀ o mm, BN L v (lcv L v) o mm) := by
 intro v
 induction v with
 | cons a d iha ihd =>
   refine ⟨fun h => h.elim, fun hw o mm q hg => ?_⟩
   rw [bytesN_cons] at hg ⊢
   rw [den_cons_lc]
   have hl := ch_length L a
   by_cases h0 : mm = 0
   · rw [if_pos h0]; subst h0
     exact ⟨0, rfl, by decide, by simp; rfl⟩
   rw [if_neg h0] at hg ⊢
   by_cases h1 : wd a ≤ o
   · rw [if_pos h1] at hg ⊢
     obtain ⟨n, e1, e2, e3⟩ := ihd.2 hw.2 (o - wd a) mm q hg
     refine ⟨n, e1, e2, ?_⟩
     rw [List.drop_append, List.drop_eq_nil_of_le (by omega), List.nil_append, hl]; exact e3
   rw [if_neg h1] at hg ⊢
   by_cases h2 : o + mm ≤ wd a
   · rw [if_pos h2] at hg ⊢
     obtain ⟨n, e1, e2, e3⟩ := iha.1 hw.1 o mm (by omega) h2 q hg
     refine ⟨n, e1, e2, ?_⟩
     rw [List.drop_append_of_le_length (by omega), List.take_append_of_le_length (by rw [List.length_drop]; omega)]; exact e3
   rw [if_neg h2] at hg ⊢
   obtain ⟨y, e1, e2, e3⟩ := iha.1 hw.1 o (wd a - o) (by omega) (by omega) _ hg
   have hg1 := good_of e1 hg
   obtain ⟨r, f1, f2, f3⟩ := ihd.2 hw.2 0 (mm - (wd a - o)) _ hg1
   refine ⟨y + r <<< (8 * (wd a - o)), e1.trans f1, ?_, ?_⟩
   · rw [Nat.shiftLeft_eq]
     have hm : 8 * mm = 8 * (wd a - o) + 8 * (mm - (wd a - o)) := by omega
     rw [hm, Nat.pow_add]
     have h3 : (r + 1) * 2 ^ (8 * (wd a - o)) ≤ 2 ^ (8 * (mm - (wd a - o))) * 2 ^ (8 * (wd a - o)) := Nat.mul_le_mul_right _ f2
     rw [Nat.add_mul, Nat.one_mul] at h3
     rw [Nat.mul_comm (2 ^ (8 * (wd a - o)))]
     omega
   · rw [drop_take_app (by omega) (by omega), hl]
     have hmm : mm = (wd a - o) + (mm - (wd a - o)) := by omega
     have e4 := bs_app (L := L) (wd a - o) y (mm - (wd a - o)) r e2
     rw [← hmm] at e4
     rw [e4, ← e3, ← f3, List.drop_zero]
 | sp w W ih =>
   refine ⟨fun hw o mm h0 hle q hg => ?_, fun h => h.elim⟩
   obtain ⟨n, e1, e2, e3⟩ := ih.2 hw o mm q hg
   refine ⟨n, e1, e2, ?_⟩
   show ((fit w (lcv L W)).drop o).take mm = _
   have hlen : (((lcv L W).drop o).take mm).length = mm := by rw [e3, chv_bs]; simp [bytesL]
   have hle' : o + mm ≤ w := hle
   rw [fit_part _ hle', ← fit_take, fit_self hlen, e3]
 | bs l n =>
   refine ⟨fun hw o mm h0 hle q hg => ?_, fun h => h.elim⟩
   exact ⟨bytesAt n o mm, rfl, bytesAt_lt _ _ _, (bs_part L l n o mm hle).symm⟩
 | i k n =>
   refine ⟨fun hw o mm h0 hle q hg => ?_, fun h => h.elim⟩
   obtain ⟨h1, e1⟩ := rec_good (z := Nat.beq k 4) hg
   rw [Nat.beq_eq] at h1
   subst h1
   have hle' : o + mm ≤ 1 := hle
   have ho : o = 0 := by omega
   have hm : mm = 1 := by omega
   subst ho hm
   have hn : n < 256 := hw.1
   exact ⟨n, e1, hn, (bs_one (L := L) n hn).symm⟩
 | nil => exact ⟨fun h => h.elim, fun _ o mm q hg => (bad_good hg).elim⟩
 | _ => first
   | exact ⟨fun h => h.elim, fun h => h.elim⟩
   | exact ⟨fun _ o mm _ _ q hg => (bad_good hg).elim, fun h => h.elim⟩
theorem run_toStr {w : World} {a : Addr} {l cap n : Nat} (h : (loadCells a l).run P w = .ok (chv L (.bs l n)).toArray w) : (Conv.bytesToString (.slice (some a) l cap)).run P w = .ok (val L (.s l n)) w := by
 have h' : (loadCells a l).run P w = .ok (((bytesL l n).map fun b => (b.toNat : Int)).map (Value.int .u8)).toArray w := by
  rw [h, chv_bs, List.map_map]; rfl
 rw [run_bytesToString w a l cap _ h']
 have hf : ∀ (bs : List UInt8) (s : List UInt8), (bs.map fun b => (b.toNat : Int)).foldl (fun r n => r.push (UInt8.ofNat n.toNat)) (⟨s.toArray⟩ : ByteArray) = ⟨(s ++ bs).toArray⟩ := by
  intro bs
  induction bs with
  | nil => intro s; simp
  | cons b bs ih =>
    intro s
    rw [List.map_cons, List.foldl_cons]
    have : (⟨s.toArray⟩ : ByteArray).push (UInt8.ofNat ((b.toNat : Int)).toNat) = ⟨(s ++ [b]).toArray⟩ := by
     apply ByteArray.ext; simp [ByteArray.push]
    rw [this, ih]; simp
 have h0 := hf (bytesL l n) []
 have e0 : (⟨([] : List UInt8).toArray⟩ : ByteArray) = ByteArray.empty := rfl
 rw [e0, List.nil_append] at h0
 rw [h0]; rfl
theorem RS.bytesStr {o : Oper} {s d el : TypeId} {x : Operand} (ho : o.op = .convert s d x) (hs : P.underlying s = some (.slice el)) (he : P.underlying el = some (.int .u8)) (hd : P.underlying d = some .string) :
 RS P L S e o (cOpd e x) (hBytesStr (cOpd e x)) := by
 intro a ns T b w k hm hb hg
 have key : ∀ (n : Nm) (off l cap : Nat), ev (cOpd e x) ns T ≠ .x → nmOf (ev (cOpd e x) ns T) = n → val L (ev (cOpd e x) ns T) = .slice (some ⟨L.b n, off, none⟩) l cap →
  (asRow b (fun _ _ N _ _ cs => Bool.rec (.bad 76) (bytesN cs off l (fun y => k (.s l y))) (Nat.ble (Nat.add off l) N))).Good →
  ∃ v, (wf S v).v ∧ (asRow b (fun _ _ N _ _ cs => Bool.rec (.bad 76) (bytesN cs off l (fun y => k (.s l y))) (Nat.ble (Nat.add off l) N))) = k v ∧ (execOp a.eval o).run P w = .ok (.value (val L v)) w := by
  intro n off l cap hne hn hv hg
  obtain ⟨el', sz', N, op, fz, cs, rfl, e2⟩ := asRow_good hg
  have g2 := good_of e2 hg
  obtain ⟨hle, e3⟩ := rec_good (z := Nat.ble (Nat.add off l) N) g2
  have g3 := good_of e3 g2
  rw [Nat.ble_eq] at hle
  obtain ⟨hS, ob, hob, hbr⟩ := hb (by simp)
  rw [hn] at hob hbr
  obtain ⟨arr, fr, el2, rfl, hcs, _, htk, hN, _, _⟩ := hbr.row
  obtain ⟨y, e4, e5, e6⟩ := (bytesN_spec L S cs).2 hcs off l _ g3
  refine ⟨.s l y, e5, e2.trans (e3.trans e4), ?_⟩
  have vx := hm x hne
  have hr := row_range hob htk hN hle
  have hlen : (((lcv L cs).drop off).take l).length = l := by rw [e6, chv_bs]; simp [bytesL]
  rw [← fit_take, fit_self hlen, e6] at hr
  have hl : (chv L (.bs l y)).length = l := by rw [← e6]; exact hlen
  have hld := run_loadCells_list (P := P) w ⟨L.b n, off, none⟩ (chv L (.bs l y)) (fun j v hj => by rw [Addr.add_mid]; exact hr j v hj)
  rw [hl] at hld
  simp only [execOp, ho, vx.1, hv, Sem.run_bind, run_convert_bytes_string w s d el _ l cap hs he hd, run_toStr hld, Result.andThen_ok, Sem.run_pure]
 cases hx : ev (cOpd e x) ns T <;> simp only [hBytesStr, hx] at hg ⊢ <;> first
  | exact (bad_good hg).elim
  | skip
 case sl n off l cap => exact key n off l cap (by rw [hx]; simp) (by rw [hx]; rfl) (by rw [hx]; rfl) hg
 case so n off r l => exact key n off l _ (by rw [hx]; simp) (by rw [hx]; rfl) (by rw [hx]; rfl) hg
 case ns =>
  have vx := hm.at x hx (by simp)
  have hx1 : a.eval x = .slice none 0 0 := vx.1
  refine ⟨.s 0 0, by show (0 : Nat) < _; decide, rfl, ?_⟩
  simp only [execOp, ho, hx1, Sem.run_bind, run_convert_bytes_string w s d el _ 0 0 hs he hd, Conv.bytesToString, Sem.run_pure, Result.andThen_ok]
  rfl
end
end Go.Ev

namespace Go.Ev
def litAt (X : List Value) : Lf → List Lit
 | .i o _ => match X[o]? with | some (.int k n) => [.int k n] | _ => []
 | .b o => match X[o]? with | some (.bool z) => [.bool z] | _ => []
 | .s o => match X[o]? with | some (.string s) => [.string s.data.toList] | _ => []
 | .y o n => (List.range n).flatMap fun j => match X[o + j]? with | some (.int k m) => [.int k m] | _ => []
def LfOk (X : List Value) : Lf → Prop
 | .i o kd => ∃ n, X[o]? = some (.int (kOf kd) n) ∧ (Lit.int (kOf kd) n).wf = true
 | .b o => ∃ z, X[o]? = some (.bool z)
 | .s o => ∃ s : ByteArray, X[o]? = some (.string s) ∧ s.size ≤ maxLen
 | .y o n => ∀ j, j < n → ∃ m, X[o + j]? = some (.int .u8 m) ∧ (Lit.int .u8 m).wf = true
theorem leafA_spec {f : Nat → Option (List Lf)} : ∀ {is : List Nat} {l : List Lf}, leafA f is = some l → ∃ ls : List (List Lf), is.length = ls.length ∧ l = ls.flatten ∧ ∀ (j : Nat) (i : Nat), is[j]? = some i → ∃ a, ls[j]? = some a ∧ f i = some a
 | [], l, h => by
   have : l = [] := by injection h with h; exact h.symm
   subst this
   exact ⟨[], rfl, rfl, fun j i hj => by cases hj⟩
 | i :: is, l, h => by
   unfold leafA at h
   cases h1 : f i with
   | none => rw [h1] at h; cases h
   | some a =>
     cases h2 : leafA f is with
     | none => rw [h1, h2] at h; cases h
     | some b =>
       rw [h1, h2] at h
       injection h with h
       obtain ⟨ls, e1, e2, e3⟩ := leafA_spec h2
       refine ⟨a :: ls, by simp [e1], by rw [← h, e2]; rfl, fun j k hj => ?_⟩
       cases j with
       | zero => have : i = k := by simpa using hj
                 subst this; exact ⟨a, rfl, h1⟩
       | succ j => simpa using e3 j k (by simpa using hj)
theorem mapM_of {α β : Type} {f : α → Option β} : ∀ {l : List α} {bs : List β}, l.length = bs.length → (∀ (j : Nat) (a : α), l[j]? = some a → ∃ b, bs[j]? = some b ∧ f a = some b) → l.mapM f = some bs
 | [], bs, hl, _ => by
   have : bs = [] := List.eq_nil_of_length_eq_zero hl.symm
   subst this; rfl
 | a :: l, [], hl, _ => by simp at hl
 | a :: l, b :: bs, hl, h => by
   obtain ⟨b', h1, h2⟩ := h 0 a rfl
   have hb : b = b' := by simpa using h1
   subst hb
   have ih := mapM_of (f := f) (l := l) (bs := bs) (by simpa using hl) (fun j x hj => by simpa using h (j + 1) x (by simpa using hj))
   rw [List.mapM_cons, h2, ih]; rfl
section
variable {P : Program}
theorem bytesL_len (n a : Nat) : (bytesL n a).length = n := by simp [bytesL]
theorem kOf_kc' {k : Nat} (h : k < 8) : kc (kOf k) = k := by
 have : k = 0 ∨ k = 1 ∨ k = 2 ∨ k = 3 ∨ k = 4 ∨ k = 5 ∨ k = 6 ∨ k = 7 := by omega
 rcases this with h | h | h | h | h | h | h | h <;> subst h <;> rfl
theorem isU8_spec {el : TypeId} (h : isU8 P el = true) : P.underlying el = some (.int .u8) := by
 unfold isU8 at h
 cases hu : P.underlying el with
 | none => rw [hu] at h; cases h
 | some d =>
   rw [hu] at h
   cases d with
   | int k => cases k <;> first | rfl | cases h
   | _ => cases h
theorem flatten_flatMap {α β : Type} (f : α → List β) : ∀ ls : List (List α), ls.flatten.flatMap f = (ls.map (·.flatMap f)).flatten
 | [] => rfl
 | a :: ls => by rw [List.flatten_cons, List.flatMap_append, flatten_flatMap f ls]; rfl
theorem drop_part {X : List Value} {off n i m : Nat} (h : i + m ≤ n) : (((X.drop off).take n).drop i).take m = (X.drop (off + i)).take m := by
 rw [List.drop_take, List.drop_drop, List.take_take, Nat.min_eq_left (by omega)]
theorem leaves_lits (X : List Value) : ∀ (D : Nat) (t : TypeId) (off : Nat) (l : List Lf), leavesT P D t off = some l → (∀ x ∈ l, LfOk X x) → off + P.cellsOf t ≤ X.length → P.keyLits D t ((X.drop off).take (P.cellsOf t)) = some (l.flatMap (litAt X)) := by
 intro D
 induction D with
 | zero => intro t off l h; cases h
 | succ d ih =>
   intro t off l h hok hlen
   unfold leavesT at h
   unfold Program.keyLits
   have hone : szT P t = 1 → (X.drop off).take (P.cellsOf t) = match X[off]? with | some v => [v] | none => [] := by
    intro h1
    have h1' : P.cellsOf t = 1 := h1
    rw [h1']
    rw [h1'] at hlen
    have : off < X.length := by omega
    rw [List.getElem?_eq_getElem this, List.drop_eq_getElem_cons this]; rfl
   have hcl : ((X.drop off).take (P.cellsOf t)).length = P.cellsOf t := by rw [List.length_take, List.length_drop]; omega
   cases hu : P.underlying t with
   | none => rw [hu] at h; cases h
   | some ds =>
     rw [hu] at h
     cases ds <;> simp only [reduceCtorEq] at h
     case bool =>
      split at h
      · rename_i h1
        injection h with h; subst h
        obtain ⟨z, hz⟩ := hok (.b off) (by simp)
        rw [hone h1, hz]
        simp [litAt, hz]
      · cases h
     case int k =>
      split at h
      · rename_i h1
        injection h with h; subst h
        obtain ⟨n, hn, hw⟩ := hok (.i off (kc k)) (by simp)
        rw [kOf_kc] at hn hw
        rw [hone h1, hn]
        simp [litAt, hn, hw]
      · cases h
     case string =>
      split at h
      · rename_i h1
        injection h with h; subst h
        obtain ⟨s, hs, hm⟩ := hok (.s off) (by simp)
        rw [hone h1, hs]
        simp [litAt, hs, hm]
      · cases h
     case array n el =>
      split at h
      · rename_i hn
        have hn' : n * P.cellsOf el = P.cellsOf t := hn
        simp only [if_pos hcl]
        split at h
        · rename_i hc
          rw [Bool.and_eq_true, Bool.and_eq_true, Bool.and_eq_true, beq_iff_eq, decide_eq_true_eq, decide_eq_true_eq] at hc
          obtain ⟨⟨⟨h8, h1⟩, _⟩, hd⟩ := hc
          injection h with h; subst h
          have hb := hok (.y off n) (by simp)
          have hc1 : P.cellsOf el = 1 := h1
          rw [hc1, Nat.mul_one] at hn'
          have hm : (List.range n).mapM (fun i => P.keyLits d el ((((X.drop off).take (P.cellsOf t)).drop (i * P.cellsOf el)).take (P.cellsOf el))) = some ((List.range n).map fun j => match X[off + j]? with | some (.int k m) => [.int k m] | _ => []) := by
           refine mapM_of (by simp) fun j a hj => ?_
           have hja : j = a ∧ j < n := by
            have := List.getElem?_eq_some_iff.1 hj
            obtain ⟨q1, q2⟩ := this
            simp at q1 q2
            exact ⟨q2, q1⟩
           obtain ⟨rfl, hjn⟩ := hja
           obtain ⟨m, hm, hw⟩ := hb j hjn
           refine ⟨_, by rw [List.getElem?_map, List.getElem?_range hjn]; rfl, ?_⟩
           rw [hc1, Nat.mul_one, drop_part (by omega)]
           simp only [hm]
           have hlt : off + j < X.length := (List.getElem?_eq_some_iff.1 hm).1
           rw [List.drop_eq_getElem_cons hlt]
           have hX : X[off + j] = .int .u8 m := by rw [List.getElem?_eq_getElem hlt] at hm; exact Option.some.inj hm
           rw [hX]
           cases d with
           | zero => omega
           | succ d =>
             unfold Program.keyLits
             rw [isU8_spec h8]
             simp [hw]
          rw [hm]
          simp only [Option.map_some, List.flatMap_cons, List.flatMap_nil, List.append_nil, litAt]
          rw [List.flatMap_def]
        · obtain ⟨ls, e1, e2, e3⟩ := leafA_spec h
          have hm : (List.range n).mapM (fun i => P.keyLits d el ((((X.drop off).take (P.cellsOf t)).drop (i * P.cellsOf el)).take (P.cellsOf el))) = some (ls.map (·.flatMap (litAt X))) := by
           refine mapM_of (by simp [← e1]) fun j a hj => ?_
           obtain ⟨b, hb1, hb2⟩ := e3 j a hj
           have hja : j = a ∧ j < n := by
            have := List.getElem?_eq_some_iff.1 hj
            obtain ⟨q1, q2⟩ := this
            simp at q1 q2
            exact ⟨q2, q1⟩
           obtain ⟨rfl, hjn⟩ := hja
           have hle : j * P.cellsOf el + P.cellsOf el ≤ P.cellsOf t := by
            rw [← hn', ← Nat.succ_mul]; exact Nat.mul_le_mul_right _ hjn
           refine ⟨_, by rw [List.getElem?_map, hb1]; rfl, ?_⟩
           rw [drop_part hle]
           exact ih el (off + j * P.cellsOf el) b hb2 (fun x hx => hok x (by rw [e2]; exact List.mem_flatten.2 ⟨b, List.mem_of_getElem? hb1, hx⟩)) (by omega)
          rw [hm, e2, flatten_flatMap]; rfl
      · cases h
     case struct fs =>
      split at h
      · rename_i hnm
        obtain ⟨ls, e1, e2, e3⟩ := leafA_spec h
        simp only [hcl, hnm, and_self, if_true]
        have hm : fs.toList.mapM (fun f => P.keyLits d f.type ((((X.drop off).take (P.cellsOf t)).drop f.offset).take (P.cellsOf f.type))) = some (ls.map (·.flatMap (litAt X))) := by
         refine mapM_of (by simp [← e1]) fun j f hj => ?_
         have hjs : j < fs.size := by have := (List.getElem?_eq_some_iff.1 hj).1; simpa using this
         obtain ⟨b, hb1, hb2⟩ := e3 j j (List.getElem?_range hjs)
         have hf : fs[j]? = some f := by rw [← Array.getElem?_toList]; exact hj
         rw [hf] at hb2
         simp only at hb2
         split at hb2
         · rename_i hle
           have hle' : f.offset + P.cellsOf f.type ≤ P.cellsOf t := hle
           refine ⟨_, by rw [List.getElem?_map, hb1]; rfl, ?_⟩
           rw [drop_part hle']
           exact ih f.type (off + f.offset) b hb2 (fun x hx => hok x (by rw [e2]; exact List.mem_flatten.2 ⟨b, List.mem_of_getElem? hb1, hx⟩)) (by omega)
         · cases hb2
        rw [hm, e2, flatten_flatMap]; rfl
      · cases h
theorem tsL_good {L : Loc} {S : Ns} {cs cs' : V} {w : Nat} (hcs : (wf S cs).l) (hcs' : (wf S cs').l) {l : Lf} (hend : leafEnd l ≤ w) {q : Bool → R} (hg : (tsL l cs cs' q).Good) :
 ∃ z, tsL l cs cs' q = q z ∧ LfOk (fit w (lcv L cs)) l ∧ LfOk (fit w (lcv L cs')) l ∧ (z = true ↔ litAt (fit w (lcv L cs)) l = litAt (fit w (lcv L cs')) l) ∧ (litAt (fit w (lcv L cs)) l).length = (litAt (fit w (lcv L cs')) l).length := by
 have cell : ∀ (W : V), (wf S W).l → ∀ o, o + 1 ≤ w → (fit w (lcv L W))[o]? = some (val L (atC W o)) ∧ (wf S (atC W o)).v := by
  intro W hW o ho
  have := (atC_spec L S W).2 hW o
  exact ⟨by rw [fit_getElem (by omega), this.1], this.2⟩
 cases l with
 | i o kd =>
   obtain ⟨k1, x, e1, e2⟩ := asI_good (v := atC cs o) (q := fun k1 a => asI (atC cs' o) (fun k2 b => chk2 k1 k2 kd (q (Nat.beq a b)))) hg
   have g1 := good_of e2 hg
   obtain ⟨k2, y, e3, e4⟩ := asI_good g1
   have g2 := good_of e4 g1
   obtain ⟨rfl, rfl, e5⟩ := chk2_good g2
   have c1 := cell cs hcs o hend
   have c2 := cell cs' hcs' o hend
   rw [e1] at c1
   rw [e3] at c2
   have v1 : val L (.i k2 x) = .int (kOf k2) ((kOf k2).wrap x) := rfl
   have v2 : val L (.i k2 y) = .int (kOf k2) ((kOf k2).wrap y) := rfl
   have hk : kbits k2 = (kOf k2).bits := by rw [← kbits_kc, kOf_kc' c1.2.2]
   have b1 : x < 2 ^ (kOf k2).bits := by rw [← hk]; exact c1.2.1
   have b2 : y < 2 ^ (kOf k2).bits := by rw [← hk]; exact c2.2.1
   have wfl : ∀ n : Nat, (Lit.int (kOf k2) ((kOf k2).wrap n)).wf = true := fun n => by
    have := wrap_within (kOf k2) n
    simp [Lit.wf, this.1, this.2]
   refine ⟨Nat.beq x y, e2.trans (e4.trans e5), ⟨_, c1.1.trans (by rw [v1]), wfl x⟩, ⟨_, c2.1.trans (by rw [v2]), wfl y⟩, ?_, ?_⟩
   · simp only [litAt, c1.1, c2.1, v1, v2]
     rw [Nat.beq_eq]
     constructor
     · rintro rfl; rfl
     · intro h
       simp only [List.cons.injEq, Lit.int.injEq, true_and, and_true] at h
       exact wrap_inj _ b1 b2 h
   · simp [litAt, c1.1, c2.1, v1, v2]
 | b o =>
   obtain ⟨x, e1, e2⟩ := asB_good (v := atC cs o) (q := fun a => asB (atC cs' o) (fun b => q (@Bool.rec (fun _ => Bool) (notB b) b a))) hg
   have g1 := good_of e2 hg
   obtain ⟨y, e3, e4⟩ := asB_good g1
   have c1 := cell cs hcs o hend
   have c2 := cell cs' hcs' o hend
   rw [e1] at c1
   rw [e3] at c2
   have v1 : val L (.b x) = .bool x := rfl
   have v2 : val L (.b y) = .bool y := rfl
   refine ⟨_, e2.trans e4, ⟨_, c1.1.trans (by rw [v1])⟩, ⟨_, c2.1.trans (by rw [v2])⟩, ?_, ?_⟩
   · simp only [litAt, c1.1, c2.1, v1, v2]
     cases x <;> cases y <;> simp [notB]
   · simp [litAt, c1.1, c2.1, v1, v2]
 | s o =>
   obtain ⟨n1, x, e1, e2⟩ := asS_good (v := atC cs o) (q := fun l a => asS (atC cs' o) (fun m b => @Bool.rec (fun _ => R) (.bad 137) (q (Bool.and (Nat.beq l m) (Nat.beq a b))) (Bool.and (lt l 9223372036854775808) (lt m 9223372036854775808)))) hg
   have g1 := good_of e2 hg
   obtain ⟨n2, y, e3, e4⟩ := asS_good g1
   have g2 := good_of e4 g1
   obtain ⟨hz, e5⟩ := rec_good g2
   have hz' : (lt n1 9223372036854775808 && lt n2 9223372036854775808) = true := hz
   rw [Bool.and_eq_true, lt_iff, lt_iff] at hz'
   have c1 := cell cs hcs o hend
   have c2 := cell cs' hcs' o hend
   rw [e1] at c1
   rw [e3] at c2
   have v1 : val L (.s n1 x) = .string ⟨(bytesL n1 x).toArray⟩ := rfl
   have v2 : val L (.s n2 y) = .string ⟨(bytesL n2 y).toArray⟩ := rfl
   have sz : ∀ n x, n < 9223372036854775808 → (⟨(bytesL n x).toArray⟩ : ByteArray).size ≤ maxLen := fun n x hn => by
    show (bytesL n x).toArray.size ≤ maxLen
    simp [bytesL_len, maxLen]; omega
   refine ⟨_, e2.trans (e4.trans e5), ⟨_, c1.1.trans (by rw [v1]), sz _ _ hz'.1⟩, ⟨_, c2.1.trans (by rw [v2]), sz _ _ hz'.2⟩, ?_, ?_⟩
   · simp only [litAt, c1.1, c2.1, v1, v2]
     have : (Bool.and (Nat.beq n1 n2) (Nat.beq x y) = true) ↔ n1 = n2 ∧ x = y := by
      show (Nat.beq n1 n2 && Nat.beq x y) = true ↔ _
      rw [Bool.and_eq_true, Nat.beq_eq, Nat.beq_eq]
     rw [this]
     constructor
     · rintro ⟨rfl, rfl⟩; rfl
     · intro h
       simp only [List.cons.injEq, Lit.string.injEq, and_true] at h
       exact str_inj c1.2 c2.2 h
   · simp [litAt, c1.1, c2.1, v1, v2]
 | y o n =>
   obtain ⟨p, e1, p1, p2⟩ := (bytesN_spec L S cs).2 hcs o n (fun a => bytesN cs' o n (fun b => q (Nat.beq a b))) hg
   have g1 := good_of e1 hg
   obtain ⟨r, e2, r1, r2⟩ := (bytesN_spec L S cs').2 hcs' o n _ g1
   have by_ : ∀ (W : V) (p : Nat), ((lcv L W).drop o).take n = chv L (.bs n p) → ∀ j, j < n → (fit w (lcv L W))[o + j]? = some (u8v ((bytesL n p)[j]?.getD 0)) := by
    intro W p hp j hj
    have hon : o + n ≤ w := hend
    rw [fit_getElem (by omega)]
    have h1 := congrArg (·[j]?) hp
    simp only [List.getElem?_take, if_pos hj, List.getElem?_drop] at h1
    rw [h1, chv_bs, List.getElem?_map]
    have : j < (bytesL n p).length := by rw [bytesL_len]; exact hj
    rw [List.getElem?_eq_getElem this]; rfl
   have ok : ∀ (W : V) (p : Nat), ((lcv L W).drop o).take n = chv L (.bs n p) → LfOk (fit w (lcv L W)) (.y o n) := by
    intro W p hp j hj
    refine ⟨_, by_ W p hp j hj, ?_⟩
    have := (((bytesL n p)[j]?.getD 0)).toNat_lt
    simp only [Lit.wf, IntKind.min, IntKind.max, IntKind.signed, IntKind.bits, Bool.false_eq_true, if_false, Bool.and_eq_true, decide_eq_true_eq]
    constructor <;> omega
   have lits : ∀ (W : V) (p : Nat), ((lcv L W).drop o).take n = chv L (.bs n p) → litAt (fit w (lcv L W)) (.y o n) = (bytesL n p).map (fun b => Lit.int .u8 (b.toNat : Int)) := by
    intro W p hp
    have h1 : litAt (fit w (lcv L W)) (.y o n) = (List.range n).flatMap (fun j => [Lit.int .u8 ((((bytesL n p)[j]?.getD 0)).toNat : Int)]) := by
     show (List.range n).flatMap _ = _
     rw [List.flatMap_def, List.flatMap_def]
     congr 1
     apply List.map_congr_left
     intro j hj
     rw [by_ W p hp j (List.mem_range.1 hj)]
     rfl
    rw [h1, List.flatMap_def]
    have h2 : ∀ (l : List UInt8), ((List.range l.length).map (fun j => [Lit.int .u8 (((l[j]?.getD 0)).toNat : Int)])).flatten = l.map (fun b => Lit.int .u8 (b.toNat : Int)) := by
     intro l
     apply List.ext_getElem?
     intro j
     rw [← List.flatMap_def]
     have h3 : (List.range l.length).flatMap (fun j => [Lit.int .u8 (((l[j]?.getD 0)).toNat : Int)]) = (List.range l.length).map (fun j => Lit.int .u8 (((l[j]?.getD 0)).toNat : Int)) := by
      generalize List.range l.length = r
      induction r with
      | nil => rfl
      | cons a r ih => simp [ih]
     rw [h3, List.getElem?_map, List.getElem?_map]
     by_cases hj : j < l.length
     · rw [List.getElem?_range hj]; simp [List.getElem?_eq_getElem hj]
     · rw [List.getElem?_eq_none (by simp; omega), List.getElem?_eq_none (by omega)]; rfl
    have := h2 (bytesL n p)
    rw [bytesL_len] at this
    exact this
   refine ⟨Nat.beq p r, e1.trans e2, ok cs p p2, ok cs' r r2, ?_, ?_⟩
   · rw [lits cs p p2, lits cs' r r2, Nat.beq_eq]
     constructor
     · rintro rfl; rfl
     · intro h
       have hinj : ∀ l m : List UInt8, l.map (fun b => Lit.int .u8 (b.toNat : Int)) = m.map (fun b => Lit.int .u8 (b.toNat : Int)) → l = m := by
        intro l m h
        refine List.map_inj_right (fun a b hab => ?_) |>.1 h
        simp only [Lit.int.injEq, true_and] at hab
        exact UInt8.toNat_inj.1 (by omega)
       exact (str_inj p1 r1 (hinj _ _ h)).2
   · rw [lits cs p p2, lits cs' r r2, List.length_map, List.length_map, bytesL_len, bytesL_len]
theorem tsAll_good {L : Loc} {S : Ns} {cs cs' : V} {w : Nat} (hcs : (wf S cs).l) (hcs' : (wf S cs').l) : ∀ (l : List Lf) (z0 : Bool) (q : Bool → R), (∀ x ∈ l, leafEnd x ≤ w) → (tsAll l cs cs' z0 q).Good →
 ∃ z, tsAll l cs cs' z0 q = q z ∧ (∀ x ∈ l, LfOk (fit w (lcv L cs)) x ∧ LfOk (fit w (lcv L cs')) x) ∧ (z = true ↔ z0 = true ∧ l.flatMap (litAt (fit w (lcv L cs))) = l.flatMap (litAt (fit w (lcv L cs')))) := by
 intro l
 induction l with
 | nil => intro z0 q _ _; exact ⟨z0, rfl, fun x hx => (by cases hx), by simp⟩
 | cons x l ih =>
   intro z0 q hend hg
   have e0 : tsAll (x :: l) cs cs' z0 q = tsL x cs cs' (fun b => tsAll l cs cs' (Bool.and z0 b) q) := rfl
   rw [e0] at hg
   obtain ⟨z, e1, h1, h2, h3, h4⟩ := tsL_good (L := L) hcs hcs' (hend x (.head _)) hg
   rw [e1] at hg
   obtain ⟨y, e2, h5, h6⟩ := ih (Bool.and z0 z) q (fun u hu => hend u (.tail _ hu)) hg
   refine ⟨y, e0.trans (e1.trans e2), fun u hu => ?_, ?_⟩
   · rcases List.mem_cons.1 hu with rfl | hu
     · exact ⟨h1, h2⟩
     · exact h5 u hu
   · rw [h6, List.flatMap_cons, List.flatMap_cons]
     have : (Bool.and z0 z = true) ↔ z0 = true ∧ z = true := by
      show (z0 && z) = true ↔ _
      rw [Bool.and_eq_true]
     rw [this, h3]
     constructor
     · rintro ⟨⟨q1, q2⟩, q3⟩; exact ⟨q1, by rw [q2, q3]⟩
     · rintro ⟨q1, q2⟩
       have := List.append_inj q2 h4
       exact ⟨⟨q1, this.1⟩, this.2⟩
variable {L : Loc} {c : Nm → Prop} {t : TypeId}
theorem wide_facts {l : List Lf} (hl : leavesT P 12 t 0 = some l) (hend : ∀ x ∈ l, leafEnd x ≤ szT P t) (hk : P.keyTypeAt 12 t = true) (ht : P.tiled 12 t = true)
 (hagg : (match P.underlying t with | some (.array _ _) | some (.struct _) => true | _ => false) = true) {cs cs' : V} (hcs : (wf c cs).l) (hcs' : (wf c cs').l) {q : Bool → R} (hg : (tsAll l cs cs' true q).Good) :
 ∃ z, tsAll l cs cs' true q = q z ∧ (∀ W, (Op.equal t (val L (.agg (szT P t) cs)) (val L (.agg (szT P t) cs'))).run P W = .ok z W) ∧ (z = true → val L (.agg (szT P t) cs') = val L (.agg (szT P t) cs)) ∧
   (∀ em W, (Instr.checkKey em 10000 t (val L (.agg (szT P t) cs))).run P W = .ok () W) ∧ ∀ W, (Instr.keyThatStays (val L (.agg (szT P t) cs)) (val L (.agg (szT P t) cs))).run P W = .ok (val L (.agg (szT P t) cs)) W := by
 obtain ⟨z, e4, h5, h6⟩ := tsAll_good (L := L) (S := c) (w := szT P t) hcs hcs' l true _ hend hg
 have hc : szT P t = P.cellsOf t := rfl
 have ex : ∀ W : V, val L (.agg (szT P t) W) = .agg (fit (szT P t) (lcv L W)).toArray := fun _ => rfl
 have kx := leaves_lits (P := P) (fit (szT P t) (lcv L cs)) 12 t 0 l hl (fun u hu => (h5 u hu).1) (by rw [fit_length, Nat.zero_add]; exact Nat.le_refl _)
 have ky := leaves_lits (P := P) (fit (szT P t) (lcv L cs')) 12 t 0 l hl (fun u hu => (h5 u hu).2) (by rw [fit_length, Nat.zero_add]; exact Nat.le_refl _)
 rw [List.drop_zero, List.take_of_length_le (by rw [fit_length]; exact Nat.le_refl _)] at kx ky
 have fm : ∀ W : V, (Value.agg (fit (szT P t) (lcv L W)).toArray).formed P t = true := by
  intro W
  simp only [Value.formed]
  cases hu : P.underlying t with
  | none => rw [hu] at hagg; cases hagg
  | some d =>
    rw [hu] at hagg
    cases d <;> first | (simp [fit_length, hc]; done) | cases hagg
 have c1 := cells_of_lits 12 t ht _ _ _ kx
 have c2 := cells_of_lits 12 t ht _ _ _ ky
 refine ⟨z, e4, fun W => ?_, fun hz => ?_, fun em W => ?_, fun W => ?_⟩
 · rw [ex, ex]
   obtain ⟨r, hr, hiff⟩ := run_equalIn_deep (P := P) 9988 12 t hk W 12 12 (.agg (fit (szT P t) (lcv L cs)).toArray) (.agg (fit (szT P t) (lcv L cs')).toArray) _ _ (fm cs) (fm cs') kx ky
   have : r = z := by
    rw [Bool.eq_iff_iff, hiff, h6]; simp
   rw [← this]
   exact hr
 · rw [ex, ex, c1, c2, (h6.1 hz).2]
 · rw [ex]
   have := run_checkKey_deep (P := P) em 9988 12 t hk W 12 (.agg (fit (szT P t) (lcv L cs)).toArray) _ (fm cs) kx
   exact this
 · rw [ex]
   have hwf := keyLits_wf kx
   have hs : Instr.sameBits 10000 (.agg (fit (szT P t) (lcv L cs)).toArray) (.agg (fit (szT P t) (lcv L cs)).toArray) = true := by
    show Instr.sameBits (9999 + 1) _ _ = true
    simp only [Instr.sameBits, beq_self_eq_true, Bool.true_and, List.all_eq_true]
    intro p hp
    rw [c1] at hp
    obtain ⟨i, hi, e⟩ := List.getElem_of_mem hp
    rw [List.getElem_zip] at e
    rw [← e]
    simp only [List.getElem_map]
    exact sameBits_toCell (hwf _ (List.getElem_mem _)) 9999
   simp [Instr.keyThatStays, hs]
end
end Go.Ev

namespace Go.Ev
open Go.MapKept
section
variable {P : Program} {L : Loc} {S : Ns} {e : Ce}
def KeyS (L : Loc) (S : Ns) (d : TypeDesc) (v : V) : Prop := IsKey d (val L v) ∧ ∀ k', (wf S k').v → (eqV v k' = 0 → Instr.sameNow d (val L v) (val L k') = some false) ∧ (eqV v k' = 1 → Instr.sameNow d (val L v) (val L k') = some true ∧ val L k' = val L v)
theorem keyI_at {kd : IntKind} {n : Nat} (h : (wf S (.i (kc kd) n)).v) : KeyS L S (.int kd) (.i (kc kd) n) := by
 have e1 : val L (.i (kc kd) n) = .int kd (kd.wrap n) := iv_kc kd n
 have b1 : n < 2 ^ kd.bits := by have := h.1; rwa [kbits_kc] at this
 refine ⟨by rw [e1]; exact rfl, fun k' hk => ?_⟩
 cases k' with
 | i k2 n2 =>
   have e2 : eqV (.i (kc kd) n) (.i k2 n2) = if k2 = kc kd then (if n2 = n then 1 else 0) else 2 := by
    show (Bool.rec 2 (Bool.rec 0 1 (Nat.beq n n2)) (Nat.beq (kc kd) k2) : Nat) = _
    rw [bool_rec_eq, bool_rec_eq]; simp only [Nat.beq_eq, @eq_comm _ (kc kd) k2, @eq_comm _ n n2]
   rw [e2]
   by_cases hk2 : k2 = kc kd
   · subst hk2
     have e3 : val L (.i (kc kd) n2) = .int kd (kd.wrap n2) := iv_kc kd n2
     have b2 : n2 < 2 ^ kd.bits := by have := hk.1; rwa [kbits_kc] at this
     rw [if_pos rfl, e1, e3]
     by_cases hn : n2 = n
     · subst hn
       rw [if_pos rfl]
       exact ⟨fun h => (by cases h), fun _ => ⟨by simp [Instr.sameNow], rfl⟩⟩
     · rw [if_neg hn]
       refine ⟨fun _ => ?_, fun h => by cases h⟩
       have hne : kd.wrap n ≠ kd.wrap n2 := fun h => hn (wrap_inj kd b1 b2 h).symm
       simp [Instr.sameNow, hne]
   · rw [if_neg hk2]
     exact ⟨fun h => (by cases h), fun h => (by cases h)⟩
 | _ => exact ⟨fun h => (by cases h), fun h => (by cases h)⟩
theorem keyS_at {l n : Nat} (h : (wf S (.s l n)).v) : KeyS L S .string (.s l n) := by
 refine ⟨trivial, fun k' hk => ?_⟩
 cases k' with
 | s l2 n2 =>
   have e2 : eqV (.s l n) (.s l2 n2) = if l2 = l ∧ n2 = n then 1 else 0 := by
    show (Bool.rec 0 1 (Bool.and (Nat.beq l l2) (Nat.beq n n2)) : Nat) = _
    rw [bool_rec_eq]
    have : (Bool.and (Nat.beq l l2) (Nat.beq n n2) = true) = (l2 = l ∧ n2 = n) := by
     show ((Nat.beq l l2 && Nat.beq n n2) = true) = _
     rw [Bool.and_eq_true, Nat.beq_eq, Nat.beq_eq, @eq_comm _ l, @eq_comm _ n]
    simp only [this]
   rw [e2]
   by_cases hn : l2 = l ∧ n2 = n
   · rw [if_pos hn]
     obtain ⟨rfl, rfl⟩ := hn
     exact ⟨fun h => (by cases h), fun _ => ⟨by show some (_ == _) = some true; rw [(bytes_beq _ _).2 rfl], rfl⟩⟩
   · rw [if_neg hn]
     refine ⟨fun _ => ?_, fun h => (by cases h)⟩
     show some (_ == _) = some false
     congr 1
     cases hb : ((⟨(bytesL l n).toArray⟩ : ByteArray) == ⟨(bytesL l2 n2).toArray⟩)
     · rfl
     · have := (bytes_beq _ _).1 hb
       have h2 : bytesL l n = bytesL l2 n2 := by
        have := congrArg (fun b : ByteArray => b.data.toList) this
        simpa using this
       have := str_inj h hk h2
       exact absurd ⟨this.1.symm, this.2.symm⟩ hn
 | _ => exact ⟨fun h => (by cases h), fun h => (by cases h)⟩
theorem keyB_at {z : Bool} : KeyS L S .bool (.b z) := by
 refine ⟨trivial, fun k' hk => ?_⟩
 cases k' with
 | b z2 => cases z <;> cases z2 <;> exact ⟨fun h => (by first | rfl | cases h), fun h => (by first | exact ⟨rfl, rfl⟩ | cases h)⟩
 | _ => exact ⟨fun h => (by cases h), fun h => (by cases h)⟩
def KeyAt (P : Program) (L : Loc) (S : Ns) (kt : TypeId) (ky : KY) (v : V) : Prop :=
 (∀ em W, (Instr.checkKey em 10000 kt (val L v)).run P W = .ok () W) ∧ (∀ W, (Instr.keyThatStays (val L v) (val L v)).run P W = .ok (val L v) W) ∧
 ∃ F : List MapEntry → Nat → Option (Nat × Value) → Prop, (∀ xs a, F xs 0 a → ∀ W, (Instr.findKey kt (val L v) xs).run P W = .ok a W) ∧ (∀ j, F [] j none) ∧
   ∀ k', (wf S k').v → ∀ q : Bool → R, (ky.cmp v k' q).Good → ∃ z, ky.cmp v k' q = q z ∧ (z = true → val L k' = val L v) ∧ ∀ (x : MapEntry) (xs : List MapEntry) (j : Nat), x.key = val L k' →
     (z = true → F (x :: xs) j (some (j, x.val))) ∧ (z = false → ∀ a, F xs (j + 1) a → F (x :: xs) j a)
theorem KeyAt.nil {kt : TypeId} {ky : KY} {v : V} (h : KeyAt P L S kt ky v) (W : World) : (Instr.findKey kt (val L v) []).run P W = .ok none W := by
 obtain ⟨_, _, F, f0, fn, _⟩ := h
 exact f0 [] none (fn 0) W
theorem KeyS.at {d : TypeDesc} {kt : TypeId} {ky : KY} {v : V} (hd : P.underlying kt = some d) (hk : KeyS L S d v) (hc : ky.cmp = cmpV) : KeyAt P L S kt ky v := by
 refine ⟨fun em W => run_checkKey hd hk.1 em 9999, fun W => run_keyThatStays hk.1, fun xs j a => Instr.findNow d (val L v) xs j = some a, fun xs a h W => run_findKey hd h, fun j => rfl, fun k' hw q hg => ?_⟩
 rw [hc] at hg ⊢
 have e0 : cmpV v k' q = Nat.rec (motive := fun _ => R) (q false) (fun e _ => Nat.rec (motive := fun _ => R) (q true) (fun _ _ => .bad 69) e) (eqV v k') := rfl
 rw [e0] at hg ⊢
 cases hq : eqV v k' with
 | zero =>
   refine ⟨false, rfl, fun h => (by cases h), fun x xs j hx => ⟨fun h => (by cases h), fun _ a ha => ?_⟩⟩
   simp only [Instr.findNow, hx, (hk.2 k' hw).1 hq]
   exact ha
 | succ m =>
   cases m with
   | zero =>
     have hs := (hk.2 k' hw).2 hq
     exact ⟨true, rfl, fun _ => hs.2, fun x xs j hx => ⟨fun _ => by simp only [Instr.findNow, hx, hs.1], fun h => (by cases h)⟩⟩
   | succ m => rw [hq] at hg; exact (bad_good hg).elim
theorem kyD_at {kt : TypeId} {l : List Lf} (hl : leavesT P 12 kt 0 = some l) (hend : ∀ x ∈ l, leafEnd x ≤ szT P kt) (hk : P.keyTypeAt 12 kt = true) (ht : P.tiled 12 kt = true)
 (hagg : (match P.underlying kt with | some (.array _ _) | some (.struct _) => true | _ => false) = true) {cs : V} (hcs : (wf S cs).l) {q0 : Bool → R} (hg0 : (tsAll l cs cs true q0).Good) : KeyAt P L S kt (kyD (szT P kt) l) (.agg (szT P kt) cs) := by
 obtain ⟨_, _, _, _, hchk, hsty⟩ := wide_facts (L := L) hl hend hk ht hagg hcs hcs hg0
 refine ⟨hchk, hsty, fun xs j a => ∀ W, (Instr.findAsking kt (val L (.agg (szT P kt) cs)) xs j).run P W = .ok a W, fun xs a h W => by rw [run_findKey_eq W hagg]; exact h W, fun j W => rfl, fun k' hw q hg => ?_⟩
 have hg' : (asAgg k' (fun w2 cs' => Bool.rec (.bad 139) (tsAll l cs cs' true q) (Bool.and (Nat.beq (szT P kt) (szT P kt)) (Nat.beq w2 (szT P kt))))).Good := hg
 obtain ⟨w2, cs', rfl, e1⟩ := asAgg_good hg'
 have g1 := good_of e1 hg'
 obtain ⟨h2, e2⟩ := rec_good (z := Bool.and (Nat.beq (szT P kt) (szT P kt)) (Nat.beq w2 (szT P kt))) g1
 have g2 := good_of e2 g1
 have h2' : (Nat.beq (szT P kt) (szT P kt) && Nat.beq w2 (szT P kt)) = true := h2
 rw [Bool.and_eq_true, Nat.beq_eq, Nat.beq_eq] at h2'
 obtain ⟨_, rfl⟩ := h2'
 obtain ⟨z, e3, heq, hval, _, _⟩ := wide_facts (L := L) hl hend hk ht hagg hcs hw g2
 refine ⟨z, e1.trans (e2.trans e3), hval, fun x xs j hx => ⟨fun hz W => ?_, fun hz a ha W => ?_⟩⟩
 · simp only [Instr.findAsking, Sem.run_bind, hx, heq W, Result.andThen_ok, hz, if_true, Sem.run_pure]
 · simp only [Instr.findAsking, Sem.run_bind, hx, heq W, Result.andThen_ok, hz, Bool.false_eq_true, if_false]
   exact ha W
theorem cKey_spec {kt : TypeId} {ky : KY} (h : cKey P kt = some ky) : ∀ (v : V) (q : V → R), (ky.ok v q).Good → v ≠ .x ∧ ((wf S v).v → ky.ok v q = q v ∧ KeyAt P L S kt ky v) := by
 have wide : (match P.underlying kt with | some (.array _ _) | some (.struct _) => true | _ => false) = true →
  (if P.keyTypeAt 12 kt && P.tiled 12 kt then (match leavesT P 12 kt 0 with
   | some l => if l.all (fun l => decide (leafEnd l ≤ szT P kt)) then some (kyD (szT P kt) l) else none
   | none => none) else none) = some ky → ∀ (v : V) (q : V → R), (ky.ok v q).Good → v ≠ .x ∧ ((wf S v).v → ky.ok v q = q v ∧ KeyAt P L S kt ky v) := by
  intro hagg hc v q hg
  split at hc
  · rename_i hk
    rw [Bool.and_eq_true] at hk
    split at hc
    · rename_i l hl
      split at hc
      · rename_i he
        have hend : ∀ x ∈ l, leafEnd x ≤ szT P kt := fun x hx => by simpa using List.all_eq_true.1 he x hx
        injection hc with hc
        subst hc
        have hg' : (asAgg v (fun w1 cs => Bool.rec (.bad 138) (tsAll l cs cs true (fun _ => q v)) (Nat.beq w1 (szT P kt)))).Good := hg
        obtain ⟨w1, cs, rfl, e1⟩ := asAgg_good hg'
        have g1 := good_of e1 hg'
        obtain ⟨h2, e2⟩ := rec_good (z := Nat.beq w1 (szT P kt)) g1
        have g2 := good_of e2 g1
        rw [Nat.beq_eq] at h2
        subst h2
        refine ⟨by simp, fun hw => ?_⟩
        obtain ⟨z, e3, _⟩ := wide_facts (L := L) hl hend hk.1 hk.2 hagg hw hw g2
        exact ⟨e1.trans (e2.trans e3), kyD_at hl hend hk.1 hk.2 hagg hw g2⟩
      · cases hc
    · cases hc
  · cases hc
 unfold cKey at h
 cases hu : P.underlying kt with
 | none => rw [hu] at h; cases h
 | some d =>
   rw [hu] at h
   intro v q hg
   cases d with
   | bool =>
     injection h with h
     subst h
     obtain ⟨z, rfl, h1⟩ := asB_good hg
     exact ⟨by simp, fun _ => ⟨h1, keyB_at.at hu rfl⟩⟩
   | int kd =>
     injection h with h
     subst h
     obtain ⟨k, n, rfl, h1⟩ := asI_good hg
     have g1 := good_of h1 hg
     obtain ⟨h2, h3⟩ := rec_good (z := Nat.beq k (kc kd)) g1
     rw [Nat.beq_eq] at h2
     subst h2
     exact ⟨by simp, fun hw => ⟨h1.trans h3, (keyI_at hw).at hu rfl⟩⟩
   | string =>
     injection h with h
     subst h
     obtain ⟨l, n, rfl, h1⟩ := asS_good hg
     exact ⟨by simp, fun hw => ⟨h1, (keyS_at hw).at hu rfl⟩⟩
   | array n e => exact wide (by rw [hu]) h v q hg
   | struct fs => exact wide (by rw [hu]) h v q hg
   | _ => cases h
theorem findM_spec {cmp : V → V → (Bool → R) → R} {F : List MapEntry → Nat → Option (Nat × Value) → Prop} {kk : V} (fn : ∀ j, F [] j none)
 (fc : ∀ k', (wf S k').v → ∀ q : Bool → R, (cmp kk k' q).Good → ∃ z, cmp kk k' q = q z ∧ (z = true → val L k' = val L kk) ∧ ∀ (x : MapEntry) (xs : List MapEntry) (j : Nat), x.key = val L k' →
  (z = true → F (x :: xs) j (some (j, x.val))) ∧ (z = false → ∀ a, F xs (j + 1) a → F (x :: xs) j a)) {q : V → R} {r : R} : ∀ (es : V) (xs : List MapEntry) (j : Nat), (wf S es).s → entsR L es xs → (findM cmp es kk q r).Good →
 (∃ (i : Nat) (x : MapEntry) (k v : V) (b : Nat), xs[i]? = some x ∧ x.val = val L v ∧ x.born = b ∧ x.key = val L kk ∧ (wf S v).v ∧ findM cmp es kk q r = q (ent k v b) ∧ F xs j (some (j + i, x.val))) ∨
 (findM cmp es kk q r = r ∧ F xs j none) := by
 intro es
 induction es with
 | nil =>
   intro xs j _ hr hg
   cases xs with
   | nil => exact .inr ⟨rfl, fn j⟩
   | cons _ _ => exact hr.elim
 | cons a w iha ihw =>
   intro xs j hw hr hg
   cases xs with
   | nil => exact hr.elim
   | cons x xs =>
     obtain ⟨⟨k, v, b, rfl, h1, h2, h3⟩, h4⟩ := hr
     have hwk : (wf S k).v := hw.1.1
     have hwv : (wf S v).v := hw.1.2.1
     have e1 : findM cmp (.cons (ent k v b) w) kk q r = cmp kk k (fun z => Bool.rec (findM cmp w kk q r) (q (ent k v b)) z) := rfl
     rw [e1] at hg ⊢
     obtain ⟨z, e2, hval, hF⟩ := fc k hwk _ hg
     rw [e2] at hg ⊢
     have hF := hF x xs j h1
     cases z with
     | false =>
       rcases ihw xs (j + 1) hw.2 h4 hg with ⟨i, x', k', v', b', g1, g2, g3, g4, g5, g6, g7⟩ | ⟨g1, g2⟩
       · refine .inl ⟨i + 1, x', k', v', b', g1, g2, g3, g4, g5, g6, hF.2 rfl _ ?_⟩
         rw [show j + (i + 1) = j + 1 + i by omega]; exact g7
       · exact .inr ⟨g1, hF.2 rfl _ g2⟩
     | true => exact .inl ⟨0, x, k, v, b, rfl, h2, h3, h1.trans (hval rfl), hwv, rfl, hF.1 rfl⟩
 | _ => intro xs j hw; exact hw.elim
theorem findM_key {kt : TypeId} {ky : KY} {kk : V} (hk : KeyAt P L S kt ky kk) {q : V → R} {r : R} (es : V) (xs : List MapEntry) (hw : (wf S es).s) (hr : entsR L es xs) (hg : (findM ky.cmp es kk q r).Good) :
 (∃ (i : Nat) (x : MapEntry) (k v : V) (b : Nat), xs[i]? = some x ∧ x.val = val L v ∧ x.born = b ∧ x.key = val L kk ∧ (wf S v).v ∧ findM ky.cmp es kk q r = q (ent k v b) ∧ ∀ W, (Instr.findKey kt (val L kk) xs).run P W = .ok (some (i, x.val)) W) ∨
 (findM ky.cmp es kk q r = r ∧ ∀ W, (Instr.findKey kt (val L kk) xs).run P W = .ok none W) := by
 obtain ⟨_, _, F, f0, fn, fc⟩ := hk
 rcases findM_spec fn fc es xs 0 hw hr hg with ⟨i, x, k, v, b, g1, g2, g3, g4, g5, g6, g7⟩ | ⟨g1, g2⟩
 · rw [Nat.zero_add] at g7
   exact .inl ⟨i, x, k, v, b, g1, g2, g3, g4, g5, g6, f0 _ _ g7⟩
 · exact .inr ⟨g1, f0 _ _ g2⟩
theorem asEnt_ent (k v : V) (b : Nat) (q : V → V → Nat → R) : asEnt (ent k v b) q = q k v b := rfl
theorem lookEnd_good {ok : Bool} {v : V} {z : Bool} {k : K1} (hw : (wf S v).v) : ∃ r, lookEnd ok v z k = k r ∧ (wf S r).v ∧ val L r = (if ok then .tuple #[val L v, .bool z] else val L v) := by
 cases ok
 · exact ⟨v, rfl, hw, rfl⟩
 · exact ⟨.tup (.cons v (.cons (.b z) .nil)), rfl, ⟨hw, trivial, trivial⟩, rfl⟩
theorem cLookup_sound {o : Oper} {t : TypeId} {x y : Operand} {ok : Bool} (ho : o.op = .lookup t x y ok) {xo : Opnd} {f : BH} (hc : cLookup P t ok (cOpd e x) (cOpd e y) = .r xo f) : RS P L S e o xo f := by
 unfold cLookup at hc
 cases hu : P.underlying t with
 | none => rw [hu] at hc; cases hc
 | some d =>
 rw [hu] at hc
 cases d with
 | map kt et =>
   simp only at hc
   cases hky : cKey P kt with
   | none => rw [hky] at hc; cases hc
   | some ky =>
     rw [hky] at hc
     simp only at hc
     cases hz : (wfb (zeroOf P et)).v
     · rw [hz] at hc; cases hc
     rw [hz, if_pos rfl] at hc
     injection hc with h1 h2
     subst h1 h2
     intro a ns T b w k hm hb hg
     obtain ⟨hne, hat⟩ := cKey_spec (L := L) (S := S) hky _ _ hg
     have vy := hm y hne
     obtain ⟨e1, hk⟩ := hat vy.2
     have g1 := good_of e1 hg
     have hzr : ∀ W, (zeroValue et).run P W = .ok (val L (zeroOf P et)) W := fun W => by
      obtain ⟨i, hi, h0⟩ := zeroOf_spec (P := P) (L := L) hz
      exact run_zeroValue_of hi h0 W
     have hzw : (wf S (zeroOf P et)).v := (wfb_wf (c := S) _).1 hz
     cases hx : ev (cOpd e x) ns T <;> simp only [hx] at g1 <;> first
      | exact (bad_good g1).elim
      | skip
     case nm =>
      have vx := hm.at x hx (by simp)
      have hx1 : a.eval x = .map none := vx.1
      obtain ⟨r, e2, e3, e4⟩ := lookEnd_good (L := L) (ok := ok) (z := false) (k := k) hzw
      refine ⟨r, e3, ?_, ?_⟩
      · refine e1.trans ?_; simp only [hx]; exact e2
      · simp only [execOp, ho, hx1, vy.1, Instr.lookup, Sem.run_bind, run_underlying hu, Result.andThen_ok, Sem.run_pure, hk.1, hk.nil, hzr, e4]
     case m nm =>
      have vx := hm.at x hx (by simp)
      have hx1 : a.eval x = .map (some (L.b nm)) := vx.1
      have g1' : (asMap b (fun es _ => findM ky.cmp es (ev (cOpd e y) ns T) (fun e => asEnt e (fun _ v _ => lookEnd ok v true k)) (lookEnd ok (zeroOf P et) false k))).Good := g1
      obtain ⟨es, cl, rfl, e2⟩ := asMap_good g1'
      have g2 := good_of e2 g1'
      obtain ⟨hS, ob, hob, hbr⟩ := hb (by simp)
      have hnm : nmOf (ev (cOpd e x) ns T) = nm := by rw [hx]; rfl
      rw [hnm] at hob hbr
      cases ob with
      | map ents clock =>
        obtain ⟨_, hes, hr, _, _⟩ := hbr
        have e0 : hLookup ky ok (zeroOf P et) (cOpd e x) (cOpd e y) (.map es cl) ns T k = findM ky.cmp es (ev (cOpd e y) ns T) (fun e => asEnt e (fun _ v _ => lookEnd ok v true k)) (lookEnd ok (zeroOf P et) false k) := by
         refine e1.trans ?_; simp only [hx]; exact e2
        rcases findM_key hk es ents.toList hes hr g2 with ⟨i, x', k', v', b', g3, g4, g5, g6, g7, g8, g9⟩ | ⟨g3, g4⟩
        · obtain ⟨r, e5, e6, e7⟩ := lookEnd_good (L := L) (ok := ok) (z := true) (k := k) g7
          refine ⟨r, e6, e0.trans (g8.trans e5), ?_⟩
          simp only [execOp, ho, hx1, vy.1, Instr.lookup, Sem.run_bind, run_underlying hu, Result.andThen_ok, Sem.run_pure, MapKept.run_getObj_map hob, hk.1, g9, e7, g4]
        · obtain ⟨r, e5, e6, e7⟩ := lookEnd_good (L := L) (ok := ok) (z := false) (k := k) hzw
          refine ⟨r, e6, e0.trans (g3.trans e5), ?_⟩
          simp only [execOp, ho, hx1, vy.1, Instr.lookup, Sem.run_bind, run_underlying hu, Result.andThen_ok, Sem.run_pure, MapKept.run_getObj_map hob, hk.1, g4, hzr, e7]
      | _ => exact hbr.elim
 | _ => cases hc
end
end Go.Ev

namespace Go.Ev
open Go.MapKept
def WS (P : Program) (L : Loc) (S : Ns) (e : Ce) (o : Oper) (f : WH) : Prop := ∀ (cal : Cal) (a : Act) (ns : List V) (t : T) (d : List D) (h : H) (c : Nm) (w : World) (k : KW), Mat L S e a ns t → Rel L S h w → Bd S c → (f cal ns t d h c k).Good →
 ∃ (v : V) (h' : H) (c' : Nm) (L' : Loc) (S' : Ns) (w' : World) (nx : Next), f cal ns t d h c k = k v d h' c' ∧ Stp L S h c w L' S' h' c' w' ∧ (wf S' v).v ∧ (execOp a.eval o).run P w = .ok nx w' ∧ (nx = .value (val L' v) ∨ nx = .skip ∧ v = .u)
section
variable {P : Program} {rd : Option Nat} {L : Loc} {S : Ns} {e : Ce} {o : Oper}
theorem OS.of_WS {f : WH} (hnd : ∀ c, o.op ≠ .defer c) (h : ∀ L S, WS P L S e o f) : OS P rd e o (.w f) := by
 intro cal a ns t d hh c w L S k next Q _ _ hm hr hb hd hg hk _
 have hg' : (f cal ns t d hh c k).Good := hg
 obtain ⟨v, h', c', L', S', w', nx, h1, h2, h3, h4, h5⟩ := h L S cal a ns t d hh c w k hm hr hb hg'
 rw [Oper.semAt_eq _ _ _ hnd, h4]
 have := hk v d h' c' L' S' a.defers w' h2 h3 (hd.congr h2.sub h2.agr) h1
 rcases h5 with rfl | ⟨rfl, rfl⟩
 · rw [Oper.uponIn_value]; exact this
 · rw [Oper.uponIn_skip]; exact this
theorem entsR_end (L : Loc) {k v : V} {b : Nat} : ∀ (es : V) (xs : List MapEntry), entsR L es xs → (wf S es).s → (wf S k).v → (wf S v).v → b < 2 ^ 64 → entsR L (endM es (ent k v b)) (xs ++ [⟨val L k, val L v, b⟩]) ∧ (wf S (endM es (ent k v b))).s := by
 intro es
 induction es with
 | nil =>
   intro xs h _ hk hv hb
   cases xs with
   | nil => exact ⟨⟨⟨k, v, b, rfl, rfl, rfl, rfl⟩, trivial⟩, ⟨⟨hk, hv, ⟨hb, by decide⟩, trivial⟩, trivial⟩⟩
   | cons _ _ => exact h.elim
 | cons a w _ ih =>
   intro xs h hw hk hv hb
   cases xs with
   | nil => exact h.elim
   | cons x xs =>
     have := ih xs h.2 hw.2 hk hv hb
     exact ⟨⟨h.1, this.1⟩, ⟨hw.1, this.2⟩⟩
 | _ => intro xs _ hw; exact hw.elim
theorem entsR_put (L : Loc) {v : V} {b : Nat} : ∀ (es : V) (xs : List MapEntry), entsR L es xs → (wf S es).s → (wf S v).v → entsR L (putM es b v) (xs.map fun x => if x.born = b then { x with val := val L v } else x) ∧ (wf S (putM es b v)).s := by
 intro es
 induction es with
 | nil =>
   intro xs h _ hv
   cases xs with
   | nil => exact ⟨trivial, trivial⟩
   | cons _ _ => exact h.elim
 | cons a w _ ih =>
   intro xs h hw hv
   cases xs with
   | nil => exact h.elim
   | cons x xs =>
     have hi := ih xs h.2 hw.2 hv
     obtain ⟨⟨k', v', b', rfl, h1, h2, h3⟩, h4⟩ := h
     have e1 : putM (.cons (ent k' v' b') w) b v = (Bool.rec (.cons (ent k' v' b') (putM w b v)) (.cons (.tup (.cons k' (.cons v (.cons (.i 3 b) .nil)))) (putM w b v)) (Nat.beq b' b) : V) := rfl
     rw [e1, bool_rec_eq]
     simp only [Nat.beq_eq, List.map_cons]
     by_cases hb : b' = b
     · subst hb
       rw [if_pos rfl, if_pos h3]
       exact ⟨⟨⟨k', v, b', rfl, h1, rfl, h3⟩, hi.1⟩, ⟨⟨hw.1.1, hv, hw.1.2.2.1, trivial⟩, hi.2⟩⟩
     · rw [if_neg hb, if_neg (by rw [h3]; exact hb)]
       exact ⟨⟨⟨k', v', b', rfl, h1, h2, h3⟩, hi.1⟩, ⟨hw.1, hi.2⟩⟩
 | _ => intro xs _ hw; exact hw.elim
theorem born_pos {xs : List MapEntry} {i : Nat} {x : MapEntry} (hp : (xs.map (·.born)).Pairwise (· < ·)) (hx : xs[i]? = some x) {g : MapEntry → MapEntry} : (xs.map fun y => if y.born = x.born then g y else y) = xs.modify i g := by
 apply List.ext_getElem?
 intro j
 rw [List.getElem?_map, List.getElem?_modify]
 cases hj : xs[j]? with
 | none => simp
 | some y =>
   simp only [Option.map_some]
   by_cases hij : i = j
   · subst hij
     rw [hx] at hj; cases hj
     simp
   · have hne : y.born ≠ x.born := by
      intro hb
      have h1 := (List.getElem?_eq_some_iff.1 hx)
      have h2 := (List.getElem?_eq_some_iff.1 hj)
      obtain ⟨l1, e1⟩ := h1
      obtain ⟨l2, e2⟩ := h2
      rw [List.pairwise_iff_getElem] at hp
      rcases Nat.lt_or_ge i j with hlt | hge
      · have := hp i j (by simpa using l1) (by simpa using l2) hlt
        simp [e1, e2] at this; omega
      · have := hp j i (by simpa using l2) (by simpa using l1) (by omega)
        simp [e1, e2] at this; omega
     simp [hij, hne]
theorem map_step {h : H} {c nm : Nm} {w : World} {es es' : V} {cl cl' : Nat} {ents ents' : Array MapEntry} {clock : Nat} (hr : Rel L S h w) (hb : Bd S c) (hn : H.get nm h = .map es cl) (hw : w.heap[L.b nm]? = some (.map ents clock))
 (hbr : BR L S nm (.map es' cl') (.map ents' cl')) : Stp L S h c w L S (H.set nm (.map es' cl') h) c { w with heap := w.heap.setIfInBounds (L.b nm) (.map ents' cl') } := by
 refine Stp.put hr hb (by rw [hn]; simp) hbr (heap_set hw).1 (fun r hr => (heap_set hw).2 r hr) (by simp) (by rw [hn]; rfl)
theorem set_same {a : Array Obj} {r : Nat} {ob : Obj} (h : a[r]? = some ob) : a.setIfInBounds r ob = a := by
 apply Array.ext_getElem?
 intro j
 rw [Array.getElem?_setIfInBounds]
 split
 · rename_i hj
   subst hj
   rw [h, if_pos (lt_size h)]
 · rfl
theorem modify_congr {xs : List MapEntry} {i : Nat} {x : MapEntry} (hx : xs[i]? = some x) {g g' : MapEntry → MapEntry} (h : g x = g' x) : xs.modify i g = xs.modify i g' := by
 apply List.ext_getElem?
 intro j
 rw [List.getElem?_modify, List.getElem?_modify]
 by_cases hij : i = j
 · subst hij; rw [hx]; simp [h]
 · simp [hij]
theorem modify_born {xs : List MapEntry} {i : Nat} {g : MapEntry → MapEntry} (h : ∀ x, (g x).born = x.born) : (xs.modify i g).map (·.born) = xs.map (·.born) := by
 apply List.ext_getElem?
 intro j
 rw [List.getElem?_map, List.getElem?_map, List.getElem?_modify]
 cases xs[j]? with
 | none => rfl
 | some y => by_cases hij : i = j <;> simp [hij, h]
theorem BR.mapPut {nm : Nm} {es v : V} {cl : Nat} {ents : Array MapEntry} {i : Nat} {x : MapEntry} (h : BR L S nm (.map es cl) (.map ents cl)) (hx : ents.toList[i]? = some x) (hv : (wf S v).v) {g : MapEntry → MapEntry} (hg : g x = { x with val := val L v }) (hgb : ∀ y, (g y).born = y.born) :
 BR L S nm (.map (putM es x.born v) cl) (.map (ents.modify i g) cl) := by
 obtain ⟨_, h2, h3, h4, h5⟩ := h
 have hp := entsR_put L es ents.toList h3 h2 hv (b := x.born)
 have e1 : (ents.modify i g).toList = ents.toList.map fun y => if y.born = x.born then { y with val := val L v } else y := by
  rw [born_pos h4 hx (g := fun y => { y with val := val L v }), Array.toList_modify, modify_congr hx (g' := fun y => { y with val := val L v }) hg]
 have e2 : (ents.modify i g).toList.map (·.born) = ents.toList.map (·.born) := by rw [Array.toList_modify, modify_born hgb]
 refine ⟨rfl, hp.2, by rw [e1]; exact hp.1, by rw [e2]; exact h4, fun y hy => ?_⟩
 have : y.born ∈ ents.toList.map (·.born) := by rw [← e2]; exact List.mem_map.2 ⟨y, hy, rfl⟩
 obtain ⟨z, hz, ez⟩ := List.mem_map.1 this
 rw [← ez]; exact h5 z hz
theorem BR.mapEnd {nm : Nm} {es k v : V} {cl : Nat} {ents : Array MapEntry} (h : BR L S nm (.map es cl) (.map ents cl)) (hk : (wf S k).v) (hv : (wf S v).v) (hc : cl < 4294967296) :
 BR L S nm (.map (endM es (ent k v cl)) (Nat.succ cl)) (.map (ents.push ⟨val L k, val L v, cl⟩) (cl + 1)) := by
 obtain ⟨_, h2, h3, h4, h5⟩ := h
 have hp := entsR_end L es ents.toList h3 h2 hk hv (b := cl) (Nat.lt_of_lt_of_le hc (by decide))
 refine ⟨rfl, hp.2, by rw [Array.toList_push]; exact hp.1, ?_, fun y hy => ?_⟩
 · rw [Array.toList_push, List.map_append, List.pairwise_append]
   refine ⟨h4, by simp, fun a ha b hb => ?_⟩
   obtain ⟨y, hy, rfl⟩ := List.mem_map.1 ha
   simp at hb; subst hb
   exact h5 y hy
 · rw [Array.toList_push] at hy
   rcases List.mem_append.1 hy with hy | hy
   · have := h5 y hy; omega
   · simp at hy; subst hy; exact Nat.lt_succ_self _
theorem cMapUpd_sound {t : TypeId} {x y z : Operand} (ho : o.op = .mapUpdate t x y z ∨ o.op = .insert t x y z) {f : WH} (hc : cMapUpd P t (cOpd e x) (cOpd e y) (cOpd e z) = .w f) : WS P L S e o f := by
 unfold cMapUpd at hc
 cases hu : P.underlying t with
 | none => rw [hu] at hc; cases hc
 | some d =>
 rw [hu] at hc
 cases d with
 | map kt et =>
   simp only at hc
   cases hky : cKey P kt with
   | none => rw [hky] at hc; cases hc
   | some ky =>
     rw [hky] at hc
     injection hc with hc
     subst hc
     intro cal a ns T dd h c w k hm hr hb hg
     have hkey := cKey_spec (P := P) (L := L) (S := S) hky
     obtain ⟨nm, hx, e1⟩ := asM_good hg
     have g1 := good_of e1 hg
     obtain ⟨es, cl, hn, e2⟩ := asMap_good g1
     have g2 := good_of e2 g1
     obtain ⟨hne, hat⟩ := hkey _ _ g2
     have vy := hm y hne
     obtain ⟨e3, hk⟩ := hat vy.2
     have g3 := good_of e3 g2
     obtain ⟨h4, e4⟩ := rec_good (z := Bool.and (nx (ev (cOpd e z) ns T)) (lt cl 4294967296)) g3
     have g4 := good_of e4 g3
     have h4' : (nx (ev (cOpd e z) ns T) && lt cl 4294967296) = true := h4
     rw [Bool.and_eq_true, lt_iff] at h4'
     have vx := hm.at x hx (by simp)
     have vz := hm z ((nx_iff _).1 h4'.1)
     have hx1 : a.eval x = .map (some (L.b nm)) := vx.1
     obtain ⟨hS, ob, hob, hbr⟩ := hr.blk nm (by rw [hn]; simp)
     rw [hn] at hbr
     cases ob with
     | map ents clock =>
       obtain ⟨rfl, hes, hrr, _, _⟩ := id hbr
       have ex : ∀ W, (Instr.mapUpdate t (a.eval x) (a.eval y) (a.eval z)).run P w = .ok () W → (execOp a.eval o).run P w = .ok .skip W := by
        intro W hW
        rcases ho with ho | ho <;> simp [execOp, ho, hW]
       rcases findM_key hk es ents.toList hes hrr g4 with ⟨i, x', k', v', b', g5, g6, g7, g8, g9, g10, g11⟩ | ⟨g5, g6⟩
       · have hi : ents[i]? = some x' := by rw [← Array.getElem?_toList]; exact g5
         subst g7
         refine ⟨.u, _, c, L, S, _, .skip, e1.trans (e2.trans (e3.trans (e4.trans g10))), map_step hr hb hn hob (hbr.mapPut g5 vz.2 (g := fun en => { en with key := val L (ev (cOpd e y) ns T), val := val L (ev (cOpd e z) ns T) }) (by rw [← g8]) (fun _ => rfl)), trivial, ?_, .inr ⟨rfl, rfl⟩⟩
         refine ex _ ?_
         simp only [hx1, vy.1, vz.1, Instr.mapUpdate, Sem.run_bind, run_underlying hu, Result.andThen_ok, MapKept.run_getObj_map hob, hk.1, g11, hi, Option.map_some, Option.getD_some, g8, hk.2.1, run_setObj_map _ hob]
       · refine ⟨.u, _, c, L, S, _, .skip, e1.trans (e2.trans (e3.trans (e4.trans g5))), map_step hr hb hn hob (hbr.mapEnd vy.2 vz.2 h4'.2), trivial, ?_, .inr ⟨rfl, rfl⟩⟩
         refine ex _ ?_
         simp only [hx1, vy.1, vz.1, Instr.mapUpdate, Sem.run_bind, run_underlying hu, Result.andThen_ok, MapKept.run_getObj_map hob, hk.1, g6, run_setObj_map _ hob]
     | _ => exact hbr.elim
 | _ => cases hc
theorem goInt_born {b : Nat} (h : b < 4294967296) : goInt b = val L (.i 3 b) ∧ (wf S (.i 3 b)).v := by
 have := goInt_val L (show b < 9223372036854775808 by omega)
 exact ⟨this.1, this.2 S⟩
theorem cMapEnt_sound {t : TypeId} {x y : Operand} (ho : o.op = .mapEntry t x y) {f : WH} (hc : cMapEnt P t (cOpd e x) (cOpd e y) = .w f) : WS P L S e o f := by
 unfold cMapEnt at hc
 cases hu : P.underlying t with
 | none => rw [hu] at hc; cases hc
 | some d =>
 rw [hu] at hc
 cases d with
 | map kt et =>
   simp only at hc
   cases hky : cKey P kt with
   | none => rw [hky] at hc; cases hc
   | some ky =>
     rw [hky] at hc
     simp only at hc
     cases hz : (wfb (zeroOf P et)).v
     · rw [hz] at hc; cases hc
     rw [hz, if_pos rfl] at hc
     injection hc with hc
     subst hc
     intro cal a ns T dd h c w k hm hr hb hg
     have hkey := cKey_spec (P := P) (L := L) (S := S) hky
     obtain ⟨nm, hx, e1⟩ := asM_good hg
     have g1 := good_of e1 hg
     obtain ⟨es, cl, hn, e2⟩ := asMap_good g1
     have g2 := good_of e2 g1
     obtain ⟨hne, hat⟩ := hkey _ _ g2
     have vy := hm y hne
     obtain ⟨e3, hk⟩ := hat vy.2
     have g3 := good_of e3 g2
     obtain ⟨h4, e4⟩ := rec_good (z := lt cl 4294967296) g3
     have g4 := good_of e4 g3
     rw [lt_iff] at h4
     have vx := hm.at x hx (by simp)
     have vy := hm y hne
     have hx1 : a.eval x = .map (some (L.b nm)) := vx.1
     have hzr : ∀ W, (zeroValue et).run P W = .ok (val L (zeroOf P et)) W := fun W => by
      obtain ⟨i, hi, h0⟩ := zeroOf_spec (P := P) (L := L) hz
      exact run_zeroValue_of hi h0 W
     have hzw : (wf S (zeroOf P et)).v := (wfb_wf (c := S) _).1 hz
     obtain ⟨hS, ob, hob, hbr⟩ := hr.blk nm (by rw [hn]; simp)
     rw [hn] at hbr
     cases ob with
     | map ents clock =>
       obtain ⟨rfl, hes, hrr, _, hbo⟩ := id hbr
       have ex : ∀ v W, (Instr.mapEntry t (a.eval x) (a.eval y)).run P w = .ok v W → (execOp a.eval o).run P w = .ok (.value v) W := by
        intro v W hW
        simp [execOp, ho, hW]
       rcases findM_key hk es ents.toList hes hrr g4 with ⟨i, x', k', v', b', g5, g6, g7, g8, g9, g10, g11⟩ | ⟨g5, g6⟩
       · have hi : ents[i]? = some x' := by rw [← Array.getElem?_toList]; exact g5
         subst g7
         have hlt : x'.born < 4294967296 := by
          have := hbo x' (List.mem_of_getElem? g5); omega
         have hgi := goInt_born (L := L) (S := S) hlt
         have hsame : (ents.modify i fun en => { en with key := val L (ev (cOpd e y) ns T) }) = ents := by
          apply Array.ext'
          rw [Array.toList_modify, modify_congr g5 (g' := id) (by simp [← g8])]
          apply List.ext_getElem?
          intro j
          rw [List.getElem?_modify]
          cases ents.toList[j]? <;> simp
         have hst : Stp L S h c w L S h c { w with heap := w.heap.setIfInBounds (L.b nm) (.map ents clock) } := by
          exact Stp.same hr hb (set_same hob)
         refine ⟨.tup (.cons v' (.cons (.i 3 x'.born) .nil)), h, c, L, S, _, _, e1.trans (e2.trans (e3.trans (e4.trans g10))), hst, ⟨g9, hgi.2, trivial⟩, ex _ _ ?_, .inl rfl⟩
         simp only [hx1, vy.1, Instr.mapEntry, Sem.run_bind, run_underlying hu, Result.andThen_ok, MapKept.run_getObj_map hob, hk.1, g11, hi, Option.map_some, Option.getD_some, g8, hk.2.1, run_setObj_map _ hob, hsame, Sem.run_pure, g6, hgi.1]
         rfl
       · have hgi := goInt_born (L := L) (S := S) h4
         refine ⟨.tup (.cons (zeroOf P et) (.cons (.i 3 clock) .nil)), _, c, L, S, _, _, e1.trans (e2.trans (e3.trans (e4.trans g5))), map_step hr hb hn hob (hbr.mapEnd vy.2 hzw h4), ⟨hzw, hgi.2, trivial⟩, ex _ _ ?_, .inl rfl⟩
         simp only [hx1, vy.1, Instr.mapEntry, Sem.run_bind, run_underlying hu, Result.andThen_ok, MapKept.run_getObj_map hob, hk.1, g6, hzr, run_setObj_map _ hob, Sem.run_pure, hgi.1]
         rfl
     | _ => exact hbr.elim
 | _ => cases hc
end
end Go.Ev

namespace Go.Ev
open Go.MapKept
section
variable {P : Program} {rd : Option Nat} {L : Loc} {S : Ns} {e : Ce} {o : Oper}
theorem hasM_spec {b : Nat} : ∀ (es : V) (xs : List MapEntry), entsR L es xs → (wf S es).s → hasM es b = true → ∃ (i : Nat) (x : MapEntry), xs[i]? = some x ∧ x.born = b := by
 intro es
 induction es with
 | nil => intro xs _ _ h; cases h
 | cons a w _ ih =>
   intro xs h hw hb
   cases xs with
   | nil => exact h.elim
   | cons x xs =>
     obtain ⟨⟨k', v', b', rfl, h1, h2, h3⟩, h4⟩ := h
     have e1 : (Nat.beq b' b || hasM w b) = true := hb
     rw [Bool.or_eq_true, Nat.beq_eq] at e1
     rcases e1 with e1 | e1
     · exact ⟨0, x, rfl, h3.trans e1⟩
     · obtain ⟨i, y, h5, h6⟩ := ih xs h4 hw.2 e1
       exact ⟨i + 1, y, h5, h6⟩
 | _ => intro xs _ hw; exact hw.elim
theorem WS.entSt {t : TypeId} {x y z : Operand} (ho : o.op = .entryStore t x y z) : WS P L S e o (hEntSt (cOpd e x) (cOpd e y) (cOpd e z)) := by
 intro cal a ns T dd h c w k hm hr hb hg
 obtain ⟨nm, hx, e1⟩ := asM_good hg
 have g1 := good_of e1 hg
 obtain ⟨es, cl, hn, e2⟩ := asMap_good g1
 have g2 := good_of e2 g1
 obtain ⟨kd, bo, hy, e3⟩ := asI_good g2
 have g3 := good_of e3 g2
 obtain ⟨h4, e4⟩ := rec_good (z := nx (ev (cOpd e z) ns T)) g3
 have g4 := good_of e4 g3
 obtain ⟨h5, e5⟩ := rec_good (z := Bool.and (Bool.and (Nat.beq kd 3) (hasM es bo)) (lt bo 4294967296)) g4
 have h5' : ((Nat.beq kd 3 && hasM es bo) && lt bo 4294967296) = true := h5
 rw [Bool.and_eq_true, Bool.and_eq_true, Nat.beq_eq, lt_iff] at h5'
 obtain ⟨⟨rfl, hhas⟩, hlt⟩ := h5'
 have vx := hm.at x hx (by simp)
 have vy := hm.at y hy (by simp)
 have vz := hm z ((nx_iff _).1 h4)
 have hx1 : a.eval x = .map (some (L.b nm)) := vx.1
 have hy1 : a.eval y = goInt bo := vy.1.trans (goInt_born (L := L) (S := S) hlt).1.symm
 obtain ⟨hS, ob, hob, hbr⟩ := hr.blk nm (by rw [hn]; simp)
 rw [hn] at hbr
 cases ob with
 | map ents clock =>
   obtain ⟨rfl, hes, hrr, hp, _⟩ := id hbr
   obtain ⟨i, x', g5, g6⟩ := hasM_spec es ents.toList hrr hes hhas
   have hidx : ∃ j, ents.findIdx? (fun en => (en.born : Int) == (bo : Int)) = some j ∧ ∃ y', ents[j]? = some y' ∧ y'.born = bo := by
    cases hf : ents.findIdx? (fun en => (en.born : Int) == (bo : Int)) with
    | none =>
      rw [Array.findIdx?_eq_none_iff] at hf
      have := hf x' (by rw [Array.getElem?_toList] at g5; exact Array.mem_of_getElem? g5)
      simp [g6] at this
    | some j =>
      rw [Array.findIdx?_eq_some_iff_getElem] at hf
      obtain ⟨hj, h1, _⟩ := hf
      have h2 : (ents[j].born : Int) = bo := by simpa using h1
      exact ⟨j, rfl, _, Array.getElem?_eq_getElem hj, by omega⟩
   obtain ⟨j, hj, y', hy', hyb⟩ := hidx
   have hyl : ents.toList[j]? = some y' := by rw [Array.getElem?_toList]; exact hy'
   have hput := hbr.mapPut hyl vz.2 (g := fun en => { en with val := val L (ev (cOpd e z) ns T) }) rfl (fun _ => rfl)
   rw [hyb] at hput
   refine ⟨.u, _, c, L, S, _, .skip, e1.trans (e2.trans (e3.trans (e4.trans e5))), map_step hr hb hn hob hput, trivial, ?_, .inr ⟨rfl, rfl⟩⟩
   have : (Instr.entryStore t (a.eval x) (a.eval y) (a.eval z)).run P w = .ok () { w with heap := w.heap.setIfInBounds (L.b nm) (.map (ents.modify j fun en => { en with val := val L (ev (cOpd e z) ns T) }) clock) } := by
    simp only [hx1, hy1, vz.1, Instr.entryStore, goInt, Sem.run_bind, MapKept.run_getObj_map hob, Result.andThen_ok, asInt, asIntOf, Sem.run_pure, hj, run_setObj_map _ hob]
   simp [execOp, ho, this]
 | _ => exact hbr.elim
theorem AS.makeMap {t : TypeId} (ho : o.op = .makeMap t none) {kt et : TypeId} (_ : P.underlying t = some (.map kt et)) : AS P L S e o hMakeMap := by
 intro a ns T q _ _
 refine ⟨fun a => .m a, .map .nil 0, rfl, fun n w hn => ⟨{ w with heap := w.heap.push (.map #[] 0) }, _, 0, ?_, rfl, ⟨rfl, rfl, rfl⟩, ⟨rfl, trivial, trivial, by simp, by simp⟩, .inr rfl⟩⟩
 simp [execOp, ho, Instr.makeMap, val, den, Loc.put_b]
end
end Go.Ev
