/- What the law on errors of runs wants besides: the chapter's example, its script and the world behind it. -/
import Derived.Test.YtjknpcllmmalkaaGreatDoorYaz
import Derived.Test.YtjknpcllmmalkaaGreatDoorRer
set_option maxRecDepth 4000

namespace Go.Ev
open Go.RowKit
open Go.Proofs
open Go.Proofs.YtjknpcllmmalkaaGreatDoor (Glob resC)
noncomputable section
def OR : Orc := pick oYaLAST
def rS : C := callN Tryz.prog OR 3000 60 (.f (.func 12) .nil .nil) (.cons .ns .nil) h0 c0
def onRet {α : Type} (z : α) (k : V → H → Nm → α) (r : C) : α := C.rec (motive := fun _ => α) (fun _ => z) k (fun _ _ _ => z) r
def rB : C := onRet (.bad 0) (fun v h c => callN Tryz.prog OR 3000 60 (.f (.func 17) .nil .nil) (.cons v .nil) h c) rS
def is41 (v : V) : Bool := match v with | .agg w _ => Nat.beq w 41 | _ => false
def zR : V := .agg 45 (.cons .ns (.cons .ns (.cons .ns (.cons .ns (.cons .ns (.cons .ns (.cons .ns (.cons (.bs 32 0) (.cons (.i 7 0) (.cons (.i 7 0) (.cons (.i 3 0) (.cons (.i 3 0) (.cons (.b false) (.cons (.b false) .nil))))))))))))))
def rowCell (b : Blk) (o : Nat) : V := match b with | .row _ _ N op _ cs => Bool.rec (Bool.rec .x (atC cs o) (lt o N)) .x op | _ => .x
def chkN (k : Nat) (h : H) : V → Bool
 | .p n o => Bool.and (Nat.beq o 0) (sameV (.i 3 0) (rowCell (H.get n h) k))
 | _ => false
def chkB (k : Nat) : C → Bool
 | .ret (.tup (.cons (.p m o) (.cons b .nil))) h _ => Bool.and (Nat.beq o 0) (Bool.and (sameV (.i 3 0) b) (chkN k h (rowCell (H.get m h) 0)))
 | _ => false
end
theorem onRet_ret {α : Type} (z : α) (k : V → H → Nm → α) (v : V) (h : H) (c : Nm) : onRet z k (.ret v h c) = k v h c := rfl
theorem OR_ok : ∀ f g, OR f = some g → OrcOk Tryz.prog f g := pick_ok oYaLAST_ok
theorem chkN_inv {k : Nat} {h : H} {v : V} (hc : chkN k h v = true) : ∃ n, v = .p n 0 ∧ rowCell (H.get n h) k = .i 3 0 := by
 cases v with
 | p n o =>
   obtain ⟨h1, h2⟩ := boolAnd2 (show Bool.and (Nat.beq o 0) (sameV (.i 3 0) (rowCell (H.get n h) k)) = true from hc)
   rw [Nat.beq_eq] at h1
   exact ⟨n, by rw [h1], (sameV_eq _ _ h2).symm⟩
 | _ => cases hc
theorem chkB_inv {k : Nat} {r : C} (hc : chkB k r = true) : ∃ m n h c, r = .ret (.tup (.cons (.p m 0) (.cons (.i 3 0) .nil))) h c ∧ rowCell (H.get m h) 0 = .p n 0 ∧ rowCell (H.get n h) k = .i 3 0 := by
 unfold chkB at hc
 split at hc
 · rename_i m o b h c
   obtain ⟨h1, h2⟩ := boolAnd2 hc
   obtain ⟨h2, h3⟩ := boolAnd2 h2
   rw [Nat.beq_eq] at h1
   have h4 := sameV_eq _ _ h2
   obtain ⟨n, h5, h6⟩ := chkN_inv h3
   exact ⟨m, n, h, c, by rw [h1, h4], h5, h6⟩
 · cases hc
section
variable {L : Loc} {S : Ns} {h : H} {w : World}
theorem rowCell_den (hr : Rel L S h w) {n : Nm} {o : Nat} {v : V} (hv : rowCell (H.get n h) o = v) (hx : v ≠ .x) : w.cell? ⟨L.b n, o, none⟩ = some (val L v) ∧ L.b n < w.heap.size := by
 have hn : H.get n h ≠ .no := fun e => by rw [e] at hv; exact hx hv.symm
 obtain ⟨_, ob, h1, h2⟩ := hr.blk n hn
 refine ⟨?_, lt_size h1⟩
 cases hb : H.get n h with
 | row el sz N op fz cs =>
   rw [hb] at hv h2
   cases op with
   | true => exact absurd hv.symm hx
   | false =>
     have key : rowCell (.row el sz N false fz cs) o = if lt o N = true then atC cs o else .x := by
      show (Bool.rec (motive := fun _ => V) .x (atC cs o) (lt o N)) = _
      cases lt o N <;> rfl
     rw [key] at hv
     have hlt : lt o N = true := by
      cases hq : lt o N with
      | true => rfl
      | false => rw [hq] at hv; exact absurd hv.symm hx
     rw [if_pos hlt] at hv
     have hat : atC cs o = v := hv
     have ho : o < N := (lt_iff _ _).1 hlt
     cases ob with
     | cells arr el' fr =>
       obtain ⟨_, hwf, _, h3⟩ := h2
       have h3 : arr.toList = fit N (lcv L cs) := h3
       have h4 := ((atC_spec L S cs).2 hwf o).1
       have h5 : arr[o]? = some (val L v) := by
        rw [← Array.getElem?_toList, h3, fit_getElem ho, h4, hat]
       unfold World.cell?
       rw [h1]
       exact h5
     | _ => exact h2.elim
 | _ => rw [hb] at hv; exact absurd hv.symm hx
theorem Rel.below {w' : World} (hr : Rel L S h w) (hb : Below w.heap.size w w') : Rel L S h w' :=
 ⟨fun n hn => by
  obtain ⟨h1, o, h2, h3⟩ := hr.blk n hn
  exact ⟨h1, o, by rw [hb.block _ (lt_size h2)]; exact h2, h3⟩, hr.inj⟩
end
def SmAt (B T : Nat) (w : World) (cs : List Value) : Prop := cs.length = 41 ∧ T ≤ w.heap.size ∧ ∃ L S h c y, rS = .ret y h c ∧ .agg cs.toArray = val L y ∧ (wf S y).v ∧ Rel L S h w ∧ Bd S c ∧ GOk Tryz.prog L S ∧ ∀ n, H.get n h ≠ .no → isRo (H.get n h) = false → B ≤ L.b n ∧ L.b n < T
theorem SmAt.below {B T : Nat} {w w' : World} {cs : List Value} (h : SmAt B T w cs) (hb : Below w.heap.size w w') : SmAt B T w' cs := by
 obtain ⟨h0, ht, L, S, h, c, y, h1, h2, h3, h4, h5⟩ := h
 exact ⟨h0, Nat.le_trans ht hb.size, L, S, h, c, y, h1, h2, h3, h4.below hb, h5⟩
theorem rS_ret : onRet false (fun v _ _ => is41 v) rS = true := by kernel_rfl
theorem is41_agg {v : V} (h : is41 v = true) (L : Loc) : ∃ cs : List Value, cs.length = 41 ∧ val L v = .agg cs.toArray := by
 cases v with
 | agg w cs =>
   have hw : w = 41 := by have : Nat.beq w 41 = true := h; rwa [Nat.beq_eq] at this
   subst hw
   exact ⟨fit 41 (lcv L cs), fit_length _ _, rfl⟩
 | _ => cases h
theorem small_any (w : World) (h1 : Glob w) (h2 : Sizes w) : Calls Tryz.prog 12 #[.slice none 0 0] w fun e w' => ∃ cs : List Value, e = .returned (.agg cs.toArray) ∧ SmAt w.heap.size w'.heap.size w' cs ∧ Below w.heap.size w w' := by
 obtain ⟨cd, hb⟩ := Option.isSome_iff_exists.1 (show Tryz.f12.body.isSome = true by kernel_rfl)
 obtain ⟨r1, r2⟩ := rel_mem (memG_is h1 h2)
 cases hc : rS with
 | ret v h' c' =>
   have hgl : Tryz.prog.globals.size < c0.toNat := by rw [globs]; decide
   refine (callsIn_of_eval (args := .cons .ns .nil) namesOk OR_ok Tryz.func12 hb r1 (bd0 hgl) gok0 (show (wf _ (.cons .ns .nil)).s from ⟨trivial, trivial⟩) hc).mono ?_
   rintro e w' ⟨L', S', h3, h4, h5⟩
   have hq := rS_ret
   rw [hc] at hq
   obtain ⟨cs, hcs, hv⟩ := is41_agg hq L'
   refine ⟨cs, by rw [h3, hv], ⟨hcs, Nat.le_refl _, L', S', h', c', v, hc, hv.symm, h4, h5.rel, h5.bd, ?_, ?_⟩, h5.below r2⟩
   · intro g hg
     refine ⟨h5.sub _ (gok0 g hg).1, ?_⟩
     rw [(h5.agr _ (gok0 (P := Tryz.prog) g hg).1).1]
     exact (gok0 (P := Tryz.prog) g hg).2
   · intro n hn hro
     refine ⟨?_, h5.rel.lt hn⟩
     rcases h5.dom n hn with ⟨m, hm, he⟩ | hge
     · have hro2 := r2 m hm
       have hm2 := h5.roH m hro2
       have hmn : H.get m h' ≠ .no := by rw [hm2]; exact hm
       have heq : L'.b n = L'.b m := by rw [he, (h5.agr m (h5.relb m hm)).1]
       have : n = m := h5.rel.inj n m hn hmn heq
       rw [this, hm2, hro2] at hro
       cases hro
     · exact hge
 | bad _ => have := rS_ret; rw [hc] at this; cases this
 | panic _ _ _ => have := rS_ret; rw [hc] at this; cases this
theorem rB_chk : chkB 140 rB = true := by kernel_rfl
theorem begin_small {B T : Nat} {w : World} {cs : List Value} (hs : SmAt B T w cs) : Calls Tryz.prog 17 #[.agg cs.toArray] w fun e w' => (∃ m n : Nat, e = .returned (.tuple #[.pointer (some ⟨m, 0, none⟩), .int .i64 0]) ∧
 (w'.cell? ⟨m, 0, none⟩ = some (.pointer (some ⟨n, 0, none⟩)) ∧ m < w'.heap.size) ∧ (w'.cell? ⟨n, 140, none⟩ = some (.int .i64 0) ∧ n < w'.heap.size)) ∧ Below (min B w.heap.size) w w' ∧ ∀ k, T ≤ k → k < w.heap.size → w'.heap[k]? = w.heap[k]? := by
 obtain ⟨_, _, L, S, h, c, y, e1, e2, e3, e4, e5, e6, e7⟩ := hs
 rw [e2]
 obtain ⟨cd, hb⟩ := Option.isSome_iff_exists.1 (show Tryz.f17.body.isSome = true by kernel_rfl)
 obtain ⟨m, n, h', c', q1, q2, q3⟩ := chkB_inv rB_chk
 have q0 : rB = callN Tryz.prog OR 3000 60 (.f (.func 17) .nil .nil) (.cons y .nil) h c := by unfold rB; rw [e1, onRet_ret]
 rw [q0] at q1
 refine (callsIn_of_eval (args := .cons y .nil) namesOk OR_ok Tryz.func17 hb e4 e5 e6 (show (wf S (.cons y .nil)).s from ⟨e3, trivial⟩) q1).mono ?_
 rintro e w' ⟨L', S', h3, h4, h5⟩
 have t1 := rowCell_den h5.rel q2 (by intro hh; cases hh)
 have t2 := rowCell_den h5.rel q3 (by intro hh; cases hh)
 refine ⟨⟨L'.b m, L'.b n, h3, t1, t2⟩, ?_, fun k hk hk2 => ?_⟩
 rotate_left
 · have ho : w.heap[k]? = some w.heap[k] := Array.getElem?_eq_getElem hk2
   rw [ho]
   exact h5.kept k _ ho fun n hn hro he => by have := (e7 n hn hro).2; omega
 exact {
  os := h5.out.os
  tape := h5.out.tape
  output := h5.out.output
  size := h5.size
  block := fun k hk => by
   have hk2 : k < w.heap.size := Nat.lt_of_lt_of_le hk (Nat.min_le_right _ _)
   have hk3 : k < B := Nat.lt_of_lt_of_le hk (Nat.min_le_left _ _)
   have ho : w.heap[k]? = some w.heap[k] := Array.getElem?_eq_getElem hk2
   rw [ho]
   exact h5.kept k _ ho fun n hn hro he => by have := (e7 n hn hro).1; omega }
theorem zR_val : (lsv L0 (.cons zR (.cons zR .nil))).toArray = #[.agg resC.toArray, .agg resC.toArray] := by kernel_rfl
theorem same_run : onRet false (fun v _ _ => sameV (.i 3 1) v) (callN Tryz.prog OR 3000 60 (.f (.func 9) .nil .nil) (.cons zR (.cons zR .nil)) h0 c0) = true := by kernel_rfl
theorem zR_wf (S : Ns) : (wf S (.cons zR (.cons zR .nil))).s := (wfb_wf (c := S) _).2.2.2 (by kernel_rfl)
theorem same_zero (w : World) (h1 : Glob w) (h2 : Sizes w) : Calls Tryz.prog 9 #[.agg resC.toArray, .agg resC.toArray] w fun e w' => e = .returned (.int .i64 1) ∧ Below w.heap.size w w' := by
 obtain ⟨cd, hb⟩ := Option.isSome_iff_exists.1 (show Tryz.f9.body.isSome = true by kernel_rfl)
 obtain ⟨r1, r2⟩ := rel_mem (memG_is h1 h2)
 rw [← zR_val]
 cases hc : callN Tryz.prog OR 3000 60 (.f (.func 9) .nil .nil) (.cons zR (.cons zR .nil)) h0 c0 with
 | ret v h' c' =>
   have hq := same_run
   rw [hc] at hq
   have hv : V.i 3 1 = v := sameV_eq _ _ hq
   subst hv
   exact (calls_of_eval namesOk OR_ok Tryz.func9 hb r1 (by rw [globs]; decide) r2 (zR_wf _) hc).mono fun e w' ⟨⟨L', S', h3, _⟩, h4⟩ => ⟨h3, h4⟩
 | bad _ => have := same_run; rw [hc] at this; cases this
 | panic _ _ _ => have := same_run; rw [hc] at this; cases this
end Go.Ev
