/- The row of MutantsKnown: what a call of it does. -/
import Derived.Test.YtbkpgmlibiclfaaGreatDoorRows
import Derived.Test.YtbkpgmlibiclfaaGreatDoorTie
import Derived.Test.YtbkpgmlibiclfaaGreatDoorCards
import Derived.Test.YtbkpgmlibiclfaaGreatDoorMkz
import Derived.ProofKit
import Derived.Deep.Slices
import Derived.SizedLaws
import Derived.LaidMore
import Derived.Lib.LaidTab
import Derived.Stop.LaidErr
import Derived.OpenShut
import Derived.Stop.Joined
import Derived.SevenTiedAt
set_option maxRecDepth 4000

namespace Go.Proofs.YtbkpgmlibiclfaaGreatDoor
open Go.ChangeShapes Go.WideShapes Go.ChangeAt Go.RowKit Go.Deep
theorem ownK : ownKnob Tryz.prog.godebug = none := by kernel_rfl
theorem laidOutK : laidOutB Tryz.prog = true := by kernel_rfl
section
variable {H : Type} {enc : TypeId × Value → H} {P : Program}
theorem trodAll_stays (hl : laidOutB P = true) {W W' : World} {sp : Nat → Bool} : ∀ {ts : List TypeId} {vs : List Value} {ds : List (DataW H)} {ps : List MemPlace}, (ts.all fun t => P.readableRec t && decide (t < P.types.size)) = true →
 DataW.TrodAll enc P W 0 (fun _ => true) true ts vs ds ps → (∀ x ∈ ps, W.sameAt W' x) → (∀ x ∈ ps, sp x.block = true) → DataW.TrodAll enc P W' 0 sp true ts vs ds ps := by
 intro ts
 induction ts with
 | nil =>
   intro vs ds ps _ h _ _
   cases vs <;> cases ds <;> first | exact h | exact h.elim
 | cons t ts ih =>
   intro vs ds ps ht h hs hsp
   match vs, ds, h with
   | v :: vs, d :: ds, ⟨p, q, h1, h2, e⟩ =>
     simp only [List.all_cons, Bool.and_eq_true, decide_eq_true_eq] at ht
     exact ⟨p, q, WideElems.Trod_stays hl ht.1.1 ht.1.2 h1 (fun x hx => hs x (by rw [e]; simp [hx])) (fun x hx => hsp x (by rw [e]; simp [hx])),
      ih ht.2 h2 (fun x hx => hs x (by rw [e]; simp [hx])) (fun x hx => hsp x (by rw [e]; simp [hx])), e⟩
theorem law_post (hl : laidOutB P = true) {f : Func} {s : ChangeSpec} {W W' : World} {args : Array Value} {ds gs : List (DataW H)} {before : List MemPlace} {tb : TypeId}
 (hsv : s.vars = []) (hfn : s.fn H (ds ++ gs) = { results := [.lit (.bool true)], args := ds }) (hr : f.resultTypes = #[tb]) (hbt : P.underlying tb = some .bool)
 (hpar : (f.params.toList.all fun t => P.readableRec t && decide (t < P.types.size)) = true)
 (hW : DataW.Whole enc P f.params.toList s.vars false W args.toList ds gs before) (hb : Below W.heap.size W W') :
 s.post enc P f false true false false W args (.bool true) W' := by
 have hlt : ∀ p ∈ before, p.block < W.heap.size := fun p hp => hW.lt p hp
 have hold : ∀ p ∈ before, (fun b => decide (b < W.heap.size)) p.block = true := fun p hp => by simpa using hlt p hp
 have hW0 := hW
 obtain ⟨p, q, hA, hV, hpq, hz, hn⟩ := hW0
 rw [hsv] at hV
 obtain ⟨_, hq⟩ := trodVars_none hV
 have hpb : before = p := by rw [hpq, hq, List.append_nil]
 have hargs : ∀ sp : Nat → Bool, (∀ x ∈ before, sp x.block = true) → DataW.TrodAll enc P W' 0 sp true f.params.toList args.toList (s.fn H (ds ++ gs)).args p := fun sp hsp => by
  rw [hfn]
  exact trodAll_stays hl hpar hA (fun x hx => hb.same (hlt x (by rw [hpb]; exact hx))) (fun x hx => hsp x (by rw [hpb]; exact hx))
 have hvars : ∀ sp : Nat → Bool, DataW.TrodVars enc P W' sp s.vars (s.fn H (ds ++ gs)).vars [] := fun sp => by rw [hsv, hfn]; rfl
 have hres : ∀ (b : Nat) (sp : Nat → Bool) (hd : Bool), DataW.TrodAll enc P W' b sp hd f.resultTypes.toList ((Value.bool true).resultList f.resultTypes.size) (s.fn H (ds ++ gs)).results [] := fun b sp hd => by
  rw [hfn, hr]
  exact trodAll_mk1 (shut_bool hbt true)
 have hok : ∀ (j : Nat) (t : TypeId) (r : Value), f.resultTypes[j]? = some t → ((Value.bool true).resultList f.resultTypes.size)[j]? = some r → Value.okWide P W' .any 0 t r := ok_one hr rfl (okWide_bool_mk hbt true)
 refine ⟨ds, gs, before, [], p, [], hW, hres _ _ _, hargs _ hold, hvars _, World.keptBut_mono (fun x hx => ⟨hx, ?_⟩) (hb.frame (· ∈ before)), fun _ => ?_⟩
 · rw [hpb] at hx; exact Or.inr (Or.inl hx)
 · refine ⟨hok, _, _, ([] ++ p) ++ [], ⟨[] ++ p, [], trodAll_append (hargs _ (fun _ _ => rfl)) (hres _ _ _), hvars _, rfl, ?_, ?_⟩, ?_⟩
   · intro b off hp
     have hin : MemPlace.cell b off ∈ before := by rw [hpb]; simpa using hp
     rw [hb.frozen (hlt _ hin)]
     exact hz b off hin
   · intro ha; cases ha
   · intro x hx _
     rw [hpb]
     simpa using hx
end
theorem trodAll_zero {H : Type} {enc : TypeId × Value → H} {P : Program} {W : World} {base : Nat} {spare : Nat → Bool} {held : Bool} {args : Array Value} {ds : List (DataW H)} {p : List MemPlace}
 (h : DataW.TrodAll enc P W base spare held [] args.toList ds p) : args = #[] ∧ ds = [] ∧ p = [] := by
 obtain ⟨l⟩ := args
 cases l <;> cases ds <;> first | exact ⟨rfl, rfl, h⟩ | exact h.elim
def laid39 : List (String × DataW Unit) := [("caisson/digests.initial", Rows.laid_caisson_digests_initial), ("caisson/digests.constants", Rows.laid_caisson_digests_constants), ("caisson/nodes.sizes", Rows.laid_caisson_nodes_sizes)]
theorem laid_iv : Rows.laid_caisson_digests_initial (H := Unit) = Lib.tabData .u32 (iv0.list.map wv) := by kernel_rfl
theorem laid_kw : Rows.laid_caisson_digests_constants (H := Unit) = Lib.tabData .u32 (kWords.map wv) := by kernel_rfl
theorem laid_sz : Rows.laid_caisson_nodes_sizes (H := Unit) = Lib.tabData .i64 [45, 33] := by kernel_rfl
theorem tab_heap {w : World} {name : String} {g : Nat} {l : List W} (hg : Tryz.prog.globalNamed name = some g) (h : Lib.TabIs Tryz.prog w name .u32 (l.map wv)) : ∃ t fr, w.heap[g]? = some (.cells (cells32 l).toArray t fr) := by
 have e : ((l.map wv).map fun z => Value.int .u32 z) = cells32 l := by rw [List.map_map]; rfl
 unfold Lib.TabIs at h
 rw [e] at h
 unfold World.var? at h
 rw [hg] at h
 simp only [Option.bind_some] at h
 cases hq : w.heap[g]? with
 | none => rw [hq] at h; simp at h
 | some o =>
   cases o with
   | cells cs t fr => rw [hq] at h; simp at h; exact ⟨t, fr, by rw [h]⟩
   | _ => rw [hq] at h; simp at h
theorem sizes_heap {w : World} {name : String} {g : Nat} (hg : Tryz.prog.globalNamed name = some g) (h : Lib.TabIs Tryz.prog w name .i64 [45, 33]) : ∃ t fr, w.heap[g]? = some (.cells #[.int .i64 45, .int .i64 33] t fr) := by
 unfold Lib.TabIs at h
 unfold World.var? at h
 rw [hg] at h
 simp only [Option.bind_some] at h
 cases hq : w.heap[g]? with
 | none => rw [hq] at h; simp at h
 | some o =>
   cases o with
   | cells cs t fr => rw [hq] at h; simp at h; exact ⟨t, fr, by rw [h]⟩
   | _ => rw [hq] at h; simp at h
theorem glob_of_laid {W : World} (h : laidMetH Tryz.prog laid39 W) : Glob W ∧ Ev.Sizes W := by
 rw [MakeChecks.laidMetH_plain _ _ _ (by kernel_rfl)] at h
 unfold laid39 at h
 rw [laid_iv, laid_kw, laid_sz] at h
 have h1 := Lib.tabIs_of_head (g := 1) (t := 336) (e := 101) (n := 8) (by kernel_rfl) (by kernel_rfl) (by kernel_rfl) (by kernel_rfl) (by kernel_rfl) (by kernel_rfl) h
 have h2 := Lib.tabIs_of_head (g := 2) (t := 449) (e := 101) (n := 64) (by kernel_rfl) (by kernel_rfl) (by kernel_rfl) (by kernel_rfl) (by kernel_rfl) (by kernel_rfl) (laidMet.tail h)
 have h3 := Lib.tabIs_of_head (g := 0) (t := 370) (e := 3) (n := 2) (by kernel_rfl) (by kernel_rfl) (by kernel_rfl) (by kernel_rfl) (by kernel_rfl) (by kernel_rfl) (laidMet.tail (laidMet.tail h))
 exact ⟨⟨tab_heap (by kernel_rfl) h2, tab_heap (by kernel_rfl) h1⟩, sizes_heap (by kernel_rfl) h3⟩
theorem door_met (os : Os) (args : Array Value) : laidMetH Tryz.prog laid39 ((World.doorLaid Tryz.prog 19 os).forCall (fun _ _ => 0) ⟨#[], args, []⟩).memory :=
 laidMetH_of_parts3 (fuel := 8) (laidMet_of_run' 8 (by kernel_rfl) (by kernel_rfl)) (by kernel_rfl) (by kernel_rfl)
set_option maxRecDepth 100000 in
theorem mutantsKnown_lifted (os : Os) (started : os.Started) (H : Type) (enc : TypeId × Value → H) :
 ReturnsInHanded {} Tryz.checked os 3 .any (fun w args => (Rows.mutantsKnownSpec.pre enc Tryz.prog Tryz.f3 [] false w args ∧ laidMetH Tryz.prog laid39 w) ∧ sizedMet enc Tryz.prog Tryz.f3 (OpenSpec.ofChange Rows.mutantsKnownSpec) false w args)
  (Rows.mutantsKnownSpec.post enc Tryz.prog Tryz.f3 false true false false) := by
 refine returnsInHanded_of_change_and (C := Tryz.checked) (X := fun w _ => laidMetH Tryz.prog laid39 w) (fun _ _ _ hh h => h.of_heap hh) ownK started (by kernel_rfl) Tryz.func3
  (ChangeSpec.witness_shaped (enc := enc) (C := Tryz.checked) (os := os) (X := fun w _ => laidMetH Tryz.prog laid39 w) false (World.doorLaid Tryz.prog 19 os) #[] 8 rfl (World.shaped_of_RefB (by kernel_rfl) (by kernel_rfl)) (by kernel_rfl) (by kernel_rfl) (by kernel_rfl) (door_met os _)) ?_
 intro W base args ds gs before hval0 hW _ _ hL _
 have hW' := hW
 obtain ⟨p, q, hA0, hV, rfl, hfz, hnd⟩ := hW
 have hA : DataW.TrodAll enc Tryz.prog W 0 (fun _ => true) true Tryz.f3.params.toList args.toList ds p := hA0
 rw [Tryz.params3] at hA
 obtain ⟨rfl, rfl, rfl⟩ := trodAll_zero hA
 obtain ⟨rfl, rfl⟩ := trodVars_none hV
 obtain ⟨hG, hS⟩ := glob_of_laid hL
 refine (Ev.mutantsKnown_law W hG hS).mono fun e W' ⟨he, hb⟩ => ?_
 subst he
 exact ⟨_, rfl, law_post laidOutK rfl rfl (tb := 4) (by kernel_rfl) Tryz.underlying4 (by kernel_rfl) hW' hb⟩
end Go.Proofs.YtbkpgmlibiclfaaGreatDoor
