/- The oracles that closed laws are reckoned with. -/
import Derived.Test.YtmjbpmdbhbjndaaGreatDoorE6
import Derived.Test.YtmjbpmdbhbjndaaGreatDoorE8
import Derived.Test.YtmjbpmdbhbjndaaGreatDoorE9
import Derived.Test.YtmjbpmdbhbjndaaGreatDoorE7
import Derived.Lib.UnsafeStr
import Derived.Lib.Builder
import Derived.Laws.Externs
import Derived.Test.YtmjbpmdbhbjndaaGreatDoorIns
import Derived.ScopeJumps
set_option maxRecDepth 4000

namespace Go.Ev
open Go.Proofs
theorem noO_ok : ∀ f g, noO f = some g → OrcOk Tryz.prog f g := fun f g h => by cases h
theorem cG_ok : Tryz.prog.globals.size < cG.toNat := by rw [globs]; decide
theorem sub_parts : ∀ i, i < 256 → ∃ a m, a ≤ i ∧ i < a + m ∧ tabRun Tryz.prog noO 3000 60 364 subT a m = true := by
 intro i hi
 by_cases h0 : i < 16
 · exact ⟨0, 16, by omega, by omega, sub_0⟩
 by_cases h16 : i < 32
 · exact ⟨16, 16, by omega, by omega, sub_16⟩
 by_cases h32 : i < 48
 · exact ⟨32, 16, by omega, by omega, sub_32⟩
 by_cases h48 : i < 64
 · exact ⟨48, 16, by omega, by omega, sub_48⟩
 by_cases h64 : i < 80
 · exact ⟨64, 16, by omega, by omega, sub_64⟩
 by_cases h80 : i < 96
 · exact ⟨80, 16, by omega, by omega, sub_80⟩
 by_cases h96 : i < 112
 · exact ⟨96, 16, by omega, by omega, sub_96⟩
 by_cases h112 : i < 128
 · exact ⟨112, 16, by omega, by omega, sub_112⟩
 by_cases h128 : i < 144
 · exact ⟨128, 16, by omega, by omega, sub_128⟩
 by_cases h144 : i < 160
 · exact ⟨144, 16, by omega, by omega, sub_144⟩
 by_cases h160 : i < 176
 · exact ⟨160, 16, by omega, by omega, sub_160⟩
 by_cases h176 : i < 192
 · exact ⟨176, 16, by omega, by omega, sub_176⟩
 by_cases h192 : i < 208
 · exact ⟨192, 16, by omega, by omega, sub_192⟩
 by_cases h208 : i < 224
 · exact ⟨208, 16, by omega, by omega, sub_208⟩
 by_cases h224 : i < 240
 · exact ⟨224, 16, by omega, by omega, sub_224⟩
 by_cases h240 : i < 256
 · exact ⟨240, 16, by omega, by omega, sub_240⟩
 omega
theorem mul1_parts : ∀ i, i < 256 → ∃ a m, a ≤ i ∧ i < a + m ∧ tab2Run Tryz.prog noO 3000 60 376 1 mul1T a m = true := by
 intro i hi
 by_cases h0 : i < 64
 · exact ⟨0, 64, by omega, by omega, mul1_0⟩
 by_cases h64 : i < 128
 · exact ⟨64, 64, by omega, by omega, mul1_64⟩
 by_cases h128 : i < 192
 · exact ⟨128, 64, by omega, by omega, mul1_128⟩
 by_cases h192 : i < 256
 · exact ⟨192, 64, by omega, by omega, mul1_192⟩
 omega
theorem mul2_parts : ∀ i, i < 256 → ∃ a m, a ≤ i ∧ i < a + m ∧ tab2Run Tryz.prog noO 3000 60 376 2 mul2T a m = true := by
 intro i hi
 by_cases h0 : i < 64
 · exact ⟨0, 64, by omega, by omega, mul2_0⟩
 by_cases h64 : i < 128
 · exact ⟨64, 64, by omega, by omega, mul2_64⟩
 by_cases h128 : i < 192
 · exact ⟨128, 64, by omega, by omega, mul2_128⟩
 by_cases h192 : i < 256
 · exact ⟨192, 64, by omega, by omega, mul2_192⟩
 omega
theorem mul3_parts : ∀ i, i < 256 → ∃ a m, a ≤ i ∧ i < a + m ∧ tab2Run Tryz.prog noO 3000 60 376 3 mul3T a m = true := by
 intro i hi
 by_cases h0 : i < 64
 · exact ⟨0, 64, by omega, by omega, mul3_0⟩
 by_cases h64 : i < 128
 · exact ⟨64, 64, by omega, by omega, mul3_64⟩
 by_cases h128 : i < 192
 · exact ⟨128, 64, by omega, by omega, mul3_128⟩
 by_cases h192 : i < 256
 · exact ⟨192, 64, by omega, by omega, mul3_192⟩
 omega
theorem subT_ok : OrcOk Tryz.prog 364 (orcTab subT) := by
 have b : ∃ cd, Tryz.f364.body = some cd := Option.isSome_iff_exists.1 (by kernel_rfl)
 obtain ⟨_, b⟩ := b
 exact orcTab_ok (lf := 3000) (n := 60) namesOk noO_ok Tryz.func364 b cG_ok subT sub_parts
theorem mulTs_ok : OrcOk Tryz.prog 376 (orcTab2 mulTs) := by
 have b : ∃ cd, Tryz.f376.body = some cd := Option.isSome_iff_exists.1 (by kernel_rfl)
 obtain ⟨_, b⟩ := b
 refine orcTab2_ok (lf := 3000) (n := 60) namesOk noO_ok Tryz.func376 b cG_ok mulTs fun p hp => ?_
 simp only [mulTs, List.mem_cons, List.not_mem_nil, or_false] at hp
 rcases hp with rfl | rfl | rfl
 · exact mul2_parts
 · exact mul3_parts
 · exact mul1_parts
theorem powTs_ok : OrcOk Tryz.prog 365 (orcPure powTs) := by
 have b : ∃ cd, Tryz.f365.body = some cd := Option.isSome_iff_exists.1 (by kernel_rfl)
 obtain ⟨_, b⟩ := b
 refine orcPure_ok (lf := 3000) (n := 60) namesOk noO_ok Tryz.func365 b cG_ok powTs fun p hp => ?_
 have hr := List.all_eq_true.1 pow_run p hp
 refine ⟨?_, ?_, hr⟩
 · simp only [powTs, List.mem_cons, List.not_mem_nil, or_false] at hp
   rcases hp with rfl | rfl | rfl | rfl | rfl | rfl | rfl | rfl | rfl | rfl <;> exact fun S => ⟨⟨by decide, by decide⟩, ⟨by decide, by decide⟩, trivial⟩
 · simp only [powTs, List.mem_cons, List.not_mem_nil, or_false] at hp
   rcases hp with rfl | rfl | rfl | rfl | rfl | rfl | rfl | rfl | rfl | rfl <;> exact closed_i 4 _ ⟨by decide, by decide⟩
noncomputable def orcsA : List (Nat × (Cal → V → H → Nm → C)) := (364, orcTab subT) :: (376, orcTab2 mulTs) :: (365, orcPure powTs) :: orcs
theorem orcsA_ok : ∀ p ∈ orcsA, OrcOk Tryz.prog p.1 p.2 := fun p hp => by
 rcases List.mem_cons.1 hp with rfl | hp
 · exact subT_ok
 rcases List.mem_cons.1 hp with rfl | hp
 · exact mulTs_ok
 rcases List.mem_cons.1 hp with rfl | hp
 · exact powTs_ok
 exact orcs_ok p hp
theorem baseA_ok : ∀ f g, pick orcsA f = some g → OrcOk Tryz.prog f g := pick_ok orcsA_ok
noncomputable def partG : Part := memG.map fun m => (m.n, .row m.el m.sz m.N false m.N m.cs)
noncomputable def gsG : List Nm := [gn 0, gn 1, gn 2]
theorem gsG_ok : ∀ g, g < Tryz.prog.globals.size → gn g ∈ gsG := fun g h => by
 rw [globs] at h
 have : g = 0 ∨ g = 1 ∨ g = 2 := by omega
 rcases this with rfl | rfl | rfl <;> simp [gsG]
theorem mem3s_ok {O : Orc} (hO : ∀ f g, O f = some g → OrcOk Tryz.prog f g) {f : FuncId} {fn : Func} (hf : Tryz.prog.funcs[f]? = some fn) (hb : fn.body.isSome = true) (es : List Mem2) (hes : ∀ e ∈ es, mem2Run Tryz.prog O 3000 60 f e = true) : OrcOk Tryz.prog f (orcMem3 gsG es) := by
 obtain ⟨cd, hb⟩ := Option.isSome_iff_exists.1 hb
 exact orcMem3_ok namesOk hO hf hb gsG_ok es hes
end Go.Ev

namespace Go.Proofs.YtmjbpmdbhbjndaaGreatDoor
open Go.RowKit
set_option maxHeartbeats 1000000 in
set_option maxRecDepth 100000 in
theorem bld_string (b g cap _ : Nat) (l : List UInt8) (fr : Nat × Nat) (cur : Array Value) (w : World) (h1 : w.cell? ⟨b, 1, none⟩ = some (.slice (some ⟨g, 0, none⟩) l.length cap)) (hc : cap ≠ 0) (h0 : l ≠ []) (hle : l.length ≤ cur.size) (hbig : l.length ≤ 9223372036854775807)
 (hg : w.heap[g]? = some (.cells cur 5 fr)) (hcell : ∀ j x, l[j]? = some x → w.cell? ((⟨g, 0, none⟩ : Addr).add j) = some (.int .u8 x.toNat)) :
 Calls Tryz.prog 30 #[.pointer (some ⟨b, 0, none⟩)] w fun e w' => e = .returned (.string ⟨l.toArray⟩) ∧ w' = w.drew.freeze ⟨g, 0, none⟩ l.length := by
 have c1 : w.drew.cell? ⟨b, 1, none⟩ = some (.slice (some ⟨g, 0, none⟩) l.length cap) := h1
 have hSD : (Builtin.unsafeSliceData_ #[28] 207 #[.slice (some ⟨g, 0, none⟩) l.length cap]).run Tryz.prog w.drew = .ok (.pointer (some ⟨g, 0, none⟩)) w.drew :=
  Lib.run_unsafeSliceData_row _ _ _ _ _ _ hc
 have hUS : (Builtin.unsafeString_ #[207, 3] 9 #[.pointer (some ⟨g, 0, none⟩), .int .i64 l.length]).run Tryz.prog w.drew = .ok (.string ⟨l.toArray⟩) (w.drew.freeze ⟨g, 0, none⟩ l.length) := by
  refine Lib.run_unsafeString_row w.drew 207 3 9 5 Tryz.underlying207 (by kernel_rfl) g cur.size (by have hg' : w.drew.heap[g]? = some (.cells cur 5 fr) := hg; simp [World.shape?, hg']) l h0 hle hbig ?_
  intro j x hx
  exact hcell j x hx
 clear hcell hg h1 h0 hle
 go_enter Tryz.func30, Tryz.ntmps30
 go_wp2
 go_region
 all_goals (go_wp2; go_ret; exact ⟨rfl, rfl⟩)
set_option maxHeartbeats 1000000 in
set_option maxRecDepth 100000 in
theorem bld_used (b : Nat) (w : World) (h0 : w.cell? ⟨b, 0, none⟩ = some (.pointer (some ⟨b, 0, none⟩))) :
 Calls Tryz.prog 115 #[.pointer (some ⟨b, 0, none⟩)] w fun e w' => e = .returned (.tuple #[]) ∧ w' = w := by
 obtain ⟨j, hj⟩ : ∃ j, Tryz.prog.info? 106 = some j := Option.isSome_iff_exists.1 (by kernel_rfl)
 go_enter Tryz.func115, Tryz.ntmps115
 go_wp2
 rw [Lib.run_neq_ptr_same w _ Tryz.underlying104 hj]
 go_wp2
 go_end0
 exact ⟨rfl, rfl⟩
set_option maxHeartbeats 1000000 in
set_option maxRecDepth 100000 in
theorem bld_fresh (b : Nat) (w : World) (h0 : w.cell? ⟨b, 0, none⟩ = some (.pointer none)) (hsh : w.shape? b = some (108, 2)) (hfz : w.frozen? ⟨b, 0, none⟩ = false) :
 Calls Tryz.prog 115 #[.pointer (some ⟨b, 0, none⟩)] w fun e w' => e = .returned (.tuple #[]) ∧ w' = w.setCell ⟨b, 0, none⟩ (.pointer (some ⟨b, 0, none⟩)) := by
 obtain ⟨j, hj⟩ : ∃ j, Tryz.prog.info? 106 = some j := Option.isSome_iff_exists.1 (by kernel_rfl)
 have hjs : j.size = 2 := by
  have : (Tryz.prog.info? 106).map (·.size) = some 2 := by kernel_rfl
  rw [hj] at this
  exact Option.some.inj this
 have hlies : liesAt Tryz.prog Tryz.prog.depth 108 (2 / Tryz.prog.cellsOf 108) 0 106 1 = true := by kernel_rfl
 go_enter Tryz.func115, Tryz.ntmps115
 go_wp2
 rw [Lib.run_to_unsafe w ⟨b, 0, none⟩ Tryz.underlying104 Tryz.underlying310 hj (by rw [hjs]; decide) hsh (Nat.zero_lt_succ 1)]
 simp only [Result.andThen]
 rw [Oper.upon_value]
 go_wp2
 rw [run_callFunc_extern Tryz.func149 (by kernel_rfl) (by kernel_rfl) (by kernel_rfl) (e := Extern.AbiNoEscape.same) (by kernel_rfl)]
 rw [Lib.run_noEscape]
 simp only [Result.andThen]
 rw [Oper.upon_value]
 go_wp2
 rw [Lib.run_from_unsafe w ⟨b, 0, none⟩ Tryz.underlying310 Tryz.underlying104 hj hsh hlies]
 simp only [Result.andThen]
 rw [Oper.upon_value]
 go_wp2
 go_end0
 exact ⟨rfl, rfl⟩
end Go.Proofs.YtmjbpmdbhbjndaaGreatDoor

namespace Go.Ev
open Go.RowKit
open Go.Proofs
open Go.Proofs.YtmjbpmdbhbjndaaGreatDoor (bld_string bld_used bld_fresh)
section
variable {L : Loc} {S : Ns} {h : H} {c : Nm} {w w' : World}
theorem Stp.drop (hr : Rel L S h w) (hb : Bd S c) {n : Nm} (hn : H.get n h ≠ .no) (hro : isRo (H.get n h) = false) (hw2 : ∀ r, r ≠ L.b n → w'.heap[r]? = w.heap[r]?) (hw3 : w'.heap.size = w.heap.size) (hout : WOut w w') : Stp L S h c w L S (H.set n .no h) c w' := by
 have hg : ∀ m, H.get m (H.set n .no h) ≠ .no → m ≠ n ∧ H.get m (H.set n .no h) = H.get m h := fun m hm => by
  rw [hget_set] at hm ⊢
  by_cases hnm : m = n
  · rw [if_pos hnm] at hm; exact absurd rfl hm
  · rw [if_neg hnm]; exact ⟨hnm, rfl⟩
 exact {
  sub := fun _ hm => hm
  new := fun _ hm => .inl hm
  agr := Agr.refl S L
  cle := Nat.le_refl _
  bd := hb
  relb := fun n hn => (hr.blk n hn).1
  rel := ⟨fun m hm => by
      obtain ⟨h1, h2⟩ := hg m hm
      rw [h2] at hm ⊢
      obtain ⟨h3, o, h4, h5⟩ := hr.blk m hm
      exact ⟨h3, o, by rw [hw2 _ fun e => h1 (hr.inj m n hm hn e)]; exact h4, h5⟩,
   fun m q hm hq e => hr.inj m q (by rw [← (hg m hm).2]; exact hm) (by rw [← (hg q hq).2]; exact hq) e⟩
  size := by omega
  kept := fun r o' ho' hr' => by rw [hw2 r fun e => hr' n hn hro e.symm, ho']
  roH := fun m hm => by
   have : m ≠ n := fun e => by rw [e, hro] at hm; cases hm
   rw [hget_set, if_neg this]
  out := hout
  dom := fun m hm => by
   obtain ⟨h1, h2⟩ := hg m hm
   rw [h2] at hm
   exact .inl ⟨m, hm, rfl⟩ }
end
noncomputable section
def argP (y : V) (q : Nm → Nat → C) : C := arg1C y (fun v => v_p (α := C) (.bad 960) (fun a o => q a o) v)
def orcCopy : Cal → V → H → Nm → C := fun _ y h c => argP y (fun x ox => asRowC (H.get x h) (fun el sz N op fz cs => Bool.rec (.bad 962)
 (v_p_np (α := C) (.bad 963) (fun a o => Bool.rec (.bad 964) (.ret (.tup .nil) h c) (Bool.and (Nm.beq a x) (Nat.beq o 0))) (.ret (.tup .nil) (H.set x (.row el sz N op fz (setC cs 0 1 (.p x 0))) h) c) (atC cs 0))
 (Bool.and (Nat.beq ox 0) (Bool.and (Nat.beq el 108) (Bool.and (Nat.beq N 2) (Bool.and (Bool.not op) (Nat.beq fz 0)))))))
def strC (v : V) (h : H) (c : Nm) : C := v_so (α := C) (.bad 965) (fun a o _ l => asRowC (H.get a h) (fun el sz N op fz cs => Bool.rec (.bad 966) (rToC (bytesN cs 0 l (fun n => Go.Ev.done (.s l n) (H.set a .no h) c)))
 (Bool.and (Nat.beq o 0) (Bool.and (Nat.beq el 5) (Bool.and (Nat.beq sz 1) (Bool.and op (Bool.and (Nat.beq fz 0) (Bool.and (Nat.ble 1 l) (Nat.ble l N))))))))) v
def orcStr : Cal → V → H → Nm → C := fun _ y h c => argP y (fun x ox => asRowC (H.get x h) (fun _ _ N op _ cs => Bool.rec (.bad 967) (strC (atC cs 1) h c) (Bool.and (Nat.beq ox 0) (Bool.and (Nat.beq N 2) (Bool.not op)))))
end
section
variable {L : Loc} {S : Ns} {h : H} {c : Nm} {w w' : World}
theorem argP_good {y : V} {q : Nm → Nat → C} (hg : CGood (argP y q)) : ∃ a o, y = .cons (.p a o) .nil ∧ argP y q = q a o := by
 obtain ⟨v, rfl, e1⟩ := arg1C_good hg
 have e1' : argP (.cons v .nil) q = _ := e1
 rw [e1'] at hg ⊢
 cases v <;> first | exact absurd rfl (hg 960) | exact ⟨_, _, rfl, rfl⟩
theorem orcCopy_ok {cd : Code} (hb : Tryz.f115.body = some cd) : OrcOk Tryz.prog 115 orcCopy := by
 intro cal args h c L S w _ hr hbd hgok ha hg
 obtain ⟨x, ox, rfl, e1⟩ := argP_good hg
 have e1' : orcCopy cal (.cons (.p x ox) .nil) h c = _ := e1
 rw [e1'] at hg ⊢
 obtain ⟨el, sz, N, op, fz, cs, hn, e2⟩ := asRowC_good hg
 rw [e2] at hg ⊢
 obtain ⟨hz, e3⟩ := crec_good (z := _) hg
 rw [e3] at hg ⊢
 obtain ⟨z1, z2⟩ := boolAnd2 hz; obtain ⟨z2, z3⟩ := boolAnd2 z2; obtain ⟨z3, z4⟩ := boolAnd2 z3; obtain ⟨z4, z5⟩ := boolAnd2 z4
 rw [Nat.beq_eq] at z1 z2 z3 z5
 rw [Bool.not_eq_true'] at z4
 subst z1 z2 z3 z4 z5
 obtain ⟨hS, ob, hob, hbr⟩ := hr.blk x (by rw [hn]; simp)
 rw [hn] at hbr
 obtain ⟨arr, fr, el2, rfl, hcs, hfr, htk, hN, harr, _⟩ := hbr.row
 have hsz : arr.size = 2 := harr rfl
 have hel : el2 = 108 := by
  rcases hbr.1 with h1 | ⟨h1, _⟩
  · exact h1
  · exact absurd h1 (by decide)
 subst hel
 have hcell : w.cell? ⟨L.b x, 0, none⟩ = some (val L (atC cs 0)) := by
  rw [cell_of_row w _ 0 arr _ fr hob, row_cell htk (by decide), ((atC_spec L S cs).2 hcs 0).1]
 refine orc_post namesOk Tryz.func115 hb ?_
 have hl : (lsv L (.cons (.p x 0) .nil)).toArray = #[.pointer (some ⟨L.b x, 0, none⟩)] := rfl
 rw [hl]
 cases hv : atC cs 0 with
 | np =>
   rw [hv] at hcell
   have hfz : w.frozen? ⟨L.b x, 0, none⟩ = false := by
    have := hfr.2 0 (by omega) (by omega)
    obtain ⟨f1, f2⟩ := fr
    simp only [World.frozen?, hob]
    rw [Bool.eq_false_iff]
    intro hh
    rw [Bool.and_eq_true, decide_eq_true_eq, decide_eq_true_eq] at hh
    exact this hh
   have hsh : w.shape? (L.b x) = some (108, 2) := by simp [World.shape?, hob, hsz]
   refine (bld_fresh (L.b x) w hcell hsh hfz).mono fun e w' ⟨he, hw⟩ => ?_
   subst hw
   have hy : (wf S (.p x 0)).k := hS
   have hheap := setCells_heap (L.b x) 108 fr [.pointer (some ⟨L.b x, 0, none⟩)] 0 w arr hob (by simp [hsz])
   have hlt := lt_size hob
   have hst : Stp L S h c w L S (H.set x (.row 108 sz 2 false 0 (setC cs 0 1 (.p x 0))) h) c (w.setCell ⟨L.b x, 0, none⟩ (.pointer (some ⟨L.b x, 0, none⟩))) := by
    refine Stp.put hr hbd (by rw [hn]; simp) (hbr.put (y := .p x 0) (of := 0) hy rfl (by decide) (by decide)) ?_ (fun r hne => ?_) ?_ (by rw [hn]; rfl) ⟨rfl, rfl, rfl⟩
    · show (w.setCells (L.b x) 0 [_]).heap[L.b x]? = _
      rw [hheap, Array.getElem?_setIfInBounds, if_pos rfl, if_pos hlt]; rfl
    · show (w.setCells (L.b x) 0 [.pointer (some ⟨L.b x, 0, none⟩)]).heap[r]? = _
      rw [hheap, Array.getElem?_setIfInBounds, if_neg (Ne.symm hne)]
    · show (w.setCells (L.b x) 0 [.pointer (some ⟨L.b x, 0, none⟩)]).heap.size = _
      rw [hheap]; simp
   exact ⟨L, S, he, trivial, hst⟩
 | p a o =>
   rw [hv] at hg hcell
   obtain ⟨hq, e4⟩ := crec_good (z := Bool.and (Nm.beq a x) (Nat.beq o 0)) hg
   obtain ⟨q1, q2⟩ := boolAnd2 hq
   rw [nm_beq] at q1
   rw [Nat.beq_eq] at q2
   subst q1 q2
   show Calls _ _ _ w (CPost L S h c w (Bool.rec (.bad 964) (.ret (.tup .nil) h c) (Bool.and (Nm.beq a a) (Nat.beq 0 0))))
   rw [e4]
   refine (bld_used (L.b a) w hcell).mono fun e w' ⟨he, hw⟩ => ?_
   subst hw
   exact ⟨L, S, he, trivial, Stp.refl hr hbd⟩
 | _ => rw [hv] at hg; exact absurd rfl (hg 963)
set_option maxHeartbeats 1000000 in
theorem orcStr_ok {cd : Code} (hb : Tryz.f30.body = some cd) : OrcOk Tryz.prog 30 orcStr := by
 intro cal args h c L S w _ hr hbd hgok ha hg
 obtain ⟨x, ox, rfl, e1⟩ := argP_good hg
 have e1' : orcStr cal (.cons (.p x ox) .nil) h c = _ := e1
 rw [e1'] at hg ⊢
 obtain ⟨el, sz, N, op, fz, cs, hn, e2⟩ := asRowC_good hg
 rw [e2] at hg ⊢
 obtain ⟨hz, e3⟩ := crec_good (z := _) hg
 rw [e3] at hg ⊢
 obtain ⟨z1, z2⟩ := boolAnd2 hz; obtain ⟨z2, z3⟩ := boolAnd2 z2
 rw [Nat.beq_eq] at z1 z2
 rw [Bool.not_eq_true'] at z3
 subst z1 z2 z3
 obtain ⟨hS, ob, hob, hbr⟩ := hr.blk x (by rw [hn]; simp)
 rw [hn] at hbr
 obtain ⟨arr, fr, el2, rfl, hcs, hfr, htk, hN, harr, _⟩ := hbr.row
 have hat := (atC_spec L S cs).2 hcs 1
 have hcell : w.cell? ⟨L.b x, 1, none⟩ = some (val L (atC cs 1)) := by
  rw [cell_of_row w _ 1 arr _ fr hob, row_cell htk (by decide), hat.1]
 refine orc_post namesOk Tryz.func30 hb ?_
 have hl : (lsv L (.cons (.p x 0) .nil)).toArray = #[.pointer (some ⟨L.b x, 0, none⟩)] := rfl
 rw [hl]
 cases hv : atC cs 1 with
 | so a o e l =>
   rw [hv] at hg hcell hat
   obtain ⟨el', sz', N', op', fz', cs', hn', e4⟩ := asRowC_good (b := H.get a h) hg
   have e4' : strC (.so a o e l) h c = _ := e4
   rw [e4'] at hg ⊢
   obtain ⟨hq, e5⟩ := crec_good (z := _) hg
   rw [e5] at hg ⊢
   obtain ⟨q1, q2⟩ := boolAnd2 hq; obtain ⟨q2, q3⟩ := boolAnd2 q2; obtain ⟨q3, q4⟩ := boolAnd2 q3; obtain ⟨q4, q5⟩ := boolAnd2 q4; obtain ⟨q5, q6⟩ := boolAnd2 q5; obtain ⟨q6, q7⟩ := boolAnd2 q6
   rw [Nat.beq_eq] at q1 q2 q3 q5
   rw [Nat.ble_eq] at q6 q7
   subst q1 q2 q3 q4 q5
   obtain ⟨hS', ob', hob', hbr'⟩ := hr.blk a (by rw [hn']; simp)
   rw [hn'] at hbr'
   obtain ⟨arr', fr', el2', rfl, hcs', hfr', htk', hN', _, hcap⟩ := hbr'.row
   have hel : el2' = 5 := by
    rcases hbr'.1 with h1 | ⟨h1, _⟩
    · exact h1
    · exact absurd h1 (by decide)
   subst hel
   obtain ⟨y, e6, hy, e7⟩ := (bytesN_spec L S cs').2 hcs' 0 l _ (rToC_good hg)
   rw [e6]
   have hr0 := row_range hob' htk' hN' (o := 0) (n := l) (by omega)
   have hlen : (((lcv L cs').drop 0).take l).length = l := by rw [e7, chv_bs]; simp [bytesL]
   rw [← fit_take, fit_self hlen, e7] at hr0
   have hbl : (bytesL l y).length = l := by simp [bytesL]
   have hmax : l ≤ maxLen := by have := (hcap rfl).2; omega
   have hcell' : ∀ j z, (bytesL l y)[j]? = some z → w.cell? ((⟨L.b a, 0, none⟩ : Addr).add j) = some (.int .u8 z.toNat) := fun j z hj => by
    rw [Addr.add_mid]
    refine hr0 j _ ?_
    rw [chv_bs, List.getElem?_map, hj]; rfl
   have hcall := bld_string (L.b x) (L.b a) (l + e + L.k a) N' (bytesL l y) fr' arr' w (by rw [hbl]; exact hcell) (by omega) (by intro h0; rw [h0] at hbl; simp at hbl; omega) (by rw [hbl]; omega) (by rw [hbl]; unfold maxLen at hmax; omega) hob' hcell'
   refine hcall.mono fun e w' ⟨he, hw⟩ => ?_
   subst hw
   have hl0 : ¬ (bytesL l y).length = 0 := by rw [hbl]; omega
   refine ⟨L, S, he, hy, Stp.drop hr hbd (by rw [hn']; simp) (by rw [hn']; rfl) (fun r hne => ?_) ?_ ?_⟩
   · unfold World.freeze
     rw [if_neg hl0]
     show (w.heap.modify (L.b a) _)[r]? = _
     rw [Array.getElem?_modify, if_neg (Ne.symm hne)]
   · unfold World.freeze
     rw [if_neg hl0]
     show (w.heap.modify (L.b a) _).size = _
     rw [Array.size_modify]
   · unfold World.freeze
     rw [if_neg hl0]
     exact ⟨rfl, rfl, rfl⟩
 | _ => rw [hv] at hg; exact absurd rfl (hg 965)
end
end Go.Ev

namespace Go.Ev
open Go.Proofs
noncomputable def orcsK : List (Nat × (Cal → V → H → Nm → C)) := (115, orcCopy) :: (30, orcStr) :: orcsA
theorem orcsK_ok : ∀ p ∈ orcsK, OrcOk Tryz.prog p.1 p.2 := fun p hp => by
 have b1 : ∃ cd, Tryz.f115.body = some cd := Option.isSome_iff_exists.1 (by kernel_rfl)
 have b2 : ∃ cd, Tryz.f30.body = some cd := Option.isSome_iff_exists.1 (by kernel_rfl)
 obtain ⟨_, b1⟩ := b1
 obtain ⟨_, b2⟩ := b2
 rcases List.mem_cons.1 hp with rfl | hp
 · exact orcCopy_ok b1
 rcases List.mem_cons.1 hp with rfl | hp
 · exact orcStr_ok b2
 exact orcsA_ok p hp
theorem baseK_ok : ∀ f g, pick orcsK f = some g → OrcOk Tryz.prog f g := pick_ok orcsK_ok
end Go.Ev

namespace Go.Ev
open Go.RowKit
open Go.Proofs
open Go.Proofs.YtmjbpmdbhbjndaaGreatDoor (H3 cells3 cells3_len cells3_take cells3_drop cells3_app insF InsOut insert_end insert_room insert_grow Row row_own own_row)
section
variable {L : Loc} {S : Ns} {h : H} {c : Nm} {w w' : World}
theorem Stp.moved (hr : Rel L S h w) (hb : Bd S c) {a : Nm} (ha : H.get a h ≠ .no) (hro : isRo (H.get a h) = false) {g k : Nat} {b : Blk} {o : Obj} (hg : w.grownBy w' (some (L.b a))) (hplace : g = L.b a ∨ w.heap.size ≤ g)
 (ho : w'.heap[g]? = some o) (hbr : BR (L.put c g k) (addN S c) c b o) : Stp L S h c w (L.put c g k) (addN S c) (H.set c b (H.set a .no h)) (Nm.succ c) w' := by
 have hn : ¬ S c := fun h => Nat.lt_irrefl _ (hb c h)
 have hsucc : (Nm.succ c).toNat = c.toNat + 1 := nm_succ c
 have hag := Loc.put_agr (L := L) (S := S) (n := c) g k hn
 have hget : ∀ m, H.get m (H.set c b (H.set a .no h)) = if m = c then b else if m = a then .no else H.get m h := fun m => by rw [hget_set, hget_set]
 have hold : ∀ m, m ≠ c → H.get m (H.set c b (H.set a .no h)) ≠ .no → m ≠ a ∧ H.get m h ≠ .no := fun m hmc hm => by
  rw [hget, if_neg hmc] at hm
  by_cases hma : m = a
  · rw [if_pos hma] at hm; exact absurd rfl hm
  · rw [if_neg hma] at hm; exact ⟨hma, hm⟩
 have hLq : ∀ m, H.get m h ≠ .no → (L.put c g k).b m = L.b m := fun m hm => (hag m (hr.blk m hm).1).1
 have hne : ∀ m, m ≠ a → H.get m h ≠ .no → L.b m ≠ L.b a := fun m hma hm e => hma (hr.inj m a hm ha e)
 have hng : ∀ m, m ≠ a → H.get m h ≠ .no → L.b m ≠ g := fun m hma hm e => by
  rcases hplace with h1 | h1
  · exact hne m hma hm (e.trans h1)
  · have := hr.lt hm; omega
 exact {
  sub := fun _ hm => .inl hm
  new := fun m hm => by
   rcases hm with hm | rfl
   · exact .inl hm
   · exact .inr (Nat.le_refl _)
  agr := hag
  cle := by omega
  bd := fun m hm => by
   rcases hm with hm | rfl
   · have := hb m hm; omega
   · omega
  relb := fun n hn => (hr.blk n hn).1
  rel := by
   refine ⟨fun m hm => ?_, fun m m' hm hm' e => ?_⟩
   · by_cases hmc : m = c
     · subst hmc
       rw [hget, if_pos rfl]
       exact ⟨.inr rfl, o, by rw [Loc.put_b]; exact ho, hbr⟩
     · obtain ⟨hma, hm0⟩ := hold m hmc hm
       rw [hget, if_neg hmc, if_neg hma]
       obtain ⟨h1, o', h2, h3⟩ := hr.blk m hm0
       refine ⟨.inl h1, o', ?_, h3.congr (fun _ h => .inl h) hag h1⟩
       rw [hLq m hm0, hg.block _ (lt_size h2) (fun e => hne m hma hm0 (Option.some.inj e))]; exact h2
   · by_cases hmc : m = c
     · by_cases hmc' : m' = c
       · rw [hmc, hmc']
       · obtain ⟨hma, hm0⟩ := hold m' hmc' hm'
         subst hmc
         rw [Loc.put_b, hLq m' hm0] at e
         exact absurd e.symm (hng m' hma hm0)
     · obtain ⟨hma, hm0⟩ := hold m hmc hm
       by_cases hmc' : m' = c
       · subst hmc'
         rw [Loc.put_b, hLq m hm0] at e
         exact absurd e (hng m hma hm0)
       · obtain ⟨hma', hm0'⟩ := hold m' hmc' hm'
         rw [hLq m hm0, hLq m' hm0'] at e
         exact hr.inj m m' hm0 hm0' e
  size := hg.size
  kept := fun r o' ho' hr' => by rw [hg.block r (lt_size ho') (fun e => hr' a ha hro (Option.some.inj e).symm)]; exact ho'
  roH := fun m hm => by
   have h1 : m ≠ a := fun e => by rw [e, hro] at hm; cases hm
   have h2 : m ≠ c := fun e => hn (e ▸ (hr.blk m (isRo_ne hm)).1)
   rw [hget, if_neg h2, if_neg h1]
  out := ⟨hg.os, hg.tape, hg.output⟩
  dom := fun m hm => by
   by_cases hmc : m = c
   · subst hmc
     rw [Loc.put_b]
     rcases hplace with h1 | h1
     · exact .inl ⟨a, ha, h1⟩
     · exact .inr h1
   · obtain ⟨_, hm0⟩ := hold m hmc hm
     exact .inl ⟨m, hm0, hLq m hm0⟩ }
end
noncomputable section
def isI3 (v : V) : Bool := v_i (α := Bool) (false) (fun k _ => Nat.beq k 3) v
def allI3 (cs : V) (m : Nat) : Bool := Nat.rec (motive := fun _ => Bool) true (fun x ih => Bool.and (isI3 (atC cs x)) ih) m
def vI (v : V) : Int := match v with
 | .i _ n => IntKind.i64.wrap n
 | _ => 0
def hsOf (cs : V) (n : Nat) : List H3 := (List.range n).map fun j => ⟨vI (atC cs (j * 3)), vI (atC cs (j * 3 + 1)), vI (atC cs (j * 3 + 2))⟩
def insC (cs xs : V) (i l : Nat) : V := appC (subC cs 0 (Nat.mul i 3)) (appC (subC xs 0 3) (subC cs (Nat.mul i 3) (Nat.mul (Nat.sub l i) 3)))
def insDone (cs xs : V) (i l : Nat) (h : H) (c : Nm) : C := .ret (.so c 0 0 (Nat.succ l)) (H.set c (.row 139 3 (Nat.mul (Nat.succ l) 3) true 0 (insC cs xs i l)) h) (Nm.succ c)
def insV (v : V) (h : H) (q : Nm → V → C) : C := onSl v (.bad 930) (fun b ob lb cb => asRowC (H.get b h) (fun el sz N op fz xs => Bool.rec (.bad 931) (q b xs)
 (Bool.and (Bool.and (Nat.beq ob 0) (Bool.and (Nat.beq lb 1) (Nat.beq cb 1))) (Bool.and (Bool.and (Nat.beq el 139) (Nat.beq sz 3)) (Bool.and (Bool.and (Nat.beq N 3) (Bool.not op)) (Bool.and (Nat.beq fz 0) (allI3 xs 3)))))))
def insR (a : Nm) (o e l : Nat) (i : Nat) (b : Nm) (xs : V) (h : H) (c : Nm) : C := asRowC (H.get a h) (fun el sz N op fz cs => Bool.rec (.bad 932) (insDone cs xs i l (H.set a .no h) c)
 (Bool.and (Bool.and (Bool.and (Nat.beq o 0) (Nat.beq e 0)) (Bool.and (Bool.not (Nm.beq a b)) (Nat.beq el 139))) (Bool.and (Bool.and (Nat.beq sz 3) (Nat.beq N (Nat.mul l 3))) (Bool.and op (Bool.and (Nat.beq fz 0) (Bool.and (Nat.ble i l) (Bool.and (Nat.ble l 1000000) (allI3 cs (Nat.mul l 3)))))))))
def insS (v : V) (i : Nat) (b : Nm) (xs : V) (h : H) (c : Nm) : C := v_so_ns (α := C) (.bad 933) (fun a o e l => insR a o e l i b xs h c) (Bool.rec (.bad 934) (insDone .nil xs 0 0 h c) (Nat.beq i 0)) v
def orcIns : Cal → V → H → Nm → C := fun _ y h c => onCons y (.bad 935) (fun s y1 => onCons y1 (.bad 935) (fun i y2 => onCons y2 (.bad 935) (fun v y3 => Bool.rec (.bad 936) (asIC i (fun ki ni => Bool.rec (.bad 937) (insV v h (fun b xs => insS s ni b xs h c)) (Nat.beq ki 3))) (sameV .nil y3))))
end
section
variable {L : Loc} {S : Ns} {h : H} {c : Nm} {w w' : World}
theorem isI3_eq {v : V} (hv : isI3 v = true) : ∃ n, v = .i 3 n := by
 cases v with
 | i k n =>
   have hk : Nat.beq k 3 = true := hv
   rw [Nat.beq_eq] at hk
   exact ⟨n, by rw [hk]⟩
 | _ => cases hv
theorem allI3_get {cs : V} : ∀ m, allI3 cs m = true → ∀ o, o < m → ∃ n, atC cs o = .i 3 n
 | m + 1, hm, o, ho => by
   obtain ⟨h1, h2⟩ := boolAnd2 hm
   by_cases e : o = m
   · subst e; exact isI3_eq h1
   · exact allI3_get m h2 o (by omega)
theorem fit_succ (k : Nat) (l : List Value) : fit (k + 1) l = fit k l ++ [l[k]?.getD undef] := by
 refine list_ext (k + 1) (fit_length _ _) (by simp [fit_length]) fun i hi => ?_
 rw [fit_getElem hi, List.getElem?_append, fit_length]
 by_cases h : i < k
 · rw [if_pos h, fit_getElem h]
 · have : i = k := by omega
   subst this; simp
theorem hsOf_len (cs : V) (n : Nat) : (hsOf cs n).length = n := by simp [hsOf]
theorem cells_fit {cs : V} (hcs : (wf S cs).l) : ∀ n, (∀ o, o < n * 3 → ∃ m, atC cs o = .i 3 m) → fit (n * 3) (lcv L cs) = cells3 (hsOf cs n)
 | 0, _ => by simp [fit, hsOf, cells3]
 | n + 1, hall => by
   have ih := cells_fit hcs n (fun o ho => hall o (by omega))
   have key : ∀ o, o < (n + 1) * 3 → (lcv L cs)[o]?.getD undef = .int .i64 (vI (atC cs o)) := fun o ho => by
    obtain ⟨m, hm⟩ := hall o ho
    rw [((atC_spec L S cs).2 hcs o).1, hm]; rfl
   rw [show (n + 1) * 3 = n * 3 + 1 + 1 + 1 by omega, fit_succ, fit_succ, fit_succ, ih, key (n * 3) (by omega), key (n * 3 + 1) (by omega), key (n * 3 + 1 + 1) (by omega)]
   have e : hsOf cs (n + 1) = hsOf cs n ++ [⟨vI (atC cs (n * 3)), vI (atC cs (n * 3 + 1)), vI (atC cs (n * 3 + 2))⟩] := by simp [hsOf, List.range_succ]
   rw [e, cells3_app]
   simp [cells3, H3.cells]
theorem cells_take {cs : V} (hcs : (wf S cs).l) (n : Nat) (hall : ∀ o, o < n * 3 → ∃ m, atC cs o = .i 3 m) : (lcv L cs).take (n * 3) = cells3 (hsOf cs n) := by
 have hlen : n * 3 ≤ (lcv L cs).length := by
  rcases Nat.lt_or_ge (lcv L cs).length (n * 3) with hlt | hge
  · obtain ⟨m, hm⟩ := hall _ hlt
    have h1 := ((atC_spec L S cs).2 hcs (lcv L cs).length).1
    rw [List.getElem?_eq_none (Nat.le_refl _), hm] at h1
    exact absurd h1 (by intro h2; cases h2)
  · exact hge
 have h1 := cells_fit (L := L) hcs n hall
 rw [← fit_take, fit_self (by rw [List.length_take]; omega)] at h1
 exact h1
theorem insC_spec {cs xs : V} {i l : Nat} (hcs : (wf S cs).l) (hxs : (wf S xs).l) (hi : i ≤ l) (h1 : ∀ o, o < l * 3 → ∃ m, atC cs o = .i 3 m) (h2 : ∀ o, o < 3 → ∃ m, atC xs o = .i 3 m) :
 ∃ x, hsOf xs 1 = [x] ∧ lcv L (insC cs xs i l) = cells3 (insF i x (hsOf cs l)) ∧ (wf S (insC cs xs i l)).l := by
 refine ⟨⟨vI (atC xs (0 * 3)), vI (atC xs (0 * 3 + 1)), vI (atC xs (0 * 3 + 2))⟩, rfl, ?_, ?_⟩
 · have ht := cells_take (L := L) hcs l h1
   have hx := cells_take (L := L) hxs 1 h2
   have a1 := (subC_spec L S cs).2 hcs 0 (i * 3)
   have a2 := (subC_spec L S xs).2 hxs 0 3
   have a3 := (subC_spec L S cs).2 hcs (i * 3) ((l - i) * 3)
   have b2 := appC_spec L S (subC xs 0 3) (subC cs (i * 3) ((l - i) * 3)) a2.2 a3.2
   have b1 := appC_spec L S (subC cs 0 (i * 3)) _ a1.2 b2.2
   show lcv L (appC (subC cs 0 (i * 3)) (appC (subC xs 0 3) (subC cs (i * 3) ((l - i) * 3)))) = _
   rw [b1.1, b2.1, a1.1, a2.1, a3.1, List.drop_zero, List.drop_zero]
   have e1 : (lcv L cs).take (i * 3) = cells3 ((hsOf cs l).take i) := by
    rw [← cells3_take, ← ht, List.take_take, Nat.min_eq_left (by omega)]
   have e3 : ((lcv L cs).drop (i * 3)).take ((l - i) * 3) = cells3 ((hsOf cs l).drop i) := by
    rw [← cells3_drop, ← ht, List.drop_take]; congr 1; omega
   have e2 : (lcv L xs).take 3 = cells3 (hsOf xs 1) := hx
   rw [e1, e2, e3]
   unfold insF
   rw [cells3_app]
   rfl
 · have a1 := (subC_spec L S cs).2 hcs 0 (i * 3)
   have a2 := (subC_spec L S xs).2 hxs 0 3
   have a3 := (subC_spec L S cs).2 hcs (i * 3) ((l - i) * 3)
   have b2 := appC_spec L S (subC xs 0 3) (subC cs (i * 3) ((l - i) * 3)) a2.2 a3.2
   exact (appC_spec L S (subC cs 0 (i * 3)) _ a1.2 b2.2).2
theorem ins_post (hr : Rel L S h w) (hbd : Bd S c) {cs xs : V} {i l : Nat} {gs : List H3} {r : Option Nat} {e : Ending} {h2 : H} (hout : InsOut (l + 1) gs r w e w') (hc : lcv L (insC cs xs i l) = cells3 gs) (hwf : (wf S (insC cs xs i l)).l)
 (hh : (r = none ∧ h2 = h) ∨ ∃ a, r = some (L.b a) ∧ h2 = H.set a .no h ∧ H.get a h ≠ .no ∧ isRo (H.get a h) = false) : CPost L S h c w (insDone cs xs i l h2 c) e w' := by
 obtain ⟨v, he, hown, hg, hpl⟩ := hout
 rcases hown.2 with ⟨_, h0⟩ | ⟨g, cap, cur, hv, _, hcur, hnc, hcm, hsz, htk⟩
 · omega
 subst hv
 have hnS : ¬ S c := nm_bd hbd (Nat.le_refl _)
 have hp := put_lc (L := L) (b := g) (k := cap - (l + 1)) hnS hwf
 have hbr : BR (L.put c g (cap - (l + 1))) (addN S c) c (.row 139 3 (Nat.mul (Nat.succ l) 3) true 0 (insC cs xs i l)) (.cells cur 139 (0, 0)) := by
  refine ⟨.inl rfl, hp.2, fr0 _ _, ?_⟩
  rw [if_pos rfl]
  have hlen : (cells3 gs).length = (l + 1) * 3 := hown.1
  refine ⟨?_, ?_, ?_⟩
  · show cur.toList.take ((l + 1) * 3) = fit ((l + 1) * 3) (lcv _ _)
    rw [hp.1, hc, htk, fit_self hlen]
  · rw [Loc.put_k]
    show cur.size = (l + 1) * 3 + (cap - (l + 1)) * 3
    rw [hsz]; omega
  · rw [Loc.put_k]
    show (l + 1) * 3 + (cap - (l + 1)) * 3 ≤ maxLen * 3
    omega
 have hval : val (L.put c g (cap - (l + 1))) (.so c 0 0 (Nat.succ l)) = .slice (some ⟨g, 0, none⟩) (l + 1) cap := by
  show Value.slice (some ⟨(L.put c g (cap - (l + 1))).b c, 0, none⟩) (l + 1) (l + 1 + 0 + (L.put c g (cap - (l + 1))).k c) = _
  rw [Loc.put_b, Loc.put_k, show l + 1 + 0 + (cap - (l + 1)) = cap by omega]
 refine ⟨L.put c g (cap - (l + 1)), addN S c, by rw [he, hval], .inr rfl, ?_⟩
 rcases hh with ⟨rfl, rfl⟩ | ⟨a, rfl, rfl, ha, hro⟩
 · refine Stp.fresh hr hbd ⟨hg.os, hg.tape, hg.output, hg.size, fun k hk => hg.block k hk (by simp)⟩ ?_ hcur hbr (by simp)
   rcases hpl with h1 | ⟨k, h1, h3⟩
   · cases h1
   · cases h1; exact h3
 · refine Stp.moved hr hbd ha hro hg ?_ hcur hbr
   rcases hpl with h1 | ⟨k, h1, h3⟩
   · exact .inl (Option.some.inj h1)
   · cases h1; exact .inr h3
theorem onCons_good {y : V} {n : Nat} {q : V → V → C} (hg : CGood (onCons y (.bad n) q)) : ∃ A W, y = .cons A W ∧ onCons y (.bad n) q = q A W := by
 cases y <;> first | exact ⟨_, _, rfl, rfl⟩ | exact absurd rfl (hg n)
theorem onSl_good {y : V} {n : Nat} {q : Nm → Nat → Nat → Nat → C} (hg : CGood (onSl y (.bad n) q)) : ∃ a o l k, y = .sl a o l k ∧ onSl y (.bad n) q = q a o l k := by
 cases y <;> first | exact ⟨_, _, _, _, rfl, rfl⟩ | exact absurd rfl (hg n)
theorem held_row (hr : Rel L S h w) {a : Nm} {el sz N : Nat} {op : Bool} {cs : V} (hn : H.get a h = .row el sz N op 0 cs) (hel : el = 139) (hsz : sz = 3) :
 (wf S cs).l ∧ ∃ M, Row w (L.b a) 139 M ∧ M.take N = fit N (lcv L cs) ∧ (op = false → M.length = N) ∧ (op = true → M.length = N + L.k a * 3 ∧ N + L.k a * 3 ≤ maxLen * 3) := by
 subst hel hsz
 obtain ⟨hS, ob, hob, hbr⟩ := hr.blk a (by rw [hn]; simp)
 rw [hn] at hbr
 obtain ⟨arr, fr, el2, rfl, hcs, hfr, htk, hN, h1, h2⟩ := hbr.row
 have hel : el2 = 139 := by
  rcases hbr.1 with h3 | ⟨h3, _⟩
  · exact h3
  · exact absurd h3 (by decide)
 have hfr0 : fr = (0, 0) := by
  rcases hfr.1 with h3 | ⟨_, h3 | h3⟩
  · exact absurd h3 (by decide)
  · exact h3
  · cases h3
 subst hel hfr0
 exact ⟨hcs, arr.toList, by unfold Row; simpa using hob, htk, fun h => by simpa using h1 h, fun h => by simpa using h2 h⟩
set_option maxHeartbeats 1000000 in
theorem orcIns_ok {cd : Code} (hb : Tryz.f293.body = some cd) : OrcOk Tryz.prog 293 orcIns := by
 intro cal args h c L S w _ hr hbd hgok ha hg
 obtain ⟨s, y1, rfl, e1⟩ := onCons_good (n := 935) hg
 have e1' : orcIns cal (.cons s y1) h c = _ := e1
 rw [e1'] at hg ⊢
 obtain ⟨i, y2, rfl, e2⟩ := onCons_good (n := 935) hg
 rw [e2] at hg ⊢
 obtain ⟨v, y3, rfl, e3⟩ := onCons_good (n := 935) hg
 rw [e3] at hg ⊢
 obtain ⟨hz, e4⟩ := crec_good (z := sameV .nil y3) hg
 rw [e4] at hg ⊢
 have h4 := sameV_eq _ _ hz
 subst h4
 obtain ⟨ki, ni, rfl, e5⟩ := asIC_good hg
 rw [e5] at hg ⊢
 obtain ⟨hk, e6⟩ := crec_good (z := Nat.beq ki 3) hg
 rw [e6] at hg ⊢
 rw [Nat.beq_eq] at hk
 subst hk
 obtain ⟨b, ob, lb, cb, rfl, e7⟩ := onSl_good (n := 930) hg
 have e7' : insV (.sl b ob lb cb) h (fun b xs => insS s ni b xs h c) = _ := e7
 rw [e7'] at hg ⊢
 obtain ⟨el, sz, N, op, fz, xs, hn, e8⟩ := asRowC_good hg
 rw [e8] at hg ⊢
 obtain ⟨hq, e9⟩ := crec_good (z := _) hg
 rw [e9] at hg ⊢
 obtain ⟨q1, q2⟩ := boolAnd2 hq
 obtain ⟨q3, q4⟩ := boolAnd2 q1; obtain ⟨q4, q5⟩ := boolAnd2 q4
 obtain ⟨q6, q7⟩ := boolAnd2 q2; obtain ⟨q8, q9⟩ := boolAnd2 q6
 obtain ⟨qa, qb⟩ := boolAnd2 q7; obtain ⟨qc, qd⟩ := boolAnd2 qa
 obtain ⟨qe, qf⟩ := boolAnd2 qb
 rw [Nat.beq_eq] at q3 q4 q5 q8 q9 qc qe
 rw [Bool.not_eq_true'] at qd
 subst q3 q4 q5 q8 q9 qc qd qe
 have hxi := allI3_get 3 qf
 obtain ⟨hxs, X, hrowX, htkX, hlenX, _⟩ := held_row hr hn rfl rfl
 obtain ⟨x, hx1, _⟩ := insC_spec (L := L) (S := S) (cs := .nil) (i := 0) (l := 0) trivial hxs (Nat.le_refl _) (fun o ho => by omega) hxi
 have hX : X = x.cells := by
  have h5 := cells_fit (L := L) hxs 1 hxi
  rw [hx1] at h5
  rw [← List.take_of_length_le (l := X) (i := 3) (by rw [hlenX rfl]; exact Nat.le_refl _), htkX, h5]
  simp [cells3]
 rw [hX] at hrowX
 refine orc_post namesOk Tryz.func293 hb ?_
 have hni : ∀ m : Nat, m ≤ 1000000 → IntKind.i64.wrap (m : Int) = (m : Int) := fun m hm => by
  exact IntWalk.i64_in _ (by omega)
 replace hg : CGood (insS s ni b xs h c) := hg
 show Calls _ _ _ w (CPost L S h c w (insS s ni b xs h c))
 cases s with
 | ns =>
   obtain ⟨hz0, e10⟩ := crec_good (z := Nat.beq ni 0) hg
   have e10' : insS .ns ni b xs h c = _ := e10
   rw [e10']
   rw [Nat.beq_eq] at hz0
   subst hz0
   obtain ⟨x', hx1', hc1, hc2⟩ := insC_spec (L := L) (S := S) (cs := .nil) (i := 0) (l := 0) trivial hxs (Nat.le_refl _) (fun o ho => by omega) hxi
   obtain rfl : x = x' := by rw [hx1] at hx1'; simpa using hx1'
   have hl : (lsv L (.cons .ns (.cons (.i 3 0) (.cons (.sl b 0 1 1) .nil)))).toArray = #[.slice none 0 0, .int .i64 ((0 : Nat) : Int), .slice (some ⟨L.b b, 0, none⟩) 1 1] := rfl
   rw [hl]
   exact (insert_end 0 0 (L.b b) none x [] w (World.ownsRow_nil _ _ _ _) (by decide) hrowX).mono fun e w' hout => ins_post hr hbd hout hc1 hc2 (.inl ⟨rfl, rfl⟩)
 | so a o e l =>
   obtain ⟨el, sz, N, op, fz, cs, hna, e10⟩ := asRowC_good (b := H.get a h) hg
   have e10' : insS (.so a o e l) ni b xs h c = _ := e10
   rw [e10'] at hg ⊢
   obtain ⟨hq, e11⟩ := crec_good (z := _) hg
   rw [e11]
   obtain ⟨r1, r2⟩ := boolAnd2 hq
   obtain ⟨r3, r4⟩ := boolAnd2 r1; obtain ⟨r5, r6⟩ := boolAnd2 r3; obtain ⟨r7, r8⟩ := boolAnd2 r4
   obtain ⟨s1, s2⟩ := boolAnd2 r2; obtain ⟨s3, s4⟩ := boolAnd2 s1
   obtain ⟨s5, s6⟩ := boolAnd2 s2; obtain ⟨s6, s7⟩ := boolAnd2 s6; obtain ⟨s7, s8⟩ := boolAnd2 s7; obtain ⟨s8, s9⟩ := boolAnd2 s8
   rw [Nat.beq_eq] at r5 r6 r8 s3 s4 s6
   rw [Bool.not_eq_true'] at r7
   rw [Nat.ble_eq] at s7 s8
   have hab : a ≠ b := fun e => by rw [(nm_beq a b).2 e] at r7; cases r7
   subst r5 r6 r8 s3 s4 s5 s6
   have hci := allI3_get _ s9
   obtain ⟨hcs, M, hrowM, htkM, _, hlenM⟩ := held_row hr hna rfl rfl
   obtain ⟨hM1, hM2⟩ := hlenM rfl
   obtain ⟨x', hx1', hc1, hc2⟩ := insC_spec (L := L) (S := S) (cs := cs) (i := ni) (l := l) hcs hxs s7 hci hxi
   obtain rfl : x = x' := by rw [hx1] at hx1'; simpa using hx1'
   have hcells : M.take (l * 3) = cells3 (hsOf cs l) := by
    rw [← cells_fit (L := L) hcs l hci]; exact htkM
   have hMl : M.length = (l + L.k a) * 3 := by rw [hM1]; show l * 3 + L.k a * 3 = _; omega
   have hcm : l + L.k a ≤ maxLen := by
    have : l * 3 + L.k a * 3 ≤ maxLen * 3 := hM2
    omega
   have hown : w.ownsRow 0 139 3 (.slice (some ⟨L.b a, 0, none⟩) l (l + L.k a)) l (cells3 (hsOf cs l)) := row_own (Nat.zero_le _) hrowM (by omega) hcm hMl hcells
   have hne : L.b b ≠ L.b a := fun e => hab (hr.inj a b (by rw [hna]; simp) (by rw [hn]; simp) e.symm)
   have hl : (lsv L (.cons (.so a 0 0 l) (.cons (.i 3 ni) (.cons (.sl b 0 1 1) .nil)))).toArray = #[.slice (some ⟨L.b a, 0, none⟩) l (l + L.k a), .int .i64 (ni : Int), .slice (some ⟨L.b b, 0, none⟩) 1 1] := by
    show #[Value.slice (some ⟨L.b a, 0, none⟩) l (l + 0 + L.k a), Value.int .i64 (IntKind.i64.wrap (ni : Int)), _] = _
    rw [hni ni (by omega)]; rfl
   rw [hl]
   have hro : isRo (H.get a h) = false := by rw [hna]; rfl
   have hfin : ∀ e w', InsOut (l + 1) (insF ni x (hsOf cs l)) (some (L.b a)) w e w' → CPost L S h c w (insDone cs xs ni l (H.set a .no h) c) e w' := fun e w' hout =>
    ins_post hr hbd hout hc1 hc2 (.inr ⟨a, rfl, rfl, by rw [hna]; simp, hro⟩)
   by_cases hil : ni = l
   · subst hil
     exact (insert_end ni (ni + L.k a) (L.b b) (some ⟨L.b a, 0, none⟩) x (hsOf cs ni) w hown (by omega) hrowX).mono hfin
   · by_cases hk0 : L.k a = 0
     · rw [hk0, Nat.add_zero] at hown ⊢
       exact (insert_grow l (L.b a) (L.b b) ni x (hsOf cs l) w hown (by omega) hrowX (by omega)).mono hfin
     · exact (insert_room l (l + L.k a) (L.b a) (L.b b) ni x (hsOf cs l) w hown (by omega) hrowX hne (by omega) (by omega)).mono hfin
 | _ => exact absurd rfl (hg 933)
end
end Go.Ev

namespace Go.Ev
open Go.Proofs
noncomputable def orcsI : List (Nat × (Cal → V → H → Nm → C)) := (293, orcIns) :: orcsK
theorem orcsI_ok : ∀ p ∈ orcsI, OrcOk Tryz.prog p.1 p.2 := fun p hp => by
 have b1 : ∃ cd, Tryz.f293.body = some cd := Option.isSome_iff_exists.1 (by kernel_rfl)
 obtain ⟨_, b1⟩ := b1
 rcases List.mem_cons.1 hp with rfl | hp
 · exact orcIns_ok b1
 exact orcsK_ok p hp
end Go.Ev

namespace Go.Proofs.YtmjbpmdbhbjndaaGreatDoor
open Go.RowKit
theorem info_u8n : (Tryz.prog.info? 5).map (fun i => (i.zero, i.size, i.bytes)) = some (some (.int .u8 0), 1, 1) := by kernel_rfl
def Ow (w : World) (v : Value) (xs : List Value) : Prop := (v = .slice none 0 0 ∧ xs = []) ∨ ∃ g cap cur fr, v = .slice (some ⟨g, 0, none⟩) xs.length cap ∧ w.heap[g]? = some (.cells cur 5 fr) ∧ xs.length ≤ cap ∧ cap ≤ maxLen ∧ cur.size = cap ∧ cur.toList.take xs.length = xs ∧ fr.1 ≤ fr.2 ∧ ∀ i, i < cur.size → ¬ (fr.1 ≤ i ∧ i < fr.2)
theorem Ow.kept {w w' : World} {v : Value} {xs : List Value} {r : Option Nat} (h : Ow w v xs) (hg : w.grownBy w' r) (hr : v.ownBlock ≠ r) : Ow w' v xs := by
 rcases h with h | ⟨g, cap, cur, fr, rfl, hh, rest⟩
 · exact .inl h
 · exact .inr ⟨g, cap, cur, fr, rfl, (hg.block g (Array.getElem?_eq_some_iff.1 hh).1 hr).trans hh, rest⟩
theorem Ow.alloc {w : World} {v : Value} {xs : List Value} (h : Ow w v xs) (o : Obj) : Ow (w.alloc o) v xs := by
 rcases h with h | ⟨g, cap, cur, fr, rfl, hh, rest⟩
 · exact .inl h
 · exact .inr ⟨g, cap, cur, fr, rfl, (heap_alloc_old _ _ (Array.getElem?_eq_some_iff.1 hh).1).trans hh, rest⟩
theorem Ow.ne {w : World} {v : Value} {xs : List Value} {b : Nat} {cs : Array Value} {fr : Nat × Nat} (h : Ow w v xs) (hb : w.heap[b]? = some (.cells cs 108 fr)) : v.ownBlock ≠ some b := by
 rcases h with ⟨rfl, _⟩ | ⟨g, cap, cur, fr, rfl, hh, _⟩
 · simp [Value.ownBlock]
 · intro e
   simp only [Value.ownBlock, Option.some.injEq] at e
   subst e
   rw [hh] at hb
   simp only [Option.some.injEq, Obj.cells.injEq] at hb
   exact absurd hb.2.1 (by decide)
theorem Ow.slice {w : World} {v : Value} {xs : List Value} {c : Value} (h : Ow w v (xs ++ [c])) : ∃ A k, v = .slice A (xs.length + 1) k := by
 rcases h with ⟨_, h⟩ | ⟨g, cap, cur, fr, rfl, _⟩
 · simp at h
 · exact ⟨_, _, by rw [List.length_append]; rfl⟩
set_option maxRecDepth 100000 in
theorem run_app1 (ty : TypeId) (g0 : Nat) (c : Int) (v : Value) (xs : List Value) (w : World) (hlit : w.cell? ⟨g0, 0, none⟩ = some (.int .u8 c)) (h : Ow w v xs) (hn : xs.length ≤ 1000000) :
 ∃ v' w', (Builtin.append_ #[28, 28] ty #[v, .slice (some ⟨g0, 0, none⟩) 1 1]).run Tryz.prog w = .ok v' w' ∧ Ow w' v' (xs ++ [.int .u8 c]) ∧ w.grownBy w' v.ownBlock ∧ (v'.ownBlock = v.ownBlock ∨ v'.ownBlock = some w.heap.size) := by
 obtain ⟨i0, hi, hz0, hz1, hz2⟩ := info_parts info_u8n
 have happ := Go.Ev.appOk_of (P := Tryz.prog) (t := 28) (u := 28) (xv := .slice (some ⟨g0, 0, none⟩) 1 1) (m := 1) (new := [.int .u8 c]) (w := w) Tryz.underlying28 Tryz.underlying28 (by simp) hi hz0 (by rw [hz2]; decide) (fun w' hw' => ⟨rfl, by
  rw [hz1]
  refine run_firstCells_some (P := Tryz.prog) w' 1 1 ⟨g0, 0, none⟩ 1 1 _ rfl fun j u hj => ?_
  match j, hj with
  | 0, hj => rw [Addr.add_mid, Go.Ev.cell_heap hw']; simp at hj; rw [← hj]; exact hlit⟩)
 rw [hz1] at happ
 have hlx : (xs ++ [Value.int .u8 c]).length = xs.length + 1 := by simp
 have fresh : ∀ (base : Option Addr) (cap : Nat), cap < xs.length + 1 → v = .slice base xs.length cap → (∀ w' : World, w'.heap = w.heap → (Builtin.firstCells 1 xs.length (.slice base xs.length cap)).run Tryz.prog w' = .ok xs.toArray w') →
  ∃ v' w', (Builtin.append_ #[28, 28] ty #[v, .slice (some ⟨g0, 0, none⟩) 1 1]).run Tryz.prog w = .ok v' w' ∧ Ow w' v' (xs ++ [.int .u8 c]) ∧ w.grownBy w' v.ownBlock ∧ (v'.ownBlock = v.ownBlock ∨ v'.ownBlock = some w.heap.size) := by
  rintro base cap hcap rfl hold
  have hrun := happ.2 base xs.length cap xs ty hcap (by omega) hold
  have hge := Go.Ev.cap_ge w (xs.length + 1) cap 5
  have hle := grownCap_le_maxLen w (xs.length + 1) cap 5 (by unfold maxLen; omega)
  refine ⟨_, _, hrun, .inr ⟨w.heap.size, _, _, (0, 0), by rw [hlx], heap_alloc_new w.drew _, by rw [hlx]; exact hge, hle, ?_, ?_, Nat.le_refl _, fun i _ h => Nat.not_lt_zero _ h.2⟩, ?_, .inr rfl⟩
  · have hz : (Value.int IntKind.u8 0).cells.size = 1 := rfl
    rw [Array.size_append, Array.size_append, size_zeroCells, hz]
    simp; omega
  · rw [hlx, Array.toList_append, Array.toList_append, List.take_append_of_le_length (by simp)]
    exact List.take_of_length_le (by simp)
  · exact ⟨rfl, rfl, rfl, by simp, fun k hk _ => heap_alloc_old w.drew _ hk⟩
 rcases h with ⟨rfl, rfl⟩ | ⟨g, cap, cur, fr, rfl, hh, hnc, hcm, hsz, htk, hfl, hfr⟩
 · exact fresh none 0 (by simp) rfl (fun w' _ => by simp only [Builtin.firstCells, Sem.run_pure])
 · by_cases hfit : xs.length + 1 ≤ cap
   · have hlt : xs.length < cur.size := by omega
     have hst : (storeCells ((⟨g, 0, none⟩ : Addr).add (xs.length * 1)) [.int .u8 c]).run Tryz.prog w = .ok () (w.setCell ⟨g, xs.length, none⟩ (.int .u8 c)) := by
      have h1 := run_storeCells_cells (P := Tryz.prog) g xs.length [.int .u8 c] 0 w (fun j hj => by
       have : j = 0 := by simpa using hj
       subst this
       simp only [Nat.add_zero]
       rw [Lib.cell_of_heap hh, Array.getElem?_eq_getElem hlt]; rfl) (fun j hj => by
       have : j = 0 := by simpa using hj
       subst this
       simp only [World.frozen?, hh, Nat.add_zero]
       rw [Bool.eq_false_iff]
       intro h
       rw [Bool.and_eq_true, decide_eq_true_eq, decide_eq_true_eq] at h
       exact hfr _ hlt h) (by simp [Value.oneCell'])
      rw [Addr.add_mid, Nat.zero_add, Nat.mul_one]
      exact h1
     refine ⟨_, _, happ.1 (some ⟨g, 0, none⟩) xs.length cap _ ty hfit hst, .inr ⟨g, cap, cur.setIfInBounds xs.length (.int .u8 c), fr, by rw [hlx], ?_, by rw [hlx]; exact hfit, hcm, by simp [hsz], ?_, hfl, fun i hi => hfr i (by simpa using hi)⟩, ?_, .inl rfl⟩
     · simp [World.setCell, Array.getElem?_modify, hh]
     · rw [hlx, Array.toList_setIfInBounds, List.take_add_one, List.take_set_of_le (Nat.le_refl _), htk]
       simp [hlt]
     · exact ⟨rfl, rfl, rfl, by simp [World.setCell], fun k _ hk => Below.heap_setCell _ _ _ _ (fun e => hk (by simp [e, Value.ownBlock]))⟩
   · refine fresh (some ⟨g, 0, none⟩) cap (by omega) rfl fun w' hw' => ?_
     refine run_firstCells_some (P := Tryz.prog) w' 1 xs.length ⟨g, 0, none⟩ xs.length cap _ (by simp) fun j u hj => ?_
     have hj2 := (List.getElem?_eq_some_iff.1 hj).1
     rw [Addr.add_mid, Go.Ev.cell_heap hw', Nat.zero_add, Lib.cell_of_heap hh, ← Array.getElem?_toList, ← hj]
     conv => rhs; rw [← htk]
     rw [List.getElem?_take, if_pos hj2]
def BIs (b n0 : Nat) (v : Value) (ys : List Value) (w : World) : Prop := ∃ p, w.heap[b]? = some (.cells #[p, v] 108 (0, 0)) ∧ (p = .pointer (some ⟨b, 0, none⟩) ∨ p = .pointer none ∧ ys.length = n0) ∧ Ow w v ys
structure BFr (b : Nat) (r : Option Nat) (w w' : World) : Prop where
 os : w'.os = w.os
 tape : w'.tape = w.tape
 output : w'.output = w.output
 size : w.heap.size ≤ w'.heap.size
 block : ∀ k, k < w.heap.size → k ≠ b → some k ≠ r → w'.heap[k]? = w.heap[k]?
def BOut (b n0 : Nat) (r : Option Nat) (ys : List Value) (w w' : World) : Prop :=
 BFr b r w w' ∧ ∃ v', BIs b n0 v' ys w' ∧ (v'.ownBlock = r ∨ ∃ k, v'.ownBlock = some k ∧ w.heap.size ≤ k)
theorem BOut.start {b n0 : Nat} {v : Value} {ys : List Value} {w : World} (h : BIs b n0 v ys w) : BOut b n0 v.ownBlock ys w w :=
 ⟨⟨rfl, rfl, rfl, Nat.le_refl _, fun _ _ _ _ => rfl⟩, v, h, .inl rfl⟩
theorem BOut.next {b n0 : Nat} {r : Option Nat} {zs : List Value} {w0 w1 w2 : World} {v1 : Value} (h : BFr b r w0 w1) (hp : v1.ownBlock = r ∨ ∃ k, v1.ownBlock = some k ∧ w0.heap.size ≤ k) (h2 : BOut b n0 v1.ownBlock zs w1 w2) : BOut b n0 r zs w0 w2 := by
 obtain ⟨f, v2, hb, hq⟩ := h2
 refine ⟨⟨f.os.trans h.os, f.tape.trans h.tape, f.output.trans h.output, Nat.le_trans h.size f.size, fun k hk hkb hkr => ?_⟩, v2, hb, ?_⟩
 · refine (f.block k (Nat.lt_of_lt_of_le hk h.size) hkb fun e => ?_).trans (h.block k hk hkb hkr)
   rcases hp with hp | ⟨k', hp, hk'⟩
   · exact hkr (e.trans hp)
   · rw [hp] at e; have := Option.some.inj e; omega
 · rcases hq with hq | ⟨k, hq, hk⟩
   · rcases hp with hp | hp
     · exact .inl (hq.trans hp)
     · rw [hq]; exact .inr hp
   · exact .inr ⟨k, hq, Nat.le_trans h.size hk⟩
theorem copy_step (b : Nat) (p v : Value) (w : World) (hb : w.heap[b]? = some (.cells #[p, v] 108 (0, 0))) (hp : p = .pointer none ∨ p = .pointer (some ⟨b, 0, none⟩)) :
 Calls Tryz.prog 115 #[.pointer (some ⟨b, 0, none⟩)] w fun e w' => e = .returned (.tuple #[]) ∧ w'.heap[b]? = some (.cells #[.pointer (some ⟨b, 0, none⟩), v] 108 (0, 0)) ∧ w.grownBy w' (some b) := by
 rcases hp with rfl | rfl
 · refine (bld_fresh b w ?_ ?_ ?_).mono ?_
   · rw [Lib.cell_of_heap hb]; rfl
   · simp [World.shape?, hb]
   · exact Lib.frozen_of_heap hb 0
   · rintro e w' ⟨he, rfl⟩
     exact ⟨he, by simp [World.setCell, Array.getElem?_modify, hb], rfl, rfl, rfl, by simp [World.setCell], fun k _ hk => Below.heap_setCell _ _ _ _ (fun e => hk (by simp [e]))⟩
 · refine (bld_used b w (by rw [Lib.cell_of_heap hb]; rfl)).mono ?_
   rintro e w' ⟨he, rfl⟩
   exact ⟨he, hb, World.grownBy.refl _ _⟩
theorem write_end {b n1 : Nat} {p v : Value} {xs : List Value} {c : Int} {w w1 w2 : World} {A' : Option Addr} {c' : Nat} {t : TypeId} (g1 : w.grownBy w1 (some b)) (b2 : w2.heap[b]? = some (.cells #[.pointer (some ⟨b, 0, none⟩), p] 108 (0, 0)))
 (hown : Ow w2 (.slice A' (xs.length + 1) c') (xs ++ [.int .u8 c])) (hg : (w1.alloc (.cells #[.int .u8 c] t)).grownBy w2 v.ownBlock)
 (hat : (Value.slice A' (xs.length + 1) c').ownBlock = v.ownBlock ∨ (Value.slice A' (xs.length + 1) c').ownBlock = some (w1.alloc (.cells #[.int .u8 c] t)).heap.size) :
 BOut b n1 v.ownBlock (xs ++ [.int .u8 c]) w (w2.setCell ⟨b, 1, none⟩ (.slice A' (xs.length + 1) c')) := by
 have hs : w1.heap.size + 1 ≤ w2.heap.size := by have := hg.size; simpa using this
 refine ⟨⟨hg.os.trans g1.os, hg.tape.trans g1.tape, hg.output.trans g1.output, ?_, fun k hk hkb hkr => ?_⟩, .slice A' (xs.length + 1) c', ⟨_, ?_, .inl rfl, ?_⟩, ?_⟩
 · have := g1.size; simp only [World.setCell, Array.size_modify]; omega
 · have hk1 : k < w1.heap.size := Nat.lt_of_lt_of_le hk g1.size
   rw [Below.heap_setCell _ _ _ _ (fun e => hkb e), hg.block k (by simp; omega) hkr, heap_alloc_old _ _ hk1, g1.block k hk (fun e => hkb (Option.some.inj e))]
 · simp [World.setCell, Array.getElem?_modify, b2]
 · exact hown.kept (r := some b) ⟨rfl, rfl, rfl, by simp [World.setCell], fun k _ hk => Below.heap_setCell _ _ _ _ (fun e => hk (by simp [e]))⟩ (hown.ne b2)
 · rcases hat with h | h
   · exact .inl h
   · refine .inr ⟨_, h, ?_⟩
     have := g1.size; simp; omega
set_option maxHeartbeats 2000000 in
set_option maxRecDepth 100000 in
theorem bld_write (b n0 : Nat) (c : Int) (v : Value) (xs : List Value) (w : World) (h : BIs b n0 v xs w) (hn : xs.length ≤ 1000000) :
 Calls Tryz.prog 75 #[.pointer (some ⟨b, 0, none⟩), .int .u8 c] w fun e w' => e = .returned .nilIface ∧ ∀ n1, BOut b n1 v.ownBlock (xs ++ [.int .u8 c]) w w' := by
 obtain ⟨p, hb, hp, hown⟩ := h
 have HNE := Lib.hid (hown.ne hb)
 have HLT := Lib.hid (Array.getElem?_eq_some_iff.1 hb).1
 have HC := copy_step b p v w hb (hp.elim .inr fun h => .inl h.1)
 have HO := Lib.hid hown
 clear hb hp hown
 go_enter Tryz.func75, Tryz.ntmps75
 go_wp2_with (first
  | (go_at_call 115; refine HC.mono ?_; rintro e w1 ⟨rfl, hb1, hg1⟩; have own1 := HO.out.kept hg1 HNE.out; have c1 : w1.cell? ⟨b, 1, none⟩ = some v := (by rw [Lib.cell_of_heap hb1]; rfl); have G1 := Lib.hid hg1; have B1 := Lib.hid hb1; clear hg1 hb1)
  | (at_builtin; obtain ⟨v', w2, hrun, hown', hgrow, hat⟩ := run_app1 28 w1.heap.size c v xs (w1.alloc (.cells #[.int .u8 c] 5)) (by rw [Lib.cell_of_heap (heap_alloc_new _ _)]; rfl) (Ow.alloc own1 _) hn; obtain ⟨A', c', rfl⟩ := hown'.slice; have b2 : w2.heap[b]? = some (.cells #[.pointer (some ⟨b, 0, none⟩), v] 108 (0, 0)) := ((hgrow.block b (by have := (Array.getElem?_eq_some_iff.1 B1.out).1; simp; omega) (fun e => HNE.out e.symm)).trans ((heap_alloc_old _ _ (Array.getElem?_eq_some_iff.1 B1.out).1).trans B1.out)); have f2 : w2.frozen? ⟨b, 1, none⟩ = false := (Lib.frozen_of_heap b2 1); have c2 : w2.cell? ⟨b, 1, none⟩ = some v := (by rw [Lib.cell_of_heap b2]; rfl); have fin : Hid (∀ n1, BOut b n1 v.ownBlock (xs ++ [.int .u8 c]) w (w2.setCell ⟨b, 1, none⟩ (.slice A' (xs.length + 1) c'))) := (Lib.hid fun n1 => write_end G1.out b2 hown' hgrow (by simpa using hat)); refine Lib.wpList_append_run _ rfl (.tmp 11) (.tmp 13) _ _ rfl _ _ rfl rfl _ _ hrun ?_; clear hrun hown' hgrow hat b2 own1 c1))
 go_ret
 exact ⟨rfl, fin.out⟩
def bytes8 (n : Int) : List Value := (List.range 8).map fun j => .int .u8 (IntKind.u8.wrap (n / 256 ^ j))
theorem bytes8_len (n : Int) : (bytes8 n).length = 8 := rfl
theorem bytes8_take (n : Int) (j : Nat) (h : j < 8) : (bytes8 n).take (j + 1) = (bytes8 n).take j ++ [.int .u8 (IntKind.u8.wrap (n / 256 ^ j))] := by
 have h2 : (bytes8 n)[j]? = some (.int .u8 (IntKind.u8.wrap (n / 256 ^ j))) := by
  unfold bytes8; rw [List.getElem?_map, List.getElem?_range h]; rfl
 rw [List.take_add_one, h2]; rfl
theorem shift8 (n : Int) (j : Nat) : n / 256 ^ j / 256 = n / 256 ^ (j + 1) := by
 rw [Int.ediv_ediv_of_nonneg (by exact Int.pow_nonneg (by decide)), Int.pow_succ]
set_option maxHeartbeats 4000000 in
set_option maxRecDepth 100000 in
theorem bld_number (b n0 : Nat) (v : Value) (xs : List Value) (A : Option Addr) (cc : Nat) (l : List Int) (w : World) (h : BIs b n0 v xs w) (hl : ∀ ad, A = some ad → ad.block ≠ b ∧ some ad.block ≠ v.ownBlock)
 (hA : Rd w w.heap.size 1 A l.length (l.map (Value.int .i64))) (hn : xs.length + 8 * l.length ≤ 1000000) :
 Calls Tryz.prog 24 #[.pointer (some ⟨b, 0, none⟩), .slice A l.length cc] w fun e w' => e = .returned (.tuple #[]) ∧ BOut b n0 v.ownBlock (xs ++ l.flatMap bytes8) w w' := by
 have HA := Lib.hid hA
 have HL := Lib.hid hl
 have HS := BOut.start h
 clear hA hl h
 go_enter Tryz.func24, Tryz.ntmps24
 go_wp2
 go_loopw [8] (fun i wr => ∃ k : Nat, i = .int .i64 k ∧ k ≤ l.length ∧ BOut b n0 v.ownBlock (xs ++ (l.take k).flatMap bytes8) w wr) (fun i _ => l.length - (intOf i).toNat)
 case atStart => exact ⟨0, rfl, Nat.zero_le _, by simpa using HS⟩
 case round =>
  obtain ⟨k, rfl, hk, ho⟩ := hrel
  clear HS
  by_cases hkl : k < l.length
  · have hd : decide ((k : Int) < (l.length : Int)) = true := by simp; omega
    obtain ⟨ad, rfl, had, hc⟩ := HA.out.at_ hkl
    rw [Nat.mul_one, ← List.map_drop, List.drop_eq_getElem_cons hkl, List.map_cons] at hc
    have c0 := hc.c0
    clear hc
    have e1 : wr.cell? (ad.add k) = some (.int .i64 l[k]) := by
     rw [World.cell?_of_block (ho.1.block _ (by rw [add_block]; exact had) (by rw [add_block]; exact (HL.out ad rfl).1) (by rw [add_block]; exact (HL.out ad rfl).2))]; exact c0
    have eT : (l.take (k + 1)).flatMap bytes8 = (l.take k).flatMap bytes8 ++ bytes8 l[k] := by
     rw [List.take_add_one, List.getElem?_eq_getElem hkl, List.flatMap_append]; simp [List.flatMap_cons]
    have hlen : Hid ((xs ++ (l.take k).flatMap bytes8).length + 8 ≤ 1000000) := by
     have : ((l.take k).flatMap bytes8).length = 8 * k := by
      rw [List.length_flatMap]
      have : ∀ m : List Int, (m.map fun a => (bytes8 a).length).sum = 8 * m.length := fun m => by
       induction m with
       | nil => rfl
       | cons a m ih => rw [List.map_cons, List.sum_cons, ih, bytes8_len, List.length_cons]; omega
      rw [this, List.length_take]; omega
     unfold Hid
     rw [List.length_append, this]; omega
    have ET := Lib.hid eT
    generalize l[k] = nk at e1 ET
    generalize hys : xs ++ (l.take k).flatMap bytes8 = ys at ho hlen
    have HY := Lib.hid hys
    have HO := Lib.hid ho
    clear c0 hys ho eT
    go_wp2
    go_loopw [5, 12] (fun u i wi => ∃ j : Nat, i = .int .i64 j ∧ j ≤ 8 ∧ u = .int .i64 (nk / 256 ^ j) ∧ BOut b n0 v.ownBlock (ys ++ (bytes8 nk).take j) w wi) (fun _ i _ => 8 - (intOf i).toNat)
    case atStart => exact ⟨0, rfl, Nat.zero_le _, by simp, by simpa using HO.out⟩
    case round =>
     obtain ⟨j, rfl, hj, rfl, ho⟩ := hrel
     by_cases hj8 : j < 8
     · have hd2 : decide ((j : Int) < 8) = true := by simp; omega
       obtain ⟨fr, v1, hb1, hp1⟩ := ho
       have HW := bld_write b n0 (IntKind.u8.wrap (nk / 256 ^ j)) v1 _ wr hb1 (by have := hlen.out; rw [List.length_append, List.length_take]; omega)
       clear hb1
       go_wp2_with (go_at_call 75; refine HW.mono ?_; rintro e w2 ⟨rfl, hout⟩)
       go_roundw
       case rel => exact ⟨j + 1, by go_num, by omega, by rw [shift8], by
        rw [bytes8_take _ _ hj8, ← List.append_assoc]; exact BOut.next fr hp1 (hout n0)⟩
       case measure => simp [intOf]; omega
     · have hd2 : decide ((j : Int) < 8) = false := by simp; omega
       obtain rfl : j = 8 := by omega
       go_wp2
       go_roundw
       case rel => exact ⟨k + 1, by go_num, by omega, by rw [ET.out, ← List.append_assoc, HY.out]; exact ho⟩
       case measure => simp [intOf]; omega
  · have hd : decide ((k : Int) < (l.length : Int)) = false := by simp; omega
    obtain rfl : k = l.length := by omega
    go_wp2
    go_end0
    exact ⟨rfl, by rw [List.take_length] at ho; exact ho⟩
end Go.Proofs.YtmjbpmdbhbjndaaGreatDoor
namespace Go.Ev
open Go.RowKit
open Go.Proofs
open Go.Proofs.YtmjbpmdbhbjndaaGreatDoor (Ow Rd BIs BFr BOut bytes8 bytes8_len bld_number Row row_own)
noncomputable section
def m64 (v : V) : Nat := v_i (α := Nat) (0) (fun _ n => Nat.mod n 18446744073709551616) v
def numZ (cs : V) (l y m : Nat) : Nat := Nat.rec (motive := fun _ => Nat) y (fun j ih => bytesPut ih (Nat.add l (Nat.mul 8 j)) 8 (m64 (atC cs j))) m
def okP0 (x : Nm) (v : V) : Bool := v_p_np (α := Bool) (false) (fun a o => Bool.and (Nm.beq a x) (Nat.beq o 0)) (true) v
def wrB (x c : Nm) (t : Nat) : Blk := .row 108 2 2 false 0 (.cons (.p x 0) (.cons (.so c 0 0 t) .nil))
def bufB (t z : Nat) : Blk := .row 5 1 t true 0 (.cons (.bs t z) .nil)
def numR (x : Nm) (cs : V) (l y m : Nat) (h : H) (c : Nm) : R := frc (Nat.add l (Nat.mul 8 m)) (fun t => frc (numZ cs l y m) (fun z => Go.Ev.done (.tup .nil) (H.set x (wrB x c t) (H.set c (bufB t z) h)) (Nm.succ c)))
def numS (x : Nm) (s : V) (cs : V) (m : Nat) (h : H) (c : Nm) : C := v_so_ns (α := C) (.bad 986) (fun a o e l => asRowC (H.get a h) (fun el sz N op fz csb => Bool.rec (.bad 987) (rToC (bytesN csb 0 l (fun y => numR x cs l y m (H.set a .no h) c)))
 (Bool.and (Nat.beq o 0) (Bool.and (Nat.beq e 0) (Bool.and (Nat.beq el 5) (Bool.and (Nat.beq sz 1) (Bool.and (Nat.beq N l) (Bool.and op (Bool.and (Nat.beq fz 0) (Bool.and (Nat.ble 1 l) (Nat.ble l 500000))))))))))) (rToC (numR x cs 0 0 m h c)) s
def okWr (x : Nm) (ox el sz N : Nat) (op : Bool) (fz : Nat) (cw : V) : Bool := Bool.and (Nat.beq ox 0) (Bool.and (Nat.beq el 108) (Bool.and (Nat.beq sz 2) (Bool.and (Nat.beq N 2) (Bool.and (Bool.not op) (Bool.and (Nat.beq fz 0) (okP0 x (atC cw 0)))))))
def okIn (ob lb el sz N : Nat) (op : Bool) (cs : V) : Bool := Bool.and (Nat.beq ob 0) (Bool.and (Nat.beq el 3) (Bool.and (Nat.beq sz 1) (Bool.and (Nat.ble 1 lb) (Bool.and (Nat.ble lb N) (Bool.and (Nat.ble lb 1000) (Bool.and (Bool.not op) (allI3 cs lb)))))))
def orcNum : Cal → V → H → Nm → C := fun _ y h c => onCons y (.bad 981) (fun p y1 => onCons y1 (.bad 981) (fun s y2 => Bool.rec (.bad 982) (onP p (.bad 983) (fun x ox => onSl s (.bad 984) (fun b ob lb _ => asRowC (H.get x h) (fun el sz N op fz cw => asRowC (H.get b h) (fun el2 sz2 N2 op2 _ cs =>
 Bool.rec (.bad 985) (numS x (atC cw 1) cs lb h c) (Bool.and (okWr x ox el sz N op fz cw) (okIn ob lb el2 sz2 N2 op2 cs))))))) (sameV .nil y2)))
end
section
variable {L : Loc} {S : Ns} {h : H} {c : Nm} {w w' : World}
theorem onP_good {y : V} {n : Nat} {q : Nm → Nat → C} (hg : CGood (onP y (.bad n) q)) : ∃ a o, y = .p a o ∧ onP y (.bad n) q = q a o := by
 cases y <;> first | exact ⟨_, _, rfl, rfl⟩ | exact absurd rfl (hg n)
def BV (l y : Nat) : List Value := (List.range l).map fun j => iv 4 (byteAt y j)
theorem BV_len (l y : Nat) : (BV l y).length = l := by simp [BV]
theorem byte_int (n j : Nat) (hj : j < 8) : IntKind.u8.wrap (IntKind.i64.wrap (n : Int) / 256 ^ j) = IntKind.u8.wrap (byteAt (n % 18446744073709551616) j : Nat) := by
 rw [byteAt_eq]
 have e1 : ∀ m : Int, IntKind.u8.wrap m = m % 256 := fun m => by unfold IntKind.wrap; simp [IntKind.signed, IntKind.bits]
 have e2 : IntKind.i64.wrap (n : Int) = if (n : Int) % 18446744073709551616 < 9223372036854775808 then (n : Int) % 18446744073709551616 else (n : Int) % 18446744073709551616 - 18446744073709551616 := by
  unfold IntKind.wrap; simp [IntKind.signed, IntKind.bits]; omega
 rw [e1, e1, e2]
 match j, hj with
 | 0, _ => rw [show (256 : Int) ^ 0 = 1 from rfl, show 2 ^ (8 * 0) = 1 from rfl]; split <;> omega
 | 1, _ => rw [show (256 : Int) ^ 1 = 256 from rfl, show 2 ^ (8 * 1) = 256 from rfl]; split <;> omega
 | 2, _ => rw [show (256 : Int) ^ 2 = 65536 from rfl, show 2 ^ (8 * 2) = 65536 from rfl]; split <;> omega
 | 3, _ => rw [show (256 : Int) ^ 3 = 16777216 from rfl, show 2 ^ (8 * 3) = 16777216 from rfl]; split <;> omega
 | 4, _ => rw [show (256 : Int) ^ 4 = 4294967296 from rfl, show 2 ^ (8 * 4) = 4294967296 from rfl]; split <;> omega
 | 5, _ => rw [show (256 : Int) ^ 5 = 1099511627776 from rfl, show 2 ^ (8 * 5) = 1099511627776 from rfl]; split <;> omega
 | 6, _ => rw [show (256 : Int) ^ 6 = 281474976710656 from rfl, show 2 ^ (8 * 6) = 281474976710656 from rfl]; split <;> omega
 | 7, _ => rw [show (256 : Int) ^ 7 = 72057594037927936 from rfl, show 2 ^ (8 * 7) = 72057594037927936 from rfl]; split <;> omega
theorem bytes8_vI (n : Nat) : bytes8 (vI (.i 3 n)) = BV 8 (m64 (.i 3 n)) := by
 refine List.map_congr_left fun j hj => ?_
 have := byte_int n j (List.mem_range.1 hj)
 show Value.int .u8 (IntKind.u8.wrap (IntKind.i64.wrap (n : Int) / 256 ^ j)) = Value.int .u8 (IntKind.u8.wrap _)
 rw [this]; rfl
noncomputable def intsOf (cs : V) (m : Nat) : List Int := (List.range m).map fun j => vI (atC cs j)
theorem numZ_spec {cs : V} {l y : Nat} (hy : y < 2 ^ (8 * l)) : ∀ m, (∀ j, j < m → ∃ n, atC cs j = .i 3 n) → numZ cs l y m < 2 ^ (8 * (l + 8 * m)) ∧ BV (l + 8 * m) (numZ cs l y m) = BV l y ++ (intsOf cs m).flatMap bytes8
 | 0, _ => ⟨hy, by simp only [intsOf, List.range_zero, List.map_nil, List.flatMap_nil, List.append_nil]; rfl⟩
 | m + 1, hall => by
   obtain ⟨h1, h2⟩ := numZ_spec hy m fun j hj => hall j (by omega)
   obtain ⟨n, hn⟩ := hall m (by omega)
   have hlt : m64 (.i 3 n) < 2 ^ (8 * 8) := Nat.mod_lt _ (by decide)
   have e : numZ cs l y (m + 1) = bytesPut (numZ cs l y m) (l + 8 * m) 8 (m64 (.i 3 n)) := by rw [← hn]; rfl
   rw [e, show l + 8 * (m + 1) = l + 8 * m + 8 by omega]
   refine ⟨bsApp_lt h1 hlt, ?_⟩
   have h3 := bsApp h1 hlt
   have e2 : (intsOf cs (m + 1)).flatMap bytes8 = (intsOf cs m).flatMap bytes8 ++ BV 8 (m64 (.i 3 n)) := by
    rw [← bytes8_vI, ← hn]
    simp [intsOf, List.range_succ]
   rw [e2, ← List.append_assoc, ← h2]
   exact h3
theorem asPair {arr : Array Value} {a b : Value} (hs : arr.size = 2) (h0 : arr[0]? = some a) (h1 : arr[1]? = some b) : arr = #[a, b] := by
 obtain ⟨l⟩ := arr
 match l, hs with
 | [x, y], _ =>
   have e0 : x = a := by simpa using h0
   have e1 : y = b := by simpa using h1
   rw [e0, e1]
theorem num_post (hr : Rel L S h w) (hbd : Bd S c) {x : Nm} {cs : V} {l y m n0 : Nat} {r : Option Nat} {e : Ending} {h2 : H} {o1 : Obj} (hx : S x) (hxn : H.get x h2 ≠ .no) (hxr : isRo (H.get x h2) = false) (ho1 : w.heap[L.b x]? = some o1)
 (hm : 0 < m) (hy : y < 2 ^ (8 * l)) (hall : ∀ j, j < m → ∃ n, atC cs j = .i 3 n) (hr0 : r ≠ some (L.b x))
 (hout : e = .returned (.tuple #[]) ∧ BOut (L.b x) n0 r (BV l y ++ (intsOf cs m).flatMap bytes8) w w') (hn0 : n0 = l)
 (hh : (r = none ∧ h2 = h) ∨ ∃ a, r = some (L.b a) ∧ h2 = H.set a .no h ∧ H.get a h ≠ .no ∧ isRo (H.get a h) = false) : CPost L S h c w (rToC (numR x cs l y m h2 c)) e w' := by
 obtain ⟨he, hf, v, ⟨p, hwr, hp, hown⟩, hpl⟩ := hout
 obtain ⟨hz, hbv⟩ := numZ_spec (cs := cs) hy m hall
 have e0 : rToC (numR x cs l y m h2 c) = .ret (.tup .nil) (H.set x (wrB x c (l + 8 * m)) (H.set c (bufB (l + 8 * m) (numZ cs l y m)) h2)) (Nm.succ c) := by
  unfold numR; rw [frc_eq, frc_eq]; rfl
 rw [e0]
 rw [← hbv] at hown hp
 rw [BV_len] at hp
 obtain rfl : p = .pointer (some ⟨L.b x, 0, none⟩) := by
  rcases hp with hp | ⟨_, hp⟩
  · exact hp
  · omega
 rcases hown with ⟨_, h0⟩ | ⟨g, cap, cur, fr, rfl, hcur, hnc, hcm, hsz, htk, hfl, hfr⟩
 · have := congrArg List.length h0; rw [BV_len] at this; simp at this; omega
 rw [BV_len] at hwr hnc htk hpl
 have hnS : ¬ S c := nm_bd hbd (Nat.le_refl _)
 have hxc : x ≠ c := fun e => hnS (e ▸ hx)
 have hgx : g ≠ L.b x := fun e => by
  rw [e, hwr] at hcur
  simp only [Option.some.injEq, Obj.cells.injEq] at hcur
  exact absurd hcur.2.1 (by decide)
 -- the world with the builder as it was
 obtain ⟨w1, hw1⟩ : ∃ w1 : World, w1 = { w' with heap := w'.heap.setIfInBounds (L.b x) o1 } := ⟨_, rfl⟩
 have hlt : L.b x < w'.heap.size := (Array.getElem?_eq_some_iff.1 hwr).1
 have h1 : ∀ k, w1.heap[k]? = if L.b x = k then some o1 else w'.heap[k]? := fun k => by
  rw [hw1]
  show (w'.heap.setIfInBounds (L.b x) o1)[k]? = _
  rw [Array.getElem?_setIfInBounds]
  by_cases hk : L.b x = k
  · rw [if_pos hk, if_pos hk, if_pos (hk ▸ hlt)]
  · rw [if_neg hk, if_neg hk]
 have hs1 : w1.heap.size = w'.heap.size := by rw [hw1]; simp
 have hgrow : w.grownBy w1 r := ⟨by rw [hw1]; exact hf.os, by rw [hw1]; exact hf.tape, by rw [hw1]; exact hf.output, by rw [hs1]; exact hf.size, fun k hk hkr => by
  rw [h1]
  by_cases hkx : L.b x = k
  · rw [if_pos hkx, ← hkx, ho1]
  · rw [if_neg hkx]; exact hf.block k hk (Ne.symm hkx) hkr⟩
 have hcur1 : w1.heap[g]? = some (.cells cur 5 fr) := by rw [h1, if_neg (Ne.symm hgx)]; exact hcur
 have hbs : (wf S (.cons (.bs (l + 8 * m) (numZ cs l y m)) .nil)).l := ⟨hz, trivial⟩
 have hpc := put_lc (L := L) (b := g) (k := cap - (l + 8 * m)) hnS hbs
 have hlcv : lcv L (.cons (.bs (l + 8 * m) (numZ cs l y m)) .nil) = BV (l + 8 * m) (numZ cs l y m) := by
  show (List.range _).map _ ++ [] = _
  rw [List.append_nil]; rfl
 have hbr : BR (L.put c g (cap - (l + 8 * m))) (addN S c) c (bufB (l + 8 * m) (numZ cs l y m)) (.cells cur 5 fr) := by
  refine ⟨.inl rfl, hpc.2, ⟨.inr ⟨hfl, .inr rfl⟩, fun i _ hi => hfr i hi⟩, ?_⟩
  rw [if_pos rfl, hpc.1, hlcv, Loc.put_k]
  refine ⟨?_, by omega, by omega⟩
  rw [fit_self (BV_len _ _)]
  exact htk
 have st1 : Stp L S h c w (L.put c g (cap - (l + 8 * m))) (addN S c) (H.set c (bufB (l + 8 * m) (numZ cs l y m)) h2) (Nm.succ c) w1 := by
  have hplace : (Value.slice (some ⟨g, 0, none⟩) (l + 8 * m) cap).ownBlock = some g := rfl
  rw [hplace] at hpl
  rcases hh with ⟨rfl, rfl⟩ | ⟨a, rfl, rfl, ha, hro⟩
  · refine Stp.fresh hr hbd ⟨hgrow.os, hgrow.tape, hgrow.output, hgrow.size, fun k hk => hgrow.block k hk (by simp)⟩ ?_ hcur1 hbr (by simp [bufB])
    rcases hpl with h3 | ⟨k, h3, h4⟩
    · cases h3
    · cases h3; exact h4
  · refine Stp.moved hr hbd ha hro hgrow ?_ hcur1 hbr
    rcases hpl with h3 | ⟨k, h3, h4⟩
    · exact .inl (Option.some.inj h3)
    · cases h3; exact .inr h4
 have hag := (Loc.put_agr (L := L) (S := S) (n := c) g (cap - (l + 8 * m)) hnS x hx).1
 have hget : H.get x (H.set c (bufB (l + 8 * m) (numZ cs l y m)) h2) = H.get x h2 := by rw [hget_set, if_neg hxc]
 have hv : val (L.put c g (cap - (l + 8 * m))) (.so c 0 0 (l + 8 * m)) = .slice (some ⟨g, 0, none⟩) (l + 8 * m) cap := by
  show Value.slice (some ⟨(L.put c g (cap - (l + 8 * m))).b c, 0, none⟩) (l + 8 * m) (l + 8 * m + 0 + (L.put c g (cap - (l + 8 * m))).k c) = _
  rw [Loc.put_b, Loc.put_k, show l + 8 * m + 0 + (cap - (l + 8 * m)) = cap by omega]
 have st2 := Stp.put (w' := w') st1.rel st1.bd (n := x) (by rw [hget]; exact hxn) (b := wrB x c (l + 8 * m)) (o := .cells #[.pointer (some ⟨L.b x, 0, none⟩), .slice (some ⟨g, 0, none⟩) (l + 8 * m) cap] 108 (0, 0))
  (by
   refine ⟨.inl rfl, ⟨.inl hx, .inr rfl, trivial⟩, fr0 _ _, ?_⟩
   rw [if_neg (by decide)]
   show _ = fit 2 [val _ (.p x 0), val _ (.so c 0 0 (l + 8 * m))]
   rw [hv]
   refine Eq.trans ?_ (fit_self (w := 2) rfl).symm
   show _ = [Value.pointer (some ⟨(L.put c g (cap - (l + 8 * m))).b x, 0, none⟩), _]
   rw [hag])
  (by rw [hag]; exact hwr) (fun k hk => by rw [hag] at hk; rw [h1, if_neg (Ne.symm hk)]) hs1.symm (by rw [hget]; exact hxr) (by rw [hw1]; exact ⟨rfl, rfl, rfl⟩)
 exact ⟨_, _, he, trivial, st1.trans st2⟩
set_option maxHeartbeats 1000000 in
theorem orcNum_ok {cd : Code} (hb : Tryz.f24.body = some cd) : OrcOk Tryz.prog 24 orcNum := by
 intro cal args h c L S w _ hr hbd hgok ha hg
 obtain ⟨p, y1, rfl, e1⟩ := onCons_good (n := 981) hg
 have e1' : orcNum cal (.cons p y1) h c = _ := e1
 rw [e1'] at hg ⊢
 obtain ⟨s, y2, rfl, e2⟩ := onCons_good (n := 981) hg
 rw [e2] at hg ⊢
 obtain ⟨hz, e3⟩ := crec_good (z := sameV .nil y2) hg
 rw [e3] at hg ⊢
 have h3 := sameV_eq _ _ hz
 subst h3
 obtain ⟨x, ox, rfl, e4⟩ := onP_good (n := 983) hg
 rw [e4] at hg ⊢
 obtain ⟨b, ob, lb, cb, rfl, e5⟩ := onSl_good (n := 984) hg
 rw [e5] at hg ⊢
 obtain ⟨el, sz, N, op, fz, cw, hn, e6⟩ := asRowC_good hg
 rw [e6] at hg ⊢
 obtain ⟨el2, sz2, N2, op2, fz2, cs, hn2, e7⟩ := asRowC_good hg
 rw [e7] at hg ⊢
 obtain ⟨hq, e8⟩ := crec_good (z := Bool.and (okWr x ox el sz N op fz cw) (okIn ob lb el2 sz2 N2 op2 cs)) hg
 rw [e8] at hg ⊢
 obtain ⟨q1, q2⟩ := boolAnd2 hq
 obtain ⟨a1, ar1⟩ := boolAnd2 q1; obtain ⟨a2, ar2⟩ := boolAnd2 ar1; obtain ⟨a3, ar3⟩ := boolAnd2 ar2; obtain ⟨a4, ar4⟩ := boolAnd2 ar3; obtain ⟨a5, ar5⟩ := boolAnd2 ar4; obtain ⟨a6, ar6⟩ := boolAnd2 ar5; have a7 := ar6
 obtain ⟨b1, br1⟩ := boolAnd2 q2; obtain ⟨b2, br2⟩ := boolAnd2 br1; obtain ⟨b3, br3⟩ := boolAnd2 br2; obtain ⟨b4, br4⟩ := boolAnd2 br3; obtain ⟨b5, br5⟩ := boolAnd2 br4; obtain ⟨b6, br6⟩ := boolAnd2 br5; obtain ⟨b7, br7⟩ := boolAnd2 br6; have b8 := br7
 rw [Nat.beq_eq] at a1 a2 a3 a4 a6 b1 b2 b3
 rw [Nat.ble_eq] at b4 b5 b6
 rw [Bool.not_eq_true'] at a5 b7
 subst a1 a2 a3 a4 a5 a6 b1 b2 b3 b7
 -- the builder
 obtain ⟨hSx, o1, ho1, hbr1⟩ := hr.blk x (by rw [hn]; simp)
 rw [hn] at hbr1
 obtain ⟨arr, fr, elw, rfl, hcw, hfr, htk, hN, harr, _⟩ := hbr1.row
 have hsz : arr.size = 2 := harr rfl
 obtain rfl : elw = 108 := by
  rcases hbr1.1 with h1 | ⟨h1, _⟩
  · exact h1
  · exact absurd h1 (by decide)
 obtain rfl : fr = (0, 0) := by
  rcases hfr.1 with h3 | ⟨_, h3 | h3⟩
  · exact absurd h3 (by decide)
  · exact h3
  · cases h3
 have hc0 : arr[0]? = some (val L (atC cw 0)) := by rw [row_cell htk (by decide), ((atC_spec L S cw).2 hcw 0).1]
 have hc1 : arr[1]? = some (val L (atC cw 1)) := by rw [row_cell htk (by decide), ((atC_spec L S cw).2 hcw 1).1]
 obtain rfl := asPair hsz hc0 hc1
 have hp0 : val L (atC cw 0) = .pointer (some ⟨L.b x, 0, none⟩) ∨ val L (atC cw 0) = .pointer none := by
  revert a7
  cases hv : atC cw 0 <;> intro a7 <;> first | exact .inr rfl | (cases a7; done) | skip
  · rename_i a o
    have a7' : Bool.and (Nm.beq a x) (Nat.beq o 0) = true := a7
    obtain ⟨q1, q2⟩ := boolAnd2 a7'
    rw [nm_beq] at q1
    rw [Nat.beq_eq] at q2
    subst q1 q2
    exact .inl rfl
 -- the numbers
 have hall := allI3_get lb b8
 obtain ⟨hSb, o2, ho2, hbr2⟩ := hr.blk b (by rw [hn2]; simp)
 rw [hn2] at hbr2
 obtain ⟨arr2, fr2, el3, rfl, hcs, hfr2, htk2, hN2, harr2, _⟩ := hbr2.row
 have hli : (intsOf cs lb).length = lb := by simp [intsOf]
 have hrd : Rd w w.heap.size 1 (some ⟨L.b b, 0, none⟩) (intsOf cs lb).length ((intsOf cs lb).map (Value.int .i64)) := by
  refine ⟨by simp, fun _ => ⟨_, rfl, lt_size ho2, fun j v hj => ?_⟩⟩
  have hj2 : j < lb := by have := (List.getElem?_eq_some_iff.1 hj).1; simpa [intsOf] using this
  obtain ⟨n, hnj⟩ := hall j hj2
  have e : v = val L (atC cs j) := by
   rw [List.getElem?_map, intsOf, List.getElem?_map, List.getElem?_range hj2] at hj
   simp only [Option.map_some, Option.some.injEq] at hj
   rw [← hj, hnj]; rfl
  rw [e, addr_add, Nat.zero_add, cell_of_row w _ j arr2 _ fr2 ho2, row_cell htk2 (by omega), ((atC_spec L S cs).2 hcs j).1]
 refine orc_post namesOk Tryz.func24 hb ?_
 have hl : (lsv L (.cons (.p x 0) (.cons (.sl b 0 lb cb) .nil))).toArray = #[.pointer (some ⟨L.b x, 0, none⟩), .slice (some ⟨L.b b, 0, none⟩) lb cb] := rfl
 rw [hl]
 replace hg : CGood (numS x (atC cw 1) cs lb h c) := hg
 show Calls _ _ _ w (CPost L S h c w (numS x (atC cw 1) cs lb h c))
 have hbx : L.b b ≠ L.b x := fun e => by
  have := hr.inj b x (by rw [hn2]; simp) (by rw [hn]; simp) e
  subst this
  rw [hn] at hn2
  simp only [Blk.row.injEq] at hn2
  exact absurd hn2.1 (by decide)
 have hxr : isRo (H.get x h) = false := by rw [hn]; rfl
 cases hv : atC cw 1 with
 | ns =>
   rw [hv] at ho1
   have hbis : BIs (L.b x) 0 (.slice none 0 0) (BV 0 0) w := ⟨_, ho1, hp0.imp id fun h => ⟨h, rfl⟩, .inl ⟨rfl, rfl⟩⟩
   have hcall := bld_number (L.b x) 0 (.slice none 0 0) (BV 0 0) (some ⟨L.b b, 0, none⟩) cb (intsOf cs lb) w hbis (fun ad had => by cases had; exact ⟨hbx, by simp [Value.ownBlock]⟩) hrd (by rw [BV_len, hli]; omega)
   rw [hli] at hcall
   exact hcall.mono fun e w' hout => num_post hr hbd hSx (by rw [hn]; simp) hxr ho1 b4 (by decide) hall (by simp [Value.ownBlock]) hout rfl (.inl ⟨rfl, rfl⟩)
 | so a o e l =>
   rw [hv] at ho1 hg
   obtain ⟨el', sz', N', op', fz', csb, hna, e9⟩ := asRowC_good (b := H.get a h) hg
   have e9' : numS x (.so a o e l) cs lb h c = _ := e9
   rw [e9'] at hg ⊢
   obtain ⟨hq, e10⟩ := crec_good (z := _) hg
   rw [e10] at hg ⊢
   obtain ⟨d1, dr1⟩ := boolAnd2 hq; obtain ⟨d2, dr2⟩ := boolAnd2 dr1; obtain ⟨d3, dr3⟩ := boolAnd2 dr2; obtain ⟨d4, dr4⟩ := boolAnd2 dr3; obtain ⟨d5, dr5⟩ := boolAnd2 dr4; obtain ⟨d6, dr6⟩ := boolAnd2 dr5; obtain ⟨d7, dr7⟩ := boolAnd2 dr6; obtain ⟨d8, dr8⟩ := boolAnd2 dr7; have d9 := dr8
   rw [Nat.beq_eq] at d1 d2 d3 d4 d5 d7
   rw [Nat.ble_eq] at d8 d9
   subst d1 d2 d3 d4 d5 d6 d7
   obtain ⟨hSa, o3, ho3, hbr3⟩ := hr.blk a (by rw [hna]; simp)
   rw [hna] at hbr3
   obtain ⟨arr3, fr3, el4, rfl, hcsb, hfr3, htk3, hN3, _, hcap⟩ := hbr3.row
   obtain rfl : el4 = 5 := by
    rcases hbr3.1 with h1 | ⟨h1, _⟩
    · exact h1
    · exact absurd h1 (by decide)
   obtain ⟨y, e11, hy, e12⟩ := (bytesN_spec L S csb).2 hcsb 0 N' _ (rToC_good hg)
   rw [e11]
   have hax : L.b a ≠ L.b x := fun e => by
    have := hr.inj a x (by rw [hna]; simp) (by rw [hn]; simp) e
    subst this
    rw [hn] at hna
    simp only [Blk.row.injEq] at hna
    exact absurd hna.1 (by decide)
   have hba : L.b b ≠ L.b a := fun e => by
    have := hr.inj b a (by rw [hn2]; simp) (by rw [hna]; simp) e
    subst this
    rw [hna] at hn2
    simp only [Blk.row.injEq] at hn2
    exact absurd hn2.1 (by decide)
   have hlen : (((lcv L csb).drop 0).take N').length = N' := by rw [e12]; simp [chv_bs, bytesL]
   have hcells : arr3.toList.take N' = BV N' y := by
    have h9 : (lcv L csb).take N' = BV N' y := by rw [List.drop_zero] at e12; exact e12
    rw [htk3, ← fit_take, h9, fit_self (BV_len _ _)]
   have hcs3 := hcap rfl
   have hfr3' : fr3.1 ≤ fr3.2 := (hfr3.1.resolve_left (by decide)).1
   have how : Ow w (val L (.so a 0 0 N')) (BV N' y) := by
    have e : val L (.so a 0 0 N') = .slice (some ⟨L.b a, 0, none⟩) N' (N' + L.k a) := by
     show Value.slice (some ⟨L.b a, 0, none⟩) N' (N' + 0 + L.k a) = _
     rw [Nat.add_zero]
    rw [e]
    refine .inr ⟨L.b a, N' + L.k a, arr3, fr3, by rw [BV_len], ho3, by rw [BV_len]; omega, by have := hcs3.2; omega, by have := hcs3.1; omega, by rw [BV_len]; exact hcells, hfr3', fun i hi => hfr3.2 i (Nat.zero_le _) hi⟩
   have hbis : BIs (L.b x) N' (val L (.so a 0 0 N')) (BV N' y) w := ⟨_, ho1, hp0.imp id fun h => ⟨h, BV_len _ _⟩, how⟩
   have hcall := bld_number (L.b x) N' (val L (.so a 0 0 N')) (BV N' y) (some ⟨L.b b, 0, none⟩) cb (intsOf cs lb) w hbis (fun ad had => by cases had; exact ⟨hbx, fun e => hba (Option.some.inj e)⟩) hrd (by rw [BV_len, hli]; omega)
   rw [hli] at hcall
   have hxa : x ≠ a := fun e => hax (by rw [e])
   have hgx : H.get x (H.set a .no h) = H.get x h := by rw [hget_set, if_neg hxa]
   exact hcall.mono fun e w' hout => num_post hr hbd hSx (by rw [hgx, hn]; simp) (by rw [hgx]; exact hxr) ho1 b4 hy hall (fun e => hax (Option.some.inj e)) hout rfl (.inr ⟨a, rfl, rfl, by rw [hna]; simp, by rw [hna]; rfl⟩)
 | _ => rw [hv] at hg; exact absurd rfl (hg 986)
end
end Go.Ev

namespace Go.Ev
noncomputable section
def rCondJ (x : Opnd) (jump : KN) : RC := fun _ t d h c k => asB (ev x [] t) (fun z => Bool.rec (k t d h c) (jump t d h c) z)
def isGoto (l : Nat) (c : Code) : Bool := match c with | .goto l' => Nat.beq l' l | _ => false
def isSkip (c : Code) : Bool := match c with | .skip => true | _ => false
def compJ (P : Program) (G far nt fid lf l : Nat) (jump : KN) : Code → RC
 | .seq a b => rSeq (compJ P G far nt fid lf l jump a) (compJ P G far nt fid lf l jump b)
 | .cond x p q => Bool.rec (comp P G far nt fid lf none (.cond x p q)) (rCondJ (cOpd ⟨[], 0, G⟩ x) jump) (isGoto l p && isSkip q)
 | c => comp P G far nt fid lf none c
def jumpN (P : Program) (G far nt fid lf l : Nat) (rest : Code) (cal : Cal) (k : KN) (n : Nat) : KN :=
 Nat.rec (motive := fun _ => KN) (fun _ _ _ _ => .bad 403) (fun _ ih t d h c => compJ P G far nt fid lf l ih rest cal t d h c k) n
def rScopeJ (P : Program) (G far nt fid lf l : Nat) (x rest : Code) : RC := fun cal t d h c k => compJ P G far nt fid lf l (jumpN P G far nt fid lf l rest cal k lf) x cal t d h c k
def bodyJ (P : Program) (far nt fid lf l : Nat) (c : Code) : RC := match c with
 | .seq a (.scope x) => match findLabel x l with
   | some rest => rSeq (comp P P.globals.size far nt fid lf none a) (rScopeJ P P.globals.size far nt fid lf l x rest)
   | none => rBad 404
 | _ => rBad 404
def orcGo (P : Program) (lf l f : Nat) : Cal → V → H → Nm → C := match P.funcs[f]? with
 | none => fun _ _ _ _ => .bad 421
 | some fn => match fn.body with
   | none => fun _ _ _ _ => .bad 421
   | some c => if fn.results.toList.all (okRes P) then runF (.mk f (bodyJ P (maskF fn) fn.ntmps f lf l c) (cIni (maskF fn) (fn.params.size + fn.nfree) 0)
    (fn.results.toList.map (rsOf P)) (fn.results.size == 1) (fn.results.size == 0)) else fun _ _ _ _ => .bad 436
end
section
variable {P : Program} {far nt : Nat}
theorem wp_scope_fuel {c rest : Code} {Q : Exit → Act → World → Prop} {a : Act} {w : World} (l : Nat) (J : Nat → Act → World → Prop) (hf : findLabel c l = some rest)
 (n : Nat) (first : c.wp P (Exit.jump l (J n) Q) a w)
 (pass : ∀ m a w, J (m + 1) a w → rest.wp P (Exit.jump l (J m) Q) a w) (none_ : ∀ a w, ¬ J 0 a w) : (Code.scope c).wp P Q a w := by
 intro b k cs
 have hg : gotoIn l (.inScope c :: k) = some (.code rest :: .inScope c :: k) := by simp [gotoIn, hf]
 have key : ∀ n a w, J n a w → ∃ e a' w', Q e a' w' ∧ Arrives P (lone (b.at a (.code rest :: .inScope c :: k)) cs w) b k cs e a' w' := by
  intro n
  induction n with
  | zero => exact fun a w hJ => (none_ a w hJ).elim
  | succ n ih =>
    intro a w hJ
    obtain ⟨e, a₁, w₁, hq, harr⟩ := pass n a w hJ b (.inScope c :: k) cs
    cases e with
    | normal => exact ⟨.normal, a₁, w₁, hq, Steps.trans harr (.one step_inScope)⟩
    | exit id => exact ⟨.exit id, a₁, w₁, hq, fun k' hk => harr k' (by simp [exitTo, hk])⟩
    | goto l' =>
      obtain ⟨rfl, hJ'⟩ := hq
      obtain ⟨e₂, a₂, w₂, hq₂, harr₂⟩ := ih a₁ w₁ hJ'
      exact ⟨e₂, a₂, w₂, hq₂, .of_steps (harr _ hg) harr₂⟩
    | ret => exact ⟨_, a₁, w₁, hq, harr⟩
    | panic ch => exact ⟨_, a₁, w₁, hq, harr⟩
    | outgrown => exact ⟨_, a₁, w₁, hq, harr⟩
 obtain ⟨e, a₁, w₁, hq, harr⟩ := first b (.inScope c :: k) cs
 cases e with
 | normal => exact ⟨.normal, a₁, w₁, hq, .head step_scope (Steps.trans harr (.one step_inScope))⟩
 | exit id => exact ⟨.exit id, a₁, w₁, hq, fun k' hk => .head step_scope (harr k' (by simp [exitTo, hk]))⟩
 | goto l' =>
   obtain ⟨rfl, hJ'⟩ := hq
   obtain ⟨e₂, a₂, w₂, hq₂, harr₂⟩ := key _ a₁ w₁ hJ'
   exact ⟨e₂, a₂, w₂, hq₂, .of_steps (.head step_scope (harr _ hg)) harr₂⟩
 | ret => exact ⟨_, a₁, w₁, hq, .of_steps (.one step_scope) harr⟩
 | panic ch => exact ⟨_, a₁, w₁, hq, .of_steps (.one step_scope) harr⟩
 | outgrown => exact ⟨_, a₁, w₁, hq, .of_steps (.one step_scope) harr⟩
theorem compJ_sound (hn : NamesOk P) {fid lf l : Nat} (cal : Cal) (hcal : CalOk P cal) : ∀ (cd : Code) (t : T) (d : List D) (h : H) (c : Nm) (k jump : KN) (a : Act) (w : World) (L : Loc) (S : Ns) (Q : Exit → Act → World → Prop),
 St P none none far nt t d h c a w L S → (compJ P P.globals.size far nt fid lf l jump cd cal t d h c k).Good →
 Out P none none far nt h c w L S (compJ P P.globals.size far nt fid lf l jump cd cal t d h c k) k Q →
 (∀ t' d' h' c' L' S' a' w', Stp L S h c w L' S' h' c' w' → St P none none far nt t' d' h' c' a' w' L' S' → compJ P P.globals.size far nt fid lf l jump cd cal t d h c k = jump t' d' h' c' → Q (.goto l) a' w') →
 cd.wpIn (fnc none) 0 P Q a w := by
 intro cd
 induction cd with
 | seq x y ihx ihy =>
   intro t d h c k jump a w L S Q hs hg ho hj
   have e0 : compJ P P.globals.size far nt fid lf l jump (.seq x y) cal t d h c k = compJ P P.globals.size far nt fid lf l jump x cal t d h c (fun t d h c => compJ P P.globals.size far nt fid lf l jump y cal t d h c k) := rfl
   rw [e0] at hg ho hj
   refine wpIn_seq (ihx t d h c _ jump a w L S _ hs hg ⟨?_, ?_, ?_, ?_⟩ ?_)
   · intro t' d' h' c' L' S' a' w' h1 h2 h3
     refine ihy t' d' h' c' k jump a' w' L' S' Q h2 (h3 ▸ hg) ⟨?_, ?_, ?_, ?_⟩ ?_
     · intro t2 d2 h2' c2 L2 S2 a2 w2 g1 g2 g3
       exact ho.norm t2 d2 h2' c2 L2 S2 a2 w2 (h1.trans g1) g2 (h3.trans g3)
     · intro t2 d2 h2' c2 L2 S2 a2 w2 g1 g2 g3
       exact ho.ret t2 d2 h2' c2 L2 S2 a2 w2 (h1.trans g1) g2 (h3.trans g3)
     · intro id t2 d2 h2' c2 L2 S2 a2 w2 g1 g2 g3
       exact ho.exit id t2 d2 h2' c2 L2 S2 a2 w2 (h1.trans g1) g2 (h3.trans g3)
     · intro ch chain t2 d2 h2' c2 L2 S2 a2 w2 g1 g2 g3 g4
       exact ho.panic ch chain t2 d2 h2' c2 L2 S2 a2 w2 (h1.trans g1) g2 g3 (h3.trans g4)
     · intro t2 d2 h2' c2 L2 S2 a2 w2 g1 g2 g3
       exact hj t2 d2 h2' c2 L2 S2 a2 w2 (h1.trans g1) g2 (h3.trans g3)
   · exact ho.ret
   · exact ho.exit
   · exact ho.panic
   · exact hj
 | cond x p q ihp ihq =>
   intro t d h c k jump a w L S Q hs hg ho hj
   cases hz : (isGoto l p && isSkip q)
   · have e0 : compJ P P.globals.size far nt fid lf l jump (.cond x p q) = comp P P.globals.size far nt fid lf none (.cond x p q) := by
      rw [compJ, hz]
     rw [e0] at hg ho
     exact comp_sound hn (.cond x p q) cal t d h c k a w L S Q hcal hs hg ho
   · have e0 : compJ P P.globals.size far nt fid lf l jump (.cond x p q) = rCondJ (cOpd ⟨[], 0, P.globals.size⟩ x) jump := by
      rw [compJ, hz]
     rw [e0] at hg ho hj
     have hp : p = .goto l := by
      rw [Bool.and_eq_true] at hz
      cases p <;> first | (rename_i l'; have := Nat.eq_of_beq_eq_true hz.1; rw [this]) | cases hz.1
     have hq : q = .skip := by
      rw [Bool.and_eq_true] at hz
      cases q <;> first | rfl | cases hz.2
     subst hp
     subst hq
     have hg' : (asB (ev (cOpd ⟨[], 0, P.globals.size⟩ x) [] t) (fun z => Bool.rec (k t d h c) (jump t d h c) z)).Good := hg
     obtain ⟨z, hz1, e1⟩ := asB_good hg'
     have hm := (RI.start (nt := nt) hs.gok hs.tm hs.size).mat.at x hz1 (by simp)
     have e2 : rCondJ (cOpd ⟨[], 0, P.globals.size⟩ x) jump cal t d h c k = (Bool.rec (k t d h c) (jump t d h c) z : R) := e1
     refine wpIn_cond (t := z) hm.1 ?_
     rw [e2] at ho hj
     cases z
     · exact wpIn_skip (ho.norm t d h c L S a w (Stp.refl hs.rel hs.bd) hs rfl)
     · exact wpIn_goto (hj t d h c L S a w (Stp.refl hs.rel hs.bd) hs rfl)
 | _ =>
   intro t d h c k jump a w L S Q hs hg ho _
   exact comp_sound hn _ cal t d h c k a w L S Q hcal hs hg ho
theorem CS.scopeJ (hn : NamesOk P) {fid lf l : Nat} {x rest : Code} (hf : findLabel x l = some rest) : CS P none none far nt (.scope x) (rScopeJ P P.globals.size far nt fid lf l x rest) := by
 intro cal t d h c k a w L S Q hcal hs hg ho
 let J : Nat → Act → World → Prop := fun n a' w' => ∃ t' d' h' c' L' S', Stp L S h c w L' S' h' c' w' ∧ St P none none far nt t' d' h' c' a' w' L' S' ∧ rScopeJ P P.globals.size far nt fid lf l x rest cal t d h c k = jumpN P P.globals.size far nt fid lf l rest cal k n t' d' h' c'
 have hw : ∀ (cd : Code) (Q' : Exit → Act → World → Prop) (a' : Act) (w' : World), cd.wpIn (fnc none) 0 P Q' a' w' ↔ cd.wp P Q' a' w' := fun _ _ _ _ => wpIn_wide
 rw [hw]
 refine wp_scope_fuel l J hf lf ?_ ?_ ?_
 · rw [← hw]
   refine compJ_sound hn cal hcal x t d h c k _ a w L S _ hs hg ⟨?_, ?_, ?_, ?_⟩ ?_
   · exact ho.norm
   · exact ho.ret
   · exact ho.exit
   · exact ho.panic
   · intro t' d' h' c' L' S' a' w' h1 h2 h3
     exact ⟨rfl, t', d', h', c', L', S', h1, h2, h3⟩
 · rintro m a' w' ⟨t', d', h', c', L', S', h1, h2, h3⟩
   rw [← hw]
   have e0 : jumpN P P.globals.size far nt fid lf l rest cal k (m + 1) t' d' h' c' = compJ P P.globals.size far nt fid lf l (jumpN P P.globals.size far nt fid lf l rest cal k m) rest cal t' d' h' c' k := rfl
   rw [e0] at h3
   refine compJ_sound hn cal hcal rest t' d' h' c' k _ a' w' L' S' _ h2 (h3 ▸ hg) ⟨?_, ?_, ?_, ?_⟩ ?_
   · intro t2 d2 h2' c2 L2 S2 a2 w2 g1 g2 g3
     exact ho.norm t2 d2 h2' c2 L2 S2 a2 w2 (h1.trans g1) g2 (h3.trans g3)
   · intro t2 d2 h2' c2 L2 S2 a2 w2 g1 g2 g3
     exact ho.ret t2 d2 h2' c2 L2 S2 a2 w2 (h1.trans g1) g2 (h3.trans g3)
   · intro id t2 d2 h2' c2 L2 S2 a2 w2 g1 g2 g3
     exact ho.exit id t2 d2 h2' c2 L2 S2 a2 w2 (h1.trans g1) g2 (h3.trans g3)
   · intro ch chain t2 d2 h2' c2 L2 S2 a2 w2 g1 g2 g3 g4
     exact ho.panic ch chain t2 d2 h2' c2 L2 S2 a2 w2 (h1.trans g1) g2 g3 (h3.trans g4)
   · intro t2 d2 h2' c2 L2 S2 a2 w2 g1 g2 g3
     exact ⟨rfl, t2, d2, h2', c2, L2, S2, h1.trans g1, g2, h3.trans g3⟩
 · rintro a' w' ⟨t', d', h', c', L', S', h1, h2, h3⟩
   exact hg 403 h3
theorem bodyJ_CS (hn : NamesOk P) {fid lf l : Nat} (cd : Code) : CS P none none far nt cd (bodyJ P far nt fid lf l cd) := by
 unfold bodyJ
 split
 · split
   · rename_i hf
     exact CS.seq (comp_sound hn _) (CS.scopeJ hn hf)
   · exact CS.bad
 · exact CS.bad
theorem orcGo_ok (hn : NamesOk P) (lf l f : Nat) : OrcOk P f (orcGo P lf l f) := by
 intro cal args h c L S w hcal hr hbd hgok ha hg
 cases hf : P.funcs[f]? with
 | none => have e1 : orcGo P lf l f = fun _ _ _ _ => .bad 421 := by unfold orcGo; simp only [hf]
           rw [e1] at hg; exact absurd rfl (hg 421)
 | some fn =>
   cases hb : fn.body with
   | none => have e1 : orcGo P lf l f = fun _ _ _ _ => .bad 421 := by unfold orcGo; simp only [hf, hb]
             rw [e1] at hg; exact absurd rfl (hg 421)
   | some cd =>
     cases hk : fn.results.toList.all (okRes P)
     · have e1 : orcGo P lf l f = fun _ _ _ _ => .bad 436 := by unfold orcGo; simp only [hf, hb, hk]; rfl
       rw [e1] at hg; exact absurd rfl (hg 436)
     · have e1 : orcGo P lf l f = runF (.mk f (bodyJ P (maskF fn) fn.ntmps f lf l cd) (cIni (maskF fn) (fn.params.size + fn.nfree) 0) (fn.results.toList.map (rsOf P)) (fn.results.size == 1) (fn.results.size == 0)) := by
        unfold orcGo; simp only [hf, hb, hk, if_true]
       rw [run_callFunc hn hf hb]
       rw [e1] at hg ⊢
       exact fn_sound hf hb (bodyJ_CS hn cd) hk hcal hr hbd hgok ha rfl hg
end
end Go.Ev

namespace Go.Ev
open Go.Proofs
noncomputable def orcsN : List (Nat × (Cal → V → H → Nm → C)) := (24, orcNum) :: orcsI
theorem orcsN_ok : ∀ p ∈ orcsN, OrcOk Tryz.prog p.1 p.2 := fun p hp => by
 have b1 : ∃ cd, Tryz.f24.body = some cd := Option.isSome_iff_exists.1 (by kernel_rfl)
 obtain ⟨_, b1⟩ := b1
 rcases List.mem_cons.1 hp with rfl | hp
 · exact orcNum_ok b1
 exact orcsI_ok p hp
end Go.Ev

namespace Go.Ev
open Go.Proofs
noncomputable def orcsD : List (Nat × (Cal → V → H → Nm → C)) := (4, orcGo Tryz.prog 3000 0 4) :: orcsN
theorem orcsD_ok : ∀ p ∈ orcsD, OrcOk Tryz.prog p.1 p.2 := fun p hp => by
 rcases List.mem_cons.1 hp with rfl | hp
 · exact orcGo_ok namesOk 3000 0 _
 exact orcsN_ok p hp
end Go.Ev
