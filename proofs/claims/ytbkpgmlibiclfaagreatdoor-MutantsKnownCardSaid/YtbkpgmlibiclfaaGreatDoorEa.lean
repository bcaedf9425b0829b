/- The oracles that closed laws are reckoned with. -/
import Derived.Test.YtbkpgmlibiclfaaGreatDoorE6
import Derived.Test.YtbkpgmlibiclfaaGreatDoorE8
import Derived.Test.YtbkpgmlibiclfaaGreatDoorE9
import Derived.Test.YtbkpgmlibiclfaaGreatDoorE7
import Derived.Test.YtbkpgmlibiclfaaGreatDoorIns
import Derived.Test.YtbkpgmlibiclfaaGreatDoorCrs
set_option maxRecDepth 4000

namespace Go.Ev
open Go.Proofs
theorem noO_ok : ∀ f g, noO f = some g → OrcOk Tryz.prog f g := fun f g h => by cases h
theorem cG_ok : Tryz.prog.globals.size < cG.toNat := by rw [globs]; decide
theorem sub_parts : ∀ i, i < 256 → ∃ a m, a ≤ i ∧ i < a + m ∧ tabRun Tryz.prog noO 3000 60 465 subT a m = true := by
 intro i hi
 by_cases h0 : i < 16
 · exact ⟨0, 16, by omega, by omega, sub_0⟩
 by_cases h16 : i < 32
 · exact ⟨16, 16, by omega, by omega, sub_16⟩
 by_cases h32 : i < 48
 · exact ⟨32, 16, by omega, by omega, sub_32⟩
 by_cases h48 : i < 64
 · exact ⟨48, 16, by omega, by omega, sub_48⟩
 by_cases h64 : i < 80
 · exact ⟨64, 16, by omega, by omega, sub_64⟩
 by_cases h80 : i < 96
 · exact ⟨80, 16, by omega, by omega, sub_80⟩
 by_cases h96 : i < 112
 · exact ⟨96, 16, by omega, by omega, sub_96⟩
 by_cases h112 : i < 128
 · exact ⟨112, 16, by omega, by omega, sub_112⟩
 by_cases h128 : i < 144
 · exact ⟨128, 16, by omega, by omega, sub_128⟩
 by_cases h144 : i < 160
 · exact ⟨144, 16, by omega, by omega, sub_144⟩
 by_cases h160 : i < 176
 · exact ⟨160, 16, by omega, by omega, sub_160⟩
 by_cases h176 : i < 192
 · exact ⟨176, 16, by omega, by omega, sub_176⟩
 by_cases h192 : i < 208
 · exact ⟨192, 16, by omega, by omega, sub_192⟩
 by_cases h208 : i < 224
 · exact ⟨208, 16, by omega, by omega, sub_208⟩
 by_cases h224 : i < 240
 · exact ⟨224, 16, by omega, by omega, sub_224⟩
 by_cases h240 : i < 256
 · exact ⟨240, 16, by omega, by omega, sub_240⟩
 omega
theorem mul1_parts : ∀ i, i < 256 → ∃ a m, a ≤ i ∧ i < a + m ∧ tab2Run Tryz.prog noO 3000 60 478 1 mul1T a m = true := by
 intro i hi
 by_cases h0 : i < 64
 · exact ⟨0, 64, by omega, by omega, mul1_0⟩
 by_cases h64 : i < 128
 · exact ⟨64, 64, by omega, by omega, mul1_64⟩
 by_cases h128 : i < 192
 · exact ⟨128, 64, by omega, by omega, mul1_128⟩
 by_cases h192 : i < 256
 · exact ⟨192, 64, by omega, by omega, mul1_192⟩
 omega
theorem mul2_parts : ∀ i, i < 256 → ∃ a m, a ≤ i ∧ i < a + m ∧ tab2Run Tryz.prog noO 3000 60 478 2 mul2T a m = true := by
 intro i hi
 by_cases h0 : i < 64
 · exact ⟨0, 64, by omega, by omega, mul2_0⟩
 by_cases h64 : i < 128
 · exact ⟨64, 64, by omega, by omega, mul2_64⟩
 by_cases h128 : i < 192
 · exact ⟨128, 64, by omega, by omega, mul2_128⟩
 by_cases h192 : i < 256
 · exact ⟨192, 64, by omega, by omega, mul2_192⟩
 omega
theorem mul3_parts : ∀ i, i < 256 → ∃ a m, a ≤ i ∧ i < a + m ∧ tab2Run Tryz.prog noO 3000 60 478 3 mul3T a m = true := by
 intro i hi
 by_cases h0 : i < 64
 · exact ⟨0, 64, by omega, by omega, mul3_0⟩
 by_cases h64 : i < 128
 · exact ⟨64, 64, by omega, by omega, mul3_64⟩
 by_cases h128 : i < 192
 · exact ⟨128, 64, by omega, by omega, mul3_128⟩
 by_cases h192 : i < 256
 · exact ⟨192, 64, by omega, by omega, mul3_192⟩
 omega
theorem subT_ok : OrcOk Tryz.prog 465 (orcTab subT) := by
 have b : ∃ cd, Tryz.f465.body = some cd := Option.isSome_iff_exists.1 (by kernel_rfl)
 obtain ⟨_, b⟩ := b
 exact orcTab_ok (lf := 3000) (n := 60) namesOk noO_ok Tryz.func465 b cG_ok subT sub_parts
theorem mulTs_ok : OrcOk Tryz.prog 478 (orcTab2 mulTs) := by
 have b : ∃ cd, Tryz.f478.body = some cd := Option.isSome_iff_exists.1 (by kernel_rfl)
 obtain ⟨_, b⟩ := b
 refine orcTab2_ok (lf := 3000) (n := 60) namesOk noO_ok Tryz.func478 b cG_ok mulTs fun p hp => ?_
 simp only [mulTs, List.mem_cons, List.not_mem_nil, or_false] at hp
 rcases hp with rfl | rfl | rfl
 · exact mul2_parts
 · exact mul3_parts
 · exact mul1_parts
theorem powTs_ok : OrcOk Tryz.prog 466 (orcPure powTs) := by
 have b : ∃ cd, Tryz.f466.body = some cd := Option.isSome_iff_exists.1 (by kernel_rfl)
 obtain ⟨_, b⟩ := b
 refine orcPure_ok (lf := 3000) (n := 60) namesOk noO_ok Tryz.func466 b cG_ok powTs fun p hp => ?_
 have hr := List.all_eq_true.1 pow_run p hp
 refine ⟨?_, ?_, hr⟩
 · simp only [powTs, List.mem_cons, List.not_mem_nil, or_false] at hp
   rcases hp with rfl | rfl | rfl | rfl | rfl | rfl | rfl | rfl | rfl | rfl <;> exact fun S => ⟨⟨by decide, by decide⟩, ⟨by decide, by decide⟩, trivial⟩
 · simp only [powTs, List.mem_cons, List.not_mem_nil, or_false] at hp
   rcases hp with rfl | rfl | rfl | rfl | rfl | rfl | rfl | rfl | rfl | rfl <;> exact closed_i 4 _ ⟨by decide, by decide⟩
noncomputable def orcsA : List (Nat × (Cal → V → H → Nm → C)) := (465, orcTab subT) :: (478, orcTab2 mulTs) :: (466, orcPure powTs) :: orcs
theorem orcsA_ok : ∀ p ∈ orcsA, OrcOk Tryz.prog p.1 p.2 := fun p hp => by
 rcases List.mem_cons.1 hp with rfl | hp
 · exact subT_ok
 rcases List.mem_cons.1 hp with rfl | hp
 · exact mulTs_ok
 rcases List.mem_cons.1 hp with rfl | hp
 · exact powTs_ok
 exact orcs_ok p hp
theorem baseA_ok : ∀ f g, pick orcsA f = some g → OrcOk Tryz.prog f g := pick_ok orcsA_ok
noncomputable def partG : Part := memG.map fun m => (m.n, .row m.el m.sz m.N false m.N m.cs)
noncomputable def gsG : List Nm := [gn 0, gn 1, gn 2]
theorem gsG_ok : ∀ g, g < Tryz.prog.globals.size → gn g ∈ gsG := fun g h => by
 rw [globs] at h
 have : g = 0 ∨ g = 1 ∨ g = 2 := by omega
 rcases this with rfl | rfl | rfl <;> simp [gsG]
theorem mem3s_ok {O : Orc} (hO : ∀ f g, O f = some g → OrcOk Tryz.prog f g) {f : FuncId} {fn : Func} (hf : Tryz.prog.funcs[f]? = some fn) (hb : fn.body.isSome = true) (es : List Mem2) (hes : ∀ e ∈ es, mem2Run Tryz.prog O 3000 60 f e = true) : OrcOk Tryz.prog f (orcMem3 gsG es) := by
 obtain ⟨cd, hb⟩ := Option.isSome_iff_exists.1 hb
 exact orcMem3_ok namesOk hO hf hb gsG_ok es hes
end Go.Ev

namespace Go.Ev
open Go.RowKit
open Go.Proofs
open Go.Proofs.YtbkpgmlibiclfaaGreatDoor (H3 cells3 cells3_len cells3_take cells3_drop cells3_app insF InsOut insert_end insert_room insert_grow Row row_own own_row)
section
variable {L : Loc} {S : Ns} {h : H} {c : Nm} {w w' : World}
theorem Stp.moved (hr : Rel L S h w) (hb : Bd S c) {a : Nm} (ha : H.get a h ≠ .no) (hro : isRo (H.get a h) = false) {g k : Nat} {b : Blk} {o : Obj} (hg : w.grownBy w' (some (L.b a))) (hplace : g = L.b a ∨ w.heap.size ≤ g)
 (ho : w'.heap[g]? = some o) (hbr : BR (L.put c g k) (addN S c) c b o) : Stp L S h c w (L.put c g k) (addN S c) (H.set c b (H.set a .no h)) (Nm.succ c) w' := by
 have hn : ¬ S c := fun h => Nat.lt_irrefl _ (hb c h)
 have hsucc : (Nm.succ c).toNat = c.toNat + 1 := nm_succ c
 have hag := Loc.put_agr (L := L) (S := S) (n := c) g k hn
 have hget : ∀ m, H.get m (H.set c b (H.set a .no h)) = if m = c then b else if m = a then .no else H.get m h := fun m => by rw [hget_set, hget_set]
 have hold : ∀ m, m ≠ c → H.get m (H.set c b (H.set a .no h)) ≠ .no → m ≠ a ∧ H.get m h ≠ .no := fun m hmc hm => by
  rw [hget, if_neg hmc] at hm
  by_cases hma : m = a
  · rw [if_pos hma] at hm; exact absurd rfl hm
  · rw [if_neg hma] at hm; exact ⟨hma, hm⟩
 have hLq : ∀ m, H.get m h ≠ .no → (L.put c g k).b m = L.b m := fun m hm => (hag m (hr.blk m hm).1).1
 have hne : ∀ m, m ≠ a → H.get m h ≠ .no → L.b m ≠ L.b a := fun m hma hm e => hma (hr.inj m a hm ha e)
 have hng : ∀ m, m ≠ a → H.get m h ≠ .no → L.b m ≠ g := fun m hma hm e => by
  rcases hplace with h1 | h1
  · exact hne m hma hm (e.trans h1)
  · have := hr.lt hm; omega
 exact {
  sub := fun _ hm => .inl hm
  new := fun m hm => by
   rcases hm with hm | rfl
   · exact .inl hm
   · exact .inr (Nat.le_refl _)
  agr := hag
  cle := by omega
  bd := fun m hm => by
   rcases hm with hm | rfl
   · have := hb m hm; omega
   · omega
  relb := fun n hn => (hr.blk n hn).1
  rel := by
   refine ⟨fun m hm => ?_, fun m m' hm hm' e => ?_⟩
   · by_cases hmc : m = c
     · subst hmc
       rw [hget, if_pos rfl]
       exact ⟨.inr rfl, o, by rw [Loc.put_b]; exact ho, hbr⟩
     · obtain ⟨hma, hm0⟩ := hold m hmc hm
       rw [hget, if_neg hmc, if_neg hma]
       obtain ⟨h1, o', h2, h3⟩ := hr.blk m hm0
       refine ⟨.inl h1, o', ?_, h3.congr (fun _ h => .inl h) hag h1⟩
       rw [hLq m hm0, hg.block _ (lt_size h2) (fun e => hne m hma hm0 (Option.some.inj e))]; exact h2
   · by_cases hmc : m = c
     · by_cases hmc' : m' = c
       · rw [hmc, hmc']
       · obtain ⟨hma, hm0⟩ := hold m' hmc' hm'
         subst hmc
         rw [Loc.put_b, hLq m' hm0] at e
         exact absurd e.symm (hng m' hma hm0)
     · obtain ⟨hma, hm0⟩ := hold m hmc hm
       by_cases hmc' : m' = c
       · subst hmc'
         rw [Loc.put_b, hLq m hm0] at e
         exact absurd e (hng m hma hm0)
       · obtain ⟨hma', hm0'⟩ := hold m' hmc' hm'
         rw [hLq m hm0, hLq m' hm0'] at e
         exact hr.inj m m' hm0 hm0' e
  size := hg.size
  kept := fun r o' ho' hr' => by rw [hg.block r (lt_size ho') (fun e => hr' a ha hro (Option.some.inj e).symm)]; exact ho'
  roH := fun m hm => by
   have h1 : m ≠ a := fun e => by rw [e, hro] at hm; cases hm
   have h2 : m ≠ c := fun e => hn (e ▸ (hr.blk m (isRo_ne hm)).1)
   rw [hget, if_neg h2, if_neg h1]
  out := ⟨hg.os, hg.tape, hg.output⟩
  dom := fun m hm => by
   by_cases hmc : m = c
   · subst hmc
     rw [Loc.put_b]
     rcases hplace with h1 | h1
     · exact .inl ⟨a, ha, h1⟩
     · exact .inr h1
   · obtain ⟨_, hm0⟩ := hold m hmc hm
     exact .inl ⟨m, hm0, hLq m hm0⟩ }
end
noncomputable section
def isI3 (v : V) : Bool := v_i (α := Bool) (false) (fun k _ => Nat.beq k 3) v
def allI3 (cs : V) (m : Nat) : Bool := Nat.rec (motive := fun _ => Bool) true (fun x ih => Bool.and (isI3 (atC cs x)) ih) m
def vI (v : V) : Int := match v with
 | .i _ n => IntKind.i64.wrap n
 | _ => 0
def hsOf (cs : V) (n : Nat) : List H3 := (List.range n).map fun j => ⟨vI (atC cs (j * 3)), vI (atC cs (j * 3 + 1)), vI (atC cs (j * 3 + 2))⟩
def insC (cs xs : V) (i l : Nat) : V := appC (subC cs 0 (Nat.mul i 3)) (appC (subC xs 0 3) (subC cs (Nat.mul i 3) (Nat.mul (Nat.sub l i) 3)))
def insDone (cs xs : V) (i l : Nat) (h : H) (c : Nm) : C := .ret (.so c 0 0 (Nat.succ l)) (H.set c (.row 299 3 (Nat.mul (Nat.succ l) 3) true 0 (insC cs xs i l)) h) (Nm.succ c)
def insV (v : V) (h : H) (q : Nm → V → C) : C := onSl v (.bad 930) (fun b ob lb cb => asRowC (H.get b h) (fun el sz N op fz xs => Bool.rec (.bad 931) (q b xs)
 (Bool.and (Bool.and (Nat.beq ob 0) (Bool.and (Nat.beq lb 1) (Nat.beq cb 1))) (Bool.and (Bool.and (Nat.beq el 299) (Nat.beq sz 3)) (Bool.and (Bool.and (Nat.beq N 3) (Bool.not op)) (Bool.and (Nat.beq fz 0) (allI3 xs 3)))))))
def insR (a : Nm) (o e l : Nat) (i : Nat) (b : Nm) (xs : V) (h : H) (c : Nm) : C := asRowC (H.get a h) (fun el sz N op fz cs => Bool.rec (.bad 932) (insDone cs xs i l (H.set a .no h) c)
 (Bool.and (Bool.and (Bool.and (Nat.beq o 0) (Nat.beq e 0)) (Bool.and (Bool.not (Nm.beq a b)) (Nat.beq el 299))) (Bool.and (Bool.and (Nat.beq sz 3) (Nat.beq N (Nat.mul l 3))) (Bool.and op (Bool.and (Nat.beq fz 0) (Bool.and (Nat.ble i l) (Bool.and (Nat.ble l 1000000) (allI3 cs (Nat.mul l 3)))))))))
def insS (v : V) (i : Nat) (b : Nm) (xs : V) (h : H) (c : Nm) : C := v_so_ns (α := C) (.bad 933) (fun a o e l => insR a o e l i b xs h c) (Bool.rec (.bad 934) (insDone .nil xs 0 0 h c) (Nat.beq i 0)) v
def orcIns : Cal → V → H → Nm → C := fun _ y h c => onCons y (.bad 935) (fun s y1 => onCons y1 (.bad 935) (fun i y2 => onCons y2 (.bad 935) (fun v y3 => Bool.rec (.bad 936) (asIC i (fun ki ni => Bool.rec (.bad 937) (insV v h (fun b xs => insS s ni b xs h c)) (Nat.beq ki 3))) (sameV .nil y3))))
end
section
variable {L : Loc} {S : Ns} {h : H} {c : Nm} {w w' : World}
theorem isI3_eq {v : V} (hv : isI3 v = true) : ∃ n, v = .i 3 n := by
 cases v with
 | i k n =>
   have hk : Nat.beq k 3 = true := hv
   rw [Nat.beq_eq] at hk
   exact ⟨n, by rw [hk]⟩
 | _ => cases hv
theorem allI3_get {cs : V} : ∀ m, allI3 cs m = true → ∀ o, o < m → ∃ n, atC cs o = .i 3 n
 | m + 1, hm, o, ho => by
   obtain ⟨h1, h2⟩ := boolAnd2 hm
   by_cases e : o = m
   · subst e; exact isI3_eq h1
   · exact allI3_get m h2 o (by omega)
theorem fit_succ (k : Nat) (l : List Value) : fit (k + 1) l = fit k l ++ [l[k]?.getD undef] := by
 refine list_ext (k + 1) (fit_length _ _) (by simp [fit_length]) fun i hi => ?_
 rw [fit_getElem hi, List.getElem?_append, fit_length]
 by_cases h : i < k
 · rw [if_pos h, fit_getElem h]
 · have : i = k := by omega
   subst this; simp
theorem hsOf_len (cs : V) (n : Nat) : (hsOf cs n).length = n := by simp [hsOf]
theorem cells_fit {cs : V} (hcs : (wf S cs).l) : ∀ n, (∀ o, o < n * 3 → ∃ m, atC cs o = .i 3 m) → fit (n * 3) (lcv L cs) = cells3 (hsOf cs n)
 | 0, _ => by simp [fit, hsOf, cells3]
 | n + 1, hall => by
   have ih := cells_fit hcs n (fun o ho => hall o (by omega))
   have key : ∀ o, o < (n + 1) * 3 → (lcv L cs)[o]?.getD undef = .int .i64 (vI (atC cs o)) := fun o ho => by
    obtain ⟨m, hm⟩ := hall o ho
    rw [((atC_spec L S cs).2 hcs o).1, hm]; rfl
   rw [show (n + 1) * 3 = n * 3 + 1 + 1 + 1 by omega, fit_succ, fit_succ, fit_succ, ih, key (n * 3) (by omega), key (n * 3 + 1) (by omega), key (n * 3 + 1 + 1) (by omega)]
   have e : hsOf cs (n + 1) = hsOf cs n ++ [⟨vI (atC cs (n * 3)), vI (atC cs (n * 3 + 1)), vI (atC cs (n * 3 + 2))⟩] := by simp [hsOf, List.range_succ]
   rw [e, cells3_app]
   simp [cells3, H3.cells]
theorem cells_take {cs : V} (hcs : (wf S cs).l) (n : Nat) (hall : ∀ o, o < n * 3 → ∃ m, atC cs o = .i 3 m) : (lcv L cs).take (n * 3) = cells3 (hsOf cs n) := by
 have hlen : n * 3 ≤ (lcv L cs).length := by
  rcases Nat.lt_or_ge (lcv L cs).length (n * 3) with hlt | hge
  · obtain ⟨m, hm⟩ := hall _ hlt
    have h1 := ((atC_spec L S cs).2 hcs (lcv L cs).length).1
    rw [List.getElem?_eq_none (Nat.le_refl _), hm] at h1
    exact absurd h1 (by intro h2; cases h2)
  · exact hge
 have h1 := cells_fit (L := L) hcs n hall
 rw [← fit_take, fit_self (by rw [List.length_take]; omega)] at h1
 exact h1
theorem insC_spec {cs xs : V} {i l : Nat} (hcs : (wf S cs).l) (hxs : (wf S xs).l) (hi : i ≤ l) (h1 : ∀ o, o < l * 3 → ∃ m, atC cs o = .i 3 m) (h2 : ∀ o, o < 3 → ∃ m, atC xs o = .i 3 m) :
 ∃ x, hsOf xs 1 = [x] ∧ lcv L (insC cs xs i l) = cells3 (insF i x (hsOf cs l)) ∧ (wf S (insC cs xs i l)).l := by
 refine ⟨⟨vI (atC xs (0 * 3)), vI (atC xs (0 * 3 + 1)), vI (atC xs (0 * 3 + 2))⟩, rfl, ?_, ?_⟩
 · have ht := cells_take (L := L) hcs l h1
   have hx := cells_take (L := L) hxs 1 h2
   have a1 := (subC_spec L S cs).2 hcs 0 (i * 3)
   have a2 := (subC_spec L S xs).2 hxs 0 3
   have a3 := (subC_spec L S cs).2 hcs (i * 3) ((l - i) * 3)
   have b2 := appC_spec L S (subC xs 0 3) (subC cs (i * 3) ((l - i) * 3)) a2.2 a3.2
   have b1 := appC_spec L S (subC cs 0 (i * 3)) _ a1.2 b2.2
   show lcv L (appC (subC cs 0 (i * 3)) (appC (subC xs 0 3) (subC cs (i * 3) ((l - i) * 3)))) = _
   rw [b1.1, b2.1, a1.1, a2.1, a3.1, List.drop_zero, List.drop_zero]
   have e1 : (lcv L cs).take (i * 3) = cells3 ((hsOf cs l).take i) := by
    rw [← cells3_take, ← ht, List.take_take, Nat.min_eq_left (by omega)]
   have e3 : ((lcv L cs).drop (i * 3)).take ((l - i) * 3) = cells3 ((hsOf cs l).drop i) := by
    rw [← cells3_drop, ← ht, List.drop_take]; congr 1; omega
   have e2 : (lcv L xs).take 3 = cells3 (hsOf xs 1) := hx
   rw [e1, e2, e3]
   unfold insF
   rw [cells3_app]
   rfl
 · have a1 := (subC_spec L S cs).2 hcs 0 (i * 3)
   have a2 := (subC_spec L S xs).2 hxs 0 3
   have a3 := (subC_spec L S cs).2 hcs (i * 3) ((l - i) * 3)
   have b2 := appC_spec L S (subC xs 0 3) (subC cs (i * 3) ((l - i) * 3)) a2.2 a3.2
   exact (appC_spec L S (subC cs 0 (i * 3)) _ a1.2 b2.2).2
theorem ins_post (hr : Rel L S h w) (hbd : Bd S c) {cs xs : V} {i l : Nat} {gs : List H3} {r : Option Nat} {e : Ending} {h2 : H} (hout : InsOut (l + 1) gs r w e w') (hc : lcv L (insC cs xs i l) = cells3 gs) (hwf : (wf S (insC cs xs i l)).l)
 (hh : (r = none ∧ h2 = h) ∨ ∃ a, r = some (L.b a) ∧ h2 = H.set a .no h ∧ H.get a h ≠ .no ∧ isRo (H.get a h) = false) : CPost L S h c w (insDone cs xs i l h2 c) e w' := by
 obtain ⟨v, he, hown, hg, hpl⟩ := hout
 rcases hown.2 with ⟨_, h0⟩ | ⟨g, cap, cur, hv, _, hcur, hnc, hcm, hsz, htk⟩
 · omega
 subst hv
 have hnS : ¬ S c := nm_bd hbd (Nat.le_refl _)
 have hp := put_lc (L := L) (b := g) (k := cap - (l + 1)) hnS hwf
 have hbr : BR (L.put c g (cap - (l + 1))) (addN S c) c (.row 299 3 (Nat.mul (Nat.succ l) 3) true 0 (insC cs xs i l)) (.cells cur 299 (0, 0)) := by
  refine ⟨.inl rfl, hp.2, fr0 _ _, ?_⟩
  rw [if_pos rfl]
  have hlen : (cells3 gs).length = (l + 1) * 3 := hown.1
  refine ⟨?_, ?_, ?_⟩
  · show cur.toList.take ((l + 1) * 3) = fit ((l + 1) * 3) (lcv _ _)
    rw [hp.1, hc, htk, fit_self hlen]
  · rw [Loc.put_k]
    show cur.size = (l + 1) * 3 + (cap - (l + 1)) * 3
    rw [hsz]; omega
  · rw [Loc.put_k]
    show (l + 1) * 3 + (cap - (l + 1)) * 3 ≤ maxLen * 3
    omega
 have hval : val (L.put c g (cap - (l + 1))) (.so c 0 0 (Nat.succ l)) = .slice (some ⟨g, 0, none⟩) (l + 1) cap := by
  show Value.slice (some ⟨(L.put c g (cap - (l + 1))).b c, 0, none⟩) (l + 1) (l + 1 + 0 + (L.put c g (cap - (l + 1))).k c) = _
  rw [Loc.put_b, Loc.put_k, show l + 1 + 0 + (cap - (l + 1)) = cap by omega]
 refine ⟨L.put c g (cap - (l + 1)), addN S c, by rw [he, hval], .inr rfl, ?_⟩
 rcases hh with ⟨rfl, rfl⟩ | ⟨a, rfl, rfl, ha, hro⟩
 · refine Stp.fresh hr hbd ⟨hg.os, hg.tape, hg.output, hg.size, fun k hk => hg.block k hk (by simp)⟩ ?_ hcur hbr (by simp)
   rcases hpl with h1 | ⟨k, h1, h3⟩
   · cases h1
   · cases h1; exact h3
 · refine Stp.moved hr hbd ha hro hg ?_ hcur hbr
   rcases hpl with h1 | ⟨k, h1, h3⟩
   · exact .inl (Option.some.inj h1)
   · cases h1; exact .inr h3
theorem onCons_good {y : V} {n : Nat} {q : V → V → C} (hg : CGood (onCons y (.bad n) q)) : ∃ A W, y = .cons A W ∧ onCons y (.bad n) q = q A W := by
 cases y <;> first | exact ⟨_, _, rfl, rfl⟩ | exact absurd rfl (hg n)
theorem onSl_good {y : V} {n : Nat} {q : Nm → Nat → Nat → Nat → C} (hg : CGood (onSl y (.bad n) q)) : ∃ a o l k, y = .sl a o l k ∧ onSl y (.bad n) q = q a o l k := by
 cases y <;> first | exact ⟨_, _, _, _, rfl, rfl⟩ | exact absurd rfl (hg n)
theorem held_row (hr : Rel L S h w) {a : Nm} {el sz N : Nat} {op : Bool} {cs : V} (hn : H.get a h = .row el sz N op 0 cs) (hel : el = 299) (hsz : sz = 3) :
 (wf S cs).l ∧ ∃ M, Row w (L.b a) 299 M ∧ M.take N = fit N (lcv L cs) ∧ (op = false → M.length = N) ∧ (op = true → M.length = N + L.k a * 3 ∧ N + L.k a * 3 ≤ maxLen * 3) := by
 subst hel hsz
 obtain ⟨hS, ob, hob, hbr⟩ := hr.blk a (by rw [hn]; simp)
 rw [hn] at hbr
 obtain ⟨arr, fr, el2, rfl, hcs, hfr, htk, hN, h1, h2⟩ := hbr.row
 have hel : el2 = 299 := by
  rcases hbr.1 with h3 | ⟨h3, _⟩
  · exact h3
  · exact absurd h3 (by decide)
 have hfr0 : fr = (0, 0) := by
  rcases hfr.1 with h3 | ⟨_, h3 | h3⟩
  · exact absurd h3 (by decide)
  · exact h3
  · cases h3
 subst hel hfr0
 exact ⟨hcs, arr.toList, by unfold Row; simpa using hob, htk, fun h => by simpa using h1 h, fun h => by simpa using h2 h⟩
set_option maxHeartbeats 1000000 in
theorem orcIns_ok {cd : Code} (hb : Tryz.f394.body = some cd) : OrcOk Tryz.prog 394 orcIns := by
 intro cal args h c L S w _ hr hbd hgok ha hg
 obtain ⟨s, y1, rfl, e1⟩ := onCons_good (n := 935) hg
 have e1' : orcIns cal (.cons s y1) h c = _ := e1
 rw [e1'] at hg ⊢
 obtain ⟨i, y2, rfl, e2⟩ := onCons_good (n := 935) hg
 rw [e2] at hg ⊢
 obtain ⟨v, y3, rfl, e3⟩ := onCons_good (n := 935) hg
 rw [e3] at hg ⊢
 obtain ⟨hz, e4⟩ := crec_good (z := sameV .nil y3) hg
 rw [e4] at hg ⊢
 have h4 := sameV_eq _ _ hz
 subst h4
 obtain ⟨ki, ni, rfl, e5⟩ := asIC_good hg
 rw [e5] at hg ⊢
 obtain ⟨hk, e6⟩ := crec_good (z := Nat.beq ki 3) hg
 rw [e6] at hg ⊢
 rw [Nat.beq_eq] at hk
 subst hk
 obtain ⟨b, ob, lb, cb, rfl, e7⟩ := onSl_good (n := 930) hg
 have e7' : insV (.sl b ob lb cb) h (fun b xs => insS s ni b xs h c) = _ := e7
 rw [e7'] at hg ⊢
 obtain ⟨el, sz, N, op, fz, xs, hn, e8⟩ := asRowC_good hg
 rw [e8] at hg ⊢
 obtain ⟨hq, e9⟩ := crec_good (z := _) hg
 rw [e9] at hg ⊢
 obtain ⟨q1, q2⟩ := boolAnd2 hq
 obtain ⟨q3, q4⟩ := boolAnd2 q1; obtain ⟨q4, q5⟩ := boolAnd2 q4
 obtain ⟨q6, q7⟩ := boolAnd2 q2; obtain ⟨q8, q9⟩ := boolAnd2 q6
 obtain ⟨qa, qb⟩ := boolAnd2 q7; obtain ⟨qc, qd⟩ := boolAnd2 qa
 obtain ⟨qe, qf⟩ := boolAnd2 qb
 rw [Nat.beq_eq] at q3 q4 q5 q8 q9 qc qe
 rw [Bool.not_eq_true'] at qd
 subst q3 q4 q5 q8 q9 qc qd qe
 have hxi := allI3_get 3 qf
 obtain ⟨hxs, X, hrowX, htkX, hlenX, _⟩ := held_row hr hn rfl rfl
 obtain ⟨x, hx1, _⟩ := insC_spec (L := L) (S := S) (cs := .nil) (i := 0) (l := 0) trivial hxs (Nat.le_refl _) (fun o ho => by omega) hxi
 have hX : X = x.cells := by
  have h5 := cells_fit (L := L) hxs 1 hxi
  rw [hx1] at h5
  rw [← List.take_of_length_le (l := X) (i := 3) (by rw [hlenX rfl]; exact Nat.le_refl _), htkX, h5]
  simp [cells3]
 rw [hX] at hrowX
 refine orc_post namesOk Tryz.func394 hb ?_
 have hni : ∀ m : Nat, m ≤ 1000000 → IntKind.i64.wrap (m : Int) = (m : Int) := fun m hm => by
  exact IntWalk.i64_in _ (by omega)
 replace hg : CGood (insS s ni b xs h c) := hg
 show Calls _ _ _ w (CPost L S h c w (insS s ni b xs h c))
 cases s with
 | ns =>
   obtain ⟨hz0, e10⟩ := crec_good (z := Nat.beq ni 0) hg
   have e10' : insS .ns ni b xs h c = _ := e10
   rw [e10']
   rw [Nat.beq_eq] at hz0
   subst hz0
   obtain ⟨x', hx1', hc1, hc2⟩ := insC_spec (L := L) (S := S) (cs := .nil) (i := 0) (l := 0) trivial hxs (Nat.le_refl _) (fun o ho => by omega) hxi
   obtain rfl : x = x' := by rw [hx1] at hx1'; simpa using hx1'
   have hl : (lsv L (.cons .ns (.cons (.i 3 0) (.cons (.sl b 0 1 1) .nil)))).toArray = #[.slice none 0 0, .int .i64 ((0 : Nat) : Int), .slice (some ⟨L.b b, 0, none⟩) 1 1] := rfl
   rw [hl]
   exact (insert_end 0 0 (L.b b) none x [] w (World.ownsRow_nil _ _ _ _) (by decide) hrowX).mono fun e w' hout => ins_post hr hbd hout hc1 hc2 (.inl ⟨rfl, rfl⟩)
 | so a o e l =>
   obtain ⟨el, sz, N, op, fz, cs, hna, e10⟩ := asRowC_good (b := H.get a h) hg
   have e10' : insS (.so a o e l) ni b xs h c = _ := e10
   rw [e10'] at hg ⊢
   obtain ⟨hq, e11⟩ := crec_good (z := _) hg
   rw [e11]
   obtain ⟨r1, r2⟩ := boolAnd2 hq
   obtain ⟨r3, r4⟩ := boolAnd2 r1; obtain ⟨r5, r6⟩ := boolAnd2 r3; obtain ⟨r7, r8⟩ := boolAnd2 r4
   obtain ⟨s1, s2⟩ := boolAnd2 r2; obtain ⟨s3, s4⟩ := boolAnd2 s1
   obtain ⟨s5, s6⟩ := boolAnd2 s2; obtain ⟨s6, s7⟩ := boolAnd2 s6; obtain ⟨s7, s8⟩ := boolAnd2 s7; obtain ⟨s8, s9⟩ := boolAnd2 s8
   rw [Nat.beq_eq] at r5 r6 r8 s3 s4 s6
   rw [Bool.not_eq_true'] at r7
   rw [Nat.ble_eq] at s7 s8
   have hab : a ≠ b := fun e => by rw [(nm_beq a b).2 e] at r7; cases r7
   subst r5 r6 r8 s3 s4 s5 s6
   have hci := allI3_get _ s9
   obtain ⟨hcs, M, hrowM, htkM, _, hlenM⟩ := held_row hr hna rfl rfl
   obtain ⟨hM1, hM2⟩ := hlenM rfl
   obtain ⟨x', hx1', hc1, hc2⟩ := insC_spec (L := L) (S := S) (cs := cs) (i := ni) (l := l) hcs hxs s7 hci hxi
   obtain rfl : x = x' := by rw [hx1] at hx1'; simpa using hx1'
   have hcells : M.take (l * 3) = cells3 (hsOf cs l) := by
    rw [← cells_fit (L := L) hcs l hci]; exact htkM
   have hMl : M.length = (l + L.k a) * 3 := by rw [hM1]; show l * 3 + L.k a * 3 = _; omega
   have hcm : l + L.k a ≤ maxLen := by
    have : l * 3 + L.k a * 3 ≤ maxLen * 3 := hM2
    omega
   have hown : w.ownsRow 0 299 3 (.slice (some ⟨L.b a, 0, none⟩) l (l + L.k a)) l (cells3 (hsOf cs l)) := row_own (Nat.zero_le _) hrowM (by omega) hcm hMl hcells
   have hne : L.b b ≠ L.b a := fun e => hab (hr.inj a b (by rw [hna]; simp) (by rw [hn]; simp) e.symm)
   have hl : (lsv L (.cons (.so a 0 0 l) (.cons (.i 3 ni) (.cons (.sl b 0 1 1) .nil)))).toArray = #[.slice (some ⟨L.b a, 0, none⟩) l (l + L.k a), .int .i64 (ni : Int), .slice (some ⟨L.b b, 0, none⟩) 1 1] := by
    show #[Value.slice (some ⟨L.b a, 0, none⟩) l (l + 0 + L.k a), Value.int .i64 (IntKind.i64.wrap (ni : Int)), _] = _
    rw [hni ni (by omega)]; rfl
   rw [hl]
   have hro : isRo (H.get a h) = false := by rw [hna]; rfl
   have hfin : ∀ e w', InsOut (l + 1) (insF ni x (hsOf cs l)) (some (L.b a)) w e w' → CPost L S h c w (insDone cs xs ni l (H.set a .no h) c) e w' := fun e w' hout =>
    ins_post hr hbd hout hc1 hc2 (.inr ⟨a, rfl, rfl, by rw [hna]; simp, hro⟩)
   by_cases hil : ni = l
   · subst hil
     exact (insert_end ni (ni + L.k a) (L.b b) (some ⟨L.b a, 0, none⟩) x (hsOf cs ni) w hown (by omega) hrowX).mono hfin
   · by_cases hk0 : L.k a = 0
     · rw [hk0, Nat.add_zero] at hown ⊢
       exact (insert_grow l (L.b a) (L.b b) ni x (hsOf cs l) w hown (by omega) hrowX (by omega)).mono hfin
     · exact (insert_room l (l + L.k a) (L.b a) (L.b b) ni x (hsOf cs l) w hown (by omega) hrowX hne (by omega) (by omega)).mono hfin
 | _ => exact absurd rfl (hg 933)
end
end Go.Ev

namespace Go.Ev
open Go.Proofs
noncomputable def orcsJ : List (Nat × (Cal → V → H → Nm → C)) := (394, orcIns) :: orcsA
theorem orcsJ_ok : ∀ p ∈ orcsJ, OrcOk Tryz.prog p.1 p.2 := fun p hp => by
 have b1 : ∃ cd, Tryz.f394.body = some cd := Option.isSome_iff_exists.1 (by kernel_rfl)
 obtain ⟨_, b1⟩ := b1
 rcases List.mem_cons.1 hp with rfl | hp
 · exact orcIns_ok b1
 exact orcsA_ok p hp
end Go.Ev

namespace Go.Ev
open Go.RowKit
open Go.Proofs
open Go.ChangeMaps (setBlock)
open Go.Proofs.YtbkpgmlibiclfaaGreatDoor (crW crW_size crW_map crashed_nil crashed_empty crashed_one setBlock_at setBlock_other B8 cells8)
noncomputable section
def isB32 (v : V) : Bool := v_agg (α := Bool) (false) (fun w W => Bool.and (Nat.beq w 32) (v_cons (α := Bool) (false) (fun A W => Bool.and (isNil W) (v_bs (α := Bool) (false) (fun l _ => Nat.beq l 32) A)) W)) v
def crK (k v : V) (q : V → Nat → C) : C := asIC k (fun kd n => Bool.rec (.bad 929) (q (.cons (ent (.i 3 n) v 0) .nil) 1) (Bool.and (Nat.beq kd 3) (isB32 v)))
def crA (e : V) (q : V → Nat → C) : C := v_tup (α := C) (.bad 922) (fun W => crK (nthC .z W) (nthC (.s .z) W) q) e
def crE (es : V) (q : V → Nat → C) : C := v_nil_cons (α := C) (.bad 920) (q .nil 0) (fun A W => Bool.rec (.bad 921) (crA A q) (isNil W)) es
def asMapC (b : Blk) (q : V → Nat → C) : C := Blk.rec (motive := fun _ => C) (.bad 923) (fun _ _ _ _ _ _ => .bad 923) (fun es cl => q es cl) (fun _ _ _ => .bad 923) (fun _ _ _ _ _ _ _ _ _ _ => .bad 923) (fun _ => .bad 923) b
def crF (f : V) (h : H) (q : V → Nat → C) : C := v_m_nm (α := C) (.bad 924) (fun a => asMapC (H.get a h) (fun es _ => crE es q)) (q .nil 0) f
def crD (el sz N : Nat) (cs : V) (g : Nm) (o : Nat) (h : H) (c : Nm) (es : V) (cl : Nat) : C := .ret (.tup .nil) (H.set g (.row el sz N false 0 (setC cs o 1 (.m c))) (H.set c (.map es cl) h)) (Nm.succ c)
def crT (t f : V) (h : H) (c : Nm) : C := v_p (α := C) (.bad 925) (fun a o => asRowC (H.get a h) (fun el sz N op fz cs => Bool.rec (.bad 926) (crF f h (crD el sz N cs a o h c)) (Bool.and (Nat.ble (Nat.succ o) N) (Bool.and (Bool.not op) (Nat.beq fz 0))))) t
def orcCr : Cal → V → H → Nm → C := fun _ y h c => onCons y (.bad 927) (fun _ y1 => onCons y1 (.bad 927) (fun t y2 => onCons y2 (.bad 927) (fun f y3 => Bool.rec (.bad 928) (crT t f h c) (sameV .nil y3))))
end
section
variable {L : Loc} {S : Ns} {h : H} {c : Nm} {w w' : World}
theorem isB32_eq {v : V} (hv : isB32 v = true) : ∃ n, v = digV n := by
 cases v with
 | agg w W =>
   obtain ⟨h1, h2⟩ := boolAnd2 hv
   rw [Nat.beq_eq] at h1
   subst h1
   cases W with
   | cons A W =>
     obtain ⟨h3, h4⟩ := boolAnd2 h2
     cases W with
     | nil =>
       cases A with
       | bs l n =>
         have h5 : Nat.beq l 32 = true := h4
         rw [Nat.beq_eq] at h5
         exact ⟨n, by rw [h5]; rfl⟩
       | _ => cases h4
     | _ => cases h3
   | _ => cases h2
 | _ => cases hv
theorem cr_post (hr : Rel L S h w) (hbd : Bd S c) {x : Nm} {el sz N o : Nat} {cs : V} (hn : H.get x h = .row el sz N false 0 cs) (ho : o + 1 ≤ N) {es : V} {cl : Nat} {ents : Array MapEntry} (hmap : BR (L.put c w.heap.size 0) (addN S c) c (.map es cl) (.map ents cl))
 (f1 : w'.heap[w.heap.size]? = some (.map ents cl)) (f2 : w'.heap[L.b x]? = (crW w (L.b x) o).heap[L.b x]?) (f3 : ∀ k, k < w.heap.size → k ≠ L.b x → w'.heap[k]? = w.heap[k]?) (f4 : w.heap.size ≤ w'.heap.size) (f5 : WOut w w') :
 CPost L S h c w (crD el sz N cs x o h c es cl) (.returned (.tuple #[])) w' := by
 have hnc : ¬ S c := fun h => Nat.lt_irrefl _ (hbd c h)
 obtain ⟨hS, ob, hob, hbr⟩ := hr.blk x (by rw [hn]; simp)
 rw [hn] at hbr
 obtain ⟨arr, fr, el2, rfl, hcs, hfr, htk, hN, harr, _⟩ := hbr.row
 have hsz : arr.size = N := harr rfl
 have hlt := lt_size hob
 have hag := Loc.put_agr (L := L) (S := S) (n := c) w.heap.size 0 hnc
 have hxc : x ≠ c := fun e => hnc (e ▸ hS)
 have hLx : (L.put c w.heap.size 0).b x = L.b x := (hag x hS).1
 have hA : Below w.heap.size w (setBlock w' (L.b x) (.cells arr el2 fr)) := by
  obtain ⟨o1, o2, o3⟩ := f5
  refine ⟨o1, o2, o3, by simpa [setBlock] using f4, fun k hk => ?_⟩
  by_cases hkx : L.b x = k
  · subst hkx
    rw [setBlock_at (by omega), hob]
  · rw [setBlock_other hkx, f3 k hk (Ne.symm hkx)]
 have s1 : Stp L S h c w (L.put c w.heap.size 0) (addN S c) (H.set c (.map es cl) h) (Nm.succ c) (setBlock w' (L.b x) (.cells arr el2 fr)) :=
  Stp.fresh hr hbd hA (Nat.le_refl _) ((setBlock_other (by omega)).trans f1) hmap (by simp)
 have hx1 : H.get x (H.set c (.map es cl) h) = .row el sz N false 0 cs := by rw [hget_set, if_neg hxc, hn]
 have hbr1 : BR (L.put c w.heap.size 0) (addN S c) x (.row el sz N false 0 cs) (.cells arr el2 fr) := hbr.congr (fun _ h => .inl h) hag hS
 have hput := hbr1.put (y := .m c) (of := o) (m := 1) (.inr rfl) rfl (by decide) ho
 have e0 : chv (L.put c w.heap.size 0) (.m c) = [.map (some w.heap.size)] := by
  show [Value.map (some ((L.put c w.heap.size 0).b c))] = _
  rw [Loc.put_b]
 rw [e0] at hput
 have hheap := setCells_heap (L.b x) el2 fr [.map (some w.heap.size)] o (w.alloc (.map #[] 0)) arr (by rw [Go.heap_alloc_old _ _ hlt]; exact hob) (by rw [hsz]; exact ho)
 have hc2 : w'.heap[L.b x]? = some (.cells (putA arr o [.map (some w.heap.size)]) el2 fr) := by
  rw [f2]
  show ((w.alloc (.map #[] 0)).setCells (L.b x) o [.map (some w.heap.size)]).heap[L.b x]? = _
  rw [hheap, Array.getElem?_setIfInBounds, if_pos rfl, if_pos (by simp; omega)]
 refine ⟨L.put c w.heap.size 0, addN S c, rfl, trivial, s1.trans ?_⟩
 refine Stp.put s1.rel s1.bd (by rw [hx1]; simp) hput ?_ (fun r hne => ?_) ?_ (by rw [hx1]; simp [isRo]) ⟨rfl, rfl, rfl⟩
 · rw [hLx]; exact hc2
 · rw [hLx] at hne
   exact (setBlock_other (Ne.symm hne)).symm
 · simp [setBlock]
theorem asMapC_good {b : Blk} {q : V → Nat → C} (hg : CGood (asMapC b q)) : ∃ es cl, b = .map es cl ∧ asMapC b q = q es cl := by
 cases b <;> first | exact ⟨_, _, rfl, rfl⟩ | exact absurd rfl (hg 923)
set_option maxHeartbeats 1000000 in
theorem orcCr_ok {cd : Code} (hb : Tryz.f99.body = some cd) : OrcOk Tryz.prog 99 orcCr := by
 intro cal args h c L S w _ hr hbd hgok ha hg
 obtain ⟨s, y1, rfl, e1⟩ := onCons_good (n := 927) hg
 have e1' : orcCr cal (.cons s y1) h c = _ := e1
 rw [e1'] at hg ⊢
 obtain ⟨t, y2, rfl, e2⟩ := onCons_good (n := 927) hg
 rw [e2] at hg ⊢
 obtain ⟨f, y3, rfl, e3⟩ := onCons_good (n := 927) hg
 rw [e3] at hg ⊢
 obtain ⟨hz, e4⟩ := crec_good (z := sameV .nil y3) hg
 rw [e4] at hg ⊢
 have h4 := sameV_eq _ _ hz
 subst h4
 have hnc : ¬ S c := fun h => Nat.lt_irrefl _ (hbd c h)
 cases t <;> first | exact absurd rfl (hg 925) | skip
 rename_i x o
 obtain ⟨el, sz, N, op, fz, cs, hn, e5⟩ := asRowC_good (b := H.get x h) hg
 have e5' : crT (.p x o) f h c = _ := e5
 rw [e5'] at hg ⊢
 obtain ⟨hq, e6⟩ := crec_good (z := _) hg
 rw [e6] at hg ⊢
 obtain ⟨q1, q2⟩ := boolAnd2 hq; obtain ⟨q2, q3⟩ := boolAnd2 q2
 rw [Bool.not_eq_true'] at q2
 rw [Nat.beq_eq] at q3
 rw [Nat.ble_eq] at q1
 subst q2 q3
 have ho : o + 1 ≤ N := q1
 obtain ⟨hS, ob, hob, hbr⟩ := hr.blk x (by rw [hn]; simp)
 rw [hn] at hbr
 obtain ⟨arr, fr, el2, rfl, hcs, hfr, htk, hN, harr, _⟩ := hbr.row
 have hsz : arr.size = N := harr rfl
 have hcell : w.cell? ⟨L.b x, o, none⟩ = some (val L (atC cs o)) := by
  rw [cell_of_row w _ o arr _ fr hob, row_cell htk ho, ((atC_spec L S cs).2 hcs o).1]
 have hfz : w.frozen? ⟨L.b x, o, none⟩ = false := by
  have := hfr.2 o (by omega) (by omega)
  obtain ⟨f1, f2⟩ := fr
  simp only [World.frozen?, hob]
  rw [Bool.eq_false_iff]
  intro hh
  rw [Bool.and_eq_true, decide_eq_true_eq, decide_eq_true_eq] at hh
  exact this hh
 have hlt := lt_size hob
 have hkeep : ∀ k, k < w.heap.size → k ≠ L.b x → (crW w (L.b x) o).heap[k]? = w.heap[k]? := fun k hk hne => by
  show ((w.alloc (.map #[] 0)).heap.modify (L.b x) _)[k]? = _
  rw [Array.getElem?_modify, if_neg (Ne.symm hne), Go.heap_alloc_old _ _ hk]
 have hsame : ∀ {e : Ending} {w' : World}, e = .returned (.tuple #[]) ∧ Below (w.heap.size + 1) (crW w (L.b x) o) w' → CPost L S h c w (crD el sz N cs x o h c .nil 0) e w' := fun {e w'} ⟨he, hb⟩ => by
  subst he
  refine cr_post hr hbd hn ho (es := .nil) (cl := 0) (ents := #[]) ⟨rfl, trivial, trivial, by simp, by simp⟩ ((hb.block _ (Nat.lt_succ_self _)).trans (crW_map hcell)) (hb.block _ (by omega)) (fun k hk hne => (hb.block k (by omega)).trans (hkeep k hk hne)) (by have := hb.size; rw [crW_size] at this; omega) ⟨hb.os, hb.tape, hb.output⟩
 refine orc_post namesOk Tryz.func99 hb ?_
 cases f <;> first | exact absurd rfl (hg 924) | skip
 case nm =>
  have hl : (lsv L (.cons s (.cons (.p x o) (.cons .nm .nil)))).toArray = #[val L s, .pointer (some ⟨L.b x, o, none⟩), .map none] := rfl
  rw [hl]
  exact (crashed_nil _ _ _ _ w hcell hfz).mono fun e w' hp => hsame hp
 case m a =>
  have hl : (lsv L (.cons s (.cons (.p x o) (.cons (.m a) .nil)))).toArray = #[val L s, .pointer (some ⟨L.b x, o, none⟩), .map (some (L.b a))] := rfl
  rw [hl]
  obtain ⟨es, cl, hna, e7⟩ := asMapC_good (b := H.get a h) hg
  have e7' : crF (.m a) h (crD el sz N cs x o h c) = _ := e7
  rw [e7'] at hg ⊢
  obtain ⟨_, ob2, hob2, hbr2⟩ := hr.blk a (by rw [hna]; simp)
  rw [hna] at hbr2
  cases ob2 with
  | map ents clock =>
    obtain ⟨rfl, hes, hrr, _, hbo⟩ := hbr2
    cases es <;> first | exact absurd rfl (hg 920) | skip
    case nil =>
     have he : ents = #[] := by
      cases hel : ents.toList with
      | nil => exact Array.toList_eq_nil_iff.1 hel
      | cons _ _ => rw [hel] at hrr; exact hrr.elim
     subst he
     exact (crashed_empty _ _ _ _ _ _ w hcell hfz hob2).mono fun e w' hp => hsame hp
    case cons A W =>
     obtain ⟨hz1, e8⟩ := crec_good (z := isNil W) hg
     have e8' : crE (.cons A W) (crD el sz N cs x o h c) = _ := e8
     rw [e8'] at hg ⊢
     cases W <;> first | cases hz1 | skip
     cases hel : ents.toList with
     | nil => rw [hel] at hrr; exact hrr.elim
     | cons y ys =>
       rw [hel] at hrr
       obtain ⟨⟨k', v', b', rfl, h1, h2, h3⟩, h5⟩ := hrr
       cases ys with
       | cons _ _ => exact h5.elim
       | nil =>
         have he : ents = #[y] := Array.toList_inj.1 hel
         subst he
         obtain ⟨kd, n, rfl, e9⟩ := asIC_good (a := k') hg
         have e9' : crA (ent (.i kd n) v' b') (crD el sz N cs x o h c) = _ := e9
         rw [e9'] at hg ⊢
         obtain ⟨hz2, e10⟩ := crec_good (z := _) hg
         rw [e10] at hg ⊢
         obtain ⟨z1, z2⟩ := boolAnd2 hz2
         rw [Nat.beq_eq] at z1
         subst z1
         obtain ⟨d, rfl⟩ := isB32_eq z2
         have hk1 : val L (.i 3 n) = .int .i64 (IntKind.i64.wrap (n : Int)) := rfl
         have hv1 : ∀ L : Loc, val L (digV d) = .agg (cells8 (l8 d 32)).toArray := fun L => val_dig (L := L) d _ rfl
         have hy : y = ⟨.int .i64 (IntKind.i64.wrap (n : Int)), .agg (cells8 (l8 d 32)).toArray, y.born⟩ := by
          cases y
          simp only at h1 h2
          rw [h1, h2, hk1, hv1]
         have hyb : y.born < clock := hbo y (by simp)
         rw [hy] at hob2
         refine (crashed_one (L.b x) o (L.b a) clock y.born (IntKind.i64.wrap (n : Int)) (l8 d 32) (by simp [l8]) hyb _ _ w hcell hfz hob2).mono fun e w' hp => ?_
         obtain ⟨rfl, hb⟩ := hp
         have hne : w.heap.size ≠ L.b x := by omega
         have hwk : (wf S (ent (.i 3 n) (digV d) b')).v := hes.1
         refine cr_post hr hbd hn ho (es := .cons (ent (.i 3 n) (digV d) 0) .nil) (cl := 1) (ents := #[⟨.int .i64 (IntKind.i64.wrap (n : Int)), .agg (cells8 (l8 d 32)).toArray, 0⟩]) ⟨rfl, ⟨⟨hwk.1, ⟨hwk.2.1, ⟨⟨by decide, by decide⟩, trivial⟩⟩⟩, trivial⟩, ⟨⟨.i 3 n, digV d, 0, rfl, rfl, (hv1 _).symm, rfl⟩, trivial⟩, by simp, by simp⟩ ((hb.block _ (Nat.lt_succ_self _)).trans (setBlock_at (by rw [crW_size]; exact Nat.lt_succ_self _))) ((hb.block _ (by omega)).trans (setBlock_other hne)) (fun k hk hnk => (hb.block k (by omega)).trans ((setBlock_other (by omega)).trans (hkeep k hk hnk))) (by have := hb.size; simp only [setBlock, Array.size_setIfInBounds, crW_size] at this; omega) ⟨hb.os, hb.tape, hb.output⟩
  | _ => exact hbr2.elim
end
end Go.Ev

namespace Go.Ev
open Go.Proofs
section
noncomputable def orcsL : List (Nat × (Cal → V → H → Nm → C)) := (99, orcCr) :: orcsJ
end
theorem orcsL_ok : ∀ p ∈ orcsL, OrcOk Tryz.prog p.1 p.2 := by
 have b1 : ∃ cd, Tryz.f99.body = some cd := Option.isSome_iff_exists.1 (by kernel_rfl)
 obtain ⟨_, b1⟩ := b1
 intro p hp
 simp only [orcsL, List.mem_cons] at hp
 rcases hp with rfl | hp
 · exact orcCr_ok b1
 · exact orcsJ_ok p hp
end Go.Ev
