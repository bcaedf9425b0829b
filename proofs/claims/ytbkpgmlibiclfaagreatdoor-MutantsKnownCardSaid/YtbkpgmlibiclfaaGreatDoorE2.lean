/- What the evaluator's values stand for; quiet operations. -/
import Derived.Test.YtbkpgmlibiclfaaGreatDoorE1
import Derived.Laws.Sem
import Derived.Laws.Entries
import Derived.ChangeKeysEq
import Derived.RangeFuncLeaves
set_option maxRecDepth 4000

namespace Go.Ev
def Nm.toNat : Nm → Nat
 | .h => 1
 | .o n => 2 * n.toNat
 | .i n => 2 * n.toNat + 1
theorem nm_pos : ∀ n : Nm, 0 < n.toNat
 | .h => by simp [Nm.toNat]
 | .o n => by have := nm_pos n; simp [Nm.toNat]; omega
 | .i n => by simp [Nm.toNat]
theorem nm_inj : ∀ a b : Nm, a.toNat = b.toNat → a = b
 | .h, .h, _ => rfl
 | .h, .o b, e => by have := nm_pos b; simp [Nm.toNat] at e; omega
 | .h, .i b, e => by have := nm_pos b; simp [Nm.toNat] at e; omega
 | .o a, .h, e => by have := nm_pos a; simp [Nm.toNat] at e; omega
 | .o a, .o b, e => by simp [Nm.toNat] at e; rw [nm_inj a b (by omega)]
 | .o a, .i b, e => by simp [Nm.toNat] at e; omega
 | .i a, .h, e => by have := nm_pos a; simp [Nm.toNat] at e; omega
 | .i a, .o b, e => by simp [Nm.toNat] at e; omega
 | .i a, .i b, e => by simp [Nm.toNat] at e; rw [nm_inj a b (by omega)]
theorem nm_succ : ∀ n : Nm, n.succ.toNat = n.toNat + 1
 | .h => rfl
 | .o n => by show 2 * n.toNat + 1 = 2 * n.toNat + 1; rfl
 | .i n => by
   have := nm_succ n
   show 2 * n.succ.toNat = 2 * n.toNat + 1 + 1
   omega
theorem nm_beq : ∀ a b : Nm, Nm.beq a b = true ↔ a = b
 | .h, .h => by simp [Nm.beq]
 | .h, .o b => by simp [Nm.beq]
 | .h, .i b => by simp [Nm.beq]
 | .o a, .h => by simp [Nm.beq]
 | .o a, .o b => by
   have := nm_beq a b
   show Nm.beq a b = true ↔ _
   simp [this]
 | .o a, .i b => by simp [Nm.beq]
 | .i a, .h => by simp [Nm.beq]
 | .i a, .o b => by simp [Nm.beq]
 | .i a, .i b => by
   have := nm_beq a b
   show Nm.beq a b = true ↔ _
   simp [this]
noncomputable instance : DecidableEq Nm := fun a b => decidable_of_iff _ (nm_beq a b)
theorem tget_e : ∀ p : Nm, T.get p .e = .x
 | .h => rfl
 | .o _ => rfl
 | .i _ => rfl
section
variable (p : Nm) (l r : T) (v y : V)
theorem tget_h : T.get .h (.nd l v r) = v := rfl
theorem tget_o : T.get (.o p) (.nd l v r) = T.get p l := rfl
theorem tget_i : T.get (.i p) (.nd l v r) = T.get p r := rfl
theorem tset_he : T.set .h v .e = .nd .e v .e := rfl
theorem tset_oe : T.set (.o p) v .e = .nd (T.set p v .e) .x .e := rfl
theorem tset_ie : T.set (.i p) v .e = .nd .e .x (T.set p v .e) := rfl
theorem tset_h : T.set .h v (.nd l y r) = .nd l v r := rfl
theorem tset_o : T.set (.o p) v (.nd l y r) = .nd (T.set p v l) y r := rfl
theorem tset_i : T.set (.i p) v (.nd l y r) = .nd l y (T.set p v r) := rfl
end
theorem tget_set : ∀ (p q : Nm) (v : V) (t : T), T.get q (T.set p v t) = if q = p then v else T.get q t := by
 intro p
 induction p with
 | h => intro q v t; cases q <;> cases t <;> simp [tget_e, tget_h, tget_o, tget_i, tset_he, tset_h]
 | o p ih => intro q v t; cases q <;> cases t <;> simp [tget_e, tget_h, tget_o, tget_i, tset_oe, tset_o, ih]
 | i p ih => intro q v t; cases q <;> cases t <;> simp [tget_e, tget_h, tget_o, tget_i, tset_ie, tset_i, ih]
theorem hget_e : ∀ p : Nm, H.get p .e = .no
 | .h => rfl
 | .o _ => rfl
 | .i _ => rfl
section
variable (p : Nm) (l r : H) (v y : Blk)
theorem hget_h : H.get .h (.nd l v r) = v := rfl
theorem hget_o : H.get (.o p) (.nd l v r) = H.get p l := rfl
theorem hget_i : H.get (.i p) (.nd l v r) = H.get p r := rfl
theorem hset_he : H.set .h v .e = .nd .e v .e := rfl
theorem hset_oe : H.set (.o p) v .e = .nd (H.set p v .e) .no .e := rfl
theorem hset_ie : H.set (.i p) v .e = .nd .e .no (H.set p v .e) := rfl
theorem hset_h : H.set .h v (.nd l y r) = .nd l v r := rfl
theorem hset_o : H.set (.o p) v (.nd l y r) = .nd (H.set p v l) y r := rfl
theorem hset_i : H.set (.i p) v (.nd l y r) = .nd l y (H.set p v r) := rfl
end
theorem hget_set : ∀ (p q : Nm) (v : Blk) (t : H), H.get q (H.set p v t) = if q = p then v else H.get q t := by
 intro p
 induction p with
 | h => intro q v t; cases q <;> cases t <;> simp [hget_e, hget_h, hget_o, hget_i, hset_he, hset_h]
 | o p ih => intro q v t; cases q <;> cases t <;> simp [hget_e, hget_h, hget_o, hget_i, hset_oe, hset_o, ih]
 | i p ih => intro q v t; cases q <;> cases t <;> simp [hget_e, hget_h, hget_o, hget_i, hset_ie, hset_i, ih]
structure Loc where
 b : Nm → Nat
 k : Nm → Nat
def kOf : Nat → IntKind
 | 0 => .i8 | 1 => .i16 | 2 => .i32 | 3 => .i64 | 4 => .u8 | 5 => .u16 | 6 => .u32 | _ => .u64
def iv (k n : Nat) : Value := .int (kOf k) ((kOf k).wrap n)
def bytesL (l n : Nat) : List UInt8 := (List.range l).map fun j => UInt8.ofNat (byteAt n j)
def fit (w : Nat) (l : List Value) : List Value := (l ++ List.replicate w undef).take w
structure Den where
 v : Value
 ch : List Value
 ls : List Value
 lc : List Value
def endSl (b o w k : Nat) : Value := if k = 0 then .slice (some ⟨b, o, none⟩) 0 0 else .slice (some ⟨b, o + w, none⟩) 0 k
def den (L : Loc) : V → Den
 | .x => ⟨undef, [undef], [], []⟩
 | .u => ⟨undef, [undef], [], []⟩
 | .i k n => ⟨iv k n, [iv k n], [], []⟩
 | .b z => ⟨.bool z, [.bool z], [], []⟩
 | .p a o => ⟨.pointer (some ⟨L.b a, o, none⟩), [.pointer (some ⟨L.b a, o, none⟩)], [], []⟩
 | .np => ⟨.pointer none, [.pointer none], [], []⟩
 | .s l n => ⟨.string ⟨(bytesL l n).toArray⟩, [.string ⟨(bytesL l n).toArray⟩], [], []⟩
 | .sl a o l c => ⟨.slice (some ⟨L.b a, o, none⟩) l c, [.slice (some ⟨L.b a, o, none⟩) l c], [], []⟩
 | .se a o w => ⟨endSl (L.b a) o w (L.k a), [endSl (L.b a) o w (L.k a)], [], []⟩
 | .so a o e l => ⟨.slice (some ⟨L.b a, o, none⟩) l (l + e + L.k a), [.slice (some ⟨L.b a, o, none⟩) l (l + e + L.k a)], [], []⟩
 | .ns => ⟨.slice none 0 0, [.slice none 0 0], [], []⟩
 | .m a => ⟨.map (some (L.b a)), [.map (some (L.b a))], [], []⟩
 | .nm => ⟨.map none, [.map none], [], []⟩
 | .f g F C => let x := .func g (den L F).ls.toArray (den L C).ls.toArray; ⟨x, [x], [], []⟩
 | .nf => ⟨.nilFunc, [.nilFunc], [], []⟩
 | .yl a => ⟨.func (.yield (L.b a)) #[] #[], [.func (.yield (L.b a)) #[] #[]], [], []⟩
 | .ifc t v => ⟨.iface t (den L v).v, [.iface t (den L v).v], [], []⟩
 | .ni => ⟨.nilIface, [.nilIface], [], []⟩
 | .agg w cs => ⟨.agg (fit w (den L cs).lc).toArray, [.agg (fit w (den L cs).lc).toArray], [], []⟩
 | .tup vs => ⟨.tuple (den L vs).ls.toArray, [.tuple (den L vs).ls.toArray], [], []⟩
 | .nil => ⟨undef, [undef], [], []⟩
 | .cons a d => ⟨undef, [undef], (den L a).v :: (den L d).ls, (den L a).ch ++ (den L d).lc⟩
 | .bs l n => ⟨undef, (List.range l).map fun j => iv 4 (byteAt n j), [], []⟩
 | .sp w cs => ⟨undef, fit w (den L cs).lc, [], []⟩
abbrev val (L : Loc) (v : V) : Value := (den L v).v
abbrev chv (L : Loc) (v : V) : List Value := (den L v).ch
abbrev lsv (L : Loc) (v : V) : List Value := (den L v).ls
abbrev lcv (L : Loc) (v : V) : List Value := (den L v).lc
structure Wf where
 v : Prop
 k : Prop
 l : Prop
 s : Prop
def Fn.plain : Fn → Prop
 | .yield _ => False
 | _ => True
def wf (c : Nm → Prop) : V → Wf
 | .x => ⟨False, False, False, False⟩
 | .u => ⟨True, True, False, False⟩
 | .i k n => ⟨n < 2 ^ kbits k ∧ k < 8, n < 2 ^ kbits k ∧ k < 8, False, False⟩
 | .b _ | .np | .ns | .nm | .nf | .ni => ⟨True, True, False, False⟩
 | .s l n => ⟨n < 2 ^ (8 * l), n < 2 ^ (8 * l), False, False⟩
 | .p a _ | .sl a _ _ _ | .so a _ _ _ | .se a _ _ | .m a | .yl a => ⟨c a, c a, False, False⟩
 | .f g F C => ⟨Fn.plain g ∧ (wf c F).s ∧ (wf c C).s, Fn.plain g ∧ (wf c F).s ∧ (wf c C).s, False, False⟩
 | .ifc _ v => ⟨(wf c v).v, (wf c v).v, False, False⟩
 | .agg _ cs => ⟨(wf c cs).l, False, False, False⟩
 | .tup vs => ⟨(wf c vs).s, False, False, False⟩
 | .nil => ⟨False, False, True, True⟩
 | .cons a d => ⟨False, False, (wf c a).k ∧ (wf c d).l, (wf c a).v ∧ (wf c d).s⟩
 | .bs l n => ⟨False, n < 2 ^ (8 * l), False, False⟩
 | .sp _ cs => ⟨False, (wf c cs).l, False, False⟩
theorem fit_length (w : Nat) (l : List Value) : (fit w l).length = w := by simp [fit]
theorem fit_self {w : Nat} {l : List Value} (h : l.length = w) : fit w l = l := by simp [fit, ← h]
theorem fit_getElem {w o : Nat} {l : List Value} (h : o < w) : (fit w l)[o]? = some (l[o]?.getD undef) := by
 simp only [fit, List.getElem?_take, h, if_true, List.getElem?_append, List.getElem?_replicate]
 by_cases h' : o < l.length
 · simp [h']
 · have h2 : l[o]? = none := List.getElem?_eq_none (by omega)
   have h3 : o - l.length < w := by omega
   simp [h', h3]
theorem list_ext {l m : List Value} (n : Nat) (hl : l.length = n) (hm : m.length = n) (h : ∀ i, i < n → l[i]? = m[i]?) : l = m := by
 apply List.ext_getElem?
 intro i
 by_cases hi : i < n
 · exact h i hi
 · rw [List.getElem?_eq_none (by omega), List.getElem?_eq_none (by omega)]
theorem fit_part {N o n : Nat} (l : List Value) (h : o + n ≤ N) : ((fit N l).drop o).take n = fit n (l.drop o) := by
 refine list_ext n (by simp [fit_length]; omega) (fit_length _ _) fun i hi => ?_
 rw [List.getElem?_take, if_pos hi, List.getElem?_drop, fit_getElem (by omega), fit_getElem hi, List.getElem?_drop]
theorem fit_take {n : Nat} (l : List Value) : fit n (l.take n) = fit n l := by
 refine list_ext n (fit_length _ _) (fit_length _ _) fun i hi => ?_
 rw [fit_getElem hi, fit_getElem hi, List.getElem?_take, if_pos hi]
theorem fit_fit {n m : Nat} (l : List Value) (h : n ≤ m) : fit n (fit m l) = fit n l := by
 refine list_ext n (fit_length _ _) (fit_length _ _) fun i hi => ?_
 rw [fit_getElem hi, fit_getElem hi, fit_getElem (by omega)]; rfl
theorem fit_app {n m : Nat} (l r : List Value) (h : l.length = n) (h' : n ≤ m) : fit m (l ++ r) = l ++ fit (m - n) r := by
 refine list_ext m (fit_length _ _) (by simp [fit_length, h]; omega) fun i hi => ?_
 rw [fit_getElem hi, List.getElem?_append, List.getElem?_append]
 by_cases hl : i < l.length
 · simp [hl]
 · simp only [hl, if_false]; rw [fit_getElem (by omega)]
theorem fit_put {N o m : Nat} (l y : List Value) (hy : y.length = m) (h : o + m ≤ N) :
 fit N (fit o l ++ (y ++ l.drop (o + m))) = (fit N l).take o ++ (y ++ (fit N l).drop (o + m)) := by
 refine list_ext N (fit_length _ _) (by simp [fit_length, hy]; omega) fun i hi => ?_
 have hm : min o N = o := Nat.min_eq_left (by omega)
 rw [fit_getElem hi]
 simp only [List.getElem?_append, fit_length, List.length_take, hm]
 by_cases h1 : i < o
 · simp only [h1, if_true]; rw [fit_getElem h1, List.getElem?_take, if_pos h1, fit_getElem hi]; rfl
 · simp only [h1, if_false]
   by_cases h2 : i - o < y.length
   · simp [h2]
   · simp only [h2, if_false]
     rw [List.getElem?_drop, List.getElem?_drop, fit_getElem (by omega)]
theorem ch_length (L : Loc) (v : V) : (chv L v).length = wd v := by
 cases v <;> simp [chv, den, wd, fit_length]
theorem den_cons_lc (L : Loc) (a d : V) : lcv L (.cons a d) = chv L a ++ lcv L d := rfl
theorem lt_iff (a b : Nat) : lt a b = true ↔ a < b := by
 show Nat.ble (a + 1) b = true ↔ _
 rw [Nat.ble_eq]; omega
theorem lt_false (a b : Nat) : lt a b = false ↔ b ≤ a := by
 rw [← Bool.not_eq_true, lt_iff]; omega
theorem bool_rec_eq {α : Sort _} (z : Bool) (a b : α) : (Bool.rec a b z : α) = if z = true then b else a := by cases z <;> rfl
theorem wd_cons (a d : V) : wd (.cons a d) = 1 := rfl
section
variable (L : Loc) (c : Nm → Prop)
theorem atC_cons (a d : V) (o : Nat) : atC (.cons a d) o = if lt o (wd a) = true then atC a o else atC d (o - wd a) := by
 show (Bool.rec (atC d (Nat.sub o (wd a))) (atC a o) (lt o (wd a)) : V) = _
 cases lt o (wd a) <;> rfl
theorem atC_sp (w : Nat) (cs : V) (o : Nat) : atC (.sp w cs) o = atC cs o := rfl
theorem atC_spec : ∀ v : V, ((wf c v).k → ∀ o, o < wd v → (chv L v)[o]? = some (val L (atC v o)) ∧ ((wf c (atC v o)).v)) ∧
 ((wf c v).l → ∀ o, (lcv L v)[o]?.getD undef = val L (atC v o) ∧ (wf c (atC v o)).v) := by
 intro v
 induction v with
 | cons a d iha ihd =>
   refine ⟨fun h => h.elim, fun h o => ?_⟩
   rw [atC_cons, den_cons_lc, List.getElem?_append, ch_length]
   by_cases ho : o < wd a
   · have := iha.1 h.1 o ho
     simp only [ho, (lt_iff _ _).2 ho, if_true, this.1, Option.getD_some]
     exact ⟨trivial, this.2⟩
   · have hl : lt o (wd a) = false := (lt_false _ _).2 (by omega)
     simp only [ho, hl, if_false, Bool.false_eq_true]
     exact ihd.2 h.2 _
 | nil => exact ⟨fun h => h.elim, fun _ o => ⟨by simp [lcv, den, atC, val], trivial⟩⟩
 | bs l n =>
   refine ⟨fun h o ho => ?_, fun h => h.elim⟩
   have ho' : o < l := ho
   refine ⟨by simp [chv, den, atC, ho', val], ?_⟩
   show byteAt n o < 2 ^ 8 ∧ 4 < 8
   exact ⟨Nat.lt_of_le_of_lt Nat.and_le_right (by decide), by decide⟩
 | sp w cs ih =>
   refine ⟨fun h o ho => ?_, fun h => h.elim⟩
   have := ih.2 h o
   have ho' : o < w := ho
   rw [atC_sp]
   refine ⟨?_, this.2⟩
   show (fit w (lcv L cs))[o]? = _
   rw [fit_getElem ho', this.1]
 | x => exact ⟨fun h => h.elim, fun h => h.elim⟩
 | agg w cs _ => exact ⟨fun h => h.elim, fun h => h.elim⟩
 | tup vs _ => exact ⟨fun h => h.elim, fun h => h.elim⟩
 | f g F C _ _ =>
   refine ⟨fun h o ho => ?_, fun h => h.elim⟩
   have ho' : o = 0 := by have : o < 1 := ho; omega
   subst ho'
   exact ⟨rfl, h⟩
 | ifc t v _ =>
   refine ⟨fun h o ho => ?_, fun h => h.elim⟩
   have ho' : o = 0 := by have : o < 1 := ho; omega
   subst ho'
   exact ⟨rfl, h⟩
 | _ =>
   refine ⟨fun h o ho => ?_, fun h => h.elim⟩
   have ho' : o = 0 := by have : o < 1 := ho; omega
   subst ho'
   exact ⟨rfl, h⟩
theorem isZ_eq (n : Nat) : isZ n = decide (n = 0) := by rw [Bool.eq_iff_iff]; show Nat.beq n 0 = true ↔ _; rw [Nat.beq_eq]; simp
theorem subC_cons (a d : V) (o n : Nat) : subC (.cons a d) o n = if n = 0 then .nil else if o < wd a then
 (if o = 0 ∧ wd a ≤ n then .cons a (subC d 0 (n - wd a)) else if o + n ≤ wd a then .cons (subC a o n) .nil else .cons (subC a o (wd a - o)) (subC d 0 (n - (wd a - o))))
 else subC d (o - wd a) n := by
 show (Bool.rec (Bool.rec (subC d (Nat.sub o (wd a)) n) (Bool.rec (Bool.rec (.cons (subC a o (Nat.sub (wd a) o)) (subC d 0 (Nat.sub n (Nat.sub (wd a) o)))) (.cons (subC a o n) .nil) (Nat.ble (Nat.add o n) (wd a)))
  (.cons a (subC d 0 (Nat.sub n (wd a)))) (Bool.and (isZ o) (Nat.ble (wd a) n))) (lt o (wd a))) .nil (isZ n) : V) = _
 have h1 : isZ n = decide (n = 0) := isZ_eq n
 have h2 : isZ o = decide (o = 0) := isZ_eq o
 have h3 : lt o (wd a) = decide (o < wd a) := by rw [Bool.eq_iff_iff, lt_iff]; simp
 have h4 : Nat.ble (wd a) n = decide (wd a ≤ n) := by rw [Bool.eq_iff_iff, Nat.ble_eq]; simp
 have h5 : Nat.ble (Nat.add o n) (wd a) = decide (o + n ≤ wd a) := by rw [Bool.eq_iff_iff, Nat.ble_eq]; simp
 rw [h1, h2, h3, h4, h5]
 simp only [bool_rec_eq, Bool.and_eq_true, decide_eq_true_eq]
 rfl
theorem range_drop_take (l o m : Nat) (f : Nat → Value) (h : o + m ≤ l) : (((List.range l).map f).drop o).take m = (List.range m).map fun j => f (o + j) := by
 refine list_ext m (by simp; omega) (by simp) fun i hi => ?_
 rw [List.getElem?_take, if_pos hi, List.getElem?_drop]
 rw [List.getElem?_map, List.getElem?_map, List.getElem?_range (by omega), List.getElem?_range hi]; rfl
theorem byteAt_bytesAt (n o m j : Nat) (h : j < m) : byteAt (bytesAt n o m) j = byteAt n (o + j) := by
 apply Nat.eq_of_testBit_eq
 intro i
 show Nat.testBit (((n >>> (8 * o)) % (1 <<< (8 * m))) >>> (8 * j) &&& 255) i = Nat.testBit (n >>> (8 * (o + j)) &&& 255) i
 rw [Nat.one_shiftLeft, show (255 : Nat) = 2 ^ 8 - 1 by rfl, Nat.testBit_and, Nat.testBit_and, Nat.testBit_shiftRight, Nat.testBit_shiftRight, Nat.testBit_mod_two_pow, Nat.testBit_shiftRight, Nat.testBit_two_pow_sub_one]
 by_cases hi : i < 8
 · have : 8 * j + i < 8 * m := by omega
   simp [hi, this]
   congr 1; omega
 · simp [hi]
theorem bytesAt_lt (n o m : Nat) : bytesAt n o m < 2 ^ (8 * m) := by
 show (n >>> (8 * o)) % (1 <<< (8 * m)) < _
 rw [Nat.one_shiftLeft]
 exact Nat.mod_lt _ (Nat.two_pow_pos _)
theorem subC_spec : ∀ v : V, ((wf c v).k → ∀ o n, 0 < n → o + n ≤ wd v → chv L (subC v o n) = ((chv L v).drop o).take n ∧ wd (subC v o n) = n ∧ (wf c (subC v o n)).k) ∧
 ((wf c v).l → ∀ o n, lcv L (subC v o n) = ((lcv L v).drop o).take n ∧ (wf c (subC v o n)).l) := by
 intro v
 induction v with
 | cons a d iha ihd =>
   refine ⟨fun h => h.elim, fun h o n => ?_⟩
   rw [subC_cons, den_cons_lc]
   by_cases hn : n = 0
   · subst hn; simp [lcv, den, wf]
   rw [if_neg hn]
   by_cases ho : o < wd a
   · rw [if_pos ho]
     have hch : (chv L a).length = wd a := ch_length L a
     by_cases h1 : o = 0 ∧ wd a ≤ n
     · obtain ⟨rfl, h1⟩ := h1
       rw [if_pos ⟨rfl, h1⟩]
       have := ihd.2 h.2 0 (n - wd a)
       refine ⟨?_, h.1, this.2⟩
       rw [den_cons_lc, this.1, List.drop_zero, List.drop_zero, List.take_append, hch, List.take_of_length_le (l := chv L a) (by omega)]
     · rw [if_neg h1]
       by_cases h2 : o + n ≤ wd a
       · rw [if_pos h2]
         have := iha.1 h.1 o n (by omega) h2
         refine ⟨?_, this.2.2, trivial⟩
         rw [den_cons_lc, this.1, List.drop_append, List.take_append]
         have : n - (List.drop o (chv L a)).length = 0 := by simp [hch]; omega
         rw [this]; simp [lcv, den]
       · rw [if_neg h2]
         have h3 := iha.1 h.1 o (wd a - o) (by omega) (by omega)
         have h4 := ihd.2 h.2 0 (n - (wd a - o))
         refine ⟨?_, h3.2.2, h4.2⟩
         rw [den_cons_lc, h3.1, h4.1, List.drop_append, List.take_append, List.drop_zero]
         have h5 : o - (chv L a).length = 0 := by omega
         have h6 : (List.drop o (chv L a)).length = wd a - o := by simp [hch]
         rw [h5, h6, List.drop_zero, List.take_of_length_le (by omega), List.take_of_length_le (l := List.drop o (chv L a)) (i := n) (by omega)]
   · rw [if_neg ho]
     have := ihd.2 h.2 (o - wd a) n
     refine ⟨?_, this.2⟩
     have hch : (chv L a).length = wd a := ch_length L a
     rw [this.1, List.drop_append, hch, List.drop_of_length_le (l := chv L a) (i := o) (by omega), List.nil_append]
 | nil => exact ⟨fun h => h.elim, fun _ o n => ⟨by simp [lcv, den, subC], trivial⟩⟩
 | bs l n =>
   refine ⟨fun h o m hm ho => ?_, fun h => h.elim⟩
   have ho' : o + m ≤ l := ho
   refine ⟨?_, rfl, bytesAt_lt _ _ _⟩
   show (List.range m).map (fun j => iv 4 (byteAt (bytesAt n o m) j)) = (((List.range l).map fun j => iv 4 (byteAt n j)).drop o).take m
   rw [range_drop_take _ _ _ _ ho']
   apply List.map_congr_left
   intro j hj
   rw [byteAt_bytesAt _ _ _ _ (List.mem_range.1 hj)]
 | sp w cs ih =>
   refine ⟨fun h o m hm ho => ?_, fun h => h.elim⟩
   have := ih.2 h o m
   have ho' : o + m ≤ w := ho
   refine ⟨?_, rfl, this.2⟩
   show fit m (lcv L (subC cs o m)) = ((fit w (lcv L cs)).drop o).take m
   rw [this.1, fit_take, fit_part _ ho']
 | x => exact ⟨fun h => h.elim, fun h => h.elim⟩
 | agg w cs _ => exact ⟨fun h => h.elim, fun h => h.elim⟩
 | tup vs _ => exact ⟨fun h => h.elim, fun h => h.elim⟩
 | f g F C _ _ =>
   refine ⟨fun h o n hn ho => ?_, fun h => h.elim⟩
   have ho' : o = 0 := by have : o + n ≤ 1 := ho; omega
   have hn' : n = 1 := by have : o + n ≤ 1 := ho; omega
   subst ho' hn'
   exact ⟨rfl, rfl, h⟩
 | ifc t v _ =>
   refine ⟨fun h o n hn ho => ?_, fun h => h.elim⟩
   have ho' : o = 0 := by have : o + n ≤ 1 := ho; omega
   have hn' : n = 1 := by have : o + n ≤ 1 := ho; omega
   subst ho' hn'
   exact ⟨rfl, rfl, h⟩
 | _ =>
   refine ⟨fun h o n hn ho => ?_, fun h => h.elim⟩
   have ho' : o = 0 := by have : o + n ≤ 1 := ho; omega
   have hn' : n = 1 := by have : o + n ≤ 1 := ho; omega
   subst ho' hn'
   exact ⟨rfl, rfl, h⟩
theorem dropC_cons (a d : V) (o : Nat) : dropC (.cons a d) o = if o = 0 then .cons a d else if o < wd a then .cons (subC a o (wd a - o)) d else dropC d (o - wd a) := by
 show (Bool.rec (Bool.rec (dropC d (Nat.sub o (wd a))) (.cons (subC a o (Nat.sub (wd a) o)) d) (lt o (wd a))) (.cons a d) (isZ o) : V) = _
 have h3 : lt o (wd a) = decide (o < wd a) := by rw [Bool.eq_iff_iff, lt_iff]; simp
 rw [isZ_eq, h3]
 simp only [bool_rec_eq, decide_eq_true_eq]
 rfl
theorem dropC_spec : ∀ v : V, (wf c v).l → ∀ o, lcv L (dropC v o) = (lcv L v).drop o ∧ (wf c (dropC v o)).l := by
 intro v
 induction v with
 | cons a d iha ihd =>
   intro h o
   have hch : (chv L a).length = wd a := ch_length L a
   rw [dropC_cons]
   by_cases ho : o = 0
   · subst ho; rw [if_pos rfl]; exact ⟨rfl, h⟩
   rw [if_neg ho]
   by_cases h1 : o < wd a
   · rw [if_pos h1]
     have := (subC_spec L c a).1 h.1 o (wd a - o) (by omega) (by omega)
     refine ⟨?_, this.2.2, h.2⟩
     have h5 : o - (chv L a).length = 0 := by omega
     rw [den_cons_lc, den_cons_lc, this.1, List.drop_append, h5, List.drop_zero, List.take_of_length_le (by simp [hch])]
   · rw [if_neg h1]
     have := ihd h.2 (o - wd a)
     refine ⟨?_, this.2⟩
     rw [this.1, den_cons_lc, List.drop_append, hch, List.drop_of_length_le (l := chv L a) (i := o) (by omega), List.nil_append]
 | nil => intro _ o; exact ⟨by simp [lcv, den, dropC], trivial⟩
 | _ => intro h; exact h.elim
theorem byteAt_put (n o m j i : Nat) : byteAt (bytesPut n o m j) i = if o ≤ i ∧ i < o + m then byteAt j (i - o) else if i < o then byteAt n i else Nat.xor (byteAt n i) (byteAt j (i - o)) := by
 apply Nat.eq_of_testBit_eq
 intro b
 have e255 : (255 : Nat) = 2 ^ 8 - 1 := rfl
 have hput : ∀ q, Nat.testBit (bytesPut n o m j) q = Bool.xor (Nat.testBit n q) (decide (8 * o ≤ q) && Bool.xor (decide (q - 8 * o < 8 * m) && Nat.testBit n (8 * o + (q - 8 * o))) (Nat.testBit j (q - 8 * o))) := by
  intro q
  show Nat.testBit (n ^^^ ((((n >>> (8 * o)) % (1 <<< (8 * m))) ^^^ j) <<< (8 * o))) q = _
  rw [Nat.one_shiftLeft, Nat.testBit_xor, Nat.testBit_shiftLeft, Nat.testBit_xor, Nat.testBit_mod_two_pow, Nat.testBit_shiftRight]
 have hb : ∀ x i, Nat.testBit (byteAt x i) b = (Nat.testBit x (8 * i + b) && decide (b < 8)) := by
  intro x i
  show Nat.testBit (x >>> (8 * i) &&& 255) b = _
  rw [e255, Nat.testBit_and, Nat.testBit_shiftRight, Nat.testBit_two_pow_sub_one]
 rw [hb, hput]
 by_cases h8 : b < 8
 · by_cases h1 : o ≤ i
   · have e1 : 8 * i + b - 8 * o = 8 * (i - o) + b := by omega
     have e2 : 8 * o + (8 * (i - o) + b) = 8 * i + b := by omega
     have e3 : 8 * o ≤ 8 * i + b := by omega
     rw [e1, e2]
     by_cases h2 : i < o + m
     · have e4 : 8 * (i - o) + b < 8 * m := by omega
       rw [if_pos ⟨h1, h2⟩, hb]
       simp [e3, e4, h8]
     · have e4 : ¬ 8 * (i - o) + b < 8 * m := by omega
       rw [if_neg (fun h => h2 h.2), if_neg (by omega)]
       show _ = Nat.testBit (byteAt n i ^^^ byteAt j (i - o)) b
       rw [Nat.testBit_xor, hb, hb]
       simp [e3, e4, h8]
   · have e3 : ¬ 8 * o ≤ 8 * i + b := by omega
     rw [if_neg (fun h => h1 h.1), if_pos (by omega), hb]
     simp [e3, h8]
 · split
   · rw [hb]; simp [h8]
   · split
     · rw [hb]; simp [h8]
     · show _ = Nat.testBit (byteAt n i ^^^ byteAt j (i - o)) b
       rw [Nat.testBit_xor, hb, hb]; simp [h8]
theorem byteAt_zero {j i m : Nat} (h : j < 2 ^ (8 * m)) (hi : m ≤ i) : byteAt j i = 0 := by
 show j >>> (8 * i) &&& 255 = 0
 rw [Nat.shiftRight_eq_div_pow, Nat.div_eq_of_lt (Nat.lt_of_lt_of_le h (Nat.pow_le_pow_right (by decide) (by omega)))]
 rfl
theorem bytesPut_lt {l n o m j : Nat} (hn : n < 2 ^ (8 * l)) (hj : j < 2 ^ (8 * m)) (h : o + m ≤ l) : bytesPut n o m j < 2 ^ (8 * l) := by
 show n ^^^ (((n >>> (8 * o)) % (1 <<< (8 * m)) ^^^ j) <<< (8 * o)) < _
 refine Nat.xor_lt_two_pow hn ?_
 rw [Nat.one_shiftLeft, Nat.shiftLeft_eq]
 have h1 : (n >>> (8 * o)) % 2 ^ (8 * m) ^^^ j < 2 ^ (8 * m) := Nat.xor_lt_two_pow (Nat.mod_lt _ (Nat.two_pow_pos _)) hj
 calc _ < 2 ^ (8 * m) * 2 ^ (8 * o) := Nat.mul_lt_mul_of_pos_right h1 (Nat.two_pow_pos _)
  _ = 2 ^ (8 * (m + o)) := by rw [← Nat.pow_add]; congr 1; omega
  _ ≤ 2 ^ (8 * l) := Nat.pow_le_pow_right (by decide) (by omega)
theorem bs_part (l n o m : Nat) (h : o + m ≤ l) : chv L (.bs m (bytesAt n o m)) = ((chv L (.bs l n)).drop o).take m := by
 show (List.range m).map (fun j => iv 4 (byteAt (bytesAt n o m) j)) = (((List.range l).map fun j => iv 4 (byteAt n j)).drop o).take m
 rw [range_drop_take _ _ _ _ h]
 apply List.map_congr_left
 intro j hj
 rw [byteAt_bytesAt _ _ _ _ (List.mem_range.1 hj)]
def three (y : V) (l n o m : Nat) : V := .sp l (.cons (.bs o (bytesAt n 0 o)) (.cons y (.cons (.bs (l - (o + m)) (bytesAt n (o + m) (l - (o + m)))) .nil)))
theorem three_spec {y : V} {l n o m : Nat} (hy : (wf c y).k) (hw : wd y = m) (h : o + m ≤ l) :
 chv L (three y l n o m) = (chv L (.bs l n)).take o ++ (chv L y ++ (chv L (.bs l n)).drop (o + m)) ∧ wd (three y l n o m) = l ∧ (wf c (three y l n o m)).k := by
 refine ⟨?_, rfl, bytesAt_lt _ _ _, hy, bytesAt_lt _ _ _, trivial⟩
 show fit l (chv L (.bs o (bytesAt n 0 o)) ++ (chv L y ++ (chv L (.bs (l - (o + m)) (bytesAt n (o + m) (l - (o + m)))) ++ []))) = _
 have hl : (chv L (.bs l n)).length = l := ch_length L _
 rw [bs_part L l n 0 o (by omega), bs_part L l n (o + m) _ (by omega), List.append_nil, List.drop_zero]
 rw [List.take_of_length_le (l := List.drop (o + m) (chv L (.bs l n))) (by simp [hl])]
 refine fit_self ?_
 simp [hl, ch_length, hw]; omega
theorem put_cells {l n o m j : Nat} (hj : j < 2 ^ (8 * m)) (h : o + m ≤ l) :
 chv L (.bs l (bytesPut n o m j)) = (chv L (.bs l n)).take o ++ (chv L (.bs m j) ++ (chv L (.bs l n)).drop (o + m)) := by
 have hl : (chv L (.bs l n)).length = l := ch_length L _
 have hm : (chv L (.bs m j)).length = m := ch_length L _
 refine list_ext l (ch_length L _) (by simp [hl, hm]; omega) fun i hi => ?_
 show ((List.range l).map fun q => iv 4 (byteAt (bytesPut n o m j) q))[i]? = _
 rw [List.getElem?_map, List.getElem?_range hi]
 simp only [List.getElem?_append, List.length_take, hl, hm, Nat.min_eq_left (show o ≤ l by omega)]
 show some (iv 4 (byteAt (bytesPut n o m j) i)) = _
 rw [byteAt_put]
 by_cases h1 : i < o
 · rw [if_neg (by omega), if_pos h1, if_pos h1, List.getElem?_take, if_pos h1]
   show _ = ((List.range l).map fun q => iv 4 (byteAt n q))[i]?
   rw [List.getElem?_map, List.getElem?_range hi]; rfl
 · rw [if_neg h1, if_neg h1]
   by_cases h2 : i < o + m
   · rw [if_pos ⟨by omega, h2⟩, if_pos (by omega)]
     show _ = ((List.range m).map fun q => iv 4 (byteAt j q))[i - o]?
     rw [List.getElem?_map, List.getElem?_range (by omega)]; rfl
   · rw [if_neg (fun h => h2 h.2), if_neg (by omega), List.getElem?_drop]
     have : o + m + (i - o - m) = i := by omega
     rw [this, byteAt_zero hj (by omega)]
     show _ = ((List.range l).map fun q => iv 4 (byteAt n q))[i]?
     rw [List.getElem?_map, List.getElem?_range hi]
     show some (iv 4 (byteAt n i ^^^ 0)) = _
     rw [Nat.xor_zero]; rfl
theorem putB_spec {y : V} {l n o m : Nat} (hn : n < 2 ^ (8 * l)) (hy : (wf c y).k) (hw : wd y = m) (h : o + m ≤ l) :
 chv L (putB y l n o m) = (chv L (.bs l n)).take o ++ (chv L y ++ (chv L (.bs l n)).drop (o + m)) ∧ wd (putB y l n o m) = l ∧ (wf c (putB y l n o m)).k := by
 cases y with
 | bs a b =>
   have hw' : a = m := hw
   subst hw'
   exact ⟨put_cells L hy h, rfl, bytesPut_lt hn hy h⟩
 | i k b =>
   have hw' : 1 = m := hw
   subst hw'
   by_cases hk : k = 4
   · subst hk
     have e : putB (.i 4 b) l n o 1 = .bs l (bytesPut n o 1 b) := rfl
     have hb : b < 2 ^ 8 := hy.1
     rw [e]
     refine ⟨?_, rfl, bytesPut_lt (m := 1) hn (by simpa using hb) h⟩
     rw [put_cells L (m := 1) (by simpa using hb) h]
     have : byteAt b 0 = b := by
      show b >>> 0 &&& 255 = b
      rw [Nat.shiftRight_zero, show (255 : Nat) = 2 ^ 8 - 1 by rfl, Nat.and_two_pow_sub_one_eq_mod, Nat.mod_eq_of_lt hb]
     have e2 : chv L (.bs 1 b) = chv L (.i 4 b) := by
      show (List.range 1).map (fun j => iv 4 (byteAt b j)) = [iv 4 b]
      simp [this]
     rw [e2]
   · have e : putB (.i k b) l n o 1 = three (.i k b) l n o 1 := by
      show (Bool.rec _ _ (Nat.beq k 4) : V) = _
      have : Nat.beq k 4 = false := by rw [← Bool.not_eq_true, Nat.beq_eq]; exact hk
      rw [this]; rfl
     rw [e]
     exact three_spec L c hy rfl h
 | x => exact hy.elim
 | agg _ _ => exact hy.elim
 | tup _ => exact hy.elim
 | nil => exact hy.elim
 | cons _ _ => exact hy.elim
 | _ => exact three_spec L c hy hw h
theorem setC_cons (a d : V) (o m : Nat) (y : V) : setC (.cons a d) o m y = if o < wd a then
 (if o = 0 ∧ wd a ≤ m then .cons y (dropC d (m - wd a)) else if o + m ≤ wd a then .cons (setC a o m y) d else .cons (subC a 0 o) (.cons y (dropC d (m - (wd a - o)))))
 else .cons a (setC d (o - wd a) m y) := by
 show (Bool.rec (.cons a (setC d (Nat.sub o (wd a)) m y)) (Bool.rec (Bool.rec (.cons (subC a 0 o) (.cons y (dropC d (Nat.sub m (Nat.sub (wd a) o))))) (.cons (setC a o m y) d) (Nat.ble (Nat.add o m) (wd a)))
  (.cons y (dropC d (Nat.sub m (wd a)))) (Bool.and (isZ o) (Nat.ble (wd a) m))) (lt o (wd a)) : V) = _
 have h3 : lt o (wd a) = decide (o < wd a) := by rw [Bool.eq_iff_iff, lt_iff]; simp
 have h4 : Nat.ble (wd a) m = decide (wd a ≤ m) := by rw [Bool.eq_iff_iff, Nat.ble_eq]; simp
 have h5 : Nat.ble (Nat.add o m) (wd a) = decide (o + m ≤ wd a) := by rw [Bool.eq_iff_iff, Nat.ble_eq]; simp
 rw [isZ_eq, h3, h4, h5]
 simp only [bool_rec_eq, Bool.and_eq_true, decide_eq_true_eq]
 rfl
theorem setC_spec {y : V} {m : Nat} (hy : (wf c y).k) (hw : wd y = m) (hm : 0 < m) : ∀ v : V,
 ((wf c v).k → ∀ o, o + m ≤ wd v → chv L (setC v o m y) = (chv L v).take o ++ (chv L y ++ (chv L v).drop (o + m)) ∧ wd (setC v o m y) = wd v ∧ (wf c (setC v o m y)).k) ∧
 ((wf c v).l → ∀ o, lcv L (setC v o m y) = fit o (lcv L v) ++ (chv L y ++ (lcv L v).drop (o + m)) ∧ (wf c (setC v o m y)).l) := by
 intro v
 have one : ∀ v : V, (chv L v).length = 1 → ∀ o, o + m ≤ 1 → chv L y = (chv L v).take o ++ (chv L y ++ (chv L v).drop (o + m)) ∧ wd y = 1 := by
  intro v h1 o ho
  have ho' : o = 0 := by omega
  have hm' : m = 1 := by omega
  subst ho' hm'
  refine ⟨?_, hw⟩
  rw [List.take_zero, List.drop_of_length_le (by omega)]; simp
 induction v with
 | cons a d iha ihd =>
   refine ⟨fun h => h.elim, fun h o => ?_⟩
   have hch : (chv L a).length = wd a := ch_length L a
   rw [setC_cons, den_cons_lc]
   by_cases ho : o < wd a
   · rw [if_pos ho]
     have hf : fit o (chv L a ++ lcv L d) = (chv L a).take o := by
      rw [← fit_take, List.take_append_of_le_length (by omega)]
      exact fit_self (by simp [hch]; omega)
     by_cases h1 : o = 0 ∧ wd a ≤ m
     · obtain ⟨rfl, h1⟩ := h1
       rw [if_pos ⟨rfl, h1⟩]
       have := dropC_spec L c d h.2 (m - wd a)
       refine ⟨?_, hy, this.2⟩
       rw [den_cons_lc, this.1, hf, List.take_zero, List.nil_append, Nat.zero_add, List.drop_append, hch, List.drop_of_length_le (l := chv L a) (i := m) (by omega), List.nil_append]
     · rw [if_neg h1]
       by_cases h2 : o + m ≤ wd a
       · rw [if_pos h2]
         have := iha.1 h.1 o h2
         refine ⟨?_, this.2.2, h.2⟩
         have h6 : o + m - (chv L a).length = 0 := by omega
         rw [den_cons_lc, this.1, hf, List.drop_append, h6, List.drop_zero, List.append_assoc, List.append_assoc]
       · rw [if_neg h2]
         have h4 := dropC_spec L c d h.2 (m - (wd a - o))
         have hp : 0 < o := by omega
         have h3 := (subC_spec L c a).1 h.1 0 o hp (by omega)
         refine ⟨?_, h3.2.2, hy, h4.2⟩
         have h6 : o + m - (chv L a).length = m - (wd a - o) := by omega
         rw [den_cons_lc, den_cons_lc, h3.1, h4.1, hf, List.drop_zero, List.drop_append, h6, List.drop_of_length_le (l := chv L a) (i := o + m) (by omega), List.nil_append]
   · rw [if_neg ho]
     have := ihd.2 h.2 (o - wd a)
     refine ⟨?_, h.1, this.2⟩
     have h6 : o + m - (chv L a).length = o - wd a + m := by omega
     rw [den_cons_lc, this.1, fit_app _ _ hch (by omega), List.drop_append, h6, List.drop_of_length_le (l := chv L a) (i := o + m) (by omega), List.nil_append, List.append_assoc]
 | nil =>
   refine ⟨fun h => h.elim, fun _ o => ⟨?_, trivial, hy, trivial⟩⟩
   show fit o (lcv L .nil) ++ (chv L y ++ []) = fit o (lcv L .nil) ++ (chv L y ++ List.drop (o + m) [])
   simp
 | bs l n =>
   refine ⟨fun h o ho => ?_, fun h => h.elim⟩
   exact putB_spec L c h hy hw ho
 | sp w cs ih =>
   refine ⟨fun h o ho => ?_, fun h => h.elim⟩
   have := ih.2 h o
   have ho' : o + m ≤ w := ho
   refine ⟨?_, rfl, this.2⟩
   show fit w (lcv L (setC cs o m y)) = (fit w (lcv L cs)).take o ++ (chv L y ++ (fit w (lcv L cs)).drop (o + m))
   rw [this.1, fit_put _ _ (by rw [ch_length, hw]) ho']
 | x => exact ⟨fun h => h.elim, fun h => h.elim⟩
 | agg w cs _ => exact ⟨fun h => h.elim, fun h => h.elim⟩
 | tup vs _ => exact ⟨fun h => h.elim, fun h => h.elim⟩
 | f g F C _ _ => exact ⟨fun h o ho => let ⟨h1, h2⟩ := one _ rfl o ho; ⟨h1, h2, hy⟩, fun h => h.elim⟩
 | ifc t v _ => exact ⟨fun h o ho => let ⟨h1, h2⟩ := one _ rfl o ho; ⟨h1, h2, hy⟩, fun h => h.elim⟩
 | _ => exact ⟨fun h o ho => let ⟨h1, h2⟩ := one _ rfl o ho; ⟨h1, h2, hy⟩, fun h => h.elim⟩
theorem appC_spec : ∀ v y : V, (wf c v).l → (wf c y).l → lcv L (appC v y) = lcv L v ++ lcv L y ∧ (wf c (appC v y)).l := by
 intro v
 induction v with
 | cons a d _ ih =>
   intro y h hy
   have := ih y h.2 hy
   refine ⟨?_, h.1, this.2⟩
   show chv L a ++ lcv L (appC d y) = _
   rw [this.1, den_cons_lc, List.append_assoc]
 | nil => intro y _ hy; exact ⟨rfl, hy⟩
 | _ => intro y h; exact h.elim
end
end Go.Ev

namespace Go.Ev
theorem kOf_kc (k : IntKind) : kOf (kc k) = k := by cases k <;> rfl
theorem kbits_kc (k : IntKind) : kbits (kc k) = k.bits := by cases k <;> rfl
theorem ksigned_kc (k : IntKind) : ksigned (kc k) = k.signed := by cases k <;> rfl
theorem kc_lt (k : IntKind) : kc k < 8 := by cases k <;> decide
theorem wrap_congr (k : IntKind) {x y : Int} (h : x % (2 ^ k.bits : Int) = y % (2 ^ k.bits : Int)) : k.wrap x = k.wrap y := by
 simp only [IntKind.wrap, h]
theorem wrap_def (k : IntKind) (x : Int) : k.wrap x = if k.signed = true ∧ (2 ^ (k.bits - 1) : Int) ≤ x % (2 ^ k.bits : Int) then x % (2 ^ k.bits : Int) - 2 ^ k.bits else x % (2 ^ k.bits : Int) := by
 simp only [IntKind.wrap, Bool.and_eq_true, decide_eq_true_eq, ge_iff_le]
theorem wrap_mod (k : IntKind) (x : Int) : k.wrap x % (2 ^ k.bits : Int) = x % (2 ^ k.bits : Int) := by
 rw [wrap_def]
 split
 · rw [Int.sub_emod, Int.emod_self, Int.sub_zero, Int.emod_emod, Int.emod_emod]
 · rw [Int.emod_emod]
theorem wrap_wrap (k : IntKind) (x : Int) : k.wrap (k.wrap x) = k.wrap x := wrap_congr k (wrap_mod k x)
theorem wrap_add (k : IntKind) (x y : Int) : k.wrap (k.wrap x + k.wrap y) = k.wrap (x + y) :=
 wrap_congr k (by rw [Int.add_emod, wrap_mod, wrap_mod, ← Int.add_emod])
theorem wrap_sub (k : IntKind) (x y : Int) : k.wrap (k.wrap x - k.wrap y) = k.wrap (x - y) :=
 wrap_congr k (by rw [Int.sub_emod, wrap_mod, wrap_mod, ← Int.sub_emod])
theorem wrap_mul (k : IntKind) (x y : Int) : k.wrap (k.wrap x * k.wrap y) = k.wrap (x * y) :=
 wrap_congr k (by rw [Int.mul_emod, wrap_mod, wrap_mod, ← Int.mul_emod])
theorem kmask_kc (k : IntKind) : kmask (kc k) = 2 ^ k.bits - 1 := by rw [kmask, kbits_kc]
theorem land_mask (k : IntKind) (n : Nat) : Nat.land n (kmask (kc k)) = n % 2 ^ k.bits := by
 rw [kmask_kc]; exact Nat.and_two_pow_sub_one_eq_mod n _
theorem wrap_land (k : IntKind) (n : Nat) : k.wrap ((Nat.land n (kmask (kc k)) : Nat) : Int) = k.wrap (n : Int) := by
 rw [land_mask]; exact wrap_congr k (by push_cast; rw [Int.emod_emod])
theorem iv_kc (k : IntKind) (n : Nat) : iv (kc k) n = .int k (k.wrap n) := by rw [iv, kOf_kc]
theorem wrap_val (k : IntKind) {n : Nat} (h : n < 2 ^ k.bits) : k.wrap n = if k.signed = true ∧ 2 ^ (k.bits - 1) ≤ n then (n : Int) - 2 ^ k.bits else n := by
 have e : (n : Int) % (2 ^ k.bits : Int) = n := by
  have : ((n % 2 ^ k.bits : Nat) : Int) = n := by rw [Nat.mod_eq_of_lt h]
  rw [← this]; push_cast; rw [Int.emod_emod]
 have e2 : ((2 ^ (k.bits - 1) : Int) ≤ (n : Int)) ↔ 2 ^ (k.bits - 1) ≤ n := by
  rw [← Int.ofNat_le]; push_cast; exact Iff.rfl
 rw [wrap_def, e]
 simp only [e2]
theorem wrap_inj (k : IntKind) {a b : Nat} (ha : a < 2 ^ k.bits) (hb : b < 2 ^ k.bits) (h : k.wrap a = k.wrap b) : a = b := by
 have := wrap_mod k a
 rw [h, wrap_mod] at this
 have h1 : ((b % 2 ^ k.bits : Nat) : Int) = ((a % 2 ^ k.bits : Nat) : Int) := by push_cast; exact this
 rw [Nat.mod_eq_of_lt ha, Nat.mod_eq_of_lt hb] at h1
 omega
section
variable (k : IntKind) (a b : Nat)
theorem bits_pos : 0 < k.bits := by cases k <;> decide
theorem mask_lt (n : Nat) : Nat.land n (kmask (kc k)) < 2 ^ k.bits := by rw [land_mask]; exact Nat.mod_lt _ (Nat.two_pow_pos _)
theorem int_add : k.wrap ((Nat.land (Nat.add a b) (kmask (kc k)) : Nat) : Int) = k.wrap (k.wrap a + k.wrap b) := by
 rw [wrap_land, wrap_add]; rfl
theorem int_sub (hb : b < 2 ^ k.bits) : k.wrap ((Nat.land (Nat.sub (Nat.add a (kmask (kc k) + 1)) b) (kmask (kc k)) : Nat) : Int) = k.wrap (k.wrap a - k.wrap b) := by
 rw [wrap_land, wrap_sub]
 have hm : kmask (kc k) + 1 = 2 ^ k.bits := by have := Nat.two_pow_pos k.bits; rw [kmask_kc]; omega
 rw [hm]
 refine wrap_congr k ?_
 have : ((Nat.sub (Nat.add a (2 ^ k.bits)) b : Nat) : Int) = (a : Int) - b + 2 ^ k.bits := by
  show ((a + 2 ^ k.bits - b : Nat) : Int) = _
  rw [Int.ofNat_sub (by omega)]; push_cast; omega
 rw [this, Int.add_emod_right]
theorem int_mul : k.wrap ((Nat.land (Nat.mul a b) (kmask (kc k)) : Nat) : Int) = k.wrap (k.wrap a * k.wrap b) := by
 rw [wrap_land, wrap_mul]
 show k.wrap ((a * b : Nat) : Int) = _
 push_cast; rfl
theorem bv_wrap (_ : a < 2 ^ k.bits) : BitVec.ofInt k.bits (k.wrap a) = BitVec.ofNat k.bits a := by
 apply BitVec.eq_of_toNat_eq
 rw [BitVec.toNat_ofInt, BitVec.toNat_ofNat]
 have h1 : k.wrap a % ((2 ^ k.bits : Nat) : Int) = ((a % 2 ^ k.bits : Nat) : Int) := by push_cast; exact wrap_mod k a
 rw [h1]; rfl
theorem bv_nat (h : a < 2 ^ k.bits) : (BitVec.ofNat k.bits a).toNat = a := by rw [BitVec.toNat_ofNat, Nat.mod_eq_of_lt h]
theorem flip_lt (ha : a < 2 ^ k.bits) (hb : b < 2 ^ k.bits) :
 (if ksigned (kc k) then fun a b => lt (Nat.land (Nat.add a (khalf (kc k))) (kmask (kc k))) (Nat.land (Nat.add b (khalf (kc k))) (kmask (kc k))) else fun a b => lt a b : Nat → Nat → Bool) a b = decide (k.wrap a < k.wrap b) := by
 have hs : khalf (kc k) = if k.signed then 2 ^ (k.bits - 1) else 2 ^ k.bits := by rw [khalf, ksigned_kc, kbits_kc]
 rw [ksigned_kc]
 rw [Bool.eq_iff_iff, decide_eq_true_eq]
 by_cases h : k.signed = true
 · simp only [h, if_true] at hs ⊢
   rw [lt_iff, land_mask, land_mask, hs, wrap_val k ha, wrap_val k hb]
   simp only [h, true_and]
   show (a + 2 ^ (k.bits - 1)) % 2 ^ k.bits < (b + 2 ^ (k.bits - 1)) % 2 ^ k.bits ↔ _
   have hp : 2 ^ k.bits = 2 * 2 ^ (k.bits - 1) := by have := bits_pos k; rw [← Nat.pow_succ']; congr 1; omega
   have hpi : ((2 : Int) ^ k.bits) = 2 * ((2 ^ (k.bits - 1) : Nat) : Int) := by
    have : ((2 ^ k.bits : Nat) : Int) = ((2 * 2 ^ (k.bits - 1) : Nat) : Int) := by rw [hp]
    push_cast at this ⊢; exact this
   rw [hp] at ha hb ⊢
   rw [hpi]
   generalize 2 ^ (k.bits - 1) = q at *
   have hmod : ∀ x : Nat, x < 2 * q → (x + q) % (2 * q) = if x < q then x + q else x - q := by
    intro x hx
    split
    · exact Nat.mod_eq_of_lt (by omega)
    · rw [Nat.mod_eq_sub_mod (by omega), Nat.mod_eq_of_lt (by omega)]; omega
   rw [hmod a ha, hmod b hb]
   split <;> split <;> split <;> split <;> omega
 · simp only [h, if_false, Bool.false_eq_true] at hs ⊢
   rw [lt_iff, wrap_val k ha, wrap_val k hb]
   simp [h]
end
end Go.Ev

namespace Go.Ev
def R.Good (r : R) : Prop := ∀ n, r ≠ .bad n
theorem good_of {r r' : R} (h : r = r') (hg : r.Good) : r'.Good := h ▸ hg
theorem bad_good {n : Nat} : (R.bad n).Good → False := fun h => h n rfl
def Mat (L : Loc) (c : Nm → Prop) (e : Ce) (a : Act) (ns : List V) (t : T) : Prop :=
 ∀ x : Operand, ev (cOpd e x) ns t ≠ .x → a.eval x = val L (ev (cOpd e x) ns t) ∧ (wf c (ev (cOpd e x) ns t)).v
theorem wfv_ne {c : Nm → Prop} {v : V} (h : (wf c v).v) : v ≠ .x := by rintro rfl; exact h
theorem Mat.at {L : Loc} {c : Nm → Prop} {e : Ce} {a : Act} {ns : List V} {t : T} (h : Mat L c e a ns t) (x : Operand) {v : V} (hv : ev (cOpd e x) ns t = v) (hx : v ≠ .x) : a.eval x = val L v ∧ (wf c v).v := by
 subst hv; exact h x hx
theorem asI_good {v : V} {q : Nat → Nat → R} (h : (asI v q).Good) : ∃ k n, v = .i k n ∧ asI v q = q k n := by
 cases v <;> first | exact ⟨_, _, rfl, rfl⟩ | exact (bad_good h).elim
theorem asB_good {v : V} {q : Bool → R} (h : (asB v q).Good) : ∃ z, v = .b z ∧ asB v q = q z := by
 cases v <;> first | exact ⟨_, rfl, rfl⟩ | exact (bad_good h).elim
theorem asP_good {v : V} {q : Nm → Nat → R} (h : (asP v q).Good) : ∃ a o, v = .p a o ∧ asP v q = q a o := by
 cases v <;> first | exact ⟨_, _, rfl, rfl⟩ | exact (bad_good h).elim
theorem asS_good {v : V} {q : Nat → Nat → R} (h : (asS v q).Good) : ∃ l n, v = .s l n ∧ asS v q = q l n := by
 cases v <;> first | exact ⟨_, _, rfl, rfl⟩ | exact (bad_good h).elim
theorem asAgg_good {v : V} {q : Nat → V → R} (h : (asAgg v q).Good) : ∃ w cs, v = .agg w cs ∧ asAgg v q = q w cs := by
 cases v <;> first | exact ⟨_, _, rfl, rfl⟩ | exact (bad_good h).elim
theorem asTup_good {v : V} {q : V → R} (h : (asTup v q).Good) : ∃ W, v = .tup W ∧ asTup v q = q W := by
 cases v <;> first | exact ⟨_, rfl, rfl⟩ | exact (bad_good h).elim
theorem asM_good {v : V} {q : Nm → R} (h : (asM v q).Good) : ∃ a, v = .m a ∧ asM v q = q a := by
 cases v <;> first | exact ⟨_, rfl, rfl⟩ | exact (bad_good h).elim
theorem rec_good {z : Bool} {n : Nat} {r : R} (h : (Bool.rec (.bad n) r z : R).Good) : z = true ∧ (Bool.rec (.bad n) r z : R) = r := by
 cases z
 · exact (bad_good h).elim
 · exact ⟨rfl, rfl⟩
theorem rec_good' {z : Bool} {n : Nat} {r : R} (h : (Bool.rec r (.bad n) z : R).Good) : z = false ∧ (Bool.rec r (.bad n) z : R) = r := by
 cases z
 · exact ⟨rfl, rfl⟩
 · exact (bad_good h).elim
theorem chk2_good {ka kb kx : Nat} {r : R} (h : (chk2 ka kb kx r).Good) : ka = kx ∧ kb = kx ∧ chk2 ka kb kx r = r := by
 have h1 := rec_good (z := Nat.beq ka kx) h
 have h2 : chk2 ka kb kx r = _ := h1.2
 have h3 := rec_good (z := Nat.beq kb kx) (h2 ▸ h : (Bool.rec (.bad 22) r (Nat.beq kb kx) : R).Good)
 exact ⟨Nat.beq_eq ▸ h1.1, Nat.beq_eq ▸ h3.1, h2.trans h3.2⟩
theorem nx_iff (v : V) : nx v = true ↔ v ≠ .x := by cases v <;> simp [nx]
section
variable (P : Program) (L : Loc) (c : Nm → Prop) (e : Ce)
def PS (o : Oper) (f : PH) : Prop := ∀ (a : Act) (ns : List V) (t : T) (k : K1), Mat L c e a ns t → (f ns t k).Good →
 ∃ v, (wf c v).v ∧ f ns t k = k v ∧ ∀ w, (execOp a.eval o).run P w = .ok (.value (val L v)) w
variable {P L c e}
theorem PS.int2 {o : Oper} {kd : IntKind} {f : Nat → Nat → Nat} {x y : Operand} (hf : ∀ a b, a < 2 ^ kd.bits → b < 2 ^ kd.bits → f a b < 2 ^ kd.bits)
 (h : ∀ (ρ : Operand → Value) (a b : Nat) w, a < 2 ^ kd.bits → b < 2 ^ kd.bits → ρ x = .int kd (kd.wrap a) → ρ y = .int kd (kd.wrap b) → (execOp ρ o).run P w = .ok (.value (.int kd (kd.wrap (f a b)))) w) :
 PS P L c e o (hArith (kc kd) f (cOpd e x) (cOpd e y)) := by
 intro a ns t k hm hg
 obtain ⟨ka, n, hx, h1⟩ := asI_good hg
 have hg1 := good_of h1 hg
 obtain ⟨kb, m, hy, h2⟩ := asI_good hg1
 have hg2 := good_of h2 hg1
 obtain ⟨e1, e2, h3⟩ := chk2_good hg2
 subst e1 e2
 have vx := hm.at x hx (by simp)
 have vy := hm.at y hy (by simp)
 have bx : n < 2 ^ kd.bits := by have := vx.2.1; rwa [kbits_kc] at this
 have by_ : m < 2 ^ kd.bits := by have := vy.2.1; rwa [kbits_kc] at this
 refine ⟨.i (kc kd) (f n m), ⟨by rw [kbits_kc]; exact hf _ _ bx by_, kc_lt kd⟩, h1.trans (h2.trans h3), fun w => ?_⟩
 rw [h a.eval n m w bx by_ (vx.1.trans (iv_kc _ _)) (vy.1.trans (iv_kc _ _))]
 show _ = Result.ok (Next.value (iv _ _)) w
 rw [iv_kc]
theorem PS.cmp2 {o : Oper} {kd : IntKind} {f : Nat → Nat → Bool} {x y : Operand}
 (h : ∀ (ρ : Operand → Value) (a b : Nat) w, a < 2 ^ kd.bits → b < 2 ^ kd.bits → ρ x = .int kd (kd.wrap a) → ρ y = .int kd (kd.wrap b) → (execOp ρ o).run P w = .ok (.value (.bool (f a b))) w) :
 PS P L c e o (hCmp (kc kd) f (cOpd e x) (cOpd e y)) := by
 intro a ns t k hm hg
 obtain ⟨ka, n, hx, h1⟩ := asI_good hg
 have hg1 := good_of h1 hg
 obtain ⟨kb, m, hy, h2⟩ := asI_good hg1
 have hg2 := good_of h2 hg1
 obtain ⟨e1, e2, h3⟩ := chk2_good hg2
 subst e1 e2
 have vx := hm.at x hx (by simp)
 have vy := hm.at y hy (by simp)
 have bx : n < 2 ^ kd.bits := by have := vx.2.1; rwa [kbits_kc] at this
 have by_ : m < 2 ^ kd.bits := by have := vy.2.1; rwa [kbits_kc] at this
 exact ⟨.b (f n m), trivial, h1.trans (h2.trans h3), fun w => h a.eval n m w bx by_ (vx.1.trans (iv_kc _ _)) (vy.1.trans (iv_kc _ _))⟩
theorem PS.div2 {o : Oper} {kd : IntKind} {f g : Nat → Nat → Nat} {x y : Operand}
 (hf : ∀ a b, a < 2 ^ kd.bits → 0 < b → b < khalf (kc kd) → (Bool.rec (g a b) (f a b) (lt a (khalf (kc kd))) : Nat) < 2 ^ kd.bits)
 (h : ∀ (ρ : Operand → Value) (a b : Nat) w, a < 2 ^ kd.bits → b < 2 ^ kd.bits → 0 < b → b < khalf (kc kd) → ρ x = .int kd (kd.wrap a) → ρ y = .int kd (kd.wrap b) →
  (execOp ρ o).run P w = .ok (.value (.int kd (kd.wrap ((Bool.rec (g a b) (f a b) (lt a (khalf (kc kd))) : Nat) : Int)))) w) :
 PS P L c e o (hDiv (kc kd) (khalf (kc kd)) f g (cOpd e x) (cOpd e y)) := by
 intro a ns t k hm hg
 obtain ⟨ka, n, hx, h1⟩ := asI_good hg
 have hg1 := good_of h1 hg
 obtain ⟨kb, m, hy, h2⟩ := asI_good hg1
 have hg2 := good_of h2 hg1
 obtain ⟨e1, e2, h3⟩ := chk2_good hg2
 subst e1 e2
 have hg3 := good_of h3 hg2
 obtain ⟨b1, h4⟩ := rec_good hg3
 have hg4 := good_of h4 hg3
 obtain ⟨b2, h5⟩ := rec_good' hg4
 have vx := hm.at x hx (by simp)
 have vy := hm.at y hy (by simp)
 have bx : n < 2 ^ kd.bits := by have := vx.2.1; rwa [kbits_kc] at this
 have by_ : m < 2 ^ kd.bits := by have := vy.2.1; rwa [kbits_kc] at this
 have hm0 : 0 < m := by rcases Nat.eq_zero_or_pos m with h | h; · subst h; cases b2
                        · exact h
 have hmh : m < khalf (kc kd) := (lt_iff _ _).1 b1
 refine ⟨.i (kc kd) (Bool.rec (g n m) (f n m) (lt n (khalf (kc kd)))), ⟨by rw [kbits_kc]; exact hf _ _ bx hm0 hmh, kc_lt kd⟩, h1.trans (h2.trans (h3.trans (h4.trans h5))), fun w => ?_⟩
 rw [h a.eval n m w bx by_ hm0 hmh (vx.1.trans (iv_kc _ _)) (vy.1.trans (iv_kc _ _))]
 show _ = Result.ok (Next.value (iv _ _)) w
 rw [iv_kc]
theorem PS.shift2 {o : Oper} {kd : IntKind} {f : Nat → Nat → Nat} {x y : Operand} (hf : ∀ a b, a < 2 ^ kd.bits → b < 64 → f a b < 2 ^ kd.bits)
 (h : ∀ (ρ : Operand → Value) (a b : Nat) (q : IntKind) w, a < 2 ^ kd.bits → b < 64 → ρ x = .int kd (kd.wrap a) → ρ y = .int q (b : Int) → (execOp ρ o).run P w = .ok (.value (.int kd (kd.wrap (f a b)))) w) :
 PS P L c e o (hShift (kc kd) f (cOpd e x) (cOpd e y)) := by
 intro a ns t k hm hg
 obtain ⟨ka, n, hx, h1⟩ := asI_good hg
 have hg1 := good_of h1 hg
 obtain ⟨kb, m, hy, h2⟩ := asI_good hg1
 have hg2 := good_of h2 hg1
 obtain ⟨e1, h3⟩ := rec_good hg2
 have hg3 := good_of h3 hg2
 obtain ⟨b1, h4⟩ := rec_good hg3
 rw [Nat.beq_eq] at e1
 subst e1
 have vx := hm.at x hx (by simp)
 have vy := hm.at y hy (by simp)
 have bx : n < 2 ^ kd.bits := by have := vx.2.1; rwa [kbits_kc] at this
 have bm : m < 64 := (lt_iff _ _).1 b1
 refine ⟨.i (kc kd) (f n m), ⟨by rw [kbits_kc]; exact hf _ _ bx bm, kc_lt kd⟩, h1.trans (h2.trans (h3.trans h4)), fun w => ?_⟩
 have hy' : a.eval y = .int (kOf kb) (m : Int) := by
  refine vy.1.trans ?_
  show Value.int (kOf kb) ((kOf kb).wrap m) = _
  have hb8 : m < 2 ^ (kOf kb).bits := Nat.lt_of_lt_of_le bm (by cases kOf kb <;> decide)
  have : ¬ (2 ^ ((kOf kb).bits - 1) ≤ m) := by
   have : 64 ≤ 2 ^ ((kOf kb).bits - 1) := by cases kOf kb <;> decide
   omega
  rw [wrap_val _ hb8, if_neg (fun h => this h.2)]
 rw [h a.eval n m _ w bx bm (vx.1.trans (iv_kc _ _)) hy']
 show _ = Result.ok (Next.value (iv _ _)) w
 rw [iv_kc]
theorem bin_int {o : Oper} {op : BinOp} {t yt : TypeId} {x y : Operand} (ho : o.op = .binOp op t x y yt) {ρ : Operand → Value} {kd : IntKind} {a b : Int} {w : World} {v : Value}
 (hx : ρ x = .int kd a) (hy : ρ y = .int kd b) (h1 : op ≠ .shl) (h2 : op ≠ .shr)
 (h : (match op with
  | .add | .sub | .mul => Op.intArith op kd a b
  | .quo | .rem => Op.intDiv op kd a b
  | .and | .or | .xor | .andNot => Op.intBits op kd a b
  | _ => Op.intCmp op a b).run P w = .ok v w) : (execOp ρ o).run P w = .ok (.value v) w := by
 have hg : ∀ p q : Operand, (eqGuard op t p q (.int kd a) (.int kd b)).run P w = .ok () w := by
  intro p q; unfold eqGuard; cases op <;> rfl
 have hb : (binOp op t (.int kd a) (.int kd b)).run P w = .ok v w := by
  rw [← h]; cases op <;> first | exact absurd rfl h1 | exact absurd rfl h2 | simp [binOp]
 simp only [execOp, ho, hx, hy, Sem.run_bind, hg, Result.andThen_ok, hb]
 rfl
theorem xor_ones {n b : Nat} (h : b < 2 ^ n) : 2 ^ n - 1 - b = Nat.xor b (2 ^ n - 1) := by
 apply Nat.eq_of_testBit_eq
 intro i
 have e : 2 ^ n - 1 - b = 2 ^ n - (b + 1) := by omega
 rw [e, Nat.testBit_two_pow_sub_succ h]
 show _ = Nat.testBit (b ^^^ (2 ^ n - 1)) i
 rw [Nat.testBit_xor, Nat.testBit_two_pow_sub_one]
 by_cases hi : i < n
 · simp [hi]
 · have : Nat.testBit b i = false := Nat.testBit_lt_two_pow (Nat.lt_of_lt_of_le h (Nat.pow_le_pow_right (by decide) (by omega)))
   simp [hi, this]
theorem land_lt {n a b : Nat} (h : a < 2 ^ n) : Nat.land a b < 2 ^ n := Nat.lt_of_le_of_lt Nat.and_le_left h
theorem notB_eq (z : Bool) : notB z = !z := by cases z <;> rfl
theorem wrap_pos (k : IntKind) {n : Nat} (h : n < khalf (kc k)) : k.wrap n = (n : Int) ∧ n < 2 ^ k.bits := by
 have hs : khalf (kc k) = if k.signed then 2 ^ (k.bits - 1) else 2 ^ k.bits := by rw [khalf, ksigned_kc, kbits_kc]
 have hp : 2 ^ (k.bits - 1) ≤ 2 ^ k.bits := Nat.pow_le_pow_right (by decide) (by omega)
 have hb : n < 2 ^ k.bits := by rw [hs] at h; split at h <;> omega
 refine ⟨?_, hb⟩
 rw [wrap_val k hb, if_neg]
 rintro ⟨h1, h2⟩
 rw [hs, h1] at h
 simp at h
 omega
theorem wrap_neg (k : IntKind) {n : Nat} (hb : n < 2 ^ k.bits) (h : ¬ n < khalf (kc k)) : k.wrap n = (n : Int) - 2 ^ k.bits := by
 have hs : khalf (kc k) = if k.signed then 2 ^ (k.bits - 1) else 2 ^ k.bits := by rw [khalf, ksigned_kc, kbits_kc]
 rw [wrap_val k hb, if_pos]
 rw [hs] at h
 split at h
 · rename_i h1; exact ⟨h1, by omega⟩
 · exact absurd hb h
theorem cBin_int {o : Oper} {op : BinOp} {t yt : TypeId} {x y : Operand} (ho : o.op = .binOp op t x y yt) {kd : IntKind} {f : PH}
 (hc : cBinI kd op (cOpd e x) (cOpd e y) = .p f) : PS P L c e o f := by
 have hpow := Nat.two_pow_pos kd.bits
 have hm : kmask (kc kd) + 1 = 2 ^ kd.bits := by rw [kmask_kc]; omega
 cases op <;> simp only [cBinI] at hc
 case add =>
  simp only [Iop.p.injEq] at hc; subst hc
  refine PS.int2 (fun a b _ _ => mask_lt kd _) fun ρ a b w _ hb hx hy => ?_
  rw [int_add]; exact bin_int ho hx hy (by simp) (by simp) rfl
 case sub =>
  simp only [Iop.p.injEq] at hc; subst hc
  refine PS.int2 (fun a b _ _ => mask_lt kd _) fun ρ a b w _ hb hx hy => ?_
  rw [int_sub _ _ _ hb]; exact bin_int ho hx hy (by simp) (by simp) rfl
 case mul =>
  simp only [Iop.p.injEq] at hc; subst hc
  refine PS.int2 (fun a b _ _ => mask_lt kd _) fun ρ a b w _ hb hx hy => ?_
  rw [int_mul]; exact bin_int ho hx hy (by simp) (by simp) rfl
 case quo =>
  simp only [Iop.p.injEq] at hc; subst hc
  refine PS.div2 (fun a b ha hb0 hb => ?_) fun ρ a b w ha hb hb0 hbh hx hy => ?_
  · cases lt a (khalf (kc kd))
    · exact mask_lt kd _
    · exact Nat.lt_of_le_of_lt (Nat.div_le_self _ _) ha
  · have hyp := wrap_pos kd hbh
    refine bin_int ho hx hy (by simp) (by simp) ?_
    have hne : (kd.wrap b) ≠ 0 := by rw [hyp.1]; omega
    simp only [Op.intDiv, if_neg hne]
    show Result.ok (Value.int kd (kd.wrap ((kd.wrap a).tdiv (kd.wrap b)))) w = _
    congr 2
    cases hl : lt a (khalf (kc kd))
    · have hn := wrap_neg kd ha (by rw [lt_false] at hl; omega)
      show _ = kd.wrap ((Nat.land (Nat.sub (kmask (kc kd) + 1) (Nat.div (Nat.sub (kmask (kc kd) + 1) a) b)) (kmask (kc kd)) : Nat) : Int)
      rw [wrap_land, hm, hn, hyp.1]
      refine wrap_congr kd ?_
      have e1 : ((a : Int) - 2 ^ kd.bits) = -((2 ^ kd.bits - a : Nat) : Int) := by rw [Int.ofNat_sub (by omega)]; push_cast; omega
      rw [e1, Int.neg_tdiv, ← Int.ofNat_tdiv]
      have hle : (2 ^ kd.bits - a) / b ≤ 2 ^ kd.bits := Nat.le_trans (Nat.div_le_self _ _) (by omega)
      have e2 : ((Nat.sub (2 ^ kd.bits) (Nat.div (Nat.sub (2 ^ kd.bits) a) b) : Nat) : Int) = -(((2 ^ kd.bits - a) / b : Nat) : Int) + 2 ^ kd.bits := by
       show ((2 ^ kd.bits - (2 ^ kd.bits - a) / b : Nat) : Int) = _
       rw [Int.ofNat_sub hle]; push_cast; omega
      rw [e2, Int.add_emod_right]
    · have hp := wrap_pos kd ((lt_iff _ _).1 hl)
      show _ = kd.wrap ((Nat.div a b : Nat) : Int)
      rw [hp.1, hyp.1, ← Int.ofNat_tdiv]; rfl
 case rem =>
  simp only [Iop.p.injEq] at hc; subst hc
  refine PS.div2 (fun a b ha hb0 hb => ?_) fun ρ a b w ha hb hb0 hbh hx hy => ?_
  · cases lt a (khalf (kc kd))
    · exact mask_lt kd _
    · exact Nat.lt_of_le_of_lt (Nat.mod_le _ _) ha
  · have hyp := wrap_pos kd hbh
    refine bin_int ho hx hy (by simp) (by simp) ?_
    have hne : (kd.wrap b) ≠ 0 := by rw [hyp.1]; omega
    simp only [Op.intDiv, if_neg hne]
    show Result.ok (Value.int kd ((kd.wrap a).tmod (kd.wrap b))) w = _
    congr 2
    cases hl : lt a (khalf (kc kd))
    · have hn := wrap_neg kd ha (by rw [lt_false] at hl; omega)
      show _ = kd.wrap ((Nat.land (Nat.sub (kmask (kc kd) + 1) (Nat.mod (Nat.sub (kmask (kc kd) + 1) a) b)) (kmask (kc kd)) : Nat) : Int)
      rw [land_mask, hm, hn, hyp.1]
      have e1 : ((a : Int) - 2 ^ kd.bits) = -((2 ^ kd.bits - a : Nat) : Int) := by rw [Int.ofNat_sub (by omega)]; push_cast; omega
      rw [e1, Int.neg_tmod, ← Int.ofNat_tmod]
      have hmb : (2 ^ kd.bits - a) % b < b := Nat.mod_lt _ hb0
      show -(((2 ^ kd.bits - a) % b : Nat) : Int) = kd.wrap ((((2 ^ kd.bits - (2 ^ kd.bits - a) % b) % 2 ^ kd.bits : Nat)) : Int)
      have hkh : khalf (kc kd) ≤ 2 ^ kd.bits := by
       have hs : khalf (kc kd) = if kd.signed then 2 ^ (kd.bits - 1) else 2 ^ kd.bits := by rw [khalf, ksigned_kc, kbits_kc]
       have hp : 2 ^ (kd.bits - 1) ≤ 2 ^ kd.bits := Nat.pow_le_pow_right (by decide) (by omega)
       rw [hs]; split <;> omega
      generalize hr : (2 ^ kd.bits - a) % b = r at *
      rcases Nat.eq_zero_or_pos r with h0 | h0
      · subst h0
        have : (2 ^ kd.bits - 0) % 2 ^ kd.bits = 0 := by simp
        rw [this]
        have := (wrap_pos kd (n := 0) (by omega)).1
        rw [this]; rfl
      · rw [Nat.mod_eq_of_lt (by omega)]
        have hnl : ¬ (2 ^ kd.bits - r < khalf (kc kd)) := by
         have hs : khalf (kc kd) = if kd.signed then 2 ^ (kd.bits - 1) else 2 ^ kd.bits := by rw [khalf, ksigned_kc, kbits_kc]
         rw [lt_false] at hl
         have hsg : kd.signed = true := by
          cases hsg : kd.signed
          · rw [hsg] at hs; simp at hs; omega
          · rfl
         have hp2 : 2 ^ kd.bits = 2 * 2 ^ (kd.bits - 1) := by have := bits_pos kd; rw [← Nat.pow_succ']; congr 1; omega
         rw [hsg] at hs; simp at hs
         omega
        rw [wrap_neg kd (by omega) hnl, Int.ofNat_sub (by omega)]
        push_cast; omega
    · have hp := wrap_pos kd ((lt_iff _ _).1 hl)
      have hlt : a % b < khalf (kc kd) := Nat.lt_of_le_of_lt (Nat.mod_le _ _) ((lt_iff _ _).1 hl)
      show _ = kd.wrap ((Nat.mod a b : Nat) : Int)
      have := (wrap_pos kd hlt).1
      rw [hp.1, hyp.1, ← Int.ofNat_tmod]
      exact this.symm
 case and =>
  simp only [Iop.p.injEq] at hc; subst hc
  refine PS.int2 (fun a b ha _ => land_lt ha) fun ρ a b w ha hb hx hy => ?_
  refine bin_int ho hx hy (by simp) (by simp) ?_
  simp only [Op.intBits, bv_wrap kd _ ha, bv_wrap kd _ hb, Sem.run_pure, BitVec.toNat_and, bv_nat kd _ ha, bv_nat kd _ hb]; rfl
 case or =>
  simp only [Iop.p.injEq] at hc; subst hc
  refine PS.int2 (fun a b ha hb => Nat.or_lt_two_pow ha hb) fun ρ a b w ha hb hx hy => ?_
  refine bin_int ho hx hy (by simp) (by simp) ?_
  simp only [Op.intBits, bv_wrap kd _ ha, bv_wrap kd _ hb, Sem.run_pure, BitVec.toNat_or, bv_nat kd _ ha, bv_nat kd _ hb]; rfl
 case xor =>
  simp only [Iop.p.injEq] at hc; subst hc
  refine PS.int2 (fun a b ha hb => Nat.xor_lt_two_pow ha hb) fun ρ a b w ha hb hx hy => ?_
  refine bin_int ho hx hy (by simp) (by simp) ?_
  simp only [Op.intBits, bv_wrap kd _ ha, bv_wrap kd _ hb, Sem.run_pure, BitVec.toNat_xor, bv_nat kd _ ha, bv_nat kd _ hb]; rfl
 case andNot =>
  simp only [Iop.p.injEq] at hc; subst hc
  refine PS.int2 (fun a b ha hb => land_lt ha) fun ρ a b w ha hb hx hy => ?_
  refine bin_int ho hx hy (by simp) (by simp) ?_
  simp only [Op.intBits, bv_wrap kd _ ha, bv_wrap kd _ hb, Sem.run_pure, BitVec.toNat_and, BitVec.toNat_not, bv_nat kd _ ha, bv_nat kd _ hb]
  have : 2 ^ kd.bits - 1 - b = Nat.xor b (kmask (kc kd)) := by
   rw [kmask_kc]; exact xor_ones hb
  rw [this]; rfl
 case shl =>
  simp only [Iop.p.injEq] at hc; subst hc
  refine PS.shift2 (fun a b _ _ => mask_lt kd _) fun ρ a b q w ha hb hx hy => ?_
  have hg : ∀ u v : Operand, (eqGuard .shl t u v (.int kd (kd.wrap a)) (.int q b)).run P w = .ok () w := fun _ _ => rfl
  simp only [execOp, ho, hx, hy, Sem.run_bind, hg, Result.andThen_ok, binOp, Op.shift]
  rw [if_neg (by omega)]
  show Result.ok (Next.value (Value.int kd (kd.wrap (kd.wrap a * 2 ^ (min (b : Int).toNat kd.bits))))) w = _
  congr 3
  rw [wrap_land]
  refine wrap_congr kd ?_
  have e1 : ((Nat.shiftLeft a b : Nat) : Int) = (a : Int) * 2 ^ b := by
   show ((a <<< b : Nat) : Int) = _
   rw [Nat.shiftLeft_eq]; push_cast; rfl
  rw [e1, Int.toNat_natCast]
  by_cases hle : b ≤ kd.bits
  · rw [Nat.min_eq_left hle, Int.mul_emod, wrap_mod, ← Int.mul_emod]
  · rw [Nat.min_eq_right (by omega), Int.mul_emod_left]
    obtain ⟨j, hj⟩ : ∃ j, b = kd.bits + j := ⟨b - kd.bits, by omega⟩
    rw [hj, Int.pow_add, ← Int.mul_assoc, Int.mul_right_comm, Int.mul_emod_left]
 case shr =>
  cases hsg : ksigned (kc kd)
  · simp only [hsg, Bool.false_eq_true, if_false, Iop.p.injEq] at hc; subst hc
    have hns : kd.signed = false := by rw [← ksigned_kc]; exact hsg
    refine PS.shift2 (fun a b ha _ => Nat.lt_of_le_of_lt (by show a >>> b ≤ a; rw [Nat.shiftRight_eq_div_pow]; exact Nat.div_le_self _ _) ha) fun ρ a b q w ha hb hx hy => ?_
    have hg : ∀ u v : Operand, (eqGuard .shr t u v (.int kd (kd.wrap a)) (.int q b)).run P w = .ok () w := fun _ _ => rfl
    simp only [execOp, ho, hx, hy, Sem.run_bind, hg, Result.andThen_ok, binOp, Op.shift]
    rw [if_neg (by omega)]
    show Result.ok (Next.value (Value.int kd ((kd.wrap a).fdiv (2 ^ (min (b : Int).toNat kd.bits))))) w = _
    congr 3
    have hw : ∀ n : Nat, n < 2 ^ kd.bits → kd.wrap n = n := fun n hn => by rw [wrap_val kd hn, if_neg (by simp [hns])]
    have hlt : a >>> b < 2 ^ kd.bits := Nat.lt_of_le_of_lt (by rw [Nat.shiftRight_eq_div_pow]; exact Nat.div_le_self _ _) ha
    show _ = kd.wrap ((a >>> b : Nat) : Int)
    rw [hw _ hlt, hw _ ha, Int.toNat_natCast, Int.fdiv_eq_ediv_of_nonneg _ (by exact Int.le_of_lt (Int.pow_pos (by decide)))]
    rw [Nat.shiftRight_eq_div_pow]
    by_cases hle : b ≤ kd.bits
    · rw [Nat.min_eq_left hle]; push_cast; rfl
    · rw [Nat.min_eq_right (by omega)]
      have e1 : a / 2 ^ b = 0 := Nat.div_eq_of_lt (Nat.lt_of_lt_of_le ha (Nat.pow_le_pow_right (by decide) (by omega)))
      have e2 : a / 2 ^ kd.bits = 0 := Nat.div_eq_of_lt ha
      rw [e1]
      have : ((a / 2 ^ kd.bits : Nat) : Int) = 0 := by rw [e2]; rfl
      push_cast at this; exact this
  · simp only [hsg, if_true, Iop.p.injEq] at hc; subst hc
    have hs : khalf (kc kd) = 2 ^ (kd.bits - 1) := by rw [khalf, if_pos hsg, kbits_kc]
    have hp2 : 2 ^ kd.bits = 2 * 2 ^ (kd.bits - 1) := by have := bits_pos kd; rw [← Nat.pow_succ']; congr 1; omega
    have hle0 : ∀ a b : Nat, a >>> b ≤ a := fun a b => by rw [Nat.shiftRight_eq_div_pow]; exact Nat.div_le_self _ _
    have hsp : ∀ a b : Nat, shrS (khalf (kc kd)) (kmask (kc kd)) a b = if a < khalf (kc kd) then a >>> b else kmask (kc kd) - (kmask (kc kd) - a) >>> b := fun a b => by
     show (Bool.rec _ _ (lt a (khalf (kc kd))) : Nat) = _
     by_cases hl : a < khalf (kc kd)
     · rw [if_pos hl, (lt_iff _ _).2 hl]; rfl
     · rw [if_neg hl, (lt_false _ _).2 (by omega)]; rfl
    refine PS.shift2 (f := shrS (khalf (kc kd)) (kmask (kc kd))) (fun a b ha hb => ?_) fun ρ a b q w ha hb hx hy => ?_
    · rw [hsp]
      split
      · exact Nat.lt_of_le_of_lt (hle0 _ _) ha
      · generalize (kmask (kc kd) - a) >>> b = z
        omega
    have hg : ∀ u v : Operand, (eqGuard .shr t u v (.int kd (kd.wrap a)) (.int q b)).run P w = .ok () w := fun _ _ => rfl
    simp only [execOp, ho, hx, hy, Sem.run_bind, hg, Result.andThen_ok, binOp, Op.shift]
    rw [if_neg (by omega)]
    show Result.ok (Next.value (Value.int kd ((kd.wrap a).fdiv (2 ^ (min (b : Int).toNat kd.bits))))) w = _
    congr 3
    have hcut : ∀ c : Nat, c < 2 ^ kd.bits → c / 2 ^ (min b kd.bits) = c >>> b := fun c hc => by
     rw [Nat.shiftRight_eq_div_pow]
     by_cases hle : b ≤ kd.bits
     · rw [Nat.min_eq_left hle]
     · rw [Nat.min_eq_right (by omega), Nat.div_eq_of_lt hc, Nat.div_eq_of_lt (Nat.lt_of_lt_of_le hc (Nat.pow_le_pow_right (by decide) (by omega)))]
    rw [hsp, Int.toNat_natCast]
    by_cases hh : a < khalf (kc kd)
    · rw [if_pos hh, (wrap_pos kd (Nat.lt_of_le_of_lt (hle0 _ _) hh)).1, (wrap_pos kd hh).1, Int.fdiv_eq_ediv_of_nonneg _ (by exact Int.le_of_lt (Int.pow_pos (by decide))), ← hcut a ha]
      push_cast; rfl
    · rw [if_neg hh]
      obtain ⟨c, hc⟩ : ∃ c, c = kmask (kc kd) - a := ⟨_, rfl⟩
      have hch : c < khalf (kc kd) := by omega
      have hcb : c >>> b ≤ c := hle0 _ _
      have hz : kmask (kc kd) - c >>> b < 2 ^ kd.bits ∧ ¬ kmask (kc kd) - c >>> b < khalf (kc kd) := by
       generalize c >>> b = z at hcb ⊢
       omega
      rw [← hc, wrap_neg kd ha hh, wrap_neg kd hz.1 hz.2, ← hcut c (by omega)]
      have e1 : ((a : Int) - 2 ^ kd.bits) = Int.negSucc c := by
       rw [Int.negSucc_eq, hc, Int.ofNat_sub (by omega)]
       have : ((2 : Int) ^ kd.bits) = ((kmask (kc kd) + 1 : Nat) : Int) := by rw [hm]; push_cast; rfl
       rw [this]; push_cast; omega
      have e2 : ((2 : Int) ^ (min b kd.bits)) = ((2 ^ (min b kd.bits) : Nat) : Int) := by push_cast; rfl
      have hpos : 0 < 2 ^ (min b kd.bits) := Nat.two_pow_pos _
      rw [e1, e2]
      have e3 : (Int.negSucc c).fdiv ((2 ^ (min b kd.bits) : Nat) : Int) = Int.negSucc (c / 2 ^ (min b kd.bits)) := by
       obtain ⟨d, hd⟩ : ∃ d, 2 ^ (min b kd.bits) = d + 1 := ⟨2 ^ (min b kd.bits) - 1, by omega⟩
       rw [hd]; rfl
      have hcd : c / 2 ^ (min b kd.bits) ≤ c := Nat.div_le_self _ _
      rw [e3, Int.negSucc_eq, Int.ofNat_sub (by omega)]
      have : ((2 : Int) ^ kd.bits) = ((kmask (kc kd) + 1 : Nat) : Int) := by rw [hm]; push_cast; rfl
      rw [this]; push_cast; omega
 case eql =>
  simp only [Iop.p.injEq] at hc; subst hc
  refine PS.cmp2 fun ρ a b w ha hb hx hy => ?_
  refine bin_int ho hx hy (by simp) (by simp) ?_
  show Result.ok (Value.bool (kd.wrap a == kd.wrap b)) w = _
  have : (kd.wrap a == kd.wrap b) = Nat.beq a b := by
   rw [Bool.eq_iff_iff, beq_iff_eq, Nat.beq_eq]; exact ⟨wrap_inj kd ha hb, fun h => by rw [h]⟩
  rw [this]
 case neq =>
  simp only [Iop.p.injEq] at hc; subst hc
  refine PS.cmp2 fun ρ a b w ha hb hx hy => ?_
  refine bin_int ho hx hy (by simp) (by simp) ?_
  show Result.ok (Value.bool (kd.wrap a != kd.wrap b)) w = _
  have : (kd.wrap a == kd.wrap b) = Nat.beq a b := by
   rw [Bool.eq_iff_iff, beq_iff_eq, Nat.beq_eq]; exact ⟨wrap_inj kd ha hb, fun h => by rw [h]⟩
  rw [bne, this, notB_eq]
 case lss =>
  simp only [Iop.p.injEq] at hc; subst hc
  refine PS.cmp2 fun ρ a b w ha hb hx hy => ?_
  refine bin_int ho hx hy (by simp) (by simp) ?_
  rw [flip_lt kd a b ha hb]; rfl
 case gtr =>
  simp only [Iop.p.injEq] at hc; subst hc
  refine PS.cmp2 fun ρ a b w ha hb hx hy => ?_
  refine bin_int ho hx hy (by simp) (by simp) ?_
  rw [flip_lt kd b a hb ha]; rfl
 case leq =>
  simp only [Iop.p.injEq] at hc; subst hc
  refine PS.cmp2 fun ρ a b w ha hb hx hy => ?_
  refine bin_int ho hx hy (by simp) (by simp) ?_
  rw [flip_lt kd b a hb ha, notB_eq]
  show Result.ok (Value.bool (decide (kd.wrap a ≤ kd.wrap b))) w = _
  congr 2
  rw [← decide_not]; congr 1; simp [Int.not_lt]
 case geq =>
  simp only [Iop.p.injEq] at hc; subst hc
  refine PS.cmp2 fun ρ a b w ha hb hx hy => ?_
  refine bin_int ho hx hy (by simp) (by simp) ?_
  rw [flip_lt kd a b ha hb, notB_eq]
  show Result.ok (Value.bool (decide (kd.wrap a ≥ kd.wrap b))) w = _
  congr 2
  rw [← decide_not]; congr 1; simp [Int.not_lt]
end
end Go.Ev

namespace Go.Ev
section
variable {P : Program} {L : Loc} {c : Nm → Prop} {e : Ce}
theorem kx_good {v : V} {k : K1} (h : (kx v k).Good) : v ≠ .x ∧ kx v k = k v := by
 have h1 := rec_good (z := nx v) h
 exact ⟨(nx_iff v).1 h1.1, h1.2⟩
theorem asN_good {v : V} {q : Nat → R} (h : (asN v q).Good) : ∃ k n, v = .i k n ∧ asN v q = q n ∧ ((wf c (.i k n)).v → ∀ L : Loc, val L (.i k n) = .int (kOf k) (n : Int)) := by
 obtain ⟨k, n, rfl, h1⟩ := asI_good h
 have hg := good_of h1 h
 refine ⟨k, n, rfl, ?_⟩
 cases h3 : Nat.beq k 3
 · rw [h3] at hg
   have h4 := rec_good (z := Nat.ble 4 k) hg
   refine ⟨h1.trans (by rw [h3]; exact h4.2), fun hw L => ?_⟩
   have hk := h4.1
   rw [Nat.ble_eq] at hk
   show Value.int (kOf k) ((kOf k).wrap n) = _
   have h8 := hw.2
   have hns : (kOf k).signed = false := by
    have : k = 4 ∨ k = 5 ∨ k = 6 ∨ k = 7 := by omega
    rcases this with h | h | h | h <;> subst h <;> rfl
   have hb : n < 2 ^ (kOf k).bits := by
    have hw1 := hw.1
    have : k = 4 ∨ k = 5 ∨ k = 6 ∨ k = 7 := by omega
    rcases this with h | h | h | h <;> subst h <;> exact hw1
   rw [wrap_val _ hb, if_neg (by simp [hns])]
 · rw [h3] at hg
   have h4 := rec_good hg
   rw [Nat.beq_eq] at h3
   subst h3
   refine ⟨h1.trans h4.2, fun hw L => ?_⟩
   have hl := (lt_iff _ _).1 h4.1
   show Value.int .i64 (IntKind.i64.wrap n) = _
   rw [wrap_val _ (show n < 2 ^ 64 from hw.1), if_neg]
   · rfl
   · rintro ⟨_, h2⟩
     have : (2 : Nat) ^ (IntKind.i64.bits - 1) = 9223372036854775808 := by decide
     omega
theorem PS.move {o : Oper} {x : Operand} (h : ∀ (ρ : Operand → Value) w, (execOp ρ o).run P w = .ok (.value (ρ x)) w) : PS P L c e o (hMove (cOpd e x)) := by
 intro a ns t k hm hg
 obtain ⟨hx, h1⟩ := kx_good hg
 have := hm x hx
 exact ⟨_, this.2, h1, fun w => by rw [h, this.1]⟩
theorem PS.pick {o : Oper} {x y z : Operand} (ho : o.op = .pick x y z) : PS P L c e o (hPick (cOpd e x) (cOpd e y) (cOpd e z)) := by
 intro a ns t k hm hg
 obtain ⟨b, hx, h1⟩ := asB_good hg
 have hg1 := good_of h1 hg
 have vx := hm.at x hx (by simp)
 cases b
 · obtain ⟨hz, h2⟩ := kx_good hg1
   have := hm z hz
   refine ⟨_, this.2, h1.trans h2, fun w => ?_⟩
   simp [execOp, ho, vx.1, this.1, val, den, asBool]
 · obtain ⟨hz, h2⟩ := kx_good hg1
   have := hm y hz
   refine ⟨_, this.2, h1.trans h2, fun w => ?_⟩
   simp [execOp, ho, vx.1, this.1, val, den, asBool]
theorem PS.not {o : Oper} {t : TypeId} {x : Operand} (ho : o.op = .unOp .not t x) : PS P L c e o (hNot (cOpd e x)) := by
 intro a ns t k hm hg
 obtain ⟨b, hx, h1⟩ := asB_good hg
 have vx := hm.at x hx (by simp)
 refine ⟨.b (notB b), trivial, h1, fun w => ?_⟩
 simp [execOp, ho, vx.1, val, den, Op.unary, notB_eq]
theorem cUn_sound {o : Oper} {op : UnOp} {t : TypeId} {x : Operand} (ho : o.op = .unOp op t x) {f : PH} (hc : cUn P op t (cOpd e x) = .p f) : PS P L c e o f := by
 have un : ∀ (kd : IntKind) (g : Nat → Nat), (∀ a, a < 2 ^ kd.bits → g a < 2 ^ kd.bits) → (∀ (ρ : Operand → Value) (a : Nat) w, a < 2 ^ kd.bits → ρ x = .int kd (kd.wrap a) → (execOp ρ o).run P w = .ok (.value (.int kd (kd.wrap (g a)))) w) →
  PS P L c e o (hUn (kc kd) g (cOpd e x)) := by
  intro kd g hgl h a ns t k hm hg
  obtain ⟨ka, n, hx, h1⟩ := asI_good hg
  have hg1 := good_of h1 hg
  obtain ⟨e1, h2⟩ := rec_good hg1
  rw [Nat.beq_eq] at e1
  subst e1
  have vx := hm.at x hx (by simp)
  have bx : n < 2 ^ kd.bits := by have := vx.2.1; rwa [kbits_kc] at this
  refine ⟨.i (kc kd) (g n), ⟨by rw [kbits_kc]; exact hgl _ bx, kc_lt kd⟩, h1.trans h2, fun w => ?_⟩
  rw [h a.eval n w bx (vx.1.trans (iv_kc _ _))]
  show _ = Result.ok (Next.value (iv _ _)) w
  rw [iv_kc]
 have key : ∀ kd : IntKind, P.underlying t = some (.int kd) → cUnI kd op (cOpd e x) = .p f → PS P L c e o f := by
  intro kd hu hc
  cases op <;> simp only [cUnI, Iop.p.injEq, reduceCtorEq] at hc
  · subst hc
    refine un kd _ (fun a _ => mask_lt kd _) fun ρ a w ha hx => ?_
    have := int_sub kd 0 a ha
    have h0 : kd.wrap ((0 : Nat) : Int) = 0 := by cases kd <;> rfl
    rw [h0] at this
    have e0 : Nat.add 0 (kmask (kc kd) + 1) = kmask (kc kd) + 1 := by show 0 + _ = _; omega
    rw [e0] at this
    rw [this]
    simp [execOp, ho, hx, Op.unary, Op.intArith]
  · subst hc
    refine un kd _ (fun a ha => Nat.xor_lt_two_pow ha (by rw [kmask_kc]; have := Nat.two_pow_pos kd.bits; omega)) fun ρ a w ha hx => ?_
    have hp := Nat.two_pow_pos kd.bits
    have hone : BitVec.ofInt kd.bits (if kd.signed then -1 else kd.max) = BitVec.ofNat kd.bits (2 ^ kd.bits - 1) := by cases kd <;> rfl
    simp only [execOp, ho, hx, Op.unary, Op.intBits, bv_wrap kd _ ha, hone, Sem.run_bind, Sem.run_pure, Result.andThen_ok, BitVec.toNat_xor, bv_nat kd _ ha, bv_nat kd _ (show 2 ^ kd.bits - 1 < 2 ^ kd.bits by omega)]
    rw [kmask_kc, Nat.xor_comm]; rfl
 cases op
 case not => simp only [cUn, Iop.p.injEq] at hc; subst hc; exact PS.not ho
 all_goals
  simp only [cUn] at hc
  cases hu : P.underlying t with
  | none => simp [hu] at hc
  | some d =>
    cases d <;> simp only [hu, reduceCtorEq] at hc
    exact key _ hu hc
theorem cvF_spec (ks kd : IntKind) {n : Nat} (bx : n < 2 ^ ks.bits) : cvF ks kd n < 2 ^ kd.bits ∧ kd.wrap (cvF ks kd n) = kd.wrap (ks.wrap n) := by
 cases hsg : ksigned (kc ks)
 · have e : cvF ks kd n = Nat.land n (kmask (kc kd)) := by unfold cvF; rw [if_neg (fun h => by rw [hsg] at h; cases h)]
   rw [e]
   refine ⟨mask_lt kd _, ?_⟩
   rw [wrap_land, wrap_val ks bx, if_neg (fun h => by rw [← ksigned_kc, hsg] at h; cases h.1)]
 · cases hl : lt n (khalf (kc ks))
   · have e : cvF ks kd n = Nat.land (Nat.add n (2 ^ 64 - 2 ^ kbits (kc ks))) (kmask (kc kd)) := by unfold cvF; rw [if_pos hsg]; show (Bool.rec _ _ (lt n (khalf (kc ks))) : Nat) = _; rw [hl]
     rw [e]
     refine ⟨mask_lt kd _, ?_⟩
     rw [wrap_land, wrap_neg ks bx (by rw [lt_false] at hl; omega), kbits_kc]
     refine wrap_congr kd ?_
     have hle : 2 ^ ks.bits ≤ 2 ^ 64 := Nat.pow_le_pow_right (by decide) (by cases ks <;> decide)
     have e1 : ((Nat.add n (2 ^ 64 - 2 ^ ks.bits) : Nat) : Int) = ((n : Int) - 2 ^ ks.bits) + 2 ^ 64 := by
      show ((n + (2 ^ 64 - 2 ^ ks.bits) : Nat) : Int) = _
      have hp : ((2 ^ ks.bits : Nat) : Int) = (2 : Int) ^ ks.bits := Int.natCast_pow 2 ks.bits
      have h64 : ((2 ^ 64 : Nat) : Int) = (2 : Int) ^ 64 := Int.natCast_pow 2 64
      rw [Int.natCast_add, Int.ofNat_sub hle, hp, h64]
      generalize (2 : Int) ^ 64 = z1
      generalize (2 : Int) ^ ks.bits = z2
      omega
     rw [e1]
     have e2 : (2 : Int) ^ 64 = 2 ^ kd.bits * 2 ^ (64 - kd.bits) := by rw [← Int.pow_add]; congr 1; cases kd <;> rfl
     rw [e2, Int.add_mul_emod_self_left]
   · have e : cvF ks kd n = Nat.land n (kmask (kc kd)) := by unfold cvF; rw [if_pos hsg]; show (Bool.rec _ _ (lt n (khalf (kc ks))) : Nat) = _; rw [hl]
     rw [e]
     refine ⟨mask_lt kd _, ?_⟩
     rw [wrap_land, (wrap_pos ks ((lt_iff _ _).1 hl)).1]
theorem cConvI_sound {o : Oper} {s d : TypeId} {x : Operand} (ho : o.op = .convert s d x) {ks kd : IntKind} (hs : P.underlying s = some (.int ks)) (hd : P.underlying d = some (.int kd)) {f : PH}
 (hc : cConvI ks kd (cOpd e x) = .p f) : PS P L c e o f := by
 simp only [cConvI, Iop.p.injEq] at hc
 subst hc
 intro a ns t k hm hg
 obtain ⟨ka, n, hx, h1⟩ := asI_good hg
 have hg1 := good_of h1 hg
 obtain ⟨e1, h2⟩ := rec_good hg1
 rw [Nat.beq_eq] at e1
 subst e1
 have vx := hm.at x hx (by simp)
 have bx : n < 2 ^ ks.bits := by have := vx.2.1; rwa [kbits_kc] at this
 have hs' := cvF_spec ks kd bx
 refine ⟨.i (kc kd) (cvF ks kd n), ⟨by rw [kbits_kc]; exact hs'.1, kc_lt kd⟩, h1.trans h2, fun w => ?_⟩
 have hx' := vx.1.trans (iv_kc ks n)
 simp only [execOp, ho, hx', convert, run_underlying hs, run_underlying hd, Sem.run_bind, Result.andThen_ok, Conv.intToInt, Sem.run_pure]
 show _ = Result.ok (Next.value (iv (kc kd) _)) w
 rw [iv_kc, hs'.2]
theorem isMeth_false {g : Fn} (h : isMeth g = false) : ∀ n, g ≠ .method n := by rintro n rfl; cases h
theorem PS.nil {o : Oper} {x : Operand} (ho : o.op = .nilCheck x) : PS P L c e o (hNil (cOpd e x)) := by
 intro a ns t k hm hg
 cases hx : ev (cOpd e x) ns t <;> simp only [hNil, hx] at hg ⊢ <;> first
  | exact (bad_good hg).elim
  | skip
 case p b off =>
  have vx := hm.at x hx (by simp)
  exact ⟨_, vx.2, rfl, fun w => by simp [execOp, ho, vx.1, val, den]⟩
 case f g F G =>
  obtain ⟨h1, h2⟩ := rec_good' hg
  have vx := hm.at x hx (by simp)
  refine ⟨_, vx.2, h2, fun w => ?_⟩
  simp only [execOp, ho, vx.1]
  cases g with
  | method n => cases h1
  | _ => rfl
 case yl b =>
  have vx := hm.at x hx (by simp)
  exact ⟨_, vx.2, rfl, fun w => by simp [execOp, ho, vx.1, val, den]⟩
 case ifc ty W =>
  have vx := hm.at x hx (by simp)
  exact ⟨_, vx.2, rfl, fun w => by simp [execOp, ho, vx.1, val, den]⟩
theorem PS.iface {o : Oper} {ty : TypeId} {x : Operand} (ho : o.op = .makeInterface ty x) {d : TypeDesc} (hu : P.underlying ty = some d) (hd : ∀ ms, d ≠ .interface ms) : PS P L c e o (hIface ty (cOpd e x)) := by
 intro a ns t k hm hg
 obtain ⟨h1, h2⟩ := rec_good (z := nx (ev (cOpd e x) ns t)) hg
 have vx := hm x ((nx_iff _).1 h1)
 refine ⟨.ifc ty (ev (cOpd e x) ns t), vx.2, h2, fun w => ?_⟩
 simp only [execOp, ho, vx.1, Instr.makeInterface, Sem.run_bind, run_underlying hu, Result.andThen_ok]
 cases d <;> first | exact absurd rfl (hd _) | rfl
theorem nthC_spec (L : Loc) (c : Nm → Prop) : ∀ (j : Nat) (v : V), (wf c v).s → nthC (U.ofNat j) v ≠ .x → (lsv L v)[j]? = some (val L (nthC (U.ofNat j) v)) ∧ (wf c (nthC (U.ofNat j) v)).v := by
 intro j
 induction j with
 | zero =>
   intro v hv hx
   cases v <;> first | exact hv.elim | skip
   · exact absurd rfl hx
   · exact ⟨rfl, hv.1⟩
 | succ j ih =>
   intro v hv hx
   cases v <;> first | exact hv.elim | skip
   · exact absurd rfl hx
   · exact ih _ hv.2 hx
theorem PS.tup {o : Oper} {j : Nat} {x : Operand} (ho : o.op = .extract x j) : PS P L c e o (hTup (U.ofNat j) (cOpd e x)) := by
 intro a ns t k hm hg
 obtain ⟨W, hx, h1⟩ := asTup_good hg
 have hg1 := good_of h1 hg
 obtain ⟨hn, h2⟩ := kx_good hg1
 have vx := hm.at x hx (by simp)
 have hs := nthC_spec L c j W vx.2 hn
 refine ⟨_, hs.2, h1.trans h2, fun w => ?_⟩
 have : (lsv L W).toArray[j]? = some (val L (nthC (U.ofNat j) W)) := by rw [List.getElem?_toArray]; exact hs.1
 have e1 : val L (.tup W) = .tuple (lsv L W).toArray := rfl
 simp only [execOp, ho, vx.1, e1]
 simp [Instr.extract, this]
theorem hList_good {a : Act} {ns : List V} {t : T} (hm : Mat L c e a ns t) : ∀ (l : List Operand) (q : V → R), (hList (l.map (cOpd e)) ns t q).Good →
 ∃ v, hList (l.map (cOpd e)) ns t q = q v ∧ (wf c v).s ∧ lsv L v = l.map a.eval := by
 intro l
 induction l with
 | nil => intro q h; exact ⟨.nil, rfl, trivial, rfl⟩
 | cons x l ih =>
   intro q h
   obtain ⟨h1, h2⟩ := rec_good (z := nx (ev (cOpd e x) ns t)) h
   have hg := good_of h2 h
   obtain ⟨v, h3, h4, h5⟩ := ih _ hg
   have vx := hm x ((nx_iff _).1 h1)
   refine ⟨.cons (ev (cOpd e x) ns t) v, h2.trans h3, ⟨vx.2, h4⟩, ?_⟩
   show val L _ :: lsv L v = _
   rw [h5, List.map_cons, vx.1]
theorem PS.func {o : Oper} {fn : Fn} {xs ys : Array Operand} (ho : o.op = .makeFunc fn xs ys) (hf : Fn.plain fn) : PS P L c e o (hFunc fn (xs.toList.map (cOpd e)) (ys.toList.map (cOpd e))) := by
 intro a ns t k hm hg
 obtain ⟨v, h1, h2, h3⟩ := hList_good hm xs.toList _ hg
 have hg1 := good_of h1 hg
 obtain ⟨v', h4, h5, h6⟩ := hList_good hm ys.toList _ hg1
 refine ⟨.f fn v v', ⟨hf, h2, h5⟩, h1.trans h4, fun w => ?_⟩
 simp only [execOp, ho, Instr.makeFunc]
 show Result.ok (Next.value (.func fn (xs.map a.eval) (ys.map a.eval))) w = Result.ok (Next.value (.func fn (lsv L v).toArray (lsv L v').toArray)) w
 rw [h3, h6]
 have e1 : ∀ z : Array Operand, (z.toList.map a.eval).toArray = z.map a.eval := fun z => by apply Array.ext'; simp
 rw [e1, e1]
theorem run_part {t : TypeId} {i : TypeInfo} (hi : P.info? t = some i) (hu : ∃ d, P.underlying t = some d) (cs : Array Value) (off : Nat) (w : World) {v : Value}
 (h : if isAggT P t = true then v = .agg (cs.extract off (off + szT P t)) else cs[off]? = some v) : (part t cs off).run P w = .ok v w := by
 obtain ⟨d, hd⟩ := hu
 have hsz : (sizeOf t).run P w = .ok (szT P t) w := run_sizeOf w hi
 cases hz : isAggT P t
 · rw [hz] at h
   have hag : (isAgg t).run P w = .ok false w := by
    have := hz; unfold isAggT at this; rw [hd] at this
    simp only [isAgg, Sem.run_bind, run_underlying hd, Result.andThen_ok]
    cases d <;> first | rfl | exact absurd this (by simp)
   simp only [Bool.false_eq_true, if_false] at h
   simp [part, hag, h]
 · rw [hz] at h
   have hag : (isAgg t).run P w = .ok true w := by
    have := hz; unfold isAggT at this; rw [hd] at this
    simp only [isAgg, Sem.run_bind, run_underlying hd, Result.andThen_ok]
    cases d <;> first | rfl | exact absurd this (by simp)
   simp only [if_true] at h
   simp [part, hag, hsz, h]
theorem partK_good {agg : Bool} {off sz w : Nat} {cs : V} {k : K1} (hw : (wf c cs).l) (h : (partK agg off sz w cs k).Good) :
 ∃ v, partK agg off sz w cs k = k v ∧ (wf c v).v ∧ (if agg = true then val L v = .agg ((fit w (lcv L cs)).toArray.extract off (off + sz)) else (0 < sz → (fit w (lcv L cs)).toArray[off]? = some (val L v))) ∧ off + sz ≤ w := by
 obtain ⟨h1, h2⟩ := rec_good (z := Nat.ble (Nat.add off sz) w) h
 have hle : off + sz ≤ w := by rw [Nat.ble_eq] at h1; exact h1
 cases agg
 · have hs := (atC_spec L c cs).2 hw off
   refine ⟨atC cs off, h2, hs.2, ?_, hle⟩
   simp only [Bool.false_eq_true, if_false]
   intro hp
   rw [List.getElem?_toArray, fit_getElem (by omega), hs.1]
 · have hs := (subC_spec L c cs).2 hw off sz
   refine ⟨.agg sz (subC cs off sz), h2, hs.2, ?_, hle⟩
   simp only [if_true]
   show Value.agg (fit sz (lcv L (subC cs off sz))).toArray = _
   congr 1
   rw [hs.1, fit_take, ← fit_part _ hle]
   apply Array.ext'
   simp
end
end Go.Ev

namespace Go.Ev
section
variable {P : Program} {L : Loc} {c : Nm → Prop} {e : Ce}
theorem info_of_sz {t : TypeId} (h : szT P t ≠ 0) : ∃ i, P.info? t = some i := by
 unfold szT Program.cellsOf at h
 cases hi : P.info? t with
 | none => simp [hi] at h
 | some i => exact ⟨i, rfl⟩
theorem okT_spec {t : TypeId} (h : okT P t = true) : (∃ d, P.underlying t = some d) ∧ (∃ i, P.info? t = some i) ∧ (isAggT P t = false → szT P t = 1) := by
 unfold okT at h
 rw [Bool.and_eq_true] at h
 obtain ⟨d, hd⟩ := Option.isSome_iff_exists.1 h.1
 refine ⟨⟨d, hd⟩, info_of_underlying hd, fun hz => ?_⟩
 have := h.2
 rw [hz] at this
 simpa using this
theorem cField_sound {o : Oper} {t : TypeId} {x : Operand} {j : Nat} (ho : o.op = .field t x j) {f : PH} (hc : cField P t (cOpd e x) j = .p f) : PS P L c e o f := by
 unfold cField at hc
 cases hu : P.underlying t with
 | none => rw [hu] at hc; cases hc
 | some d =>
 rw [hu] at hc
 cases d with
 | struct fs =>
   simp only at hc
   cases hf : fs[j]? with
   | none => rw [hf] at hc; cases hc
   | some fl =>
     rw [hf] at hc
     simp only at hc
     cases hk : okT P fl.type
     · rw [hk] at hc; simp at hc
     · rw [hk] at hc
       simp only [if_true, Iop.p.injEq] at hc
       subst hc
       obtain ⟨hd, ⟨i, hi⟩, h1⟩ := okT_spec hk
       intro a ns T k hm hg
       obtain ⟨w, cs, hx, h2⟩ := asAgg_good hg
       have hg1 := good_of h2 hg
       have vx := hm.at x hx (by simp)
       obtain ⟨v, h3, h4, h5, h6⟩ := partK_good (c := c) (L := L) vx.2 hg1
       refine ⟨v, h4, h2.trans h3, fun W => ?_⟩
       have e1 : val L (.agg w cs) = .agg (fit w (lcv L cs)).toArray := rfl
       have hp : (part fl.type (fit w (lcv L cs)).toArray fl.offset).run P W = .ok (val L v) W := by
        refine run_part hi hd _ _ W ?_
        cases hz : isAggT P fl.type
        · rw [hz] at h5; simp only [Bool.false_eq_true, if_false] at h5 ⊢
          exact h5 (by rw [h1 hz]; decide)
        · rw [hz] at h5; simpa using h5
       simp only [execOp, ho, vx.1, e1, Instr.field, Sem.run_bind, run_underlying hu, Result.andThen_ok, hf, Go.asAgg, Sem.run_pure, hp]
 | _ => cases hc
theorem run_asIntOf (k : IntKind) (n : Int) (w : World) : (asIntOf (.int k n)).run P w = .ok (k, n) w := rfl
theorem cIdx_sound {o : Oper} {t : TypeId} {x y : Operand} (ho : o.op = .index t x y) {f : PH} (hc : cIdx P t (cOpd e x) (cOpd e y) = .p f) : PS P L c e o f := by
 unfold cIdx at hc
 cases hu : P.underlying t with
 | none => rw [hu] at hc; cases hc
 | some d =>
 rw [hu] at hc
 cases d with
 | array n el =>
   simp only at hc
   cases hk : okT P el
   · rw [hk] at hc; simp at hc
   · rw [hk] at hc
     simp only [if_true, Iop.p.injEq] at hc
     subst hc
     obtain ⟨hd, ⟨i, hi⟩, h1⟩ := okT_spec hk
     intro a ns T k hm hg
     obtain ⟨w, cs, hx, h2⟩ := asAgg_good hg
     have hg1 := good_of h2 hg
     obtain ⟨kk, m, hy, h7, h8⟩ := asN_good (c := c) hg1
     have hg2 := good_of h7 hg1
     obtain ⟨hl, h9⟩ := rec_good hg2
     have hg3 := good_of h9 hg2
     have vx := hm.at x hx (by simp)
     have vy := hm.at y hy (by simp)
     have hlt := (lt_iff _ _).1 hl
     obtain ⟨v, h3, h4, h5, h6⟩ := partK_good (c := c) (L := L) vx.2 hg3
     refine ⟨v, h4, h2.trans (h7.trans (h9.trans h3)), fun W => ?_⟩
     have e1 : val L (.agg w cs) = .agg (fit w (lcv L cs)).toArray := rfl
     have e2 := vy.1.trans (h8 vy.2 L)
     have hp : (part el (fit w (lcv L cs)).toArray (m * szT P el)).run P W = .ok (val L v) W := by
      refine run_part hi hd _ _ W ?_
      cases hz : isAggT P el
      · rw [hz] at h5; simp only [Bool.false_eq_true, if_false] at h5 ⊢
        exact h5 (by rw [h1 hz]; decide)
      · rw [hz] at h5; simpa using h5
     have hsz : (sizeOf el).run P W = .ok (szT P el) W := run_sizeOf W hi
     have hc1 : (0 : Int) ≤ (m : Int) ∧ (m : Int) < (n : Int) := ⟨by omega, by omega⟩
     simp only [execOp, ho, vx.1, e1, e2, Instr.index, Sem.run_bind, run_asIntOf, run_underlying hu, Result.andThen_ok, hc1, and_self, if_true, hsz, Int.toNat_natCast, hp, Sem.run_pure]
 | string =>
   simp only [Iop.p.injEq] at hc
   subst hc
   intro a ns T k hm hg
   obtain ⟨l, s, hx, h2⟩ := asS_good hg
   have hg1 := good_of h2 hg
   obtain ⟨kk, m, hy, h7, h8⟩ := asN_good (c := c) hg1
   have hg2 := good_of h7 hg1
   obtain ⟨hl, h9⟩ := rec_good hg2
   have vx := hm.at x hx (by simp)
   have vy := hm.at y hy (by simp)
   have hlt := (lt_iff _ _).1 hl
   have hb : byteAt s m < 2 ^ 8 := Nat.lt_of_le_of_lt Nat.and_le_right (by decide)
   refine ⟨.i 4 (byteAt s m), ⟨hb, by decide⟩, h2.trans (h7.trans h9), fun W => ?_⟩
   have e1 : val L (.s l s) = .string ⟨(bytesL l s).toArray⟩ := rfl
   have e2 := vy.1.trans (h8 vy.2 L)
   have e3 : (if (0 : Int) ≤ (m : Int) then (⟨(bytesL l s).toArray⟩ : ByteArray)[(m : Int).toNat]? else none) = some (UInt8.ofNat (byteAt s m)) := by
    rw [if_pos (by omega), Int.toNat_natCast]
    have hsz : m < (⟨(bytesL l s).toArray⟩ : ByteArray).size := by
     show m < (bytesL l s).toArray.size
     simp [bytesL]; exact hlt
    rw [getElem?_pos _ m hsz]
    show some ((bytesL l s).toArray[m]'_) = _
    simp [bytesL]
   have e4 : ((UInt8.ofNat (byteAt s m)).toNat : Int) = IntKind.u8.wrap (byteAt s m) := by
    rw [wrap_val .u8 hb, if_neg (by simp [IntKind.signed])]
    simp [UInt8.toNat_ofNat', Nat.mod_eq_of_lt hb]
   simp only [execOp, ho, vx.1, e1, e2, Instr.index, Sem.run_bind, run_asIntOf, run_underlying hu, Result.andThen_ok, e3, Sem.run_pure, e4]
   rfl
 | _ => cases hc
theorem cFieldAddr_sound {o : Oper} {t : TypeId} {x : Operand} {j : Nat} (ho : o.op = .fieldAddr t x j) {f : PH} (hc : cFieldAddr P t (cOpd e x) j = .p f) : PS P L c e o f := by
 unfold cFieldAddr at hc
 cases hu : P.underlying t with
 | none => rw [hu] at hc; cases hc
 | some d =>
 rw [hu] at hc
 cases d with
 | struct fs =>
   simp only at hc
   cases hf : fs[j]? with
   | none => rw [hf] at hc; cases hc
   | some fl =>
     rw [hf] at hc
     simp only at hc
     by_cases hk : szT P fl.type = 0
     · rw [if_pos hk] at hc; cases hc
     · rw [if_neg hk, Iop.p.injEq] at hc
       subst hc
       obtain ⟨i, hi⟩ := info_of_sz hk
       intro a ns T k hm hg
       obtain ⟨b, off, hx, h2⟩ := asP_good hg
       have vx := hm.at x hx (by simp)
       refine ⟨.p b (off + fl.offset), vx.2, h2, fun W => ?_⟩
       have e1 : val L (.p b off) = .pointer (some ⟨L.b b, off, none⟩) := rfl
       have hsz : (sizeOf fl.type).run P W = .ok (szT P fl.type) W := run_sizeOf W hi
       simp only [execOp, ho, vx.1, e1, Instr.fieldAt, Instr.sureAddr, fieldPlace, Sem.run_bind, run_underlying hu, Result.andThen_ok, hf, Sem.run_pure, hsz, Sem.run_ite, hk, if_false]
       show Result.ok (Next.value (.pointer (some (Addr.add ⟨L.b b, off, none⟩ fl.offset)))) W = _
       unfold Addr.add
       split
       · rename_i h0; rw [h0]; rfl
       · rfl
 | _ => cases hc
theorem addr_add (b off n : Nat) : Addr.add ⟨b, off, none⟩ n = ⟨b, off + n, none⟩ := by
 unfold Addr.add
 split
 · rename_i h; rw [h]; rfl
 · rfl
theorem asSl_good {v : V} {q : Nm → Nat → Nat → R} (h : (asSl v q).Good) : ∃ b off l, asSl v q = q b off l ∧ (∀ L : Loc, ∃ cap, val L v = .slice (some ⟨L.b b, off, none⟩) l cap) ∧ v ≠ .x ∧ ((wf c v).v → c b) := by
 cases v <;> first
  | exact (bad_good h).elim
  | exact ⟨_, _, _, rfl, fun L => ⟨_, rfl⟩, by simp, fun h => h⟩
theorem cIdxA_sound {o : Oper} {t : TypeId} {x y : Operand} (ho : o.op = .indexAddr t x y) {f : PH} (hc : cIdxA P t (cOpd e x) (cOpd e y) = .p f) : PS P L c e o f := by
 unfold cIdxA at hc
 cases hu : P.underlying t with
 | none => rw [hu] at hc; cases hc
 | some d =>
 rw [hu] at hc
 cases d with
 | array n el =>
   simp only at hc
   by_cases hk : szT P el = 0
   · rw [if_pos hk] at hc; cases hc
   rw [if_neg hk, Iop.p.injEq] at hc
   subst hc
   obtain ⟨i, hi⟩ := info_of_sz hk
   intro a ns T k hm hg
   obtain ⟨b, off, hx, h2⟩ := asP_good hg
   have hg1 := good_of h2 hg
   obtain ⟨kk, m, hy, h7, h8⟩ := asN_good (c := c) hg1
   have hg2 := good_of h7 hg1
   obtain ⟨hl, h9⟩ := rec_good hg2
   have vx := hm.at x hx (by simp)
   have vy := hm.at y hy (by simp)
   have hlt := (lt_iff _ _).1 hl
   refine ⟨.p b (off + m * szT P el), vx.2, h2.trans (h7.trans h9), fun W => ?_⟩
   have e1 : val L (.p b off) = .pointer (some ⟨L.b b, off, none⟩) := rfl
   have e2 := vy.1.trans (h8 vy.2 L)
   have hsz : (sizeOf el).run P W = .ok (szT P el) W := run_sizeOf W hi
   have hc1 : (0 : Int) ≤ (m : Int) ∧ (m : Int) < (n : Int) := ⟨by omega, by omega⟩
   simp only [execOp, ho, vx.1, e1, e2, Instr.indexAt, Instr.sureAddr, Sem.run_bind, run_asIntOf, run_underlying hu, Result.andThen_ok, Sem.run_pure, hc1, and_self, if_true, Sem.run_ite, hsz, Int.toNat_natCast, addr_add]
   rfl
 | slice el =>
   simp only at hc
   by_cases hk : szT P el = 0
   · rw [if_pos hk] at hc; cases hc
   rw [if_neg hk, Iop.p.injEq] at hc
   subst hc
   obtain ⟨i, hi⟩ := info_of_sz hk
   intro a ns T k hm hg
   obtain ⟨b, off, l, h2, hv, hx, hb⟩ := asSl_good (c := c) hg
   have hg1 := good_of h2 hg
   obtain ⟨kk, m, hy, h7, h8⟩ := asN_good (c := c) hg1
   have hg2 := good_of h7 hg1
   obtain ⟨hl, h9⟩ := rec_good hg2
   have vx := hm x hx
   have vy := hm.at y hy (by simp)
   have hlt := (lt_iff _ _).1 hl
   refine ⟨.p b (off + m * szT P el), hb vx.2, h2.trans (h7.trans h9), fun W => ?_⟩
   obtain ⟨cap, e1⟩ := hv L
   have e2 := vy.1.trans (h8 vy.2 L)
   have hsz : (sizeOf el).run P W = .ok (szT P el) W := run_sizeOf W hi
   have hc1 : (0 : Int) ≤ (m : Int) ∧ (m : Int) < (l : Int) := ⟨by omega, by omega⟩
   simp only [execOp, ho, vx.1, e1, e2, Instr.indexAt, Instr.sureAddr, Sem.run_bind, run_asIntOf, run_underlying hu, Result.andThen_ok, Sem.run_pure, hc1, and_self, if_true, Sem.run_ite, hsz, Int.toNat_natCast, addr_add]
   rfl
 | _ => cases hc
end
end Go.Ev

namespace Go.Ev
section
variable (L : Loc) (c : Nm → Prop)
theorem wfb_wf : ∀ v : V, ((wfb v).v = true → (wf c v).v) ∧ ((wfb v).k = true → (wf c v).k) ∧ ((wfb v).l = true → (wf c v).l) ∧ ((wfb v).s = true → (wf c v).s) := by
 intro v
 induction v with
 | f g F C ihF ihC =>
   have key : (plainB g && (wfb F).s && (wfb C).s) = true → Fn.plain g ∧ (wf c F).s ∧ (wf c C).s := by
    intro h
    rw [Bool.and_eq_true, Bool.and_eq_true] at h
    refine ⟨?_, ihF.2.2.2 h.1.2, ihC.2.2.2 h.2⟩
    cases g <;> first | exact trivial | exact absurd h.1.1 (by simp [plainB])
   exact ⟨key, key, fun h => (by cases h), fun h => (by cases h)⟩
 | ifc t v ih => exact ⟨ih.1, ih.1, fun h => (by cases h), fun h => (by cases h)⟩
 | agg w cs ih => exact ⟨ih.2.2.1, fun h => (by cases h), fun h => (by cases h), fun h => (by cases h)⟩
 | tup vs ih => exact ⟨ih.2.2.2, fun h => (by cases h), fun h => (by cases h), fun h => (by cases h)⟩
 | cons a d iha ihd =>
   refine ⟨fun h => (by cases h), fun h => (by cases h), fun h => ?_, fun h => ?_⟩
   · have h' : ((wfb a).k && (wfb d).l) = true := h
     rw [Bool.and_eq_true] at h'
     exact ⟨iha.2.1 h'.1, ihd.2.2.1 h'.2⟩
   · have h' : ((wfb a).v && (wfb d).s) = true := h
     rw [Bool.and_eq_true] at h'
     exact ⟨iha.1 h'.1, ihd.2.2.2 h'.2⟩
 | sp w cs ih => exact ⟨fun h => (by cases h), ih.2.2.1, fun h => (by cases h), fun h => (by cases h)⟩
 | bs l n => exact ⟨fun h => (by cases h), fun h => (of_decide_eq_true (p := n < 2 ^ (8 * l)) h), fun h => (by cases h), fun h => (by cases h)⟩
 | i k n =>
   have key : (decide (n < 2 ^ kbits k) && decide (k < 8)) = true → n < 2 ^ kbits k ∧ k < 8 := fun h => by
    rw [Bool.and_eq_true] at h; exact ⟨of_decide_eq_true h.1, of_decide_eq_true h.2⟩
   exact ⟨key, key, fun h => (by cases h), fun h => (by cases h)⟩
 | s l n => exact ⟨fun h => (of_decide_eq_true (p := n < 2 ^ (8 * l)) h), fun h => (of_decide_eq_true (p := n < 2 ^ (8 * l)) h), fun h => (by cases h), fun h => (by cases h)⟩
 | nil => exact ⟨fun h => (by cases h), fun h => (by cases h), fun _ => trivial, fun _ => trivial⟩
 | _ =>
   refine ⟨fun h => ?_, fun h => ?_, fun h => (by cases h), fun h => (by cases h)⟩ <;> first | exact trivial | (cases h; done)
theorem lc_chain : ∀ l : List V, lcv L (chain l) = l.flatMap (chv L)
 | [] => rfl
 | v :: r => by show chv L v ++ lcv L (chain r) = _; rw [lc_chain r, List.flatMap_cons]
theorem ls_chain : ∀ l : List V, lsv L (chain l) = l.map (val L)
 | [] => rfl
 | v :: r => by show val L v :: lsv L (chain r) = _; rw [ls_chain r, List.map_cons]
theorem wfb_chain : ∀ l : List V, ((wfb (chain l)).l = true → ∀ v ∈ l, (wfb v).k = true) ∧ ((wfb (chain l)).s = true → ∀ v ∈ l, (wfb v).v = true)
 | [] => ⟨fun _ _ h => (by cases h), fun _ _ h => (by cases h)⟩
 | a :: r => by
   have ih := wfb_chain r
   refine ⟨fun h => ?_, fun h => ?_⟩
   · have h' : ((wfb a).k && (wfb (chain r)).l) = true := h
     rw [Bool.and_eq_true] at h'
     intro v hv
     rcases List.mem_cons.1 hv with rfl | hv
     · exact h'.1
     · exact ih.1 h'.2 v hv
   · have h' : ((wfb a).v && (wfb (chain r)).s) = true := h
     rw [Bool.and_eq_true] at h'
     intro v hv
     rcases List.mem_cons.1 hv with rfl | hv
     · exact h'.1
     · exact ih.2 h'.2 v hv
theorem byteAt_lt (n o : Nat) : byteAt n o < 256 := Nat.lt_of_le_of_lt Nat.and_le_right (by decide)
theorem byteAt_eq (n o : Nat) : byteAt n o = n / 2 ^ (8 * o) % 256 := by
 show n >>> (8 * o) &&& 255 = _
 rw [Nat.shiftRight_eq_div_pow, show (255 : Nat) = 2 ^ 8 - 1 by rfl, Nat.and_two_pow_sub_one_eq_mod]
theorem byteAt_cons (n m o : Nat) (h : n < 256) : byteAt (n + m * 256) 0 = n ∧ byteAt (n + m * 256) (o + 1) = byteAt m o := by
 rw [byteAt_eq, byteAt_eq, byteAt_eq]
 refine ⟨by simp; omega, ?_⟩
 have e : 2 ^ (8 * (o + 1)) = 256 * 2 ^ (8 * o) := by rw [show 8 * (o + 1) = 8 + 8 * o by omega, Nat.pow_add]
 rw [e, ← Nat.div_div_eq_div_mul]
 congr 2
 omega
theorem bs_cons (l n m : Nat) (h : n < 256) : chv L (.bs (l + 1) (n + m * 256)) = iv 4 n :: chv L (.bs l m) := by
 show (List.range (l + 1)).map (fun j => iv 4 (byteAt (n + m * 256) j)) = iv 4 n :: (List.range l).map fun j => iv 4 (byteAt m j)
 rw [List.range_succ_eq_map, List.map_cons, List.map_map, (byteAt_cons n m 0 h).1]
 congr 1
 apply List.map_congr_left
 intro j _
 show iv 4 (byteAt (n + m * 256) (j + 1)) = _
 rw [(byteAt_cons n m j h).2]
theorem byteOf_some {v : V} {n : Nat} (h : byteOf v = some n) : v = .i 4 n := by
 cases v with
 | i k m =>
   have h' : (if k = 4 then some m else none) = some n := h
   by_cases hk : k = 4
   · rw [if_pos hk] at h'; cases h'; rw [hk]
   · rw [if_neg hk] at h'; cases h'
 | _ => cases h
def okBy (l : List V) : Prop := (∀ n, V.i 4 n ∈ l → n < 256)
theorem bs_one (n : Nat) (h : n < 256) : chv L (.bs 1 n) = [iv 4 n] := by
 have := bs_cons L 0 n 0 h
 simp only [Nat.zero_mul, Nat.add_zero, Nat.zero_add] at this
 rw [this]; rfl
theorem consB_cells (n : Nat) (hn : n < 256) : ∀ r : List V, okBy r → (consB n r).flatMap (chv L) = iv 4 n :: r.flatMap (chv L) ∧ okBy (consB n r)
 | [], _ => ⟨rfl, fun m h => by
  rcases List.mem_cons.1 h with h | h
  · cases h; exact hn
  · cases h⟩
 | y :: r, h => by
   have hr : okBy r := fun m hm => h m (List.mem_cons_of_mem _ hm)
   by_cases hb : ∃ l m, y = .bs l m
   · obtain ⟨l, m, rfl⟩ := hb
     refine ⟨?_, fun q hq => ?_⟩
     · show chv L (.bs (l + 1) (n + m * 256)) ++ r.flatMap (chv L) = _
       rw [bs_cons L l n m hn, List.flatMap_cons]; rfl
     · rcases List.mem_cons.1 hq with hq | hq
       · cases hq
       · exact hr q hq
   · have e : consB n (y :: r) = match byteOf y with
      | some m => V.bs 2 (n + m * 256) :: r
      | none => V.i 4 n :: y :: r := by
      cases y <;> first | rfl | exact absurd ⟨_, _, rfl⟩ hb
     rw [e]
     cases hy : byteOf y with
     | none =>
       refine ⟨rfl, fun q hq => ?_⟩
       rcases List.mem_cons.1 hq with hq | hq
       · cases hq; exact hn
       · exact h q hq
     | some m =>
       have := byteOf_some hy
       subst this
       have hm := h m (List.mem_cons_self ..)
       refine ⟨?_, fun q hq => ?_⟩
       · show chv L (.bs (1 + 1) (n + m * 256)) ++ r.flatMap (chv L) = _
         rw [bs_cons L 1 n m hn, bs_one L m hm, List.flatMap_cons]; rfl
       · rcases List.mem_cons.1 hq with hq | hq
         · cases hq
         · exact hr q hq
theorem packB_cells : ∀ l : List V, okBy l → (packB l).flatMap (chv L) = l.flatMap (chv L) ∧ okBy (packB l)
 | [], h => ⟨rfl, h⟩
 | a :: r, h => by
   obtain ⟨ih, ih2⟩ := packB_cells r fun n hn => h n (List.mem_cons_of_mem _ hn)
   have e : packB (a :: r) = match byteOf a with
    | some n => consB n (packB r)
    | none => a :: packB r := rfl
   rw [e]
   cases ha : byteOf a with
   | none =>
     refine ⟨?_, fun q hq => ?_⟩
     · show chv L a ++ (packB r).flatMap (chv L) = _
       rw [ih, List.flatMap_cons]
     · rcases List.mem_cons.1 hq with hq | hq
       · exact h q (hq ▸ List.mem_cons_self ..)
       · exact ih2 q hq
   | some n =>
     have := byteOf_some ha
     subst this
     have hn := h n (List.mem_cons_self ..)
     have := consB_cells L n hn _ ih2
     exact ⟨by rw [this.1, ih]; rfl, this.2⟩
theorem toU_lt (k : IntKind) (n : Int) : toU k n < 2 ^ k.bits := by
 have h1 : 0 ≤ n % (2 ^ k.bits : Int) := Int.emod_nonneg _ (Int.ne_of_gt (Int.pow_pos (by decide)))
 have h2 : n % (2 ^ k.bits : Int) < 2 ^ k.bits := Int.emod_lt_of_pos _ (Int.pow_pos (by decide))
 have h3 : ((2 ^ k.bits : Nat) : Int) = (2 : Int) ^ k.bits := Int.natCast_pow 2 k.bits
 unfold toU
 omega
theorem iv_toU (k : IntKind) (n : Int) (h : (k.wrap n == n) = true) : iv (kc k) (toU k n) = .int k n := by
 rw [iv_kc]
 have h1 : 0 ≤ n % (2 ^ k.bits : Int) := Int.emod_nonneg _ (Int.ne_of_gt (Int.pow_pos (by decide)))
 have : k.wrap (toU k n : Nat) = k.wrap n := wrap_congr k (by
  unfold toU
  rw [Int.toNat_of_nonneg h1, Int.emod_emod])
 rw [this, eq_of_beq h]
theorem strN_bytes : ∀ l : List UInt8, bytesL l.length (l.foldr (fun b n => b.toNat + 256 * n) 0) = l
 | [] => rfl
 | b :: r => by
   have ih := strN_bytes r
   show (List.range (r.length + 1)).map (fun j => UInt8.ofNat (byteAt (b.toNat + 256 * r.foldr (fun b n => b.toNat + 256 * n) 0) j)) = _
   have hb : b.toNat < 256 := b.toNat_lt
   rw [List.range_succ_eq_map, List.map_cons, List.map_map, Nat.mul_comm 256, (byteAt_cons b.toNat _ 0 hb).1]
   congr 1
   · exact UInt8.ofNat_toNat
   · refine Eq.trans ?_ ih
     apply List.map_congr_left
     intro j _
     show UInt8.ofNat (byteAt (b.toNat + _ * 256) (j + 1)) = _
     rw [(byteAt_cons b.toNat _ j hb).2]
theorem consB_mem (n : Nat) : ∀ (r : List V) (v : V), v ∈ r → byteOf v = none → (∀ l m, v ≠ .bs l m) → v ∈ consB n r
 | [], v, h, _, _ => by cases h
 | y :: r, v, h, hb, hn => by
   by_cases hy : ∃ l m, y = .bs l m
   · obtain ⟨l, m, rfl⟩ := hy
     rcases List.mem_cons.1 h with h | h
     · exact absurd h (hn l m)
     · exact List.mem_cons_of_mem _ h
   · have e : consB n (y :: r) = match byteOf y with
      | some m => V.bs 2 (n + m * 256) :: r
      | none => V.i 4 n :: y :: r := by
      cases y <;> first | rfl | exact absurd ⟨_, _, rfl⟩ hy
     rw [e]
     cases hyb : byteOf y with
     | none => exact List.mem_cons_of_mem _ h
     | some m =>
       rcases List.mem_cons.1 h with h | h
       · subst h; rw [hb] at hyb; cases hyb
       · exact List.mem_cons_of_mem _ h
def flatV : V → Bool
 | .bs _ _ | .sp _ _ => false
 | _ => true
theorem packB_mem' : ∀ (l : List V) (v : V), v ∈ l → byteOf v = none → (∀ a b, v ≠ .bs a b) → v ∈ packB l
 | [], v, h, _, _ => by cases h
 | a :: r, v, h, hb, hn => by
   have e : packB (a :: r) = match byteOf a with
    | some n => consB n (packB r)
    | none => a :: packB r := rfl
   rw [e]
   cases ha : byteOf a with
   | none =>
     rcases List.mem_cons.1 h with h | h
     · subst h; exact List.mem_cons_self ..
     · exact List.mem_cons_of_mem _ (packB_mem' r v h hb hn)
   | some n =>
     rcases List.mem_cons.1 h with h | h
     · subst h; rw [hb] at ha; cases ha
     · exact consB_mem n _ v (packB_mem' r v h hb hn) hb hn
theorem ofVal_flat (f : Nat) (x : Value) : flatV (ofVal f x) = true := by
 cases f with
 | zero => rfl
 | succ f =>
   cases x with
   | int k m =>
     have e : ofVal (f + 1) (.int k m) = if (k.wrap m == m) = true then .i (kc k) (toU k m) else .x := rfl
     rw [e]; split <;> rfl
   | tuple vs =>
     have e : ofVal (f + 1) (.tuple vs) = if vs.size = 0 then .u else .tup (chain (vs.toList.map (ofVal f))) := rfl
     rw [e]; split <;> rfl
   | slice a l cc => cases a with
     | none =>
       have e : ofVal (f + 1) (.slice none l cc) = if (l == 0 && cc == 0) = true then .ns else .x := rfl
       rw [e]; split <;> rfl
     | some _ => rfl
   | pointer a => cases a <;> rfl
   | map a => cases a <;> rfl
   | _ => rfl
theorem packB_mem {f : Nat} {xs : List Value} (v : V) : v ∈ xs.map (ofVal f) → byteOf v = none → v ∈ packB (xs.map (ofVal f)) := by
 intro h hb
 refine packB_mem' _ v h hb fun a b e => ?_
 obtain ⟨x, _, hx⟩ := List.mem_map.1 h
 have := ofVal_flat f x
 rw [hx, e] at this
 cases this
theorem one_cell {v : V} (h : (wfb v).k = true) (hf : flatV v = true) : (wfb v).v = true ∧ chv L v = [val L v] := by
 cases v <;> first | exact ⟨h, rfl⟩ | (cases hf; done) | (cases h; done)
theorem flat_each (f : Nat) : ∀ l : List Value, (∀ x ∈ l, chv L (ofVal f x) = [x]) → (l.map (ofVal f)).flatMap (chv L) = l
 | [], _ => rfl
 | x :: r, h => by
   rw [List.map_cons, List.flatMap_cons, h x (List.mem_cons_self ..), flat_each f r fun y hy => h y (List.mem_cons_of_mem _ hy)]; rfl
theorem ofVal_spec : ∀ (f : Nat) (v : Value), (wfb (ofVal f v)).v = true → val L (ofVal f v) = v := by
 intro f
 induction f with
 | zero => intro v h; cases h
 | succ f ih =>
   intro v h
   have sc : ∀ l : List Value, (∀ v ∈ l.map (ofVal f), (wfb v).v = true) → (l.map (ofVal f)).map (val L) = l := by
    intro l hl
    rw [List.map_map]
    conv => rhs; rw [← List.map_id l]
    apply List.map_congr_left
    intro x hx
    exact ih x (hl _ (List.mem_map_of_mem hx))
   cases v with
   | bool z => rfl
   | int k n =>
     simp only [ofVal] at h ⊢
     split at h
     · rename_i hw; rw [if_pos hw]; exact iv_toU k n hw
     · cases h
   | string s =>
     show Value.string ⟨(bytesL s.size (strN s)).toArray⟩ = _
     have : bytesL s.size (strN s) = s.data.toList := by
      have := strN_bytes s.data.toList
      have e : s.data.toList.length = s.size := Array.length_toList
      rw [e] at this; exact this
     rw [this]
   | pointer a => cases a with
     | none => rfl
     | some a => cases h
   | slice a l cc => cases a with
     | none =>
       have e : ofVal (f + 1) (.slice none l cc) = if (l == 0 && cc == 0) = true then .ns else .x := rfl
       rw [e] at h ⊢
       split at h
       · rename_i hz
         rw [if_pos hz]
         rw [Bool.and_eq_true, beq_iff_eq, beq_iff_eq] at hz
         rw [hz.1, hz.2]; rfl
       · cases h
     | some a => cases h
   | map r => cases r with
     | none => rfl
     | some r => cases h
   | func fn a b =>
     have h' : (plainB fn && (wfb (chain (a.toList.map (ofVal f)))).s && (wfb (chain (b.toList.map (ofVal f)))).s) = true := h
     rw [Bool.and_eq_true, Bool.and_eq_true] at h'
     show Value.func fn (lsv L (chain (a.toList.map (ofVal f)))).toArray (lsv L (chain (b.toList.map (ofVal f)))).toArray = _
     rw [ls_chain, ls_chain, sc _ ((wfb_chain _).2 h'.1.2), sc _ ((wfb_chain _).2 h'.2)]
   | nilFunc => rfl
   | iface t v =>
     show Value.iface t (val L (ofVal f v)) = _
     rw [ih v h]
   | nilIface => rfl
   | agg cs =>
     have h' : (wfb (chain (packB (cs.toList.map (ofVal f))))).l = true := h
     have hby : okBy (cs.toList.map (ofVal f)) := by
      intro n hn
      obtain ⟨x, _, hx⟩ := List.mem_map.1 hn
      cases f with
      | zero => cases hx
      | succ f =>
        cases x with
        | int k m =>
          have e : ofVal (f + 1) (.int k m) = if (k.wrap m == m) = true then .i (kc k) (toU k m) else .x := rfl
          rw [e] at hx
          split at hx
          · injection hx with h1 h2
            subst h2
            have := toU_lt k m
            cases k <;> first | (cases h1; done) | exact this
          · cases hx
        | agg _ => cases hx
        | tuple vs =>
          have e : ofVal (f + 1) (.tuple vs) = if vs.size = 0 then .u else .tup (chain (vs.toList.map (ofVal f))) := rfl
          rw [e] at hx
          split at hx <;> cases hx
        | slice a l cc => cases a with
          | none =>
            have e : ofVal (f + 1) (.slice none l cc) = if (l == 0 && cc == 0) = true then .ns else .x := rfl
            rw [e] at hx
            split at hx <;> cases hx
          | some _ => cases hx
        | pointer a => cases a <;> cases hx
        | map a => cases a <;> cases hx
        | _ => cases hx
     obtain ⟨h1, h2⟩ := packB_cells L _ hby
     have hk := (wfb_chain _).1 h'
     show Value.agg (fit cs.size (lcv L (chain (packB (cs.toList.map (ofVal f)))))).toArray = _
     have hcells : lcv L (chain (packB (cs.toList.map (ofVal f)))) = cs.toList := by
      rw [lc_chain, h1]
      have each : ∀ x ∈ cs.toList, chv L (ofVal f x) = [x] := by
       intro x hx
       have hk1 : (wfb (ofVal f x)).k = true := by
        cases hb : byteOf (ofVal f x) with
        | none => exact hk _ (packB_mem _ (List.mem_map_of_mem hx) hb)
        | some n =>
          have e := byteOf_some hb
          have hn := hby n (e ▸ List.mem_map_of_mem hx)
          rw [e]
          show (decide (n < 2 ^ 8) && decide (4 < 8)) = true
          simp [hn]
       have hv : (wfb (ofVal f x)).v = true ∧ chv L (ofVal f x) = [val L (ofVal f x)] := one_cell L hk1 (ofVal_flat f x)
       rw [hv.2, ih x hv.1]
      exact flat_each L f _ each
     rw [hcells, fit_self (by simp)]
   | tuple vs =>
     have e : ofVal (f + 1) (.tuple vs) = if vs.size = 0 then .u else .tup (chain (vs.toList.map (ofVal f))) := rfl
     rw [e] at h ⊢
     split at h
     · rename_i hz
       rw [if_pos hz]
       have : vs = #[] := Array.eq_empty_of_size_eq_zero hz
       subst this; rfl
     · rename_i hz
       rw [if_neg hz]
       have h' : (wfb (chain (vs.toList.map (ofVal f)))).s = true := h
       show Value.tuple (lsv L (chain (vs.toList.map (ofVal f)))).toArray = _
       rw [ls_chain, sc _ ((wfb_chain _).2 h')]
   | _ => cases h
end
end Go.Ev

namespace Go.Ev
section
variable {P : Program} {L : Loc} {c : Nm → Prop} {e : Ce}
theorem mkSp_spec (L : Loc) (c : Nm → Prop) {cs : V} (w : Nat) (h : (wf c cs).l) : chv L (mkSp cs w) = fit w (lcv L cs) ∧ wd (mkSp cs w) = w ∧ (wf c (mkSp cs w)).k := by
 have e : mkSp cs w = if Bool.and (isOne cs) (Nat.beq (wd (hdC cs)) w) = true then hdC cs else .sp w cs := by
  show (Bool.rec _ _ _ : V) = _
  rw [bool_rec_eq]
 rw [e]
 by_cases h1 : Bool.and (isOne cs) (Nat.beq (wd (hdC cs)) w) = true
 · rw [if_pos h1]
   have h2 : isOne cs = true ∧ Nat.beq (wd (hdC cs)) w = true := by simpa using h1
   cases cs with
   | cons a d =>
     cases d with
     | nil =>
       have hw : wd a = w := Nat.beq_eq ▸ h2.2
       refine ⟨?_, hw, h.1⟩
       show chv L a = fit w (chv L a ++ [])
       rw [List.append_nil, fit_self (by rw [ch_length, hw])]
     | _ => exact absurd h2.1 (by simp [isOne, isNil])
   | _ => exact absurd h2.1 (by simp [isOne])
 · rw [if_neg h1]; exact ⟨rfl, rfl, h⟩
theorem isSc_spec {v : V} (h : isSc v = true) : v ≠ .x ∧ (∀ L, chv L v = [val L v]) ∧ (∀ c, (wf c v).v → (wf c v).k) ∧ wd v = 1 ∧ (∀ L, (val L v).cells = #[val L v]) := by
 cases v <;> first | (cases h; done) | exact ⟨by simp, fun _ => rfl, fun _ h => h, rfl, fun _ => rfl⟩ | exact ⟨by simp, fun _ => rfl, fun _ h => h, rfl, fun L => by show (endSl _ _ _ _).cells = #[endSl _ _ _ _]; unfold endSl; split <;> rfl⟩
theorem toCk_good {agg : Bool} {w : Nat} {v : V} {q : V → R} (h : (toCk agg w v q).Good) :
 v ≠ .x ∧ ∃ y, toCk agg w v q = q y ∧ ((wf c v).v → chv L y = (val L v).cells.toList ∧ (wf c y).k ∧ wd y = if agg = true then w else 1) := by
 cases agg
 · obtain ⟨h1, h2⟩ := rec_good (z := isSc v) h
   obtain ⟨h3, h4, h5, h6, h7⟩ := isSc_spec h1
   exact ⟨h3, v, h2, fun hw => ⟨by rw [h4, h7], h5 c hw, h6⟩⟩
 · obtain ⟨w', cs, rfl, h2⟩ := asAgg_good h
   have hg := good_of h2 h
   obtain ⟨h3, h4⟩ := rec_good hg
   rw [Nat.beq_eq] at h3
   subst h3
   refine ⟨by simp, mkSp cs w', h2.trans h4, fun hw => ?_⟩
   have := mkSp_spec L c w' (cs := cs) hw
   exact ⟨this.1, this.2.2, this.2.1⟩
theorem foldl_set (off : Nat) : ∀ (vs : List Value) (s : Nat) (cs : Array Value), off + s + vs.length ≤ cs.size →
 ((vs.zipIdx s).foldl (fun cs (p : Value × Nat) => cs.setIfInBounds (off + p.2) p.1) cs).toList = cs.toList.take (off + s) ++ vs ++ cs.toList.drop (off + s + vs.length)
 | [], s, cs, h => by simp
 | v :: vs, s, cs, h => by
   rw [List.zipIdx_cons, List.foldl_cons]
   rw [foldl_set off vs (s + 1) _ (by simp at h ⊢; omega)]
   simp only [List.length_cons] at h
   rw [Array.toList_setIfInBounds]
   apply List.ext_getElem?
   intro i
   simp only [List.getElem?_append, List.length_append, List.length_take, List.length_set, List.length_cons, Array.length_toList]
   have hl : min (off + (s + 1)) cs.size = off + (s + 1) := Nat.min_eq_left (by omega)
   have hl2 : min (off + s) cs.size = off + s := Nat.min_eq_left (by omega)
   rw [hl, hl2]
   by_cases h1 : i < off + s
   · have h2 : i < off + (s + 1) := by omega
     have h3 : i < off + (s + 1) + vs.length := by omega
     have h4 : i < off + s + (vs.length + 1) := by omega
     simp only [h1, h2, h3, h4, if_true]
     rw [List.getElem?_take, List.getElem?_take, if_pos h2, if_pos h1, List.getElem?_set_ne (by omega)]
   · by_cases h2 : i = off + s
     · subst h2
       have h3 : off + s < off + (s + 1) := by omega
       have h4 : off + s < off + (s + 1) + vs.length := by omega
       have h5 : off + s < off + s + (vs.length + 1) := by omega
       have h6 : ¬ (off + s < off + s) := by omega
       simp only [h3, h4, h5, h6, if_true, if_false, Nat.sub_self, List.getElem?_cons_zero]
       rw [List.getElem?_take, if_pos h3, List.getElem?_set_self (by simp; omega)]
     · have h3 : ¬ i < off + (s + 1) := by omega
       by_cases h4 : i < off + (s + 1) + vs.length
       · have h5 : i < off + s + (vs.length + 1) := by omega
         simp only [h1, h3, h4, h5, if_true, if_false]
         have : i - (off + s) = (i - (off + (s + 1))) + 1 := by omega
         rw [this, List.getElem?_cons_succ]
       · have h5 : ¬ i < off + s + (vs.length + 1) := by omega
         simp only [h4, h5, if_false]
         rw [List.getElem?_drop, List.getElem?_drop, List.getElem?_set_ne (by omega)]
         congr 1; omega
theorem fill_put (off : Nat) (vs cs : Array Value) (h : off + vs.size ≤ cs.size) :
 (vs.zipIdx.foldl (fun cs (p : Value × Nat) => cs.setIfInBounds (off + p.2) p.1) cs).toList = cs.toList.take off ++ (vs.toList ++ cs.toList.drop (off + vs.size)) := by
 have := foldl_set off vs.toList 0 cs (by simpa using h)
 simp only [Nat.add_zero, Array.length_toList] at this
 rw [← List.append_assoc, ← this]
 congr 1
 rw [← Array.foldl_toList]
 simp
theorem hParts_good {place : Nat → Option (Nat × TypeId)} {pl : Nat → Option (Nat × Nat)} {w : Nat} (hpl : ∀ i o t, place i = some (o, t) → pl i = some (o, szT P t))
 {a : Act} {ns : List V} {T : T} (hm : Mat L c e a ns T) : ∀ (l : List (Nat × Operand)) (ps : List Prt) (cs : V) (cells : Array Value) (q : V → R),
 cParts P place (cOpd e) l w = some ps → (wf c cs).l → cells.toList = fit w (lcv L cs) → (hParts ps ns T cs q).Good →
 ∃ cs' cells', hParts ps ns T cs q = q cs' ∧ (wf c cs').l ∧ Instr.fill pl cells (l.map fun p => (p.1, a.eval p.2)) = some cells' ∧ cells'.toList = fit w (lcv L cs') := by
 intro l
 induction l with
 | nil =>
   intro ps cs cells q hps hw hc hg
   simp only [cParts, Option.some.injEq] at hps
   subst hps
   exact ⟨cs, cells, rfl, hw, rfl, hc⟩
 | cons p r ih =>
   intro ps cs cells q hps hw hc hg
   obtain ⟨i, x⟩ := p
   simp only [cParts] at hps
   cases hp : place i with
   | none => rw [hp] at hps; cases hps
   | some ot =>
     obtain ⟨o, t⟩ := ot
     rw [hp] at hps
     simp only at hps
     split at hps
     · rename_i hk
       rw [Bool.and_eq_true, Bool.and_eq_true, decide_eq_true_eq, decide_eq_true_eq] at hk
       obtain ⟨⟨hok, hpos⟩, hle⟩ := hk
       cases hr : cParts P place (cOpd e) r w with
       | none => rw [hr] at hps; cases hps
       | some l' =>
         rw [hr] at hps
         simp only [Option.some.injEq] at hps
         subst hps
         have hg' : (toCk (isAggT P t) (szT P t) (ev (cOpd e x) ns T) (fun y => hParts l' ns T (setC cs o (szT P t) y) q)).Good := hg
         obtain ⟨hx, y, h1, h2⟩ := toCk_good (L := L) (c := c) hg'
         have hg1 := good_of h1 hg'
         have vx := hm x hx
         obtain ⟨h3, h4, h5⟩ := h2 vx.2
         have hwd : wd y = szT P t := by
          rw [h5]
          cases hz : isAggT P t
          · simp [(okT_spec hok).2.2 hz]
          · simp
         have hs := (setC_spec L c h4 hwd hpos cs).2 hw o
         have hsz : (a.eval x).cells.size = szT P t := by
          rw [vx.1, ← Array.length_toList, ← h3, ch_length, hwd]
         have hcs : cells.size = w := by rw [← Array.length_toList, hc, fit_length]
         obtain ⟨cs', cells', g1, g2, g3, g4⟩ := ih l' (setC cs o (szT P t) y) ((a.eval x).cells.zipIdx.foldl (fun cs (p : Value × Nat) => cs.setIfInBounds (o + p.2) p.1) cells) q hr hs.2 (by
          rw [fill_put o _ _ (by rw [hsz, hcs]; exact hle), hs.1, hc, fit_put _ _ (by rw [ch_length, hwd]) hle, h3, vx.1, ← vx.1, hsz]) hg1
         refine ⟨cs', cells', h1.trans g1, g2, ?_, g4⟩
         rw [List.map_cons, Instr.fill, hpl i o t hp]
         simp only
         rw [if_neg (by rw [hsz, hcs]; simp; omega)]
         exact g3
     · cases hps
theorem run_mapM {α β : Type} (f : α → Sem β) (g : α → β) (W : World) : ∀ l : List α, (∀ x ∈ l, (f x).run P W = .ok (g x) W) → (l.mapM f).run P W = .ok (l.map g) W
 | [], _ => rfl
 | x :: r, h => by
   have h1 := h x (List.mem_cons_self ..)
   have h2 := run_mapM f g W r fun y hy => h y (List.mem_cons_of_mem _ hy)
   simp [List.mapM_cons, h1, h2]
theorem run_arrMapM {α β : Type} (f : α → Sem β) (g : α → β) (W : World) (l : Array α) (h : ∀ x ∈ l, (f x).run P W = .ok (g x) W) : (l.mapM f).run P W = .ok (l.map g) W := by
 rw [Array.mapM_eq_mapM_toList]
 have := run_mapM f g W l.toList fun x hx => h x (Array.mem_toList_iff.1 hx)
 simp only [Sem.run_map, this, Result.andThen_ok]
 congr 1
 apply Array.ext'; simp
theorem zeroOf_spec {t : TypeId} (h : (wfb (zeroOf P t)).v = true) : ∃ i, P.info? t = some i ∧ i.zero = some (val L (zeroOf P t)) := by
 unfold zeroOf at h ⊢
 cases hi : P.info? t with
 | none => rw [hi] at h; cases h
 | some i =>
   rw [hi] at h
   refine ⟨i, rfl, ?_⟩
   simp only [Option.bind_some] at h ⊢
   cases hz : i.zero with
   | none => rw [hz] at h; cases h
   | some z =>
     rw [hz] at h
     simp only at h ⊢
     rw [ofVal_spec L 4 z h]
theorem run_zeroValue_of {t : TypeId} {i : TypeInfo} {z : Value} (hi : P.info? t = some i) (hz : i.zero = some z) (W : World) : (zeroValue t).run P W = .ok z W := by
 simp [zeroValue, run_typeInfo W hi, hz]
theorem cBuild_sound {o : Oper} {t : TypeId} {ps : Array (Nat × Operand)} (ho : o.op = .build t ps) {f : PH} (hc : cBuild P t (cOpd e) ps.toList = .p f) : PS P L c e o f := by
 unfold cBuild at hc
 cases hz0 : zeroOf P t with
 | agg w z =>
   rw [hz0] at hc
   simp only at hc
   split at hc
   · rename_i hwb
     obtain ⟨i, hi, hiz⟩ := zeroOf_spec (L := L) (P := P) (t := t) (by rw [hz0]; exact hwb)
     rw [hz0] at hiz
     have hwf : (wf c z).l := ((wfb_wf c (.agg w z)).1 hwb)
     have hzc : (val L (.agg w z)).cells.toList = fit w (lcv L z) := by show (fit w (lcv L z)).toArray.toList = _; simp
     cases hu : P.underlying t with
     | none => rw [hu] at hc; cases hc
     | some d =>
     rw [hu] at hc
     cases d with
     | struct fs =>
       simp only at hc
       cases hps : cParts P (fun i => (fs[i]?).map fun f => (f.offset, f.type)) (cOpd e) ps.toList w with
       | none => rw [hps] at hc; cases hc
       | some l =>
         rw [hps] at hc
         simp only at hc
         split at hc
         · rename_i hall
           simp only [Iop.p.injEq] at hc
           subst hc
           intro a ns T k hm hg
           have hplaces : ∀ W, (fs.mapM fun f => do pure (f.offset, ← sizeOf f.type) : Sem _).run P W = .ok (fs.map fun f => (f.offset, szT P f.type)) W := by
            intro W
            refine run_arrMapM _ _ W fs fun f hf => ?_
            have := (Array.all_eq_true_iff_forall_mem.1 hall) f hf
            obtain ⟨j, hj⟩ := Option.isSome_iff_exists.1 this
            simp [run_sizeOf W hj, szT]
           obtain ⟨cs', cells', g1, g2, g3, g4⟩ := hParts_good (L := L) (c := c) (pl := fun i => (fs.map fun f => (f.offset, szT P f.type))[i]?) (by
            intro i o t h
            cases hf : fs[i]? with
            | none => rw [hf] at h; cases h
            | some f => rw [hf] at h; cases h; simp [hf]) hm ps.toList l z (val L (.agg w z)).cells _ hps hwf hzc hg
           refine ⟨.agg w cs', g2, g1, fun W => ?_⟩
           have e1 : (ps.map fun (p : Nat × Operand) => (p.1, a.eval p.2)).toList = ps.toList.map fun p => (p.1, a.eval p.2) := by simp
           have e2 : val L (.agg w cs') = .agg cells' := by
            show Value.agg (fit w (lcv L cs')).toArray = _
            rw [← g4]
           rw [e2]
           simp only [execOp, ho, Instr.build, Sem.run_bind, run_zeroValue_of hi hiz, Result.andThen_ok, run_underlying hu, hplaces]
           rw [e1, g3]; rfl
         · cases hc
     | array n el =>
       simp only at hc
       cases hps : cParts P (fun i => some (i * szT P el, el)) (cOpd e) ps.toList w with
       | none => rw [hps] at hc; cases hc
       | some l =>
         rw [hps] at hc
         simp only at hc
         split at hc
         · rename_i hall
           simp only [Iop.p.injEq] at hc
           subst hc
           intro a ns T k hm hg
           obtain ⟨j, hj⟩ := Option.isSome_iff_exists.1 hall
           obtain ⟨cs', cells', g1, g2, g3, g4⟩ := hParts_good (L := L) (c := c) (pl := fun i => some (i * szT P el, szT P el)) (by
            intro i o t h; cases h; rfl) hm ps.toList l z (val L (.agg w z)).cells _ hps hwf hzc hg
           refine ⟨.agg w cs', g2, g1, fun W => ?_⟩
           have e1 : (ps.map fun (p : Nat × Operand) => (p.1, a.eval p.2)).toList = ps.toList.map fun p => (p.1, a.eval p.2) := by simp
           have e2 : val L (.agg w cs') = .agg cells' := by
            show Value.agg (fit w (lcv L cs')).toArray = _
            rw [← g4]
           rw [e2]
           have hsz : (sizeOf el).run P W = .ok (szT P el) W := run_sizeOf W hj
           simp only [execOp, ho, Instr.build, Sem.run_bind, run_zeroValue_of hi hiz, Result.andThen_ok, run_underlying hu, hsz]
           rw [e1, g3]; rfl
         · cases hc
     | _ => cases hc
   · cases hc
 | _ => rw [hz0] at hc; cases hc
end
end Go.Ev

namespace Go.Ev
section
variable {P : Program} {L : Loc} {c : Nm → Prop} {e : Ce}
theorem run_builtin {o : Oper} {cl : Call} {b : Builtin} (ho : o.op = .call cl) (hb : cl.callee = .builtin b) (ρ : Operand → Value) (W : World) :
 (execOp ρ o).run P W = (builtin b cl.argTypes o.type (cl.args.map fun | .const _ => true | _ => false) (cl.args.map ρ)).run P W := by
 simp [execOp, ho, resolve, hb, invoke]; rfl
theorem arr_one {α : Type} {x : Array α} {a : α} (h : x.toList = [a]) : x = #[a] := by apply Array.ext'; rw [h]
theorem arr_two {α : Type} {x : Array α} {a b : α} (h : x.toList = [a, b]) : x = #[a, b] := by apply Array.ext'; rw [h]
theorem map_one {α β : Type} {f : α → β} {l : List α} {y : β} (h : l.map f = [y]) : ∃ x, l = [x] ∧ f x = y := by
 cases l with
 | nil => cases h
 | cons x r => cases r with
   | nil => injection h with h; exact ⟨x, rfl, h⟩
   | cons _ _ => cases h
theorem goInt_val (L : Loc) {n : Nat} (h : n < 9223372036854775808) : goInt n = val L (.i 3 n) ∧ (∀ c, (wf c (.i 3 n)).v) := by
 refine ⟨?_, fun c => ⟨Nat.lt_of_lt_of_le h (by decide), by decide⟩⟩
 show Value.int .i64 (n : Int) = Value.int .i64 (IntKind.i64.wrap n)
 rw [wrap_val .i64 (show n < 2 ^ 64 from Nat.lt_of_lt_of_le h (by decide)), if_neg]
 rintro ⟨_, h2⟩
 have : (2 : Nat) ^ (IntKind.i64.bits - 1) = 9223372036854775808 := by decide
 omega
theorem lenI_good {n : Nat} {k : K1} (h : (lenI n k).Good) : lenI n k = k (.i 3 n) ∧ n < 9223372036854775808 := by
 obtain ⟨h1, h2⟩ := rec_good (z := lt n 9223372036854775808) h
 exact ⟨h2, (lt_iff _ _).1 h1⟩
theorem lenV_good {v : V} {k : K1} (h : (lenV v k).Good) : ∃ n, lenV v k = k (.i 3 n) ∧ n < 9223372036854775808 ∧ v ≠ .x ∧ (∀ L, ∃ a cap, val L v = .slice a n cap) := by
 cases v with
 | sl b o l cc => obtain ⟨h1, h2⟩ := lenI_good (n := l) h; exact ⟨_, h1, h2, by simp, fun L => ⟨_, _, rfl⟩⟩
 | so b o l cc => obtain ⟨h1, h2⟩ := lenI_good (n := cc) h; exact ⟨_, h1, h2, by simp, fun L => ⟨_, _, rfl⟩⟩
 | se b o cc =>
   obtain ⟨h1, h2⟩ := lenI_good (n := 0) h
   refine ⟨_, h1, h2, by simp, fun L => ?_⟩
   show ∃ a cap, endSl (L.b b) o cc (L.k b) = .slice a 0 cap
   unfold endSl
   split <;> exact ⟨_, _, rfl⟩
 | ns => obtain ⟨h1, h2⟩ := lenI_good (n := 0) h; exact ⟨_, h1, h2, by simp, fun L => ⟨_, _, rfl⟩⟩
 | _ => exact (bad_good h).elim
theorem capV_good {v : V} {k : K1} (h : (capV v k).Good) : ∃ n, capV v k = k (.i 3 n) ∧ n < 9223372036854775808 ∧ v ≠ .x ∧ (∀ L, (∃ a l, val L v = .slice a l n)) := by
 cases v with
 | sl b o l cc => obtain ⟨h1, h2⟩ := lenI_good (n := cc) h; exact ⟨_, h1, h2, by simp, fun L => ⟨_, _, rfl⟩⟩
 | ns => obtain ⟨h1, h2⟩ := lenI_good (n := 0) h; exact ⟨_, h1, h2, by simp, fun L => ⟨_, _, rfl⟩⟩
 | _ => exact (bad_good h).elim
section
variable {o : Oper} {cl : Call} {x y : Operand} {t u : TypeId}
theorem PS.len (ho : o.op = .call cl) (hb : cl.callee = .builtin .len) (hx : cl.args = #[x]) (ht : cl.argTypes = #[t])
 {el : TypeId} (hu : P.underlying t = some (.slice el)) : PS P L c e o (hLen (cOpd e x)) := by
 intro a ns T k hm hg
 obtain ⟨n, h1, h2, h3, h4⟩ := lenV_good hg
 have vx := hm x h3
 have hi := goInt_val L h2
 refine ⟨.i 3 n, hi.2 c, h1, fun W => ?_⟩
 obtain ⟨b, cap, h5⟩ := h4 L
 rw [run_builtin ho hb, hx, ht]
 simp [builtin, Builtin.len_, run_underlying hu, vx.1, h5, hi.1]
theorem PS.lenS (ho : o.op = .call cl) (hb : cl.callee = .builtin .len) (hx : cl.args = #[x]) (ht : cl.argTypes = #[t])
 (hu : P.underlying t = some .string) : PS P L c e o (hLenS (cOpd e x)) := by
 intro a ns T k hm hg
 obtain ⟨l, s, hxs, h1⟩ := asS_good hg
 have hg1 := good_of h1 hg
 obtain ⟨h2, h3⟩ := lenI_good hg1
 have vx := hm.at x hxs (by simp)
 have hi := goInt_val L h3
 refine ⟨.i 3 l, hi.2 c, h1.trans h2, fun W => ?_⟩
 have e1 : val L (.s l s) = .string ⟨(bytesL l s).toArray⟩ := rfl
 have e2 : (⟨(bytesL l s).toArray⟩ : ByteArray).size = l := by show (bytesL l s).toArray.size = l; simp [bytesL]
 rw [run_builtin ho hb, hx, ht]
 simp [builtin, Builtin.len_, run_underlying hu, vx.1, e1, e2, hi.1]
theorem PS.lenA (ho : o.op = .call cl) (hb : cl.callee = .builtin .len) (hx : cl.args = #[x]) (ht : cl.argTypes = #[t]) {n : Nat} {el : TypeId}
 (hu : P.underlying t = some (.array n el) ∨ ∃ ar, P.underlying t = some (.pointer ar) ∧ P.underlying ar = some (.array n el)) : PS P L c e o (hConst n) := by
 intro a ns T k hm hg
 obtain ⟨h2, h3⟩ := lenI_good hg
 have hi := goInt_val L h3
 refine ⟨.i 3 n, hi.2 c, h2, fun W => ?_⟩
 rw [run_builtin ho hb, hx, ht]
 rcases hu with hu | ⟨ar, hu, hu2⟩
 · simp [builtin, Builtin.len_, run_underlying hu, hi.1]
 · simp [builtin, Builtin.len_, run_underlying hu, run_underlying hu2, hi.1]
theorem PS.cap (ho : o.op = .call cl) (hb : cl.callee = .builtin .cap) (hx : cl.args = #[x]) (ht : cl.argTypes = #[t])
 {el : TypeId} (hu : P.underlying t = some (.slice el)) : PS P L c e o (hCap (cOpd e x)) := by
 intro a ns T k hm hg
 obtain ⟨n, h1, h2, h3, h4⟩ := capV_good hg
 have vx := hm x h3
 have hi := goInt_val L h2
 refine ⟨.i 3 n, hi.2 c, h1, fun W => ?_⟩
 obtain ⟨b, cap, h5⟩ := h4 L
 rw [run_builtin ho hb, hx, ht]
 simp [builtin, Builtin.cap_, run_underlying hu, vx.1, h5, hi.1]
theorem PS.capA (ho : o.op = .call cl) (hb : cl.callee = .builtin .cap) (hx : cl.args = #[x]) (ht : cl.argTypes = #[t]) {n : Nat} {el : TypeId}
 (hu : P.underlying t = some (.array n el)) : PS P L c e o (hConst n) := by
 intro a ns T k hm hg
 obtain ⟨h2, h3⟩ := lenI_good hg
 have hi := goInt_val L h3
 refine ⟨.i 3 n, hi.2 c, h2, fun W => ?_⟩
 rw [run_builtin ho hb, hx, ht]
 simp [builtin, Builtin.cap_, run_underlying hu, hi.1]
theorem PS.mm (ho : o.op = .call cl) {b : Builtin} (hb : cl.callee = .builtin b) (hx : cl.args = #[x, y]) {kd : IntKind} {f : Nat → Nat → Nat} (hf : ∀ a b, a < 2 ^ kd.bits → b < 2 ^ kd.bits → f a b < 2 ^ kd.bits)
 (h : ∀ (n m : Nat) W, n < 2 ^ kd.bits → m < 2 ^ kd.bits → (builtin b cl.argTypes o.type (cl.args.map fun | .const _ => true | _ => false) #[.int kd (kd.wrap n), .int kd (kd.wrap m)]).run P W = .ok (.value (.int kd (kd.wrap (f n m)))) W) :
 PS P L c e o (hArith (kc kd) f (cOpd e x) (cOpd e y)) :=
 PS.int2 hf fun ρ n m W hn hm hx' hy' => by
  rw [run_builtin ho hb, hx]
  have := h n m W hn hm
  rw [hx] at this
  simpa [hx', hy'] using this
theorem bytesL_app (l s l' s' : Nat) (h : s < 2 ^ (8 * l)) : bytesL (l + l') (s + s' <<< (8 * l)) = bytesL l s ++ bytesL l' s' := by
 have hb : ∀ j, byteAt (s + s' <<< (8 * l)) j = if j < l then byteAt s j else byteAt s' (j - l) := by
  intro j
  rw [byteAt_eq, byteAt_eq, byteAt_eq, Nat.shiftLeft_eq, Nat.mul_comm]
  by_cases hj : j < l
  · rw [if_pos hj]
    have e1 : 2 ^ (8 * l) = 2 ^ (8 * j) * (256 * 2 ^ (8 * (l - j) - 8)) := by
     rw [show (256 : Nat) = 2 ^ 8 by rfl, ← Nat.pow_add, ← Nat.pow_add]; congr 1; omega
    rw [e1, Nat.mul_assoc, Nat.add_mul_div_left _ _ (Nat.two_pow_pos _), Nat.mul_assoc, Nat.add_mul_mod_self_left]
  · rw [if_neg hj]
    have e1 : 2 ^ (8 * j) = 2 ^ (8 * l) * 2 ^ (8 * (j - l)) := by rw [← Nat.pow_add]; congr 1; omega
    rw [e1, ← Nat.div_div_eq_div_mul, Nat.add_mul_div_left _ _ (Nat.two_pow_pos _), Nat.div_eq_of_lt h, Nat.zero_add]
 unfold bytesL
 apply List.ext_getElem?
 intro i
 simp only [List.getElem?_append, List.getElem?_map, List.length_map, List.length_range]
 by_cases hi : i < l
 · rw [List.getElem?_range (by omega), if_pos hi, List.getElem?_range hi]
   simp [hb, hi]
 · rw [if_neg hi]
   by_cases hi2 : i < l + l'
   · rw [List.getElem?_range hi2, List.getElem?_range (by omega)]
     simp [hb, hi]
   · rw [List.getElem?_eq_none (l := List.range (l + l')) (by simp; omega), List.getElem?_eq_none (l := List.range l') (by simp; omega)]; rfl
theorem str_inj {l s l' s' : Nat} (h : s < 2 ^ (8 * l)) (h' : s' < 2 ^ (8 * l')) (e : bytesL l s = bytesL l' s') : l = l' ∧ s = s' := by
 have hl : l = l' := by have := congrArg List.length e; simpa [bytesL] using this
 subst hl
 refine ⟨rfl, ?_⟩
 apply Nat.eq_of_testBit_eq
 intro i
 have hb : ∀ j, j < l → byteAt s j = byteAt s' j := by
  intro j hj
  have := congrArg (fun z => z[j]?) e
  simp only [bytesL, List.getElem?_map, List.getElem?_range hj, Option.map_some, Option.some.injEq] at this
  have h1 := congrArg UInt8.toNat this
  simpa [UInt8.toNat_ofNat', Nat.mod_eq_of_lt (byteAt_lt _ _)] using h1
 by_cases hi : i < 8 * l
 · have h1 := hb (i / 8) (by omega)
   have h2 : ∀ z, Nat.testBit (byteAt z (i / 8)) (i % 8) = Nat.testBit z i := by
    intro z
    show Nat.testBit (z >>> (8 * (i / 8)) &&& 255) (i % 8) = _
    rw [show (255 : Nat) = 2 ^ 8 - 1 by rfl, Nat.testBit_and, Nat.testBit_shiftRight, Nat.testBit_two_pow_sub_one]
    have : 8 * (i / 8) + i % 8 = i := by omega
    rw [this]; simp [Nat.mod_lt]
   rw [← h2 s, ← h2 s', h1]
 · rw [Nat.testBit_lt_two_pow (Nat.lt_of_lt_of_le h (Nat.pow_le_pow_right (by decide) (by omega))), Nat.testBit_lt_two_pow (Nat.lt_of_lt_of_le h' (Nat.pow_le_pow_right (by decide) (by omega)))]
end
end
end Go.Ev

namespace Go.Ev
section
variable {P : Program} {L : Loc} {c : Nm → Prop} {e : Ce} {o : Oper} {t yt : TypeId} {x y : Operand}
theorem byteArray_app (a b : List UInt8) : (⟨a.toArray⟩ : ByteArray) ++ ⟨b.toArray⟩ = ⟨(a ++ b).toArray⟩ := by
 apply ByteArray.ext; simp
theorem PS.cat (ho : o.op = .binOp .add t x y yt) : PS P L c e o (hCat (cOpd e x) (cOpd e y)) := by
 intro a ns T k hm hg
 obtain ⟨l, s, hx, h1⟩ := asS_good hg
 have hg1 := good_of h1 hg
 obtain ⟨l', s', hy, h2⟩ := asS_good hg1
 have hg2 := good_of h2 hg1
 obtain ⟨h3, h4⟩ := rec_good hg2
 have vx := hm.at x hx (by simp)
 have vy := hm.at y hy (by simp)
 have hlt : l + l' < 9223372036854775808 := (lt_iff _ _).1 h3
 have w1 : s < 2 ^ (8 * l) := vx.2
 have w2 : s' < 2 ^ (8 * l') := vy.2
 refine ⟨.s (l + l') (s + s' <<< (8 * l)), ?_, h1.trans (h2.trans h4), fun W => ?_⟩
 · show s + s' <<< (8 * l) < 2 ^ (8 * (l + l'))
   rw [Nat.shiftLeft_eq, show 8 * (l + l') = 8 * l' + 8 * l by omega, Nat.pow_add]
   have h5 : (s' + 1) * 2 ^ (8 * l) ≤ 2 ^ (8 * l') * 2 ^ (8 * l) := Nat.mul_le_mul_right _ w2
   rw [Nat.add_mul, Nat.one_mul] at h5
   omega
 · have e1 : val L (.s l s) = .string ⟨(bytesL l s).toArray⟩ := rfl
   have e2 : val L (.s l' s') = .string ⟨(bytesL l' s').toArray⟩ := rfl
   have e3 : val L (.s (l + l') (s + s' <<< (8 * l))) = .string (⟨(bytesL l s).toArray⟩ ++ ⟨(bytesL l' s').toArray⟩) := by
    rw [byteArray_app, ← bytesL_app l s l' s' w1]; rfl
   have hs1 : (⟨(bytesL l s).toArray⟩ : ByteArray).size = l := by show (bytesL l s).toArray.size = l; simp [bytesL]
   have hs2 : (⟨(bytesL l' s').toArray⟩ : ByteArray).size = l' := by show (bytesL l' s').toArray.size = l'; simp [bytesL]
   have hnot : ¬ (((l + l' : Nat) : Int) > IntKind.i64.max) := by
    have : IntKind.i64.max = 9223372036854775807 := by decide
    omega
   have hgd : ∀ u v : Operand, (eqGuard .add t u v (.string ⟨(bytesL l s).toArray⟩) (.string ⟨(bytesL l' s').toArray⟩)).run P W = .ok () W := fun _ _ => rfl
   rw [e3]
   simp only [execOp, ho, vx.1, vy.1, e1, e2, Sem.run_bind, hgd, Result.andThen_ok, binOp, Op.stringOp, hs1, hs2, if_neg hnot, Sem.run_pure]
theorem eqK_good {neg : Bool} {n : Nat} {k : K1} (h : (eqK neg n k).Good) : (n = 0 ∧ eqK neg n k = k (.b neg)) ∨ (n = 1 ∧ eqK neg n k = k (.b (!neg))) := by
 match n with
 | 0 => exact .inl ⟨rfl, rfl⟩
 | 1 => exact .inr ⟨rfl, by rw [← notB_eq]; rfl⟩
 | _ + 2 => exact (bad_good h).elim
theorem PS.eq {g : V → V → Nat} {neg : Bool} (ho : o.op = .binOp (if neg then .neq else .eql) t x y yt) (hx : ∀ p q, g p q ≠ 2 → p ≠ .x ∧ q ≠ .x)
 (h : ∀ p q, (wf c p).v → (wf c q).v → ∀ r : Bool, g p q = (if r then 1 else 0) → ∀ W, (eqGuard (if neg then .neq else .eql) t x y (val L p) (val L q)).run P W = .ok () W ∧
  (binOp (if neg then .neq else .eql) t (val L p) (val L q)).run P W = .ok (.bool (if neg then !r else r)) W) : PS P L c e o (hEq g neg (cOpd e x) (cOpd e y)) := by
 intro a ns T k hm hg
 have key : ∀ r : Bool, g (ev (cOpd e x) ns T) (ev (cOpd e y) ns T) = (if r then 1 else 0) → hEq g neg (cOpd e x) (cOpd e y) ns T k = k (.b (if neg then !r else r)) →
  ∃ v, (wf c v).v ∧ hEq g neg (cOpd e x) (cOpd e y) ns T k = k v ∧ ∀ w, (execOp a.eval o).run P w = .ok (.value (val L v)) w := by
  intro r hr h1
  have hne := hx (ev (cOpd e x) ns T) (ev (cOpd e y) ns T) (by rw [hr]; cases r <;> decide)
  have vx := hm x hne.1
  have vy := hm y hne.2
  refine ⟨.b (if neg then !r else r), trivial, h1, fun W => ?_⟩
  obtain ⟨h2, h3⟩ := h _ _ vx.2 vy.2 r hr W
  simp only [execOp, ho, vx.1, vy.1, Sem.run_bind, h2, h3, Result.andThen_ok, Sem.run_pure]
  rfl
 rcases eqK_good (n := g (ev (cOpd e x) ns T) (ev (cOpd e y) ns T)) hg with ⟨h1, h2⟩ | ⟨h1, h2⟩
 · exact key false (by rw [h1]; rfl) (by cases neg <;> exact h2)
 · exact key true (by rw [h1]; rfl) (by cases neg <;> exact h2)
theorem eq_run {neg : Bool} {u' v' : Value} {r : Bool} {W : World} (hb : ∀ ng : Bool, binOp (if ng then .neq else .eql) t u' v' = (if ng then (do pure (.bool (!(← Op.equal t u' v')))) else (do pure (.bool (← Op.equal t u' v')))))
 (h : ∀ d, (Op.equalIn (d + 1) t u' v').run P W = .ok r W) : (binOp (if neg then .neq else .eql) t u' v').run P W = .ok (.bool (if neg then !r else r)) W := by
 rw [hb]
 have h' : (Op.equal t u' v').run P W = .ok r W := h 9999
 cases neg <;> simp [h']
theorem cEq_split {g : V → V → Nat} {op : BinOp} {f : PH} {p q : Opnd} (h : cEq g op p q = .p f) : ∃ neg : Bool, op = (if neg then .neq else .eql) ∧ f = hEq g neg p q := by
 cases op <;> simp only [cEq, Iop.p.injEq, reduceCtorEq] at h
 · exact ⟨false, rfl, h.symm⟩
 · exact ⟨true, rfl, h.symm⟩
theorem one_zero {r : Bool} {n : Nat} (h : n = if r then 1 else 0) : r = decide (n = 1) := by
 cases r <;> simp_all
theorem cBinS_sound {op : BinOp} (ho : o.op = .binOp op t x y yt) {f : PH} (hc : cBinS op (cOpd e x) (cOpd e y) = .p f) : PS P L c e o f := by
 have hadd : ∀ h : op = .add, PS P L c e o f := by
  rintro rfl
  simp only [cBinS, Iop.p.injEq] at hc
  subst hc; exact PS.cat ho
 by_cases ha : op = .add
 · exact hadd ha
 have hc' : cEq eqStr op (cOpd e x) (cOpd e y) = .p f := by cases op <;> first | exact hc | exact absurd rfl ha
 obtain ⟨neg, rfl, rfl⟩ := cEq_split hc'
 refine PS.eq ho (fun p q h => ?_) fun p q hu hv r hr W => ?_
 · cases p <;> cases q <;> first | exact absurd rfl h | exact ⟨by simp, by simp⟩
 · cases p <;> cases q <;> first | (cases r <;> cases hr; done) | skip
   rename_i l s l' s'
   have e0 : eqStr (.s l s) (.s l' s') = if l = l' ∧ s = s' then 1 else 0 := by
    show (Bool.rec 0 1 (Bool.and (Nat.beq l l') (Nat.beq s s')) : Nat) = _
    rw [show (Bool.and (Nat.beq l l') (Nat.beq s s')) = decide (l = l' ∧ s = s') by rw [Bool.eq_iff_iff]; simp]
    by_cases h : l = l' ∧ s = s' <;> simp [h]
   have hr2 : r = decide (l = l' ∧ s = s') := by
    rw [e0] at hr
    by_cases h : l = l' ∧ s = s'
    · rw [if_pos h] at hr; cases r
      · cases hr
      · simp [h]
    · rw [if_neg h] at hr; cases r
      · simp [h]
      · cases hr
   have e1 : ∀ l s, val L (.s l s) = .string ⟨(bytesL l s).toArray⟩ := fun _ _ => rfl
   have e2 : (bytesL l s == bytesL l' s') = r := by
    rw [hr2, Bool.eq_iff_iff, beq_iff_eq, decide_eq_true_eq]
    exact ⟨fun h => str_inj hu hv h, fun h => by rw [h.1, h.2]⟩
   rw [e1, e1]
   refine ⟨by cases neg <;> rfl, ?_⟩
   cases neg <;> simp [binOp, Op.stringOp, e2]
theorem cEqB_sound {op : BinOp} (ho : o.op = .binOp op t x y yt) (hu : P.underlying t = some .bool) {f : PH} (hc : cEq eqB op (cOpd e x) (cOpd e y) = .p f) : PS P L c e o f := by
 obtain ⟨neg, rfl, rfl⟩ := cEq_split hc
 refine PS.eq ho (fun p q h => ?_) fun p q hwu hwv r hr W => ?_
 · cases p <;> cases q <;> first | exact absurd rfl h | exact ⟨by simp, by simp⟩
 · cases p <;> cases q <;> first | (cases r <;> cases hr; done) | skip
   rename_i z z'
   refine ⟨by cases neg <;> rfl, ?_⟩
   refine eq_run (fun ng => by cases ng <;> rfl) fun d => ?_
   have e1 : ∀ z, val L (.b z) = .bool z := fun _ => rfl
   have e2 : (z == z') = r := by cases z <;> cases z' <;> cases r <;> first | rfl | cases hr
   rw [e1, e1]
   simp [Op.equalIn, run_underlying hu, e2]
theorem cEqP_sound {op : BinOp} (ho : o.op = .binOp op t x y yt) {el : TypeId} (hu : P.underlying t = some (.pointer el)) (hz : szT P el ≠ 0) {f : PH} (hc : cEq eqP op (cOpd e x) (cOpd e y) = .p f) : PS P L c e o f := by
 obtain ⟨neg, rfl, rfl⟩ := cEq_split hc
 obtain ⟨i, hi⟩ := info_of_sz hz
 refine PS.eq ho (fun p q h => ?_) fun p q hwu hwv r hr W => ?_
 · cases p <;> cases q <;> first | exact absurd rfl h | exact ⟨by simp, by simp⟩
 · have hsz : (sizeOf el).run P W = .ok (szT P el) W := run_sizeOf W hi
   cases p <;> cases q <;> first | (cases r <;> cases hr; done) | skip
   · rename_i b off b' off'
     refine ⟨by cases neg <;> rfl, ?_⟩
     refine eq_run (fun ng => by cases ng <;> rfl) fun d => ?_
     have e1 : ∀ b off, val L (.p b off) = .pointer (some ⟨L.b b, off, none⟩) := fun _ _ => rfl
     have e0 : eqP (.p b off) (.p b' off') = (Bool.rec 2 (Bool.rec 0 1 (Nat.beq off off')) (Nm.beq b b') : Nat) := rfl
     rw [e0] at hr
     have hb : b = b' := by
      cases hbb : Nm.beq b b'
      · rw [hbb] at hr; cases r <;> cases hr
      · exact (nm_beq _ _).1 hbb
     subst hb
     rw [(nm_beq b b).2 rfl] at hr
     have e2 : (off = off') = (r = true) := by
      apply propext
      cases ho' : Nat.beq off off'
      · rw [ho'] at hr
        have : off ≠ off' := fun h => by rw [h, Nat.beq_refl] at ho'; cases ho'
        cases r
        · simp [this]
        · cases hr
      · rw [ho'] at hr
        rw [Nat.beq_eq] at ho'
        cases r
        · cases hr
        · simp [ho']
     rw [e1, e1]
     have e3 : (sameAddr ⟨L.b b, off, none⟩ ⟨L.b b, off', none⟩).run P W = .ok r W := by
      simp only [sameAddr, beq_self_eq_true, if_true, Sem.run_pure]
      congr 1
      rw [Bool.eq_iff_iff, beq_iff_eq]
      rw [Addr.mk.injEq]
      simp [e2]
     simp [Op.equalIn, run_underlying hu, hsz, hz, e3]
   · refine ⟨by cases neg <;> rfl, eq_run (fun ng => by cases ng <;> rfl) fun d => ?_⟩
     have : r = false := by cases r <;> first | rfl | cases hr
     subst this
     show (Op.equalIn (d + 1) t (.pointer (some _)) (.pointer none)).run P W = _
     simp [Op.equalIn, run_underlying hu]
   · refine ⟨by cases neg <;> rfl, eq_run (fun ng => by cases ng <;> rfl) fun d => ?_⟩
     have : r = false := by cases r <;> first | rfl | cases hr
     subst this
     show (Op.equalIn (d + 1) t (.pointer none) (.pointer (some _))).run P W = _
     simp [Op.equalIn, run_underlying hu]
   · refine ⟨by cases neg <;> rfl, eq_run (fun ng => by cases ng <;> rfl) fun d => ?_⟩
     have : r = true := by cases r <;> first | rfl | cases hr
     subst this
     show (Op.equalIn (d + 1) t (.pointer none) (.pointer none)).run P W = _
     simp [Op.equalIn, run_underlying hu]
theorem cEqS_sound {op : BinOp} (ho : o.op = .binOp op t x y yt) {el : TypeId} (hu : P.underlying t = some (.slice el)) {f : PH} (hc : cEq eqS op (cOpd e x) (cOpd e y) = .p f) : PS P L c e o f := by
 obtain ⟨neg, rfl, rfl⟩ := cEq_split hc
 refine PS.eq ho (fun p q h => ?_) fun p q hwu hwv r hr W => ?_
 · cases p <;> cases q <;> first | exact absurd rfl h | exact ⟨by simp, by simp⟩
 · cases p <;> cases q <;> first | (cases r <;> cases hr; done) | skip
   all_goals
    refine ⟨by cases neg <;> rfl, eq_run (fun ng => by cases ng <;> rfl) fun d => ?_⟩
    cases r <;> first | (cases hr; done) | simp [val, den, Op.equalIn, run_underlying hu]
theorem cEqM_sound {op : BinOp} (ho : o.op = .binOp op t x y yt) {kk el : TypeId} (hu : P.underlying t = some (.map kk el)) {f : PH} (hc : cEq eqM op (cOpd e x) (cOpd e y) = .p f) : PS P L c e o f := by
 obtain ⟨neg, rfl, rfl⟩ := cEq_split hc
 refine PS.eq ho (fun p q h => ?_) fun p q hwu hwv r hr W => ?_
 · cases p <;> cases q <;> first | exact absurd rfl h | exact ⟨by simp, by simp⟩
 · cases p <;> cases q <;> first | (cases r <;> cases hr; done) | skip
   all_goals
    refine ⟨by cases neg <;> rfl, eq_run (fun ng => by cases ng <;> rfl) fun d => ?_⟩
    cases r <;> first | (cases hr; done) | simp [val, den, Op.equalIn, run_underlying hu]
theorem cEqF_sound {op : BinOp} (ho : o.op = .binOp op t x y yt) {ps rs : Array TypeId} {va : Bool} (hu : P.underlying t = some (.func ps rs va)) {f : PH} (hc : cEq eqF op (cOpd e x) (cOpd e y) = .p f) : PS P L c e o f := by
 obtain ⟨neg, rfl, rfl⟩ := cEq_split hc
 refine PS.eq ho (fun p q h => ?_) fun p q hwu hwv r hr W => ?_
 · cases p <;> cases q <;> first | exact absurd rfl h | exact ⟨by simp, by simp⟩
 · cases p <;> cases q <;> first | (cases r <;> cases hr; done) | skip
   all_goals
    refine ⟨by cases neg <;> rfl, eq_run (fun ng => by cases ng <;> rfl) fun d => ?_⟩
    cases r <;> first | (cases hr; done) | simp [val, den, Op.equalIn, run_underlying hu]
theorem cEqI_sound {op : BinOp} (ho : o.op = .binOp op t x y yt) {ms : Array (String × TypeId)} (hu : P.underlying t = some (.interface ms)) (hcst : (isCst x || isCst y) = true) {f : PH} (hc : cEq eqI op (cOpd e x) (cOpd e y) = .p f) : PS P L c e o f := by
 obtain ⟨neg, rfl, rfl⟩ := cEq_split hc
 refine PS.eq ho (fun p q h => ?_) fun p q hwu hwv r hr W => ?_
 · cases p <;> cases q <;> first | exact absurd rfl h | exact ⟨by simp, by simp⟩
 · cases p <;> cases q <;> first | (cases r <;> cases hr; done) | skip
   · rename_i t1 w1 t2 w2
     have e0 : eqI (.ifc t1 w1) (.ifc t2 w2) = (Bool.rec 0 2 (Nat.beq t1 t2) : Nat) := rfl
     rw [e0] at hr
     have hne : t1 ≠ t2 ∧ r = false := by
      cases h : Nat.beq t1 t2
      · rw [h] at hr
        refine ⟨fun h' => ?_, ?_⟩
        · rw [h', Nat.beq_refl] at h; cases h
        · cases r
          · rfl
          · cases hr
      · rw [h] at hr; cases r <;> cases hr
     obtain ⟨hne, rfl⟩ := hne
     refine ⟨by cases neg <;> rfl, eq_run (fun ng => by cases ng <;> rfl) fun d => ?_⟩
     simp [val, den, Op.equalIn, run_underlying hu, hne]
   · refine ⟨by cases neg <;> rfl, eq_run (fun ng => by cases ng <;> rfl) fun d => ?_⟩
     cases r <;> first | (cases hr; done) | simp [val, den, Op.equalIn, run_underlying hu]
   · refine ⟨by cases neg <;> rfl, eq_run (fun ng => by cases ng <;> rfl) fun d => ?_⟩
     cases r <;> first | (cases hr; done) | simp [val, den, Op.equalIn, run_underlying hu]
   · refine ⟨?_, eq_run (fun ng => by cases ng <;> rfl) fun d => ?_⟩
     · have : ∀ op : BinOp, (eqGuard op t x y .nilIface .nilIface).run P W = .ok () W := by
        intro op
        unfold eqGuard
        cases op <;> first | rfl | (cases x <;> cases y <;> first | rfl | (cases hcst; done))
       exact this _
     · cases r <;> first | (cases hr; done) | simp [val, den, Op.equalIn, run_underlying hu]
end
end Go.Ev
