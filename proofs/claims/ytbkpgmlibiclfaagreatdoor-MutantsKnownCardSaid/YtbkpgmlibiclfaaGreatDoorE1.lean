/- An evaluator for closed runs: values, handlers, compiled code. -/
import GoSem.Step
import Derived.KernelRfl
import GoSem.ClaimKeys
import Derived.DeepKeys2
set_option maxRecDepth 4000

namespace Go.Ev
noncomputable section
inductive Nm where
 | h
 | o (n : Nm)
 | i (n : Nm)
def Nm.succ (n : Nm) : Nm := Nm.rec (motive := fun _ => Nm) (.o .h) (fun n _ => .i n) (fun _ ih => .o ih) n
def Nm.beq (a : Nm) : Nm → Bool :=
 Nm.rec (motive := fun _ => Nm → Bool)
  (fun b => Nm.rec (motive := fun _ => Bool) true (fun _ _ => false) (fun _ _ => false) b)
  (fun _ ih b => Nm.rec (motive := fun _ => Bool) false (fun b' _ => ih b') (fun _ _ => false) b)
  (fun _ ih b => Nm.rec (motive := fun _ => Bool) false (fun _ _ => false) (fun b' _ => ih b') b) a
def Nm.ofNatF : Nat → Nat → Nm
 | 0, _ => .h
 | f + 1, n => if n ≤ 1 then .h else if n % 2 = 0 then .o (ofNatF f (n / 2)) else .i (ofNatF f (n / 2))
def Nm.ofNat (n : Nat) : Nm := Nm.ofNatF (n + 1) n
inductive V where
 | x
 | u
 | i (k n : Nat)
 | b (z : Bool)
 | p (a : Nm) (o : Nat)
 | np
 | s (l n : Nat)
 | sl (a : Nm) (o l c : Nat)
 | so (a : Nm) (o e l : Nat)
 | se (a : Nm) (o w : Nat)
 | ns
 | m (a : Nm)
 | nm
 | f (g : Fn) (F C : V)
 | nf
 | yl (a : Nm)
 | ifc (t : Nat) (W : V)
 | ni
 | agg (w : Nat) (W : V)
 | tup (W : V)
 | nil
 | cons (A W : V)
 | bs (l n : Nat)
 | sp (w : Nat) (W : V)
@[simp] def v_cons {α : Type} (d : α) (f0 : V → V → α) (v : V) : α := V.rec (motive := fun _ => α) d d (fun _ _ => d) (fun _ => d) (fun _ _ => d) d (fun _ _ => d) (fun _ _ _ _ => d) (fun _ _ _ _ => d) (fun _ _ _ => d) d (fun _ => d) d (fun _ _ _ _ _ => d) d (fun _ => d) (fun _ _ _ => d) d (fun _ _ _ => d) (fun _ _ => d) d (fun A W _ _ => f0 A W) (fun _ _ => d) (fun _ _ _ => d) v
@[simp] def v_bs_sp {α : Type} (d : α) (f0 : Nat → Nat → α) (f1 : Nat → V → α) (v : V) : α := V.rec (motive := fun _ => α) d d (fun _ _ => d) (fun _ => d) (fun _ _ => d) d (fun _ _ => d) (fun _ _ _ _ => d) (fun _ _ _ _ => d) (fun _ _ _ => d) d (fun _ => d) d (fun _ _ _ _ _ => d) d (fun _ => d) (fun _ _ _ => d) d (fun _ _ _ => d) (fun _ _ => d) d (fun _ _ _ _ => d) f0 (fun w W _ => f1 w W) v
@[simp] def v_x {α : Type} (d : α) (f0 : α) (v : V) : α := V.rec (motive := fun _ => α) f0 d (fun _ _ => d) (fun _ => d) (fun _ _ => d) d (fun _ _ => d) (fun _ _ _ _ => d) (fun _ _ _ _ => d) (fun _ _ _ => d) d (fun _ => d) d (fun _ _ _ _ _ => d) d (fun _ => d) (fun _ _ _ => d) d (fun _ _ _ => d) (fun _ _ => d) d (fun _ _ _ _ => d) (fun _ _ => d) (fun _ _ _ => d) v
@[simp] def v_m {α : Type} (d : α) (f0 : Nm → α) (v : V) : α := V.rec (motive := fun _ => α) d d (fun _ _ => d) (fun _ => d) (fun _ _ => d) d (fun _ _ => d) (fun _ _ _ _ => d) (fun _ _ _ _ => d) (fun _ _ _ => d) d f0 d (fun _ _ _ _ _ => d) d (fun _ => d) (fun _ _ _ => d) d (fun _ _ _ => d) (fun _ _ => d) d (fun _ _ _ _ => d) (fun _ _ => d) (fun _ _ _ => d) v
@[simp] def v_tup {α : Type} (d : α) (f0 : V → α) (v : V) : α := V.rec (motive := fun _ => α) d d (fun _ _ => d) (fun _ => d) (fun _ _ => d) d (fun _ _ => d) (fun _ _ _ _ => d) (fun _ _ _ _ => d) (fun _ _ _ => d) d (fun _ => d) d (fun _ _ _ _ _ => d) d (fun _ => d) (fun _ _ _ => d) d (fun _ _ _ => d) (fun W _ => f0 W) d (fun _ _ _ _ => d) (fun _ _ => d) (fun _ _ _ => d) v
@[simp] def v_agg {α : Type} (d : α) (f0 : Nat → V → α) (v : V) : α := V.rec (motive := fun _ => α) d d (fun _ _ => d) (fun _ => d) (fun _ _ => d) d (fun _ _ => d) (fun _ _ _ _ => d) (fun _ _ _ _ => d) (fun _ _ _ => d) d (fun _ => d) d (fun _ _ _ _ _ => d) d (fun _ => d) (fun _ _ _ => d) d (fun w W _ => f0 w W) (fun _ _ => d) d (fun _ _ _ _ => d) (fun _ _ => d) (fun _ _ _ => d) v
@[simp] def v_s {α : Type} (d : α) (f0 : Nat → Nat → α) (v : V) : α := V.rec (motive := fun _ => α) d d (fun _ _ => d) (fun _ => d) (fun _ _ => d) d f0 (fun _ _ _ _ => d) (fun _ _ _ _ => d) (fun _ _ _ => d) d (fun _ => d) d (fun _ _ _ _ _ => d) d (fun _ => d) (fun _ _ _ => d) d (fun _ _ _ => d) (fun _ _ => d) d (fun _ _ _ _ => d) (fun _ _ => d) (fun _ _ _ => d) v
@[simp] def v_p {α : Type} (d : α) (f0 : Nm → Nat → α) (v : V) : α := V.rec (motive := fun _ => α) d d (fun _ _ => d) (fun _ => d) f0 d (fun _ _ => d) (fun _ _ _ _ => d) (fun _ _ _ _ => d) (fun _ _ _ => d) d (fun _ => d) d (fun _ _ _ _ _ => d) d (fun _ => d) (fun _ _ _ => d) d (fun _ _ _ => d) (fun _ _ => d) d (fun _ _ _ _ => d) (fun _ _ => d) (fun _ _ _ => d) v
@[simp] def v_b {α : Type} (d : α) (f0 : Bool → α) (v : V) : α := V.rec (motive := fun _ => α) d d (fun _ _ => d) f0 (fun _ _ => d) d (fun _ _ => d) (fun _ _ _ _ => d) (fun _ _ _ _ => d) (fun _ _ _ => d) d (fun _ => d) d (fun _ _ _ _ _ => d) d (fun _ => d) (fun _ _ _ => d) d (fun _ _ _ => d) (fun _ _ => d) d (fun _ _ _ _ => d) (fun _ _ => d) (fun _ _ _ => d) v
@[simp] def v_i {α : Type} (d : α) (f0 : Nat → Nat → α) (v : V) : α := V.rec (motive := fun _ => α) d d f0 (fun _ => d) (fun _ _ => d) d (fun _ _ => d) (fun _ _ _ _ => d) (fun _ _ _ _ => d) (fun _ _ _ => d) d (fun _ => d) d (fun _ _ _ _ _ => d) d (fun _ => d) (fun _ _ _ => d) d (fun _ _ _ => d) (fun _ _ => d) d (fun _ _ _ _ => d) (fun _ _ => d) (fun _ _ _ => d) v
@[simp] def v_bs {α : Type} (d : α) (f0 : Nat → Nat → α) (v : V) : α := V.rec (motive := fun _ => α) d d (fun _ _ => d) (fun _ => d) (fun _ _ => d) d (fun _ _ => d) (fun _ _ _ _ => d) (fun _ _ _ _ => d) (fun _ _ _ => d) d (fun _ => d) d (fun _ _ _ _ _ => d) d (fun _ => d) (fun _ _ _ => d) d (fun _ _ _ => d) (fun _ _ => d) d (fun _ _ _ _ => d) f0 (fun _ _ _ => d) v
@[simp] def v_x_b {α : Type} (d : α) (f0 : α) (f1 : Bool → α) (v : V) : α := V.rec (motive := fun _ => α) f0 d (fun _ _ => d) f1 (fun _ _ => d) d (fun _ _ => d) (fun _ _ _ _ => d) (fun _ _ _ _ => d) (fun _ _ _ => d) d (fun _ => d) d (fun _ _ _ _ _ => d) d (fun _ => d) (fun _ _ _ => d) d (fun _ _ _ => d) (fun _ _ => d) d (fun _ _ _ _ => d) (fun _ _ => d) (fun _ _ _ => d) v
@[simp] def v_f {α : Type} (d : α) (f0 : Fn → V → V → α) (v : V) : α := V.rec (motive := fun _ => α) d d (fun _ _ => d) (fun _ => d) (fun _ _ => d) d (fun _ _ => d) (fun _ _ _ _ => d) (fun _ _ _ _ => d) (fun _ _ _ => d) d (fun _ => d) d (fun g F G _ _ => f0 g F G) d (fun _ => d) (fun _ _ _ => d) d (fun _ _ _ => d) (fun _ _ => d) d (fun _ _ _ _ => d) (fun _ _ => d) (fun _ _ _ => d) v
@[simp] def v_sp {α : Type} (d : α) (f0 : Nat → V → α) (v : V) : α := V.rec (motive := fun _ => α) d d (fun _ _ => d) (fun _ => d) (fun _ _ => d) d (fun _ _ => d) (fun _ _ _ _ => d) (fun _ _ _ _ => d) (fun _ _ _ => d) d (fun _ => d) d (fun _ _ _ _ _ => d) d (fun _ => d) (fun _ _ _ => d) d (fun _ _ _ => d) (fun _ _ => d) d (fun _ _ _ _ => d) (fun _ _ => d) (fun w W _ => f0 w W) v
@[simp] def v_ifc {α : Type} (d : α) (f0 : Nat → V → α) (v : V) : α := V.rec (motive := fun _ => α) d d (fun _ _ => d) (fun _ => d) (fun _ _ => d) d (fun _ _ => d) (fun _ _ _ _ => d) (fun _ _ _ _ => d) (fun _ _ _ => d) d (fun _ => d) d (fun _ _ _ _ _ => d) d (fun _ => d) (fun t W _ => f0 t W) d (fun _ _ _ => d) (fun _ _ => d) d (fun _ _ _ _ => d) (fun _ _ => d) (fun _ _ _ => d) v
@[simp] def v_yl {α : Type} (d : α) (f0 : Nm → α) (v : V) : α := V.rec (motive := fun _ => α) d d (fun _ _ => d) (fun _ => d) (fun _ _ => d) d (fun _ _ => d) (fun _ _ _ _ => d) (fun _ _ _ _ => d) (fun _ _ _ => d) d (fun _ => d) d (fun _ _ _ _ _ => d) d f0 (fun _ _ _ => d) d (fun _ _ _ => d) (fun _ _ => d) d (fun _ _ _ _ => d) (fun _ _ => d) (fun _ _ _ => d) v
@[simp] def v_so {α : Type} (d : α) (f0 : Nm → Nat → Nat → Nat → α) (v : V) : α := V.rec (motive := fun _ => α) d d (fun _ _ => d) (fun _ => d) (fun _ _ => d) d (fun _ _ => d) (fun _ _ _ _ => d) f0 (fun _ _ _ => d) d (fun _ => d) d (fun _ _ _ _ _ => d) d (fun _ => d) (fun _ _ _ => d) d (fun _ _ _ => d) (fun _ _ => d) d (fun _ _ _ _ => d) (fun _ _ => d) (fun _ _ _ => d) v
@[simp] def v_sl {α : Type} (d : α) (f0 : Nm → Nat → Nat → Nat → α) (v : V) : α := V.rec (motive := fun _ => α) d d (fun _ _ => d) (fun _ => d) (fun _ _ => d) d (fun _ _ => d) f0 (fun _ _ _ _ => d) (fun _ _ _ => d) d (fun _ => d) d (fun _ _ _ _ _ => d) d (fun _ => d) (fun _ _ _ => d) d (fun _ _ _ => d) (fun _ _ => d) d (fun _ _ _ _ => d) (fun _ _ => d) (fun _ _ _ => d) v
@[simp] def v_nil {α : Type} (d : α) (f0 : α) (v : V) : α := V.rec (motive := fun _ => α) d d (fun _ _ => d) (fun _ => d) (fun _ _ => d) d (fun _ _ => d) (fun _ _ _ _ => d) (fun _ _ _ _ => d) (fun _ _ _ => d) d (fun _ => d) d (fun _ _ _ _ _ => d) d (fun _ => d) (fun _ _ _ => d) d (fun _ _ _ => d) (fun _ _ => d) f0 (fun _ _ _ _ => d) (fun _ _ => d) (fun _ _ _ => d) v
@[simp] def v_ni {α : Type} (d : α) (f0 : α) (v : V) : α := V.rec (motive := fun _ => α) d d (fun _ _ => d) (fun _ => d) (fun _ _ => d) d (fun _ _ => d) (fun _ _ _ _ => d) (fun _ _ _ _ => d) (fun _ _ _ => d) d (fun _ => d) d (fun _ _ _ _ _ => d) d (fun _ => d) (fun _ _ _ => d) f0 (fun _ _ _ => d) (fun _ _ => d) d (fun _ _ _ _ => d) (fun _ _ => d) (fun _ _ _ => d) v
@[simp] def v_nf {α : Type} (d : α) (f0 : α) (v : V) : α := V.rec (motive := fun _ => α) d d (fun _ _ => d) (fun _ => d) (fun _ _ => d) d (fun _ _ => d) (fun _ _ _ _ => d) (fun _ _ _ _ => d) (fun _ _ _ => d) d (fun _ => d) d (fun _ _ _ _ _ => d) f0 (fun _ => d) (fun _ _ _ => d) d (fun _ _ _ => d) (fun _ _ => d) d (fun _ _ _ _ => d) (fun _ _ => d) (fun _ _ _ => d) v
@[simp] def v_nm {α : Type} (d : α) (f0 : α) (v : V) : α := V.rec (motive := fun _ => α) d d (fun _ _ => d) (fun _ => d) (fun _ _ => d) d (fun _ _ => d) (fun _ _ _ _ => d) (fun _ _ _ _ => d) (fun _ _ _ => d) d (fun _ => d) f0 (fun _ _ _ _ _ => d) d (fun _ => d) (fun _ _ _ => d) d (fun _ _ _ => d) (fun _ _ => d) d (fun _ _ _ _ => d) (fun _ _ => d) (fun _ _ _ => d) v
@[simp] def v_ns {α : Type} (d : α) (f0 : α) (v : V) : α := V.rec (motive := fun _ => α) d d (fun _ _ => d) (fun _ => d) (fun _ _ => d) d (fun _ _ => d) (fun _ _ _ _ => d) (fun _ _ _ _ => d) (fun _ _ _ => d) f0 (fun _ => d) d (fun _ _ _ _ _ => d) d (fun _ => d) (fun _ _ _ => d) d (fun _ _ _ => d) (fun _ _ => d) d (fun _ _ _ _ => d) (fun _ _ => d) (fun _ _ _ => d) v
@[simp] def v_np {α : Type} (d : α) (f0 : α) (v : V) : α := V.rec (motive := fun _ => α) d d (fun _ _ => d) (fun _ => d) (fun _ _ => d) f0 (fun _ _ => d) (fun _ _ _ _ => d) (fun _ _ _ _ => d) (fun _ _ _ => d) d (fun _ => d) d (fun _ _ _ _ _ => d) d (fun _ => d) (fun _ _ _ => d) d (fun _ _ _ => d) (fun _ _ => d) d (fun _ _ _ _ => d) (fun _ _ => d) (fun _ _ _ => d) v
@[simp] def v_u {α : Type} (d : α) (f0 : α) (v : V) : α := V.rec (motive := fun _ => α) d f0 (fun _ _ => d) (fun _ => d) (fun _ _ => d) d (fun _ _ => d) (fun _ _ _ _ => d) (fun _ _ _ _ => d) (fun _ _ _ => d) d (fun _ => d) d (fun _ _ _ _ _ => d) d (fun _ => d) (fun _ _ _ => d) d (fun _ _ _ => d) (fun _ _ => d) d (fun _ _ _ _ => d) (fun _ _ => d) (fun _ _ _ => d) v
@[simp] def v_sl_so {α : Type} (d : α) (f0 : Nm → Nat → Nat → Nat → α) (f1 : Nm → Nat → Nat → Nat → α) (v : V) : α := V.rec (motive := fun _ => α) d d (fun _ _ => d) (fun _ => d) (fun _ _ => d) d (fun _ _ => d) f0 f1 (fun _ _ _ => d) d (fun _ => d) d (fun _ _ _ _ _ => d) d (fun _ => d) (fun _ _ _ => d) d (fun _ _ _ => d) (fun _ _ => d) d (fun _ _ _ _ => d) (fun _ _ => d) (fun _ _ _ => d) v
@[simp] def v_m_nm {α : Type} (d : α) (f0 : Nm → α) (f1 : α) (v : V) : α := V.rec (motive := fun _ => α) d d (fun _ _ => d) (fun _ => d) (fun _ _ => d) d (fun _ _ => d) (fun _ _ _ _ => d) (fun _ _ _ _ => d) (fun _ _ _ => d) d f0 f1 (fun _ _ _ _ _ => d) d (fun _ => d) (fun _ _ _ => d) d (fun _ _ _ => d) (fun _ _ => d) d (fun _ _ _ _ => d) (fun _ _ => d) (fun _ _ _ => d) v
@[simp] def v_ifc_ni {α : Type} (d : α) (f0 : Nat → V → α) (f1 : α) (v : V) : α := V.rec (motive := fun _ => α) d d (fun _ _ => d) (fun _ => d) (fun _ _ => d) d (fun _ _ => d) (fun _ _ _ _ => d) (fun _ _ _ _ => d) (fun _ _ _ => d) d (fun _ => d) d (fun _ _ _ _ _ => d) d (fun _ => d) (fun t W _ => f0 t W) f1 (fun _ _ _ => d) (fun _ _ => d) d (fun _ _ _ _ => d) (fun _ _ => d) (fun _ _ _ => d) v
@[simp] def v_p_np {α : Type} (d : α) (f0 : Nm → Nat → α) (f1 : α) (v : V) : α := V.rec (motive := fun _ => α) d d (fun _ _ => d) (fun _ => d) f0 f1 (fun _ _ => d) (fun _ _ _ _ => d) (fun _ _ _ _ => d) (fun _ _ _ => d) d (fun _ => d) d (fun _ _ _ _ _ => d) d (fun _ => d) (fun _ _ _ => d) d (fun _ _ _ => d) (fun _ _ => d) d (fun _ _ _ _ => d) (fun _ _ => d) (fun _ _ _ => d) v
@[simp] def v_sl_ns {α : Type} (d : α) (f0 : Nm → Nat → Nat → Nat → α) (f1 : α) (v : V) : α := V.rec (motive := fun _ => α) d d (fun _ _ => d) (fun _ => d) (fun _ _ => d) d (fun _ _ => d) f0 (fun _ _ _ _ => d) (fun _ _ _ => d) f1 (fun _ => d) d (fun _ _ _ _ _ => d) d (fun _ => d) (fun _ _ _ => d) d (fun _ _ _ => d) (fun _ _ => d) d (fun _ _ _ _ => d) (fun _ _ => d) (fun _ _ _ => d) v
@[simp] def v_f_yl {α : Type} (d : α) (f0 : Fn → V → V → α) (f1 : Nm → α) (v : V) : α := V.rec (motive := fun _ => α) d d (fun _ _ => d) (fun _ => d) (fun _ _ => d) d (fun _ _ => d) (fun _ _ _ _ => d) (fun _ _ _ _ => d) (fun _ _ _ => d) d (fun _ => d) d (fun g F G _ _ => f0 g F G) d f1 (fun _ _ _ => d) d (fun _ _ _ => d) (fun _ _ => d) d (fun _ _ _ _ => d) (fun _ _ => d) (fun _ _ _ => d) v
@[simp] def v_agg_sp {α : Type} (d : α) (f0 : Nat → V → α) (f1 : Nat → V → α) (v : V) : α := V.rec (motive := fun _ => α) d d (fun _ _ => d) (fun _ => d) (fun _ _ => d) d (fun _ _ => d) (fun _ _ _ _ => d) (fun _ _ _ _ => d) (fun _ _ _ => d) d (fun _ => d) d (fun _ _ _ _ _ => d) d (fun _ => d) (fun _ _ _ => d) d (fun w W _ => f0 w W) (fun _ _ => d) d (fun _ _ _ _ => d) (fun _ _ => d) (fun w W _ => f1 w W) v
@[simp] def v_nil_cons {α : Type} (d : α) (f0 : α) (f1 : V → V → α) (v : V) : α := V.rec (motive := fun _ => α) d d (fun _ _ => d) (fun _ => d) (fun _ _ => d) d (fun _ _ => d) (fun _ _ _ _ => d) (fun _ _ _ _ => d) (fun _ _ _ => d) d (fun _ => d) d (fun _ _ _ _ _ => d) d (fun _ => d) (fun _ _ _ => d) d (fun _ _ _ => d) (fun _ _ => d) f0 (fun A W _ _ => f1 A W) (fun _ _ => d) (fun _ _ _ => d) v
@[simp] def v_so_ns {α : Type} (d : α) (f0 : Nm → Nat → Nat → Nat → α) (f1 : α) (v : V) : α := V.rec (motive := fun _ => α) d d (fun _ _ => d) (fun _ => d) (fun _ _ => d) d (fun _ _ => d) (fun _ _ _ _ => d) f0 (fun _ _ _ => d) f1 (fun _ => d) d (fun _ _ _ _ _ => d) d (fun _ => d) (fun _ _ _ => d) d (fun _ _ _ => d) (fun _ _ => d) d (fun _ _ _ _ => d) (fun _ _ => d) (fun _ _ _ => d) v
@[simp] def v_se {α : Type} (d : α) (f0 : Nm → Nat → Nat → α) (v : V) : α := V.rec (motive := fun _ => α) d d (fun _ _ => d) (fun _ => d) (fun _ _ => d) d (fun _ _ => d) (fun _ _ _ _ => d) (fun _ _ _ _ => d) f0 d (fun _ => d) d (fun _ _ _ _ _ => d) d (fun _ => d) (fun _ _ _ => d) d (fun _ _ _ => d) (fun _ _ => d) d (fun _ _ _ _ => d) (fun _ _ => d) (fun _ _ _ => d) v
@[simp] def v_x_m {α : Type} (d : α) (f0 : α) (f1 : Nm → α) (v : V) : α := V.rec (motive := fun _ => α) f0 d (fun _ _ => d) (fun _ => d) (fun _ _ => d) d (fun _ _ => d) (fun _ _ _ _ => d) (fun _ _ _ _ => d) (fun _ _ _ => d) d f1 d (fun _ _ _ _ _ => d) d (fun _ => d) (fun _ _ _ => d) d (fun _ _ _ => d) (fun _ _ => d) d (fun _ _ _ _ => d) (fun _ _ => d) (fun _ _ _ => d) v
inductive T where
 | e
 | nd (l : T) (v : V) (r : T)
def T.get (p : Nm) : T → V :=
 Nm.rec (motive := fun _ => T → V)
  (fun t => T.rec (motive := fun _ => V) .x (fun _ v _ _ _ => v) t)
  (fun _ ih t => T.rec (motive := fun _ => V) .x (fun l _ _ _ _ => ih l) t)
  (fun _ ih t => T.rec (motive := fun _ => V) .x (fun _ _ r _ _ => ih r) t) p
def T.set (p : Nm) : V → T → T :=
 Nm.rec (motive := fun _ => V → T → T)
  (fun v t => T.rec (motive := fun _ => T) (.nd .e v .e) (fun l _ r _ _ => .nd l v r) t)
  (fun _ ih v t => T.rec (motive := fun _ => T) (.nd (ih v .e) .x .e) (fun l y r _ _ => .nd (ih v l) y r) t)
  (fun _ ih v t => T.rec (motive := fun _ => T) (.nd .e .x (ih v .e)) (fun l y r _ _ => .nd l y (ih v r)) t) p
inductive Blk where
 | no
 | row (el sz n : Nat) (op : Bool) (fz : Nat) (cs : V)
 | map (es : V) (clock : Nat)
 | si (l n pos : Nat)
 | loop (st : Nat) (pend : Option Code) (fid far nt : Nat) (t : T) (ps : List Nat) (as body : Code) (dn : Nm)
 | dfd (open_ : Bool)
inductive H where
 | e
 | nd (l : H) (v : Blk) (r : H)
def H.get (p : Nm) : H → Blk :=
 Nm.rec (motive := fun _ => H → Blk)
  (fun t => H.rec (motive := fun _ => Blk) .no (fun _ v _ _ _ => v) t)
  (fun _ ih t => H.rec (motive := fun _ => Blk) .no (fun l _ _ _ _ => ih l) t)
  (fun _ ih t => H.rec (motive := fun _ => Blk) .no (fun _ _ r _ _ => ih r) t) p
def H.set (p : Nm) : Blk → H → H :=
 Nm.rec (motive := fun _ => Blk → H → H)
  (fun v t => H.rec (motive := fun _ => H) (.nd .e v .e) (fun l _ r _ _ => .nd l v r) t)
  (fun _ ih v t => H.rec (motive := fun _ => H) (.nd (ih v .e) .no .e) (fun l y r _ _ => .nd (ih v l) y r) t)
  (fun _ ih v t => H.rec (motive := fun _ => H) (.nd .e .no (ih v .e)) (fun l y r _ _ => .nd l y (ih v r)) t) p
inductive D where
 | call (fv : V) (args : V)
 | mark (r : Nm)
 | rcvd
inductive R where
 | bad (n : Nat)
 | norm (t : T) (d : List D) (h : H) (c : Nm)
 | ret (t : T) (d : List D) (h : H) (c : Nm)
 | exit (id : Nat) (t : T) (d : List D) (h : H) (c : Nm)
 | panic (ch : V) (t : T) (d : List D) (h : H) (c : Nm)
inductive C where
 | bad (n : Nat)
 | ret (v : V) (h : H) (c : Nm)
 | panic (ch : V) (h : H) (c : Nm)
inductive U where
 | z
 | s (n : U)
def U.ofNat : Nat → U
 | 0 => .z
 | n + 1 => .s (U.ofNat n)
def nth (j : U) : List V → V :=
 U.rec (motive := fun _ => List V → V)
  (fun l => List.rec (motive := fun _ => V) .x (fun a _ _ => a) l)
  (fun _ ih l => List.rec (motive := fun _ => V) .x (fun _ d _ => ih d) l) j
inductive Opnd where
 | n (j : U)
 | t (p : Nm)
 | c (v : V)
def ev (o : Opnd) : List V → T → V := Opnd.rec (motive := fun _ => List V → T → V) (fun j n _ => nth j n) (fun p _ t => T.get p t) (fun v _ _ => v) o
abbrev K1 := V → R
abbrev PH := List V → T → K1 → R
abbrev BH := Blk → List V → T → K1 → R
def asI (v : V) : (Nat → Nat → R) → R := v_i (α := (Nat → Nat → R) → R) (fun _ => .bad 11) (fun k n => fun q => q k n) v
def asB (v : V) : (Bool → R) → R := v_b (α := (Bool → R) → R) (fun _ => .bad 12) (fun z => fun q => q z) v
def asP (v : V) : (Nm → Nat → R) → R := v_p (α := (Nm → Nat → R) → R) (fun _ => .bad 13) (fun a o => fun q => q a o) v
def asS (v : V) : (Nat → Nat → R) → R := v_s (α := (Nat → Nat → R) → R) (fun _ => .bad 14) (fun l n => fun q => q l n) v
def asAgg (v : V) : (Nat → V → R) → R := v_agg (α := (Nat → V → R) → R) (fun _ => .bad 15) (fun w W => fun q => q w W) v
def asTup (v : V) : (V → R) → R := v_tup (α := (V → R) → R) (fun _ => .bad 16) (fun W => fun q => q W) v
def asM (v : V) : (Nm → R) → R := v_m (α := (Nm → R) → R) (fun _ => .bad 18) (fun a => fun q => q a) v
def nx (v : V) : Bool := v_x (α := Bool) (true) (false) v
def wd (v : V) : Nat := v_bs_sp (α := Nat) (1) (fun l _ => l) (fun w _ => w) v
def byteAt (n o : Nat) : Nat := Nat.land (Nat.shiftRight n (Nat.mul 8 o)) 255
def bytesAt (n o m : Nat) : Nat := Nat.mod (Nat.shiftRight n (Nat.mul 8 o)) (Nat.shiftLeft 1 (Nat.mul 8 m))
def bytesPut (n o m j : Nat) : Nat := Nat.xor n (Nat.shiftLeft (Nat.xor (bytesAt n o m) j) (Nat.mul 8 o))
def isZ (n : Nat) : Bool := Nat.beq n 0
def lt (a b : Nat) : Bool := Nat.ble (Nat.succ a) b
def atC (v : V) : Nat → V := V.rec (motive := fun _ => Nat → V)
    (fun _ => .u) (fun _ => .u) (fun k n => fun _ => .i k n) (fun z => fun _ => .b z) (fun a o => fun _ => .p a o) (fun _ => .np) (fun l n => fun _ => .s l n) (fun a o l c => fun _ => .sl a o l c) (fun a o e l => fun _ => .so a o e l) (fun a o w => fun _ => .se a o w) (fun _ => .ns) (fun a => fun _ => .m a) (fun _ => .nm) (fun g F G _ _ => fun _ => .f g F G) (fun _ => .nf) (fun a => fun _ => .yl a) (fun t W _ => fun _ => .ifc t W) (fun _ => .ni) (fun _ _ _ => fun _ => .x) (fun _ _ => fun _ => .x) (fun _ => .u) (fun A _ ihA ihW => fun o => Bool.rec (ihW (Nat.sub o (wd A))) (ihA o) (lt o (wd A))) (fun _ n => fun o => .i 4 (byteAt n o)) (fun _ _ ihW => fun o => ihW o) v
def subC (v : V) : Nat → Nat → V := V.rec (motive := fun _ => Nat → Nat → V)
    (fun _ _ => .nil) (fun _ _ => .u) (fun k n => fun _ _ => .i k n) (fun z => fun _ _ => .b z) (fun a o => fun _ _ => .p a o) (fun _ _ => .np) (fun l n => fun _ _ => .s l n) (fun a o l c => fun _ _ => .sl a o l c) (fun a o e l => fun _ _ => .so a o e l) (fun a o w => fun _ _ => .se a o w) (fun _ _ => .ns) (fun a => fun _ _ => .m a) (fun _ _ => .nm) (fun g F G _ _ => fun _ _ => .f g F G) (fun _ _ => .nf) (fun a => fun _ _ => .yl a) (fun t W _ => fun _ _ => .ifc t W) (fun _ _ => .ni) (fun _ _ _ => fun _ _ => .x) (fun _ _ => fun _ _ => .x) (fun _ _ => .nil) (fun A _ ihA ihW => fun o n => Bool.rec (Bool.rec (ihW (Nat.sub o (wd A)) n) (Bool.rec (Bool.rec (.cons (ihA o (Nat.sub (wd A) o)) (ihW 0 (Nat.sub n (Nat.sub (wd A) o)))) (.cons (ihA o n) .nil) (Nat.ble (Nat.add o n) (wd A))) (.cons A (ihW 0 (Nat.sub n (wd A)))) (Bool.and (isZ o) (Nat.ble (wd A) n))) (lt o (wd A))) .nil (isZ n)) (fun _ n => fun o m => .bs m (bytesAt n o m)) (fun _ _ ihW => fun o m => .sp m (ihW o m)) v
def dropC (v : V) : Nat → V := V.rec (motive := fun _ => Nat → V)
    (fun _ => .nil) (fun _ => .nil) (fun _ _ => fun _ => .nil) (fun _ => fun _ => .nil) (fun _ _ => fun _ => .nil) (fun _ => .nil) (fun _ _ => fun _ => .nil) (fun _ _ _ _ => fun _ => .nil) (fun _ _ _ _ => fun _ => .nil) (fun _ _ _ => fun _ => .nil) (fun _ => .nil) (fun _ => fun _ => .nil) (fun _ => .nil) (fun _ _ _ _ _ => fun _ => .nil) (fun _ => .nil) (fun _ => fun _ => .nil) (fun _ _ _ => fun _ => .nil) (fun _ => .nil) (fun _ _ _ => fun _ => .nil) (fun _ _ => fun _ => .nil) (fun _ => .nil) (fun A W _ ihW => fun o => Bool.rec (Bool.rec (ihW (Nat.sub o (wd A))) (.cons (subC A o (Nat.sub (wd A) o)) W) (lt o (wd A))) (.cons A W) (isZ o)) (fun _ _ => fun _ => .nil) (fun _ _ _ => fun _ => .nil) v
def putB (y : V) : Nat → Nat → Nat → Nat → V := V.rec (motive := fun _ => Nat → Nat → Nat → Nat → V)
    (fun L N j q => .sp L (.cons (.bs j (bytesAt N 0 j)) (.cons (.x) (.cons (.bs (Nat.sub L (Nat.add j q)) (bytesAt N (Nat.add j q) (Nat.sub L (Nat.add j q)))) .nil)))) (fun L N j q => .sp L (.cons (.bs j (bytesAt N 0 j)) (.cons (.u) (.cons (.bs (Nat.sub L (Nat.add j q)) (bytesAt N (Nat.add j q) (Nat.sub L (Nat.add j q)))) .nil)))) (fun k n => fun L N j q => Bool.rec (.sp L (.cons (.bs j (bytesAt N 0 j)) (.cons (.i k n) (.cons (.bs (Nat.sub L (Nat.add j q)) (bytesAt N (Nat.add j q) (Nat.sub L (Nat.add j q)))) .nil)))) (.bs L (bytesPut N j 1 n)) (Nat.beq k 4)) (fun z => fun L N j q => .sp L (.cons (.bs j (bytesAt N 0 j)) (.cons (.b z) (.cons (.bs (Nat.sub L (Nat.add j q)) (bytesAt N (Nat.add j q) (Nat.sub L (Nat.add j q)))) .nil)))) (fun a o => fun L N j q => .sp L (.cons (.bs j (bytesAt N 0 j)) (.cons (.p a o) (.cons (.bs (Nat.sub L (Nat.add j q)) (bytesAt N (Nat.add j q) (Nat.sub L (Nat.add j q)))) .nil)))) (fun L N j q => .sp L (.cons (.bs j (bytesAt N 0 j)) (.cons (.np) (.cons (.bs (Nat.sub L (Nat.add j q)) (bytesAt N (Nat.add j q) (Nat.sub L (Nat.add j q)))) .nil)))) (fun l n => fun L N j q => .sp L (.cons (.bs j (bytesAt N 0 j)) (.cons (.s l n) (.cons (.bs (Nat.sub L (Nat.add j q)) (bytesAt N (Nat.add j q) (Nat.sub L (Nat.add j q)))) .nil)))) (fun a o l c => fun L N j q => .sp L (.cons (.bs j (bytesAt N 0 j)) (.cons (.sl a o l c) (.cons (.bs (Nat.sub L (Nat.add j q)) (bytesAt N (Nat.add j q) (Nat.sub L (Nat.add j q)))) .nil)))) (fun a o e l => fun L N j q => .sp L (.cons (.bs j (bytesAt N 0 j)) (.cons (.so a o e l) (.cons (.bs (Nat.sub L (Nat.add j q)) (bytesAt N (Nat.add j q) (Nat.sub L (Nat.add j q)))) .nil)))) (fun a o w => fun L N j q => .sp L (.cons (.bs j (bytesAt N 0 j)) (.cons (.se a o w) (.cons (.bs (Nat.sub L (Nat.add j q)) (bytesAt N (Nat.add j q) (Nat.sub L (Nat.add j q)))) .nil)))) (fun L N j q => .sp L (.cons (.bs j (bytesAt N 0 j)) (.cons (.ns) (.cons (.bs (Nat.sub L (Nat.add j q)) (bytesAt N (Nat.add j q) (Nat.sub L (Nat.add j q)))) .nil)))) (fun a => fun L N j q => .sp L (.cons (.bs j (bytesAt N 0 j)) (.cons (.m a) (.cons (.bs (Nat.sub L (Nat.add j q)) (bytesAt N (Nat.add j q) (Nat.sub L (Nat.add j q)))) .nil)))) (fun L N j q => .sp L (.cons (.bs j (bytesAt N 0 j)) (.cons (.nm) (.cons (.bs (Nat.sub L (Nat.add j q)) (bytesAt N (Nat.add j q) (Nat.sub L (Nat.add j q)))) .nil)))) (fun g F G _ _ => fun L N j q => .sp L (.cons (.bs j (bytesAt N 0 j)) (.cons (.f g F G) (.cons (.bs (Nat.sub L (Nat.add j q)) (bytesAt N (Nat.add j q) (Nat.sub L (Nat.add j q)))) .nil)))) (fun L N j q => .sp L (.cons (.bs j (bytesAt N 0 j)) (.cons (.nf) (.cons (.bs (Nat.sub L (Nat.add j q)) (bytesAt N (Nat.add j q) (Nat.sub L (Nat.add j q)))) .nil)))) (fun a => fun L N j q => .sp L (.cons (.bs j (bytesAt N 0 j)) (.cons (.yl a) (.cons (.bs (Nat.sub L (Nat.add j q)) (bytesAt N (Nat.add j q) (Nat.sub L (Nat.add j q)))) .nil)))) (fun t W _ => fun L N j q => .sp L (.cons (.bs j (bytesAt N 0 j)) (.cons (.ifc t W) (.cons (.bs (Nat.sub L (Nat.add j q)) (bytesAt N (Nat.add j q) (Nat.sub L (Nat.add j q)))) .nil)))) (fun L N j q => .sp L (.cons (.bs j (bytesAt N 0 j)) (.cons (.ni) (.cons (.bs (Nat.sub L (Nat.add j q)) (bytesAt N (Nat.add j q) (Nat.sub L (Nat.add j q)))) .nil)))) (fun _ _ _ => fun L N j q => .sp L (.cons (.bs j (bytesAt N 0 j)) (.cons (.x) (.cons (.bs (Nat.sub L (Nat.add j q)) (bytesAt N (Nat.add j q) (Nat.sub L (Nat.add j q)))) .nil)))) (fun _ _ => fun L N j q => .sp L (.cons (.bs j (bytesAt N 0 j)) (.cons (.x) (.cons (.bs (Nat.sub L (Nat.add j q)) (bytesAt N (Nat.add j q) (Nat.sub L (Nat.add j q)))) .nil)))) (fun L N j q => .sp L (.cons (.bs j (bytesAt N 0 j)) (.cons (.x) (.cons (.bs (Nat.sub L (Nat.add j q)) (bytesAt N (Nat.add j q) (Nat.sub L (Nat.add j q)))) .nil)))) (fun _ _ _ _ => fun L N j q => .sp L (.cons (.bs j (bytesAt N 0 j)) (.cons (.x) (.cons (.bs (Nat.sub L (Nat.add j q)) (bytesAt N (Nat.add j q) (Nat.sub L (Nat.add j q)))) .nil)))) (fun _ n => fun L N j q => .bs L (bytesPut N j q n)) (fun w W _ => fun L N j q => .sp L (.cons (.bs j (bytesAt N 0 j)) (.cons (.sp w W) (.cons (.bs (Nat.sub L (Nat.add j q)) (bytesAt N (Nat.add j q) (Nat.sub L (Nat.add j q)))) .nil)))) y
def setC (v : V) : Nat → Nat → V → V := V.rec (motive := fun _ => Nat → Nat → V → V)
    (fun o _ y => .cons (.sp o .nil) (.cons y .nil)) (fun _ _ y => y) (fun _ _ => fun _ _ y => y) (fun _ => fun _ _ y => y) (fun _ _ => fun _ _ y => y) (fun _ _ y => y) (fun _ _ => fun _ _ y => y) (fun _ _ _ _ => fun _ _ y => y) (fun _ _ _ _ => fun _ _ y => y) (fun _ _ _ => fun _ _ y => y) (fun _ _ y => y) (fun _ => fun _ _ y => y) (fun _ _ y => y) (fun _ _ _ _ _ => fun _ _ y => y) (fun _ _ y => y) (fun _ => fun _ _ y => y) (fun _ _ _ => fun _ _ y => y) (fun _ _ y => y) (fun _ _ _ => fun _ _ y => y) (fun _ _ => fun _ _ y => y) (fun o _ y => .cons (.sp o .nil) (.cons y .nil)) (fun A W ihA ihW => fun o m y => Bool.rec (.cons A (ihW (Nat.sub o (wd A)) m y)) (Bool.rec (Bool.rec (.cons (subC A 0 o) (.cons y (dropC W (Nat.sub m (Nat.sub (wd A) o))))) (.cons (ihA o m y) W) (Nat.ble (Nat.add o m) (wd A))) (.cons y (dropC W (Nat.sub m (wd A)))) (Bool.and (isZ o) (Nat.ble (wd A) m))) (lt o (wd A))) (fun l n => fun o m y => putB y l n o m) (fun w _ ihW => fun o m y => .sp w (ihW o m y)) v
def appC (v : V) : V → V := V.rec (motive := fun _ => V → V)
    (fun y => y) (fun y => y) (fun _ _ => fun y => y) (fun _ => fun y => y) (fun _ _ => fun y => y) (fun y => y) (fun _ _ => fun y => y) (fun _ _ _ _ => fun y => y) (fun _ _ _ _ => fun y => y) (fun _ _ _ => fun y => y) (fun y => y) (fun _ => fun y => y) (fun y => y) (fun _ _ _ _ _ => fun y => y) (fun y => y) (fun _ => fun y => y) (fun _ _ _ => fun y => y) (fun y => y) (fun _ _ _ => fun y => y) (fun _ _ => fun y => y) (fun y => y) (fun A _ _ ihW => fun y => .cons A (ihW y)) (fun _ _ => fun y => y) (fun _ _ _ => fun y => y) v
def nthC (j : U) : V → V := U.rec (motive := fun _ => V → V) (fun v => v_cons (α := V) (.x) (fun A _ => A) v) (fun _ ih v => (v_cons (α := (V → V) → V) (fun _ => .x) (fun _ W => fun q => q W) v) ih) j
end
end Go.Ev

namespace Go.Ev
noncomputable section
def byteOf : V → Option Nat
 | .i k n => if k = 4 then some n else none
 | _ => none
def consB (n : Nat) : List V → List V
 | [] => [.i 4 n]
 | .bs l m :: r => .bs (l + 1) (n + m * 256) :: r
 | y :: r => match byteOf y with
   | some m => .bs 2 (n + m * 256) :: r
   | none => .i 4 n :: y :: r
def packB : List V → List V
 | [] => []
 | a :: r => match byteOf a with
   | some n => consB n (packB r)
   | none => a :: packB r
def chain : List V → V
 | [] => .nil
 | v :: r => .cons v (chain r)
def kc : IntKind → Nat
 | .i8 => 0 | .i16 => 1 | .i32 => 2 | .i64 => 3 | .u8 => 4 | .u16 => 5 | .u32 => 6 | .u64 => 7
def kbits (k : Nat) : Nat := match k with | 0 | 4 => 8 | 1 | 5 => 16 | 2 | 6 => 32 | _ => 64
def ksigned (k : Nat) : Bool := lt k 4
def khalf (k : Nat) : Nat := if ksigned k then 2 ^ (kbits k - 1) else 2 ^ kbits k
def kmask (k : Nat) : Nat := 2 ^ kbits k - 1
def toU (k : IntKind) (n : Int) : Nat := (n % (2 ^ k.bits : Int)).toNat
def strN (s : ByteArray) : Nat := s.data.toList.foldr (fun b n => b.toNat + 256 * n) 0
def ofVal : Nat → Value → V
 | 0, _ => .x
 | f + 1, v => match v with
   | .bool z => .b z
   | .int k n => if k.wrap n == n then .i (kc k) (toU k n) else .x
   | .string s => .s s.size (strN s)
   | .pointer none => .np
   | .slice none l c => if l == 0 && c == 0 then .ns else .x
   | .map none => .nm
   | .nilFunc => .nf
   | .func fn a b => .f fn (chain (a.toList.map (ofVal f))) (chain (b.toList.map (ofVal f)))
   | .nilIface => .ni
   | .iface t v => .ifc t (ofVal f v)
   | .agg cs => .agg cs.size (chain (packB (cs.toList.map (ofVal f))))
   | .tuple vs => if vs.size = 0 then .u else .tup (chain (vs.toList.map (ofVal f)))
   | _ => .x
def zeroOf (P : Program) (t : TypeId) : V := match (P.info? t).bind (·.zero) with | some z => ofVal 4 z | none => .x
def isAggT (P : Program) (t : TypeId) : Bool := match P.underlying t with | some (.struct _) | some (.array _ _) => true | _ => false
def szT (P : Program) (t : TypeId) : Nat := P.cellsOf t
def chunkOf : V → V
 | .agg _ (.cons (.bs l n) .nil) => .bs l n
 | .agg w cs => .sp w cs
 | v => v
def cellsOfV : V → V
 | .agg _ cs => cs
 | v => .cons v .nil
def plainB : Fn → Bool
 | .yield _ => false
 | _ => true
structure Wb where
 v : Bool
 k : Bool
 l : Bool
 s : Bool
def wfb : V → Wb
 | .u | .b _ | .np | .ns | .nm | .nf | .ni => ⟨true, true, false, false⟩
 | .i k n => let z := decide (n < 2 ^ kbits k) && decide (k < 8); ⟨z, z, false, false⟩
 | .s l n => let z := decide (n < 2 ^ (8 * l)); ⟨z, z, false, false⟩
 | .f g F C => let z := plainB g && (wfb F).s && (wfb C).s; ⟨z, z, false, false⟩
 | .ifc _ v => ⟨(wfb v).v, (wfb v).v, false, false⟩
 | .agg _ cs => ⟨(wfb cs).l, false, false, false⟩
 | .tup vs => ⟨(wfb vs).s, false, false, false⟩
 | .nil => ⟨false, false, true, true⟩
 | .cons a d => ⟨false, false, (wfb a).k && (wfb d).l, (wfb a).v && (wfb d).s⟩
 | .bs l n => ⟨false, decide (n < 2 ^ (8 * l)), false, false⟩
 | .sp _ cs => ⟨false, (wfb cs).l, false, false⟩
 | _ => ⟨false, false, false, false⟩
def cV (v : Value) : V := let y := ofVal 4 v; if (wfb y).v then y else .x
def kx (v : V) (k : K1) : R := Bool.rec (.bad 64) (k v) (nx v)
def asN (v : V) (q : Nat → R) : R := asI v (fun k n => Bool.rec (Bool.rec (.bad 65) (q n) (Nat.ble 4 k)) (Bool.rec (.bad 66) (q n) (lt n 9223372036854775808)) (Nat.beq k 3))
def isMeth (g : Fn) : Bool := Fn.rec (motive := fun _ => Bool) (fun _ => false) (fun _ => true) (fun _ _ => false) (fun _ _ _ _ => false) (fun _ => false) g
def hMove (x : Opnd) : PH := fun n t k => kx (ev x n t) k
def hStrId (x : Opnd) : PH := fun n t k => asS (ev x n t) (fun l s => k (.s l s))
def hPick (c a b : Opnd) : PH := fun n t k => asB (ev c n t) (fun z => Bool.rec (kx (ev b n t) k) (kx (ev a n t) k) z)
def chk2 (ka kb kx : Nat) (r : R) : R := Bool.rec (.bad 21) (Bool.rec (.bad 22) r (Nat.beq kb kx)) (Nat.beq ka kx)
def hArith (kx : Nat) (f : Nat → Nat → Nat) (x y : Opnd) : PH := fun n t k =>
 asI (ev x n t) (fun ka a => asI (ev y n t) (fun kb b => chk2 ka kb kx (k (.i kx (f a b)))))
def hCmp (kx : Nat) (f : Nat → Nat → Bool) (x y : Opnd) : PH := fun n t k =>
 asI (ev x n t) (fun ka a => asI (ev y n t) (fun kb b => chk2 ka kb kx (k (.b (f a b)))))
def hDiv (kx half : Nat) (f g : Nat → Nat → Nat) (x y : Opnd) : PH := fun n t k =>
 asI (ev x n t) (fun ka a => asI (ev y n t) (fun kb b => chk2 ka kb kx
  (Bool.rec (.bad 24) (Bool.rec (k (.i kx (Bool.rec (g a b) (f a b) (lt a half)))) (.bad 25) (Nat.beq b 0)) (lt b half))))
def hShift (kx : Nat) (f : Nat → Nat → Nat) (x y : Opnd) : PH := fun n t k =>
 asI (ev x n t) (fun ka a => asI (ev y n t) (fun _ b => Bool.rec (.bad 26) (Bool.rec (.bad 27) (k (.i kx (f a b))) (lt b 64)) (Nat.beq ka kx)))
def shrS (half m a b : Nat) : Nat := Bool.rec (Nat.sub m (Nat.shiftRight (Nat.sub m a) b)) (Nat.shiftRight a b) (lt a half)
def notB (z : Bool) : Bool := Bool.rec true false z
def hNot (x : Opnd) : PH := fun n t k => asB (ev x n t) (fun z => k (.b (notB z)))
def hUn (kx : Nat) (f : Nat → Nat) (x : Opnd) : PH := fun n t k => asI (ev x n t) (fun ka a => Bool.rec (.bad 28) (k (.i kx (f a))) (Nat.beq ka kx))
def hConv (ks kd : Nat) (f : Nat → Nat) (x : Opnd) : PH := fun n t k => asI (ev x n t) (fun ka a => Bool.rec (.bad 29) (k (.i kd (f a))) (Nat.beq ka ks))
def hNil (x : Opnd) : PH := fun n t => (V.rec (motive := fun _ => K1 → R)
    (fun _ => .bad 30) (fun _ => .bad 30) (fun _ _ => fun _ => .bad 30) (fun _ => fun _ => .bad 30) (fun a o => fun q => q (.p a o)) (fun _ => .bad 30) (fun _ _ => fun _ => .bad 30) (fun _ _ _ _ => fun _ => .bad 30) (fun _ _ _ _ => fun _ => .bad 30) (fun _ _ _ => fun _ => .bad 30) (fun _ => .bad 30) (fun _ => fun _ => .bad 30) (fun _ => .bad 30) (fun g F G _ _ => fun q => Bool.rec (q (.f g F G)) (.bad 67) (isMeth g)) (fun _ => .bad 30) (fun a => fun q => q (.yl a)) (fun t W _ => fun q => q (.ifc t W)) (fun _ => .bad 30) (fun _ _ _ => fun _ => .bad 30) (fun _ _ => fun _ => .bad 30) (fun _ => .bad 30) (fun _ _ _ _ => fun _ => .bad 30) (fun _ _ => fun _ => .bad 30) (fun _ _ _ => fun _ => .bad 30) (ev x n t))
def hIface (ty : Nat) (x : Opnd) : PH := fun n t k => Bool.rec (.bad 31) (k (.ifc ty (ev x n t))) (nx (ev x n t))
def hTup (j : U) (x : Opnd) : PH := fun n t k => asTup (ev x n t) (fun c => kx (nthC j c) k)
def hList (l : List Opnd) : List V → T → (V → R) → R :=
 List.rec (motive := fun _ => List V → T → (V → R) → R) (fun _ _ q => q .nil) (fun x _ ih n t q => Bool.rec (.bad 32) (ih n t (fun c => q (.cons (ev x n t) c))) (nx (ev x n t))) l
def hFunc (fn : Fn) (l m : List Opnd) : PH := fun n t k => hList l n t (fun a => hList m n t (fun b => k (.f fn a b)))
def partK (agg : Bool) (off sz w : Nat) (cs : V) (k : K1) : R := Bool.rec (.bad 68) (Bool.rec (k (atC cs off)) (k (.agg sz (subC cs off sz))) agg) (Nat.ble (Nat.add off sz) w)
def hField (agg : Bool) (off sz : Nat) (x : Opnd) : PH := fun n t k => asAgg (ev x n t) (fun w cs => partK agg off sz w cs k)
def hIndexA (agg : Bool) (len sz : Nat) (x y : Opnd) : PH := fun n t k => asAgg (ev x n t) (fun w cs => asN (ev y n t) (fun i =>
 Bool.rec (.bad 33) (partK agg (Nat.mul i sz) sz w cs k) (lt i len)))
def hIndexS (x y : Opnd) : PH := fun n t k => asS (ev x n t) (fun l s => asN (ev y n t) (fun i => Bool.rec (.bad 34) (k (.i 4 (byteAt s i))) (lt i l)))
def hFieldAddr (off : Nat) (x : Opnd) : PH := fun n t k => asP (ev x n t) (fun a o => k (.p a (Nat.add o off)))
def hIdxArr (len sz : Nat) (x y : Opnd) : PH := fun n t k => asP (ev x n t) (fun a o => asN (ev y n t) (fun i => Bool.rec (.bad 35) (k (.p a (Nat.add o (Nat.mul i sz)))) (lt i len)))
def asSl (v : V) : (Nm → Nat → Nat → R) → R := v_sl_so (α := (Nm → Nat → Nat → R) → R) (fun _ => .bad 36) (fun a o l _ => fun q => q a o l) (fun a o _ l => fun q => q a o l) v
def hIdxSl (sz : Nat) (x y : Opnd) : PH := fun n t k => asSl (ev x n t) (fun a o l => asN (ev y n t) (fun i => Bool.rec (.bad 37) (k (.p a (Nat.add o (Nat.mul i sz)))) (lt i l)))
def lenI (l : Nat) (q : K1) : R := Bool.rec (.bad 38) (q (.i 3 l)) (lt l 9223372036854775808)
def lenV (v : V) : K1 → R := V.rec (motive := fun _ => K1 → R)
    (fun _ => .bad 38) (fun _ => .bad 38) (fun _ _ => fun _ => .bad 38) (fun _ => fun _ => .bad 38) (fun _ _ => fun _ => .bad 38) (fun _ => .bad 38) (fun _ _ => fun _ => .bad 38) (fun _ _ l _ => lenI l) (fun _ _ _ l => lenI l) (fun _ _ _ => lenI 0) (lenI 0) (fun _ => fun _ => .bad 38) (fun _ => .bad 38) (fun _ _ _ _ _ => fun _ => .bad 38) (fun _ => .bad 38) (fun _ => fun _ => .bad 38) (fun _ _ _ => fun _ => .bad 38) (fun _ => .bad 38) (fun _ _ _ => fun _ => .bad 38) (fun _ _ => fun _ => .bad 38) (fun _ => .bad 38) (fun _ _ _ _ => fun _ => .bad 38) (fun _ _ => fun _ => .bad 38) (fun _ _ _ => fun _ => .bad 38) v
def capV (v : V) : K1 → R := v_sl_ns (α := K1 → R) (fun _ => .bad 39) (fun _ _ _ c => lenI c) (lenI 0) v
def hLen (x : Opnd) : PH := fun n t k => lenV (ev x n t) k
def hLenS (x : Opnd) : PH := fun n t k => asS (ev x n t) (fun l _ => lenI l k)
def hCap (x : Opnd) : PH := fun n t k => capV (ev x n t) k
def hConst (n : Nat) : PH := fun _ _ k => lenI n k
def optI (o : Option Opnd) : List V → T → Nat → (Nat → R) → R :=
 Option.rec (motive := fun _ => List V → T → Nat → (Nat → R) → R) (fun _ _ d q => q d) (fun x n t _ q => asN (ev x n t) q) o
def sliceK (a : Nm) (o c lo hi mx sz : Nat) (k : K1) : R :=
 Bool.rec (.bad 40) (Bool.rec (.bad 41) (Bool.rec (.bad 42)
  (k (.sl a (Bool.rec (Nat.add o (Nat.mul lo sz)) o (Nat.beq mx lo)) (Nat.sub hi lo) (Nat.sub mx lo)))
  (Nat.ble mx c)) (Nat.ble hi mx)) (Nat.ble lo hi)
def sliceO (a : Nm) (o e l lo hi sz : Nat) (k : K1) : R :=
 Bool.rec (.bad 43) (Bool.rec (.bad 44) (Bool.rec (k (.se a o (Nat.mul lo sz)))
  (k (.so a (Nat.add o (Nat.mul lo sz)) (Nat.sub (Nat.add l e) hi) (Nat.sub hi lo)))
  (Bool.or (isZ lo) (lt lo (Nat.add l e)))) (Nat.ble hi (Nat.add l e))) (Nat.ble lo hi)
def hSliceSl (sz : Nat) (x : Opnd) (lo hi mx : Option Opnd) (h3 : Bool) : PH := fun n t k =>
 (V.rec (motive := fun _ => (List V → T → (Option Opnd → List V → T → Nat → (Nat → R) → R) → K1 → R))
  (fun _ _ _ _ => .bad 46) (fun _ _ _ _ => .bad 46) (fun _ _ => fun _ _ _ _ => .bad 46) (fun _ => fun _ _ _ _ => .bad 46) (fun _ _ => fun _ _ _ _ => .bad 46) (fun _ _ _ _ => .bad 46) (fun _ _ => fun _ _ _ _ => .bad 46) (fun a o l c => fun n t q κ => q lo n t 0 (fun lo => q hi n t l (fun hi => q mx n t c (fun mx => sliceK a o c lo hi mx sz κ)))) (fun a o e l => fun n t q κ => q lo n t 0 (fun lo => q hi n t l (fun hi => Bool.rec (sliceO a o e l lo hi sz κ) (q mx n t l (fun mx => sliceK a o l lo hi mx sz κ)) h3))) (fun _ _ _ => fun _ _ _ _ => .bad 46) (fun n t q κ => q lo n t 0 (fun lo => q hi n t 0 (fun hi => q mx n t 0 (fun mx => Bool.rec (.bad 47) (κ .ns) (Bool.and (isZ lo) (Bool.and (isZ hi) (isZ mx))))))) (fun _ => fun _ _ _ _ => .bad 46) (fun _ _ _ _ => .bad 46) (fun _ _ _ _ _ => fun _ _ _ _ => .bad 46) (fun _ _ _ _ => .bad 46) (fun _ => fun _ _ _ _ => .bad 46) (fun _ _ _ => fun _ _ _ _ => .bad 46) (fun _ _ _ _ => .bad 46) (fun _ _ _ => fun _ _ _ _ => .bad 46) (fun _ _ => fun _ _ _ _ => .bad 46) (fun _ _ _ _ => .bad 46) (fun _ _ _ _ => fun _ _ _ _ => .bad 46) (fun _ _ => fun _ _ _ _ => .bad 46) (fun _ _ _ => fun _ _ _ _ => .bad 46) (ev x n t)) n t optI k
def hSliceArr (len sz : Nat) (x : Opnd) (lo hi mx : Option Opnd) : PH := fun n t k => asP (ev x n t) (fun a o =>
 optI lo n t 0 (fun lo => optI hi n t len (fun hi => optI mx n t len (fun mx => sliceK a o len lo hi mx sz k))))
def hSliceStr (x : Opnd) (lo hi : Option Opnd) : PH := fun n t k => asS (ev x n t) (fun l s =>
 optI lo n t 0 (fun lo => optI hi n t l (fun hi => Bool.rec (.bad 48) (Bool.rec (.bad 49) (k (.s (Nat.sub hi lo) (bytesAt s lo (Nat.sub hi lo)))) (Nat.ble hi l)) (Nat.ble lo hi))))
def hToArr (len : Nat) (x : Opnd) : PH := fun n t k => (v_sl_so (α := (K1 → R)) (fun _ => .bad 50) (fun a o l _ => fun q => Bool.rec (q (.p a o)) (.bad 51) (lt l len)) (fun a o _ l => fun q => Bool.rec (q (.p a o)) (.bad 51) (lt l len)) (ev x n t)) k
def isSc (v : V) : Bool := V.rec (motive := fun _ => Bool)
    (false) (false) (fun _ _ => true) (fun _ => true) (fun _ _ => true) (true) (fun _ _ => true) (fun _ _ _ _ => true) (fun _ _ _ _ => true) (fun _ _ _ => true) (true) (fun _ => true) (true) (fun _ _ _ _ _ => true) (true) (fun _ => true) (fun _ _ _ => true) (true) (fun _ _ _ => false) (fun _ _ => false) (false) (fun _ _ _ _ => false) (fun _ _ => false) (fun _ _ _ => false) v
def isNil (v : V) : Bool := v_nil (α := Bool) (false) (true) v
def hdC (v : V) : V := v_cons (α := V) (.x) (fun A _ => A) v
def isOne (v : V) : Bool := v_cons (α := Bool) (false) (fun _ W => isNil W) v
def mkSp (cs : V) (w : Nat) : V := Bool.rec (.sp w cs) (hdC cs) (Bool.and (isOne cs) (Nat.beq (wd (hdC cs)) w))
def toCk (agg : Bool) (w : Nat) (v : V) (q : V → R) : R :=
 Bool.rec (Bool.rec (.bad 52) (q v) (isSc v)) (asAgg v (fun w' cs => Bool.rec (.bad 53) (q (mkSp cs w)) (Nat.beq w' w))) agg
inductive Prt where
 | mk (o sz : Nat) (agg : Bool) (x : Opnd)
def hParts (l : List Prt) : List V → T → V → (V → R) → R :=
 List.rec (motive := fun _ => List V → T → V → (V → R) → R) (fun _ _ cs q => q cs)
  (fun p _ ih => Prt.rec (motive := fun _ => List V → T → V → (V → R) → R) (fun o sz agg x n t cs q => toCk agg sz (ev x n t) (fun y => ih n t (setC cs o sz y) q)) p) l
def hBuild (w : Nat) (z : V) (l : List Prt) : PH := fun n t k => hParts l n t z (fun cs => k (.agg w cs))
def asrK (ok yes : Bool) (v z : V) (k : K1) : R := Bool.rec (Bool.rec (.bad 58) (k (.tup (.cons z (.cons (.b false) .nil)))) ok) (Bool.rec (k v) (k (.tup (.cons v (.cons (.b true) .nil)))) ok) yes
def hAssert (ok : Bool) (ty : Nat) (z : V) (x : Opnd) : PH := fun n t k => (v_ifc_ni (α := (Bool → Nat → V → K1 → R)) (fun _ _ _ _ => .bad 59) (fun t W => fun ok ty z q => asrK ok (Nat.beq t ty) W z q) (fun ok _ z q => asrK ok false z z q) (ev x n t)) ok ty z k
def hCat (x y : Opnd) : PH := fun n t k => asS (ev x n t) (fun l s => asS (ev y n t) (fun l' s' => Bool.rec (.bad 69) (k (.s (Nat.add l l') (Nat.add s (Nat.shiftLeft s' (Nat.mul 8 l))))) (lt (Nat.add l l') 9223372036854775808)))
def eqV (v : V) : V → Nat := V.rec (motive := fun _ => V → Nat)
    (fun _ => 2) (fun _ => 2) (fun k n => fun y => (v_i (α := (Nat → Nat → Nat)) (fun _ _ => 2) (fun k n => fun kk nn => Bool.rec 2 (Bool.rec 0 1 (Nat.beq nn n)) (Nat.beq kk k)) y) k n) (fun z => fun y => (v_b (α := (Bool → Nat)) (fun _ => 2) (fun z => fun zz => Bool.rec (Bool.rec 1 0 z) (Bool.rec 0 1 z) zz) y) z) (fun a o => fun y => (v_p_np (α := (Nm → Nat → Nat)) (fun _ _ => 2) (fun a o => fun aa oo => Bool.rec 2 (Bool.rec 0 1 (Nat.beq oo o)) (Nm.beq aa a)) (fun _ _ => 0) y) a o) (fun y => v_p_np (α := Nat) (2) (fun _ _ => 0) (1) y) (fun l n => fun y => (v_s (α := (Nat → Nat → Nat)) (fun _ _ => 2) (fun l n => fun ll nn => Bool.rec 0 1 (Bool.and (Nat.beq ll l) (Nat.beq nn n))) y) l n) (fun _ _ _ _ => fun y => v_ns (α := Nat) (2) (0) y) (fun _ _ _ _ => fun y => v_ns (α := Nat) (2) (0) y) (fun _ _ _ => fun _ => 2) (fun y => V.rec (motive := fun _ => Nat)
 (2) (2) (fun _ _ => 2) (fun _ => 2) (fun _ _ => 2) (2) (fun _ _ => 2) (fun _ _ _ _ => 0) (fun _ _ _ _ => 0) (fun _ _ _ => 2) (1) (fun _ => 2) (2) (fun _ _ _ _ _ => 2) (2) (fun _ => 2) (fun _ _ _ => 2) (2) (fun _ _ _ => 2) (fun _ _ => 2) (2) (fun _ _ _ _ => 2) (fun _ _ => 2) (fun _ _ _ => 2) y) (fun _ => fun y => v_nm (α := Nat) (2) (0) y) (fun y => v_m_nm (α := Nat) (2) (fun _ => 0) (1) y) (fun _ _ _ _ _ => fun y => v_nf (α := Nat) (2) (0) y) (fun y => V.rec (motive := fun _ => Nat)
 (2) (2) (fun _ _ => 2) (fun _ => 2) (fun _ _ => 2) (2) (fun _ _ => 2) (fun _ _ _ _ => 2) (fun _ _ _ _ => 2) (fun _ _ _ => 2) (2) (fun _ => 2) (2) (fun _ _ _ _ _ => 0) (1) (fun _ => 0) (fun _ _ _ => 2) (2) (fun _ _ _ => 2) (fun _ _ => 2) (2) (fun _ _ _ _ => 2) (fun _ _ => 2) (fun _ _ _ => 2) y) (fun _ => fun y => v_nf (α := Nat) (2) (0) y) (fun t _ ihW => fun y => (v_ifc_ni (α := (Nat → (V → Nat) → Nat)) (fun _ _ => 2) (fun t W => fun tt q => Bool.rec 0 (q W) (Nat.beq tt t)) (fun _ _ => 0) y) t ihW) (fun y => v_ifc_ni (α := Nat) (2) (fun _ _ => 0) (1) y) (fun w _ ihW => fun y => (v_agg (α := (Nat → (V → Nat) → Nat)) (fun _ _ => 2) (fun w W => fun ww q => Bool.rec 2 (q W) (Nat.beq ww w)) y) w ihW) (fun _ _ => fun _ => 2) (fun y => v_nil (α := Nat) (2) (1) y) (fun A _ ihA ihW => fun y => (v_cons (α := ((V → Nat) → (V → Nat) → Nat → Nat)) (fun _ _ _ => 2) (fun A W => fun qa qw wa => Bool.rec 2 (Nat.rec (motive := fun _ => Nat) 0 (fun e _ => Nat.rec (motive := fun _ => Nat) (qw W) (fun _ _ => 2) e) (qa A)) (Nat.beq (wd A) wa)) y) ihA ihW (wd A)) (fun l n => fun y => (v_bs (α := (Nat → Nat → Nat)) (fun _ _ => 2) (fun l n => fun ll nn => Bool.rec 2 (Bool.rec 0 1 (Nat.beq nn n)) (Nat.beq ll l)) y) l n) (fun w _ ihW => fun y => (v_sp (α := (Nat → (V → Nat) → Nat)) (fun _ _ => 2) (fun w W => fun ww q => Bool.rec 2 (q W) (Nat.beq ww w)) y) w ihW) v
def tw (v : V) : Nat := V.rec (motive := fun _ => Nat)
    (0) (1) (fun _ _ => 1) (fun _ => 1) (fun _ _ => 1) (1) (fun _ _ => 1) (fun _ _ _ _ => 1) (fun _ _ _ _ => 1) (fun _ _ _ => 1) (1) (fun _ => 1) (1) (fun _ _ _ _ _ => 1) (1) (fun _ => 1) (fun _ _ _ => 1) (1) (fun _ _ _ => 1) (fun _ _ => 1) (0) (fun _ _ ihA ihW => Nat.add ihA ihW) (fun l _ => l) (fun _ _ ihW => ihW) v
def okW (v : V) : Bool := V.rec (motive := fun _ => Bool)
    (false) (true) (fun _ _ => true) (fun _ => true) (fun _ _ => true) (true) (fun _ _ => true) (fun _ _ _ _ => true) (fun _ _ _ _ => true) (fun _ _ _ => true) (true) (fun _ => true) (true) (fun _ _ _ _ _ => true) (true) (fun _ => true) (fun _ _ _ => true) (true) (fun _ _ _ => true) (fun _ _ => true) (true) (fun _ _ ihA ihW => Bool.and ihA ihW) (fun _ _ => true) (fun w W ihW => Bool.and (Nat.beq w (tw W)) ihW) v
def pushB (l n : Nat) (r : V) : V := (v_cons (α := (Nat → Nat → V → V)) (fun l n r => .cons (.bs l n) r) (fun A W => (v_bs (α := (V → Nat → Nat → V → V)) (fun _ l n r => .cons (.bs l n) r) (fun l n => fun d L N _ => .cons (.bs (Nat.add L l) (Nat.add N (Nat.shiftLeft n (Nat.mul 8 L)))) d) A) W) r) l n r
def nrmC (v : V) : V → V := V.rec (motive := fun _ => V → V)
    (fun r => r) (fun r => .cons (.u) r) (fun k n => fun r => Bool.rec (.cons (.i k n) r) (pushB 1 n r) (Nat.beq k 4)) (fun z => fun r => .cons (.b z) r) (fun a o => fun r => .cons (.p a o) r) (fun r => .cons (.np) r) (fun l n => fun r => .cons (.s l n) r) (fun a o l c => fun r => .cons (.sl a o l c) r) (fun a o e l => fun r => .cons (.so a o e l) r) (fun a o w => fun r => .cons (.se a o w) r) (fun r => .cons (.ns) r) (fun a => fun r => .cons (.m a) r) (fun r => .cons (.nm) r) (fun g F G _ _ => fun r => .cons (.f g F G) r) (fun r => .cons (.nf) r) (fun a => fun r => .cons (.yl a) r) (fun t W _ => fun r => .cons (.ifc t W) r) (fun r => .cons (.ni) r) (fun _ _ _ => fun _ => .x) (fun _ _ => fun _ => .x) (fun r => r) (fun _ _ ihA ihW => fun r => ihA (ihW r)) (fun l n => fun r => pushB l n r) (fun _ _ ihW => ihW) v
def nrmV (v : V) : V := V.rec (motive := fun _ => V)
    (.x) (.u) (fun k n => .i k n) (fun z => .b z) (fun a o => .p a o) (.np) (fun l n => .s l n) (fun a o l c => .sl a o l c) (fun a o e l => .so a o e l) (fun a o w => .se a o w) (.ns) (fun a => .m a) (.nm) (fun g F G _ _ => .f g F G) (.nf) (fun a => .yl a) (fun t W _ => .ifc t W) (.ni) (fun w W _ => Bool.rec .x (.agg w (nrmC W .nil)) (Bool.and (okW W) (Nat.beq (tw W) w))) (fun _ _ => .x) (.x) (fun _ _ _ _ => .x) (fun _ _ => .x) (fun _ _ _ => .x) v
def eqK (neg : Bool) (e : Nat) (k : K1) : R := Nat.rec (motive := fun _ => R) (k (.b neg)) (fun e _ => Nat.rec (motive := fun _ => R) (k (.b (notB neg))) (fun _ _ => .bad 54) e) e
def eqB (v : V) : V → Nat := v_b (α := V → Nat) (fun _ => 2) (fun z => fun y => (v_b (α := (Bool → Nat)) (fun _ => 2) (fun z => fun zz => Bool.rec (Bool.rec 1 0 z) (Bool.rec 0 1 z) zz) y) z) v
def eqP (v : V) : V → Nat := v_p_np (α := V → Nat) (fun _ => 2) (fun a o => fun y => (v_p_np (α := (Nm → Nat → Nat)) (fun _ _ => 2) (fun a o => fun aa oo => Bool.rec 2 (Bool.rec 0 1 (Nat.beq oo o)) (Nm.beq aa a)) (fun _ _ => 0) y) a o) (fun y => v_p_np (α := Nat) (2) (fun _ _ => 0) (1) y) v
def eqS (v : V) : V → Nat := V.rec (motive := fun _ => V → Nat)
    (fun _ => 2) (fun _ => 2) (fun _ _ => fun _ => 2) (fun _ => fun _ => 2) (fun _ _ => fun _ => 2) (fun _ => 2) (fun _ _ => fun _ => 2) (fun _ _ _ _ => fun y => v_ns (α := Nat) (2) (0) y) (fun _ _ _ _ => fun y => v_ns (α := Nat) (2) (0) y) (fun _ _ _ => fun _ => 2) (fun y => V.rec (motive := fun _ => Nat)
 (2) (2) (fun _ _ => 2) (fun _ => 2) (fun _ _ => 2) (2) (fun _ _ => 2) (fun _ _ _ _ => 0) (fun _ _ _ _ => 0) (fun _ _ _ => 2) (1) (fun _ => 2) (2) (fun _ _ _ _ _ => 2) (2) (fun _ => 2) (fun _ _ _ => 2) (2) (fun _ _ _ => 2) (fun _ _ => 2) (2) (fun _ _ _ _ => 2) (fun _ _ => 2) (fun _ _ _ => 2) y) (fun _ => fun _ => 2) (fun _ => 2) (fun _ _ _ _ _ => fun _ => 2) (fun _ => 2) (fun _ => fun _ => 2) (fun _ _ _ => fun _ => 2) (fun _ => 2) (fun _ _ _ => fun _ => 2) (fun _ _ => fun _ => 2) (fun _ => 2) (fun _ _ _ _ => fun _ => 2) (fun _ _ => fun _ => 2) (fun _ _ _ => fun _ => 2) v
def eqM (v : V) : V → Nat := v_m_nm (α := V → Nat) (fun _ => 2) (fun _ => fun y => v_nm (α := Nat) (2) (0) y) (fun y => v_m_nm (α := Nat) (2) (fun _ => 0) (1) y) v
def eqF (v : V) : V → Nat := V.rec (motive := fun _ => V → Nat)
    (fun _ => 2) (fun _ => 2) (fun _ _ => fun _ => 2) (fun _ => fun _ => 2) (fun _ _ => fun _ => 2) (fun _ => 2) (fun _ _ => fun _ => 2) (fun _ _ _ _ => fun _ => 2) (fun _ _ _ _ => fun _ => 2) (fun _ _ _ => fun _ => 2) (fun _ => 2) (fun _ => fun _ => 2) (fun _ => 2) (fun _ _ _ _ _ => fun y => v_nf (α := Nat) (2) (0) y) (fun y => V.rec (motive := fun _ => Nat)
 (2) (2) (fun _ _ => 2) (fun _ => 2) (fun _ _ => 2) (2) (fun _ _ => 2) (fun _ _ _ _ => 2) (fun _ _ _ _ => 2) (fun _ _ _ => 2) (2) (fun _ => 2) (2) (fun _ _ _ _ _ => 0) (1) (fun _ => 0) (fun _ _ _ => 2) (2) (fun _ _ _ => 2) (fun _ _ => 2) (2) (fun _ _ _ _ => 2) (fun _ _ => 2) (fun _ _ _ => 2) y) (fun _ => fun y => v_nf (α := Nat) (2) (0) y) (fun _ _ _ => fun _ => 2) (fun _ => 2) (fun _ _ _ => fun _ => 2) (fun _ _ => fun _ => 2) (fun _ => 2) (fun _ _ _ _ => fun _ => 2) (fun _ _ => fun _ => 2) (fun _ _ _ => fun _ => 2) v
def eqI (v : V) : V → Nat := v_ifc_ni (α := V → Nat) (fun _ => 2) (fun t _ => fun y => (v_ifc_ni (α := (Nat → Nat)) (fun _ => 2) (fun t _ => fun tt => Bool.rec 0 2 (Nat.beq tt t)) (fun _ => 0) y) t) (fun y => v_ifc_ni (α := Nat) (2) (fun _ _ => 0) (1) y) v
def hEq (g : V → V → Nat) (neg : Bool) (x y : Opnd) : PH := fun n t k => eqK neg (g (ev x n t) (ev y n t)) k
def eqStr (v : V) : V → Nat := v_s (α := V → Nat) (fun _ => 2) (fun l n => fun y => (v_s (α := (Nat → Nat → Nat)) (fun _ _ => 2) (fun l n => fun ll nn => Bool.rec 0 1 (Bool.and (Nat.beq ll l) (Nat.beq nn n))) y) l n) v
def hEqA (neg : Bool) (x y : Opnd) : PH := fun n t k => eqK neg (eqV (nrmV (ev x n t)) (nrmV (ev y n t))) k
def asRow (b : Blk) : (Nat → Nat → Nat → Bool → Nat → V → R) → R :=
 Blk.rec (motive := fun _ => (Nat → Nat → Nat → Bool → Nat → V → R) → R) (fun _ => .bad 60) (fun el sz n op fz cs q => q el sz n op fz cs) (fun _ _ _ => .bad 61) (fun _ _ _ _ => .bad 61) (fun _ _ _ _ _ _ _ _ _ _ _ => .bad 61) (fun _ _ => .bad 61) b
def asMap (b : Blk) : (V → Nat → R) → R :=
 Blk.rec (motive := fun _ => (V → Nat → R) → R) (fun _ => .bad 62) (fun _ _ _ _ _ _ _ => .bad 63) (fun es c q => q es c) (fun _ _ _ _ => .bad 63) (fun _ _ _ _ _ _ _ _ _ _ _ => .bad 63) (fun _ _ => .bad 63) b
def unSp (N : Nat) (cs : V) : V := (v_cons (α := (Nat → V → V)) (fun _ y => y) (fun A W => (v_sp (α := (V → Nat → V → V)) (fun _ _ y => y) (fun w W => fun r N y => Bool.rec y W (Bool.and (isNil r) (Nat.beq w N))) A) W) cs) N cs
def nmOf (v : V) : Nm := V.rec (motive := fun _ => Nm)
    (.h) (.h) (fun _ _ => .h) (fun _ => .h) (fun a _ => a) (.h) (fun _ _ => .h) (fun a _ _ _ => a) (fun a _ _ _ => a) (fun _ _ _ => .h) (.h) (fun a => a) (.h) (fun _ _ _ _ _ => .h) (.h) (fun _ => .h) (fun _ _ _ => .h) (.h) (fun _ _ _ => .h) (fun _ _ => .h) (.h) (fun _ _ _ _ => .h) (fun _ _ => .h) (fun _ _ _ => .h) v
def rdK (x : Opnd) (f : BH) : List V → T → H → K1 → R := fun n t h k => f (H.get (nmOf (ev x n t)) h) n t k
def hLoad (agg : Bool) (sz : Nat) (x : Opnd) : BH := fun b n t k => asP (ev x n t) (fun _ o => asRow b (fun _ _ N _ _ cs =>
 Bool.rec (.bad 65) (Bool.rec (kx (atC cs o) k) (k (.agg sz (unSp sz (subC cs o sz)))) agg) (Nat.ble (Nat.add o sz) N)))
def lenC (es : V) : Nat := V.rec (motive := fun _ => Nat)
    (0) (0) (fun _ _ => 0) (fun _ => 0) (fun _ _ => 0) (0) (fun _ _ => 0) (fun _ _ _ _ => 0) (fun _ _ _ _ => 0) (fun _ _ _ => 0) (0) (fun _ => 0) (0) (fun _ _ _ _ _ => 0) (0) (fun _ => 0) (fun _ _ _ => 0) (0) (fun _ _ _ => 0) (fun _ _ => 0) (0) (fun _ _ _ ihW => Nat.succ ihW) (fun _ _ => 0) (fun _ _ _ => 0) es
def hLenM (x : Opnd) : BH := fun b n t k => (v_m_nm (α := (Blk → K1 → R)) (fun _ _ => .bad 66) (fun _ => fun b q => asMap b (fun es _ => lenI (lenC es) q)) (fun _ q => q (.i 3 0)) (ev x n t)) b k
def ent (kk vv : V) (born : Nat) : V := .tup (.cons kk (.cons vv (.cons (.i 3 born) .nil)))
def asEnt (e : V) : (V → V → Nat → R) → R := v_tup (α := (V → V → Nat → R) → R) (fun _ => .bad 67) (fun W => fun q => q (nthC .z W) (nthC (.s .z) W) ((v_i (α := Nat) (0) (fun _ n => n) (nthC (.s (.s .z)) W)))) e
def findM (cmp : V → V → (Bool → R) → R) (es : V) : V → (V → R) → R → R := V.rec (motive := fun _ => V → (V → R) → R → R)
    (fun _ _ _ => .bad 68) (fun _ _ _ => .bad 68) (fun _ _ => fun _ _ _ => .bad 68) (fun _ => fun _ _ _ => .bad 68) (fun _ _ => fun _ _ _ => .bad 68) (fun _ _ _ => .bad 68) (fun _ _ => fun _ _ _ => .bad 68) (fun _ _ _ _ => fun _ _ _ => .bad 68) (fun _ _ _ _ => fun _ _ _ => .bad 68) (fun _ _ _ => fun _ _ _ => .bad 68) (fun _ _ _ => .bad 68) (fun _ => fun _ _ _ => .bad 68) (fun _ _ _ => .bad 68) (fun _ _ _ _ _ => fun _ _ _ => .bad 68) (fun _ _ _ => .bad 68) (fun _ => fun _ _ _ => .bad 68) (fun _ _ _ => fun _ _ _ => .bad 68) (fun _ _ _ => .bad 68) (fun _ _ _ => fun _ _ _ => .bad 68) (fun _ _ => fun _ _ _ => .bad 68) (fun _ _ r => r) (fun A _ _ ihW => fun kk q r => asEnt A (fun k' _ _ => cmp kk k' (fun z => Bool.rec (ihW kk q r) (q A) z))) (fun _ _ => fun _ _ _ => .bad 68) (fun _ _ _ => fun _ _ _ => .bad 68) es
def cmpV : V → V → (Bool → R) → R := fun a b q => Nat.rec (motive := fun _ => R) (q false) (fun e _ => Nat.rec (motive := fun _ => R) (q true) (fun _ _ => .bad 69) e) (eqV a b)
def putM (es : V) : Nat → V → V := V.rec (motive := fun _ => Nat → V → V)
    (fun _ _ => .x) (fun _ _ => .x) (fun _ _ => fun _ _ => .x) (fun _ => fun _ _ => .x) (fun _ _ => fun _ _ => .x) (fun _ _ => .x) (fun _ _ => fun _ _ => .x) (fun _ _ _ _ => fun _ _ => .x) (fun _ _ _ _ => fun _ _ => .x) (fun _ _ _ => fun _ _ => .x) (fun _ _ => .x) (fun _ => fun _ _ => .x) (fun _ _ => .x) (fun _ _ _ _ _ => fun _ _ => .x) (fun _ _ => .x) (fun _ => fun _ _ => .x) (fun _ _ _ => fun _ _ => .x) (fun _ _ => .x) (fun _ _ _ => fun _ _ => .x) (fun _ _ => fun _ _ => .x) (fun _ _ => .nil) (fun A _ _ ihW => fun b v => (v_tup (α := ((Nat → V → V) → Nat → V → V)) (fun _ _ _ => .x) (fun W => fun q b v => Bool.rec (.cons (.tup W) (q b v)) (.cons (.tup (.cons (nthC .z W) (.cons v (.cons (.i 3 b) .nil)))) (q b v)) (Nat.beq ((v_i (α := Nat) (0) (fun _ n => n) (nthC (.s (.s .z)) W))) b)) A) ihW b v) (fun _ _ => fun _ _ => .x) (fun _ _ _ => fun _ _ => .x) es
def hasM (es : V) : Nat → Bool := V.rec (motive := fun _ => Nat → Bool)
    (fun _ => false) (fun _ => false) (fun _ _ => fun _ => false) (fun _ => fun _ => false) (fun _ _ => fun _ => false) (fun _ => false) (fun _ _ => fun _ => false) (fun _ _ _ _ => fun _ => false) (fun _ _ _ _ => fun _ => false) (fun _ _ _ => fun _ => false) (fun _ => false) (fun _ => fun _ => false) (fun _ => false) (fun _ _ _ _ _ => fun _ => false) (fun _ => false) (fun _ => fun _ => false) (fun _ _ _ => fun _ => false) (fun _ => false) (fun _ _ _ => fun _ => false) (fun _ _ => fun _ => false) (fun _ => false) (fun A _ _ ihW => fun b => (v_tup (α := ((Nat → Bool) → Nat → Bool)) (fun _ _ => false) (fun W => fun q b => Bool.or (Nat.beq ((v_i (α := Nat) (0) (fun _ n => n) (nthC (.s (.s .z)) W))) b) (q b)) A) ihW b) (fun _ _ => fun _ => false) (fun _ _ _ => fun _ => false) es
def delM (es : V) : Nat → V := V.rec (motive := fun _ => Nat → V)
    (fun _ => .x) (fun _ => .x) (fun _ _ => fun _ => .x) (fun _ => fun _ => .x) (fun _ _ => fun _ => .x) (fun _ => .x) (fun _ _ => fun _ => .x) (fun _ _ _ _ => fun _ => .x) (fun _ _ _ _ => fun _ => .x) (fun _ _ _ => fun _ => .x) (fun _ => .x) (fun _ => fun _ => .x) (fun _ => .x) (fun _ _ _ _ _ => fun _ => .x) (fun _ => .x) (fun _ => fun _ => .x) (fun _ _ _ => fun _ => .x) (fun _ => .x) (fun _ _ _ => fun _ => .x) (fun _ _ => fun _ => .x) (fun _ => .nil) (fun A W _ ihW => fun b => (v_tup (α := ((Nat → V) → V → Nat → V → V)) (fun _ _ _ _ => .x) (fun W => fun q r b e => Bool.rec (.cons e (q b)) r (Nat.beq ((v_i (α := Nat) (0) (fun _ n => n) (nthC (.s (.s .z)) W))) b)) A) ihW W b A) (fun _ _ => fun _ => .x) (fun _ _ _ => fun _ => .x) es
def endM (es : V) : V → V := V.rec (motive := fun _ => V → V)
    (fun _ => .x) (fun _ => .x) (fun _ _ => fun _ => .x) (fun _ => fun _ => .x) (fun _ _ => fun _ => .x) (fun _ => .x) (fun _ _ => fun _ => .x) (fun _ _ _ _ => fun _ => .x) (fun _ _ _ _ => fun _ => .x) (fun _ _ _ => fun _ => .x) (fun _ => .x) (fun _ => fun _ => .x) (fun _ => .x) (fun _ _ _ _ _ => fun _ => .x) (fun _ => .x) (fun _ => fun _ => .x) (fun _ _ _ => fun _ => .x) (fun _ => .x) (fun _ _ _ => fun _ => .x) (fun _ _ => fun _ => .x) (fun e => .cons e .nil) (fun A _ _ ihW => fun e => .cons A (ihW e)) (fun _ _ => fun _ => .x) (fun _ _ _ => fun _ => .x) es
def lookEnd (ok : Bool) (v : V) (z : Bool) (k : K1) : R := Bool.rec (k v) (k (.tup (.cons v (.cons (.b z) .nil)))) ok
structure KY where
 ok : V → (V → R) → R
 cmp : V → V → (Bool → R) → R
def kyI (kd : Nat) : KY := ⟨fun v q => asI v (fun k n => Bool.rec (.bad 110) (q (.i k n)) (Nat.beq k kd)), cmpV⟩
def kyS : KY := ⟨fun v q => asS v (fun l n => q (.s l n)), cmpV⟩
def kyB : KY := ⟨fun v q => asB v (fun z => q (.b z)), cmpV⟩
def hLookup (ky : KY) (ok : Bool) (zero : V) (x y : Opnd) : BH := fun b n t k => ky.ok (ev y n t) (fun kk => (v_m_nm (α := (Blk → K1 → V → R)) (fun _ _ _ => .bad 71) (fun _ => fun b q kk => asMap b (fun es _ => findM ky.cmp es kk (fun e => asEnt e (fun _ v _ => lookEnd ok v true q)) (lookEnd ok zero false q))) (fun _ q _ => lookEnd ok zero false q) (ev x n t)) b k kk)
def bytesN (v : V) : Nat → Nat → (Nat → R) → R := V.rec (motive := fun _ => Nat → Nat → (Nat → R) → R)
    (fun _ _ _ => .bad 73) (fun _ _ _ => .bad 72) (fun k n => fun _ _ q => Bool.rec (.bad 74) (q n) (Nat.beq k 4)) (fun _ => fun _ _ _ => .bad 72) (fun _ _ => fun _ _ _ => .bad 72) (fun _ _ _ => .bad 72) (fun _ _ => fun _ _ _ => .bad 72) (fun _ _ _ _ => fun _ _ _ => .bad 72) (fun _ _ _ _ => fun _ _ _ => .bad 72) (fun _ _ _ => fun _ _ _ => .bad 72) (fun _ _ _ => .bad 72) (fun _ => fun _ _ _ => .bad 72) (fun _ _ _ => .bad 72) (fun _ _ _ _ _ => fun _ _ _ => .bad 72) (fun _ _ _ => .bad 72) (fun _ => fun _ _ _ => .bad 72) (fun _ _ _ => fun _ _ _ => .bad 72) (fun _ _ _ => .bad 72) (fun _ _ _ => fun _ _ _ => .bad 72) (fun _ _ => fun _ _ _ => .bad 72) (fun _ _ _ => .bad 73) (fun A _ ihA ihW => fun o mm q => Bool.rec (Bool.rec (Bool.rec (ihA o (Nat.sub (wd A) o) (fun y => ihW 0 (Nat.sub mm (Nat.sub (wd A) o)) (fun r => q (Nat.add y (Nat.shiftLeft r (Nat.mul 8 (Nat.sub (wd A) o))))))) (ihA o mm q) (Nat.ble (Nat.add o mm) (wd A))) (ihW (Nat.sub o (wd A)) mm q) (Nat.ble (wd A) o)) (q 0) (isZ mm)) (fun _ n => fun o mm q => q (bytesAt n o mm)) (fun _ _ ihW => ihW) v
def hBytesStr (x : Opnd) : BH := fun b n t k => (V.rec (motive := fun _ => (Blk → K1 → R))
    (fun _ _ => .bad 75) (fun _ _ => .bad 75) (fun _ _ => fun _ _ => .bad 75) (fun _ => fun _ _ => .bad 75) (fun _ _ => fun _ _ => .bad 75) (fun _ _ => .bad 75) (fun _ _ => fun _ _ => .bad 75) (fun _ o l _ => fun b q => asRow b (fun _ _ N _ _ cs => Bool.rec (.bad 76) (bytesN cs o l (fun y => q (.s l y))) (Nat.ble (Nat.add o l) N))) (fun _ o _ l => fun b q => asRow b (fun _ _ N _ _ cs => Bool.rec (.bad 76) (bytesN cs o l (fun y => q (.s l y))) (Nat.ble (Nat.add o l) N))) (fun _ _ _ => fun _ _ => .bad 75) (fun _ q => q (.s 0 0)) (fun _ => fun _ _ => .bad 75) (fun _ _ => .bad 75) (fun _ _ _ _ _ => fun _ _ => .bad 75) (fun _ _ => .bad 75) (fun _ => fun _ _ => .bad 75) (fun _ _ _ => fun _ _ => .bad 75) (fun _ _ => .bad 75) (fun _ _ _ => fun _ _ => .bad 75) (fun _ _ => fun _ _ => .bad 75) (fun _ _ => .bad 75) (fun _ _ _ _ => fun _ _ => .bad 75) (fun _ _ => fun _ _ => .bad 75) (fun _ _ _ => fun _ _ => .bad 75) (ev x n t)) b k
def hEqBy (len : Nat) (neg : Bool) (x y : Opnd) : PH := fun n t k => asAgg (ev x n t) (fun w cs => asAgg (ev y n t) (fun w' cs' => Bool.rec (.bad 121)
 (bytesN cs 0 len (fun a => bytesN cs' 0 len (fun b => eqK neg (Bool.rec 0 1 (Nat.beq a b)) k))) (Bool.and (Nat.beq w len) (Nat.beq w' len))))
inductive Lf where
 | i (o kd : Nat)
 | b (o : Nat)
 | s (o : Nat)
 | y (o n : Nat)
def tsL (l : Lf) : V → V → (Bool → R) → R :=
 Lf.rec (motive := fun _ => V → V → (Bool → R) → R)
  (fun o kd cs cs' q => asI (atC cs o) (fun k1 a => asI (atC cs' o) (fun k2 b => chk2 k1 k2 kd (q (Nat.beq a b)))))
  (fun o cs cs' q => asB (atC cs o) (fun a => asB (atC cs' o) (fun b => q (Bool.rec (notB b) b a))))
  (fun o cs cs' q => asS (atC cs o) (fun l a => asS (atC cs' o) (fun m b => Bool.rec (.bad 137) (q (Bool.and (Nat.beq l m) (Nat.beq a b))) (Bool.and (lt l 9223372036854775808) (lt m 9223372036854775808)))))
  (fun o n cs cs' q => bytesN cs o n (fun a => bytesN cs' o n (fun b => q (Nat.beq a b)))) l
def tsAll (l : List Lf) : V → V → Bool → (Bool → R) → R :=
 List.rec (motive := fun _ => V → V → Bool → (Bool → R) → R) (fun _ _ z q => q z) (fun x _ ih cs cs' z q => tsL x cs cs' (fun b => ih cs cs' (Bool.and z b) q)) l
def kyD (w : Nat) (l : List Lf) : KY := ⟨fun v q => asAgg v (fun w1 cs => Bool.rec (.bad 138) (tsAll l cs cs true (fun _ => q v)) (Nat.beq w1 w)),
 fun a b q => asAgg a (fun w1 cs => asAgg b (fun w2 cs' => Bool.rec (.bad 139) (tsAll l cs cs' true q) (Bool.and (Nat.beq w1 w) (Nat.beq w2 w))))⟩
def hEqD (w : Nat) (l : List Lf) (neg : Bool) (x y : Opnd) : PH := fun n t k => asAgg (ev x n t) (fun w1 cs => asAgg (ev y n t) (fun w2 cs' => Bool.rec (.bad 136)
 (tsAll l cs cs' true (fun z => k (.b (Bool.rec z (notB z) neg)))) (Bool.and (Nat.beq w1 w) (Nat.beq w2 w))))
abbrev AH := List V → T → ((Nm → V) → Blk → R) → R
def hAlloc (el sz : Nat) (z : V) : AH := fun _ _ q => q (fun a => .p a 0) (.row el sz sz false 0 z)
def hBox (el sz : Nat) (agg : Bool) (x : Opnd) : AH := fun n t q => toCk agg sz (ev x n t) (fun y => q (fun a => .p a 0) (.row el sz sz false 0 (.cons y .nil)))
def hBuildSl (el sz len : Nat) (z : V) (l : List Prt) : AH := fun n t q => hParts l n t z (fun cs => q (fun a => .sl a 0 len len) (.row el sz (Nat.mul len sz) false 0 cs))
def okC (v : V) : Bool := V.rec (motive := fun _ => Bool)
    (false) (false) (fun _ _ => true) (fun _ => true) (fun _ _ => true) (true) (fun _ _ => true) (fun _ _ _ _ => true) (fun _ _ _ _ => true) (fun _ _ _ => true) (true) (fun _ => true) (true) (fun _ _ _ _ _ => true) (true) (fun _ => true) (fun _ _ _ => true) (true) (fun _ _ _ => false) (fun _ _ => false) (true) (fun _ _ ihA ihW => Bool.and ihA ihW) (fun _ _ => true) (fun w W ihW => Bool.and (Nat.beq w (tw W)) ihW) v
def repK (y : V) : Nat → V := (v_i (α := (V → Nat → V)) (fun y n => Nat.rec (motive := fun _ => V) .nil (fun _ ih => .cons y ih) n) (fun k n => fun y m => Bool.rec (Nat.rec (motive := fun _ => V) .nil (fun _ ih => .cons y ih) m) (.cons (.bs m 0) .nil) (Bool.and (Nat.beq k 4) (isZ n))) y) y
def hMakeSl (el sz : Nat) (z : V) (x y : Opnd) : AH := fun n t q => asN (ev x n t) (fun l => asN (ev y n t) (fun c =>
 Bool.rec (.bad 77) (Bool.rec (.bad 78) (q (fun a => .sl a 0 l c) (.row el sz (Nat.mul c sz) false 0 (repK z c))) (Nat.ble c 1048576)) (Nat.ble l c)))
def hMakeMap : AH := fun _ _ q => q (fun a => .m a) (.map .nil 0)
def hStrBytes (el : Nat) (x : Opnd) : AH := fun n t q => asS (ev x n t) (fun l s => Bool.rec (.bad 139) (q (fun a => .so a 0 0 l) (.row el 1 l true 0 (.cons (.bs l s) .nil))) (lt l 9223372036854775808))
abbrev Cal := V → V → H → Nm → C
abbrev KW := V → List D → H → Nm → R
abbrev WH := Cal → List V → T → List D → H → Nm → KW → R
def hMarkS (x : Opnd) : WH := fun _ n t d h c k => (v_sl_so (α := (List D → H → Nm → KW → R)) (fun _ _ _ _ => .bad 56) (fun a o l c => fun d h ct q => asRow (H.get a h) (fun _ sz _ _ fz _ => Bool.rec (.bad 57) (q (.sl a o l c) d h ct) (Bool.and (isZ fz) (Nat.beq sz 1)))) (fun a o e l => fun d h ct q => asRow (H.get a h) (fun _ sz _ _ fz _ => Bool.rec (.bad 57) (q (.so a o e l) d h ct) (Bool.and (isZ fz) (Nat.beq sz 1)))) (ev x n t)) d h c k
def hStore (agg : Bool) (sz : Nat) (x y : Opnd) : WH := fun _ n t d h c k => asP (ev x n t) (fun a o => toCk agg sz (ev y n t) (fun ck => asRow (H.get a h) (fun el s N op fz cs =>
 Bool.rec (.bad 80) (Bool.rec (.bad 81) (Bool.rec (.bad 112) (k .u d (H.set a (.row el s N op fz (setC cs o sz ck)) h) c) (okC ck)) (Nat.ble fz o)) (Nat.ble (Nat.add o sz) N))))
def hStore0 (x y : Opnd) : WH := fun _ n t d h c k => asP (ev x n t) (fun _ _ => asAgg (ev y n t) (fun w _ => Bool.rec (.bad 138) (k .u d h c) (isZ w)))
def hCall (f : Opnd) (l : List Opnd) : WH := fun cal n t d h c k => Bool.rec (.bad 120) (hList l n t (fun args =>
 C.rec (motive := fun _ => KW → T → List D → R) (fun e _ _ _ => .bad e) (fun v h c k _ d => k v d h c) (fun ch h c _ t d => .panic ch t d h c) (cal (ev f n t) args h c) k t d)) (nx (ev f n t))
def slCells (sz : Nat) (v : V) : H → (Nat → V → R) → R := V.rec (motive := fun _ => H → (Nat → V → R) → R)
    (fun _ _ => .bad 82) (fun _ _ => .bad 82) (fun _ _ => fun _ _ => .bad 82) (fun _ => fun _ _ => .bad 82) (fun _ _ => fun _ _ => .bad 82) (fun _ _ => .bad 82) (fun l n => fun _ q => Bool.rec (.bad 114) (q l (.cons (.bs l n) .nil)) (Nat.beq sz 1)) (fun a o l _ => fun h q => asRow (H.get a h) (fun _ _ N _ _ cs => Bool.rec (.bad 83) (q l (subC cs o (Nat.mul l sz))) (Nat.ble (Nat.add o (Nat.mul l sz)) N))) (fun a o _ l => fun h q => asRow (H.get a h) (fun _ _ N _ _ cs => Bool.rec (.bad 83) (q l (subC cs o (Nat.mul l sz))) (Nat.ble (Nat.add o (Nat.mul l sz)) N))) (fun _ _ _ => fun _ q => q 0 .nil) (fun _ q => q 0 .nil) (fun _ => fun _ _ => .bad 82) (fun _ _ => .bad 82) (fun _ _ _ _ _ => fun _ _ => .bad 82) (fun _ _ => .bad 82) (fun _ => fun _ _ => .bad 82) (fun _ _ _ => fun _ _ => .bad 82) (fun _ _ => .bad 82) (fun _ _ _ => fun _ _ => .bad 82) (fun _ _ => fun _ _ => .bad 82) (fun _ _ => .bad 82) (fun _ _ _ _ => fun _ _ => .bad 82) (fun _ _ => fun _ _ => .bad 82) (fun _ _ _ => fun _ _ => .bad 82) v
def ln (v : V) : Nat := V.rec (motive := fun _ => Nat)
    (0) (0) (fun _ _ => 0) (fun _ => 0) (fun _ _ => 0) (0) (fun _ _ => 0) (fun _ _ _ _ => 0) (fun _ _ _ _ => 0) (fun _ _ _ => 0) (0) (fun _ => 0) (0) (fun _ _ _ _ _ => 0) (0) (fun _ => 0) (fun _ _ _ => 0) (0) (fun _ _ _ => 0) (fun _ _ => 0) (0) (fun A _ _ ihW => Nat.add (wd A) ihW) (fun _ _ => 0) (fun _ _ _ => 0) v
def newOpen (el sz l : Nat) (cs : V) (d : List D) (h : H) (c : Nm) (k : KW) : R := Bool.rec (.bad 115) (k (.so c 0 0 l) d (H.set c (.row el sz (Nat.mul l sz) true 0 cs) h) (Nm.succ c)) (Nat.ble l 1048576)
def oneC (v : V) (q : V → V) (r : V) : V := v_cons (α := V) (r) (fun A W => (v_nil (α := V) (r) (q A) W)) v
def asBs (v : V) (q : Nat → Nat → V) (r : V) : V := V.rec (motive := fun _ => V)
    (r) (r) (fun k n => Bool.rec r (q 1 n) (Nat.beq k 4)) (fun _ => r) (fun _ _ => r) (r) (fun _ _ => r) (fun _ _ _ _ => r) (fun _ _ _ _ => r) (fun _ _ _ => r) (r) (fun _ => r) (r) (fun _ _ _ _ _ => r) (r) (fun _ => r) (fun _ _ _ => r) (r) (fun _ _ _ => r) (fun _ _ => r) (r) (fun _ _ _ _ => r) (fun l n => q l n) (fun w W _ => oneC W (fun A => (v_bs (α := (Nat → V)) (fun _ => r) (fun l n => fun w => Bool.rec r (q l n) (Nat.beq l w)) A) w) r) v
def appP (a b : V) : V := oneC a (fun A => oneC b (fun B => asBs A (fun l n => asBs B (fun l2 n2 => .cons (.bs (Nat.add l l2) (bytesPut n l l2 n2)) .nil) (appC a b)) (appC a b)) (appC a b)) (appC a b)
def app2 (w : Nat) (a b : V) (q : V → R) : R := Bool.rec (.bad 116) (q (appP a b)) (Nat.beq (ln a) w)
def putRow (a : Nm) (o w : Nat) (ys : V) (r : V) (d : List D) (h : H) (c : Nm) (k : KW) : R :=
 asRow (H.get a h) (fun el s N op fz cs => Bool.rec (.bad 84) (Bool.rec (.bad 85) (Bool.rec (.bad 113) (k r d (H.set a (.row el s N op fz (setC cs o w (mkSp ys w))) h) c) (okC (mkSp ys w))) (Nat.ble fz o)) (Nat.ble (Nat.add o w) N))
def appK (el sz : Nat) (s : V) (m : Nat) (ys : V) : List D → H → Nm → KW → R := (V.rec (motive := fun _ => (Nat → V → List D → H → Nm → KW → R))
    (fun _ _ _ _ _ _ => .bad 86) (fun _ _ _ _ _ _ => .bad 86) (fun _ _ => fun _ _ _ _ _ _ => .bad 86) (fun _ => fun _ _ _ _ _ _ => .bad 86) (fun _ _ => fun _ _ _ _ _ _ => .bad 86) (fun _ _ _ _ _ _ => .bad 86) (fun _ _ => fun _ _ _ _ _ _ => .bad 86) (fun a o l c => fun m ys d h ct k => Bool.rec (asRow (H.get a h) (fun _ _ N _ _ cs => Bool.rec (.bad 87) (app2 (Nat.mul l sz) (subC cs o (Nat.mul l sz)) ys (fun zs => newOpen el sz (Nat.add l m) zs d h ct k)) (Nat.ble (Nat.add o (Nat.mul l sz)) N)))
     (Bool.rec (putRow a (Nat.add o (Nat.mul l sz)) (Nat.mul m sz) ys (.sl a o (Nat.add l m) c) d h ct k) (k (.sl a o l c) d h ct) (isZ m)) (Nat.ble (Nat.add l m) c)) (fun a o e l => fun m ys d h ct k => Bool.rec (Bool.rec (asRow (H.get a h) (fun el' s' N op fz cs =>
      Bool.rec (.bad 88) (Bool.rec (.bad 89) (Bool.rec (.bad 117) (app2 (Nat.mul l sz) (subC cs 0 (Nat.mul l sz)) ys (fun zs => Bool.rec (.bad 118) (k (.so ct 0 0 (Nat.add l m)) d (H.set ct (.row el' s' (Nat.mul (Nat.add l m) sz) true fz zs) (H.set a .no h)) (Nm.succ ct)) (okC (mkSp ys (Nat.mul m sz)))))
       (Bool.and (Bool.and (Nat.beq el' el) (Nat.beq s' sz)) (Nat.ble (Nat.add l m) 1048576))) (Bool.and (Bool.and op (Nat.ble fz (Nat.mul l sz))) (Nat.beq N (Nat.mul (Nat.add l e) sz)))) (isZ o)))
      (putRow a (Nat.add o (Nat.mul l sz)) (Nat.mul m sz) ys (.so a o (Nat.sub e m) (Nat.add l m)) d h ct k)
      (Nat.ble m e))
     (k (.so a o e l) d h ct) (isZ m)) (fun _ _ _ => fun _ _ _ _ _ _ => .bad 86) (fun m ys d h c k => Bool.rec (newOpen el sz m ys d h c k) (k .ns d h c) (isZ m)) (fun _ => fun _ _ _ _ _ _ => .bad 86) (fun _ _ _ _ _ _ => .bad 86) (fun _ _ _ _ _ => fun _ _ _ _ _ _ => .bad 86) (fun _ _ _ _ _ _ => .bad 86) (fun _ => fun _ _ _ _ _ _ => .bad 86) (fun _ _ _ => fun _ _ _ _ _ _ => .bad 86) (fun _ _ _ _ _ _ => .bad 86) (fun _ _ _ => fun _ _ _ _ _ _ => .bad 86) (fun _ _ => fun _ _ _ _ _ _ => .bad 86) (fun _ _ _ _ _ _ => .bad 86) (fun _ _ _ _ => fun _ _ _ _ _ _ => .bad 86) (fun _ _ => fun _ _ _ _ _ _ => .bad 86) (fun _ _ _ => fun _ _ _ _ _ _ => .bad 86) s) m ys
def hAppend (el sz : Nat) (x y : Opnd) : WH := fun _ n t d h c k => slCells sz (ev y n t) h (fun m ys => appK el sz (ev x n t) m ys d h c k)
def hAppendZ (el sz : Nat) (z : V) (x y : Opnd) : WH := fun _ n t d h c k => asN (ev y n t) (fun m => Bool.rec (.bad 90) (appK el sz (ev x n t) m (repK z m) d h c k) (Nat.ble m 1048576))
def hCopy (sz : Nat) (x y : Opnd) : WH := fun _ n t d h c k => slCells sz (ev y n t) h (fun m ys => Bool.rec (.bad 119) ((V.rec (motive := fun _ => (Nat → V → List D → H → Nm → KW → R))
    (fun _ _ _ _ _ _ => .bad 91) (fun _ _ _ _ _ _ => .bad 91) (fun _ _ => fun _ _ _ _ _ _ => .bad 91) (fun _ => fun _ _ _ _ _ _ => .bad 91) (fun _ _ => fun _ _ _ _ _ _ => .bad 91) (fun _ _ _ _ _ _ => .bad 91) (fun _ _ => fun _ _ _ _ _ _ => .bad 91) (fun a o l _ => fun m ys d h ct k => Bool.rec (Bool.rec (putRow a o (Nat.mul l sz) (subC ys 0 (Nat.mul l sz)) (.i 3 l) d h ct k) (k (.i 3 0) d h ct) (isZ l)) (Bool.rec (putRow a o (Nat.mul m sz) ys (.i 3 m) d h ct k) (k (.i 3 0) d h ct) (isZ m)) (Nat.ble m l)) (fun a o _ l => fun m ys d h ct k => Bool.rec (Bool.rec (putRow a o (Nat.mul l sz) (subC ys 0 (Nat.mul l sz)) (.i 3 l) d h ct k) (k (.i 3 0) d h ct) (isZ l)) (Bool.rec (putRow a o (Nat.mul m sz) ys (.i 3 m) d h ct k) (k (.i 3 0) d h ct) (isZ m)) (Nat.ble m l)) (fun _ _ _ => fun _ _ _ _ _ _ => .bad 91) (fun _ _ d h c k => k (.i 3 0) d h c) (fun _ => fun _ _ _ _ _ _ => .bad 91) (fun _ _ _ _ _ _ => .bad 91) (fun _ _ _ _ _ => fun _ _ _ _ _ _ => .bad 91) (fun _ _ _ _ _ _ => .bad 91) (fun _ => fun _ _ _ _ _ _ => .bad 91) (fun _ _ _ => fun _ _ _ _ _ _ => .bad 91) (fun _ _ _ _ _ _ => .bad 91) (fun _ _ _ => fun _ _ _ _ _ _ => .bad 91) (fun _ _ => fun _ _ _ _ _ _ => .bad 91) (fun _ _ _ _ _ _ => .bad 91) (fun _ _ _ _ => fun _ _ _ _ _ _ => .bad 91) (fun _ _ => fun _ _ _ _ _ _ => .bad 91) (fun _ _ _ => fun _ _ _ _ _ _ => .bad 91) (ev x n t)) m ys d h c k) (lt m 9223372036854775808))
def hClear (sz : Nat) (z : V) (x : Opnd) : WH := fun _ n t d h c k => (V.rec (motive := fun _ => (List D → H → Nm → KW → R))
    (fun _ _ _ _ => .bad 130) (fun _ _ _ _ => .bad 130) (fun _ _ => fun _ _ _ _ => .bad 130) (fun _ => fun _ _ _ _ => .bad 130) (fun _ _ => fun _ _ _ _ => .bad 130) (fun _ _ _ _ => .bad 130) (fun _ _ => fun _ _ _ _ => .bad 130) (fun a o l _ => fun d h ct k => Bool.rec (putRow a o (Nat.mul l sz) (repK z l) (.tup .nil) d h ct k) (k (.tup .nil) d h ct) (isZ l)) (fun a o _ l => fun d h ct k => Bool.rec (putRow a o (Nat.mul l sz) (repK z l) (.tup .nil) d h ct k) (k (.tup .nil) d h ct) (isZ l)) (fun _ _ _ => fun _ _ _ _ => .bad 130) (fun d h c k => k (.tup .nil) d h c) (fun _ => fun _ _ _ _ => .bad 130) (fun _ _ _ _ => .bad 130) (fun _ _ _ _ _ => fun _ _ _ _ => .bad 130) (fun _ _ _ _ => .bad 130) (fun _ => fun _ _ _ _ => .bad 130) (fun _ _ _ => fun _ _ _ _ => .bad 130) (fun _ _ _ _ => .bad 130) (fun _ _ _ => fun _ _ _ _ => .bad 130) (fun _ _ => fun _ _ _ _ => .bad 130) (fun _ _ _ _ => .bad 130) (fun _ _ _ _ => fun _ _ _ _ => .bad 130) (fun _ _ => fun _ _ _ _ => .bad 130) (fun _ _ _ => fun _ _ _ _ => .bad 130) (ev x n t)) d h c k
def hMapUpd (ky : KY) (x y z : Opnd) : WH := fun _ n t d h c k => asM (ev x n t) (fun a => asMap (H.get a h) (fun es cl => ky.ok (ev y n t) (fun kk => Bool.rec (.bad 92)
 (findM ky.cmp es kk (fun e => asEnt e (fun _ _ bo => k .u d (H.set a (.map (putM es bo (ev z n t)) cl) h) c)) (k .u d (H.set a (.map (endM es (ent kk (ev z n t) cl)) (Nat.succ cl)) h) c)) (Bool.and (nx (ev z n t)) (lt cl 4294967296)))))
def hMapEnt (ky : KY) (zero : V) (x y : Opnd) : WH := fun _ n t d h c k => asM (ev x n t) (fun a => asMap (H.get a h) (fun es cl => ky.ok (ev y n t) (fun kk => Bool.rec (.bad 94)
 (findM ky.cmp es kk (fun e => asEnt e (fun _ v bo => k (.tup (.cons v (.cons (.i 3 bo) .nil))) d h c)) (k (.tup (.cons zero (.cons (.i 3 cl) .nil))) d (H.set a (.map (endM es (ent kk zero cl)) (Nat.succ cl)) h) c)) (lt cl 4294967296))))
def hDelete (ky : KY) (x y : Opnd) : WH := fun _ n t d h c k => asM (ev x n t) (fun a => asMap (H.get a h) (fun es cl => ky.ok (ev y n t) (fun kk =>
 findM ky.cmp es kk (fun e => asEnt e (fun _ _ bo => k (.tup .nil) d (H.set a (.map (delM es bo) cl) h) c)) (k (.tup .nil) d h c))))
def hEntSt (x y z : Opnd) : WH := fun _ n t d h c k => asM (ev x n t) (fun a => asMap (H.get a h) (fun es cl => asI (ev y n t) (fun kd bo => Bool.rec (.bad 95) (Bool.rec (.bad 111) (k .u d (H.set a (.map (putM es bo (ev z n t)) cl) h) c) (Bool.and (Bool.and (Nat.beq kd 3) (hasM es bo)) (lt bo 4294967296))) (nx (ev z n t)))))
def hPanic (x : Opnd) : WH := fun _ n t d h c _ => (v_ifc (α := (V → T → List D → H → Nm → R)) (fun _ _ _ _ _ => .bad 96) (fun _ _ => fun v t d h c => .panic v t d h c) (ev x n t)) (ev x n t) t d h c
def hDefer (f : Opnd) (l : List Opnd) : WH := fun _ n t d h c k => Bool.rec (.bad 97) (hList l n t (fun args => k .u (.call (ev f n t) args :: d) h c)) (nx (ev f n t))
def hRecover : WH := fun _ _ _ d h c k => k .ni d h c
def sameF (g : Fn) (y : Fn) : Bool := Fn.rec (motive := fun _ => Bool) (fun f => Fn.rec (motive := fun _ => Bool) (fun f2 => Nat.beq f f2) (fun _ => false) (fun _ _ => false) (fun _ _ _ _ => false) (fun _ => false) y) (fun _ => false) (fun _ _ => false) (fun _ _ _ _ => false) (fun _ => false) g
def sameV (v : V) : V → Bool := V.rec (motive := fun _ => V → Bool)
    (fun _ => false) (fun y => v_u (α := Bool) (false) (true) y) (fun k n => fun y => (v_i (α := (Nat → Nat → Bool)) (fun _ _ => false) (fun k n => fun k2 n2 => Bool.rec false (Nat.beq n2 n) (Nat.beq k2 k)) y) k n) (fun z => fun y => (v_b (α := (Bool → Bool)) (fun _ => false) (fun z => fun z2 => Bool.rec (notB z) z z2) y) z) (fun a o => fun y => (v_p (α := (Nm → Nat → Bool)) (fun _ _ => false) (fun a o => fun a2 o2 => Bool.rec false (Nm.beq a2 a) (Nat.beq o2 o)) y) a o) (fun y => v_np (α := Bool) (false) (true) y) (fun l n => fun y => (v_s (α := (Nat → Nat → Bool)) (fun _ _ => false) (fun l n => fun l2 n2 => Bool.rec false (Nat.beq n2 n) (Nat.beq l2 l)) y) l n) (fun a o l c => fun y => (v_sl (α := (Nm → Nat → Nat → Nat → Bool)) (fun _ _ _ _ => false) (fun a o l c => fun a2 o2 l2 c2 => Bool.rec false (Bool.rec false (Bool.rec false (Nm.beq a2 a) (Nat.beq c2 c)) (Nat.beq l2 l)) (Nat.beq o2 o)) y) a o l c) (fun a o e l => fun y => (v_so (α := (Nm → Nat → Nat → Nat → Bool)) (fun _ _ _ _ => false) (fun a o e l => fun a2 o2 e2 l2 => Bool.rec false (Bool.rec false (Bool.rec false (Nm.beq a2 a) (Nat.beq l2 l)) (Nat.beq e2 e)) (Nat.beq o2 o)) y) a o e l) (fun _ _ _ => fun _ => false) (fun y => v_ns (α := Bool) (false) (true) y) (fun a => fun y => (v_m (α := (Nm → Bool)) (fun _ => false) (fun a => fun a2 => Nm.beq a2 a) y) a) (fun y => v_nm (α := Bool) (false) (true) y) (fun g _ _ ihF ihG => fun y => (v_f (α := (Fn → (V → Bool) → (V → Bool) → Bool)) (fun _ _ _ => false) (fun g F G => fun g2 q1 q2 => Bool.rec false (Bool.rec false (q2 G) (q1 F)) (sameF g2 g)) y) g ihF ihG) (fun y => v_nf (α := Bool) (false) (true) y) (fun a => fun y => (v_yl (α := (Nm → Bool)) (fun _ => false) (fun a => fun a2 => Nm.beq a2 a) y) a) (fun t _ ihW => fun y => (v_ifc (α := (Nat → (V → Bool) → Bool)) (fun _ _ => false) (fun t W => fun t2 q => Bool.rec false (q W) (Nat.beq t2 t)) y) t ihW) (fun y => v_ni (α := Bool) (false) (true) y) (fun w _ ihW => fun y => (v_agg (α := (Nat → (V → Bool) → Bool)) (fun _ _ => false) (fun w W => fun w2 q => Bool.rec false (q W) (Nat.beq w2 w)) y) w ihW) (fun _ ihW => fun y => (v_tup (α := ((V → Bool) → Bool)) (fun _ => false) (fun W => fun q => q W) y) ihW) (fun y => v_nil (α := Bool) (false) (true) y) (fun _ _ ihA ihW => fun y => (v_cons (α := ((V → Bool) → (V → Bool) → Bool)) (fun _ _ => false) (fun A W => fun qa qw => Bool.rec false (qw W) (qa A)) y) ihA ihW) (fun l n => fun y => (v_bs (α := (Nat → Nat → Bool)) (fun _ _ => false) (fun l n => fun l2 n2 => Bool.rec false (Nat.beq n2 n) (Nat.beq l2 l)) y) l n) (fun w _ ihW => fun y => (v_sp (α := (Nat → (V → Bool) → Bool)) (fun _ _ => false) (fun w W => fun w2 q => Bool.rec false (q W) (Nat.beq w2 w)) y) w ihW) v
inductive Iop where
 | p (f : PH)
 | r (x : Opnd) (f : BH)
 | a (f : AH)
 | w (f : WH)
 | g (x : Opnd) (want : Bool) (o : Iop)
 | k (x : Opnd) (f : BH) (j : U)
 | an (j : U) (f : AH)
 | bad (n : Nat)
def guardK (v : V) : (Bool → R) → R → R := v_x_b (α := (Bool → R) → R → R) (fun _ r => r) (fun _ _ => .bad 98) (fun z => fun q _ => q z) v
def execO (o : Iop) : Cal → List V → T → List D → H → Nm → KW → R :=
 Iop.rec (motive := fun _ => Cal → List V → T → List D → H → Nm → KW → R)
  (fun f _ n t d h c k => f n t (fun v => k v d h c))
  (fun x f _ n t d h c k => rdK x f n t h (fun v => k v d h c))
  (fun f _ n t d h c k => f n t (fun v b => k (v c) d (H.set c b h) (Nm.succ c)))
  (fun f => f)
  (fun x want _ ih cal n t d h c k => guardK (ev x n t) (fun z => Bool.rec (k .u d h c) (ih cal n t d h c k) (Bool.rec (notB want) want z)) (k .u d h c))
  (fun x f j _ n t d h c k => rdK x f n t h (fun v => Bool.rec (.bad 99) (k .u d h c) (sameV v (nth j n))))
  (fun _ _ _ _ _ _ _ _ _ => .bad 132)
  (fun e _ _ _ _ _ _ _ => .bad e) o
def kV : K1 := fun v => .norm (.nd .e v .e) [] .e .h
def kW : KW := fun v d h c => .norm (.nd .e v .e) d h c
def exV (r : R) : (V → R) → R := R.rec (motive := fun _ => (V → R) → R) (fun n _ => .bad n) (fun t _ _ _ q => q (T.get .h t)) (fun _ _ _ _ _ => .bad 130) (fun _ _ _ _ _ _ => .bad 130) (fun _ _ _ _ _ _ => .bad 131) r
def exA (r : R) : (V → Blk → R) → R := R.rec (motive := fun _ => (V → Blk → R) → R) (fun n _ => .bad n) (fun t _ h _ q => q (T.get .h t) (H.get .h h)) (fun _ _ _ _ _ => .bad 130) (fun _ _ _ _ _ _ => .bad 130) (fun _ _ _ _ _ _ => .bad 131) r
def exW (r : R) : KW → R := R.rec (motive := fun _ => KW → R) (fun n _ => .bad n) (fun t d h c q => q (T.get .h t) d h c) (fun _ _ _ _ _ => .bad 130) (fun _ _ _ _ _ _ => .bad 130) (fun _ _ _ _ _ _ => .bad 131) r
def execX (o : Iop) : Cal → List V → T → List D → H → Nm → KW → R :=
 Iop.rec (motive := fun _ => Cal → List V → T → List D → H → Nm → KW → R)
  (fun f _ n t d h c k => exV (f n t kV) (fun v => k v d h c))
  (fun x f _ n t d h c k => exV (rdK x f n t h kV) (fun v => k v d h c))
  (fun _ _ _ _ _ _ _ _ => .bad 133)
  (fun f cal n t d h c k => exW (f cal n t d h c kW) k)
  (fun x want _ ih cal n t d h c k => guardK (ev x n t) (fun z => Bool.rec (k .u d h c) (ih cal n t d h c k) (Bool.rec (notB want) want z)) (k .u d h c))
  (fun x f j _ n t d h c k => exV (rdK x f n t h kV) (fun v => Bool.rec (.bad 99) (k .u d h c) (sameV v (nth j n))))
  (fun j f _ n t d h c k => asM (nth j n) (fun nm => exA (f n t (fun mk b => .norm (.nd .e (mk nm) .e) [] (.nd .e b .e) .h)) (fun v b => k v d (H.set nm b h) c)))
  (fun e _ _ _ _ _ _ _ => .bad e) o
def chkL (l : List Iop) : Cal → List V → T → List D → H → Nm → R → R :=
 List.rec (motive := fun _ => Cal → List V → T → List D → H → Nm → R → R) (fun _ _ _ _ _ _ r => r)
  (fun o _ ih cal n t d h c r => execX o cal n t d h c (fun _ _ _ _ => ih cal n t d h c r)) l
def execD (l : List (Iop × List Iop)) : Cal → List V → T → List D → H → Nm → (List V → List D → H → Nm → R) → R :=
 List.rec (motive := fun _ => Cal → List V → T → List D → H → Nm → (List V → List D → H → Nm → R) → R)
  (fun _ n _ d h c k => k n d h c)
  (fun o _ ih cal n t d h c k => execX o.1 cal n t d h c (fun v d h c => chkL o.2 cal (v :: n) t d h c (ih cal (v :: n) t d h c k))) l
def resN (k : Nat) : Nm → List V → (List V → Nm → R) → R :=
 Nat.rec (motive := fun _ => Nm → List V → (List V → Nm → R) → R) (fun c n q => q n c) (fun _ ih c n q => ih (Nm.succ c) (.m c :: n) q) k
abbrev KN := T → List D → H → Nm → R
def execL (l : List Iop) : Cal → List V → T → List D → H → Nm → (List V → List D → H → Nm → R) → R :=
 List.rec (motive := fun _ => Cal → List V → T → List D → H → Nm → (List V → List D → H → Nm → R) → R)
  (fun _ n _ d h c k => k n d h c)
  (fun o _ ih cal n t d h c k => execO o cal n t d h c (fun v d h c => ih cal (v :: n) t d h c k)) l
def wrL (l : List (Nm × Opnd)) : List V → T → T → T :=
 List.rec (motive := fun _ => List V → T → T → T) (fun _ _ t => t) (fun p _ ih n t0 t => ih n t0 (T.set p.1 (ev p.2 n t0) t)) l
inductive Rg where
 | mk (ops : List Iop) (wr : List (Nm × Opnd))
def execR (r : Rg) : Cal → T → List D → H → Nm → KN → R :=
 Rg.rec (motive := fun _ => Cal → T → List D → H → Nm → KN → R)
  (fun ops wr cal t d h c k => execL ops cal [] t d h c (fun n d h c => k (wrL wr n t t) d h c)) r
end
end Go.Ev

namespace Go.Ev
noncomputable section
def tn (t : Nat) : Nm := Nm.ofNat (t + 1)
def gn (g : Nat) : Nm := Nm.ofNat (g + 1)
inductive Al where
 | r (j : Nat)
 | t (p : Nm)
 | c (v : V)
def findA (t : Nat) : List (Nat × Al) → Option Al
 | [] => none
 | (d, a) :: r => if Nat.beq d t then some a else findA t r
structure Ce where
 al : List (Nat × Al)
 n : Nat
 G : Nat
def Al.opd (n : Nat) : Al → Opnd
 | .r j => .n (U.ofNat (n - 1 - j))
 | .t p => .t p
 | .c v => .c v
def cAl (e : Ce) : Operand → Al
 | .tmp t => match findA t e.al with | some a => a | none => .t (tn t)
 | .const v => .c (cV v)
 | .global g => if g < e.G then .c (.p (gn g) 0) else .c .x
 | .func f => .c (.f (.func f) .nil .nil)
def cOpd (e : Ce) (x : Operand) : Opnd := (cAl e x).opd e.n
def okT (P : Program) (t : TypeId) : Bool := (P.underlying t).isSome && (isAggT P t || szT P t == 1)
def kindT (P : Program) (t : TypeId) : Option TypeDesc := P.underlying t
def cBinI (k : IntKind) (op : BinOp) (x y : Opnd) : Iop :=
    let q := kc k
    let m := kmask q
    let hf := khalf q
    let lt : Nat → Nat → Bool := if ksigned q then fun a b => lt (Nat.land (Nat.add a hf) m) (Nat.land (Nat.add b hf) m) else fun a b => lt a b
    match op with
    | .add => .p (hArith q (fun a b => Nat.land (Nat.add a b) m) x y)
    | .sub => .p (hArith q (fun a b => Nat.land (Nat.sub (Nat.add a (m + 1)) b) m) x y)
    | .mul => .p (hArith q (fun a b => Nat.land (Nat.mul a b) m) x y)
    | .quo => .p (hDiv q hf Nat.div (fun a b => Nat.land (Nat.sub (m + 1) (Nat.div (Nat.sub (m + 1) a) b)) m) x y)
    | .rem => .p (hDiv q hf Nat.mod (fun a b => Nat.land (Nat.sub (m + 1) (Nat.mod (Nat.sub (m + 1) a) b)) m) x y)
    | .and => .p (hArith q Nat.land x y)
    | .or => .p (hArith q Nat.lor x y)
    | .xor => .p (hArith q Nat.xor x y)
    | .andNot => .p (hArith q (fun a b => Nat.land a (Nat.xor b m)) x y)
    | .shl => .p (hShift q (fun a b => Nat.land (Nat.shiftLeft a b) m) x y)
    | .shr => if ksigned q then .p (hShift q (shrS hf m) x y) else .p (hShift q (fun a b => Nat.shiftRight a b) x y)
    | .eql => .p (hCmp q Nat.beq x y)
    | .neq => .p (hCmp q (fun a b => notB (Nat.beq a b)) x y)
    | .lss => .p (hCmp q lt x y)
    | .leq => .p (hCmp q (fun a b => notB (lt b a)) x y)
    | .gtr => .p (hCmp q (fun a b => lt b a) x y)
    | .geq => .p (hCmp q (fun a b => notB (lt a b)) x y)
def cEq (g : V → V → Nat) (op : BinOp) (x y : Opnd) : Iop := match op with
 | .eql => .p (hEq g false x y)
 | .neq => .p (hEq g true x y)
 | _ => .bad 303
def cBinS (op : BinOp) (x y : Opnd) : Iop := match op with
 | .add => .p (hCat x y)
 | _ => cEq eqStr op x y
def isU8 (P : Program) (e : TypeId) : Bool := match P.underlying e with
 | some (.int .u8) => true
 | _ => false
def cBinA (P : Program) (op : BinOp) (t : TypeId) (n : Nat) (e : TypeId) (x y : Opnd) : Iop := if isU8 P e && (szT P e == 1) && !(P.eqGuardType P.depth t) then (match op with
 | .eql => .p (hEqBy n false x y)
 | .neq => .p (hEqBy n true x y)
 | _ => .bad 303) else .bad 378
def leafA (f : Nat → Option (List Lf)) : List Nat → Option (List Lf)
 | [] => some []
 | i :: r => match f i, leafA f r with
   | some a, some b => some (a ++ b)
   | _, _ => none
def leavesT (P : Program) : Nat → TypeId → Nat → Option (List Lf)
 | 0, _, _ => none
 | d + 1, t, off => match P.underlying t with
   | some .bool => if szT P t = 1 then some [.b off] else none
   | some (.int k) => if szT P t = 1 then some [.i off (kc k)] else none
   | some .string => if szT P t = 1 then some [.s off] else none
   | some (.array n e) => if n * szT P e = szT P t then (if isU8 P e && szT P e == 1 && decide (0 < n) && decide (0 < d) then some [.y off n] else leafA (fun i => leavesT P d e (off + i * szT P e)) (List.range n)) else none
   | some (.struct fs) => if fs.all (·.name != "_") = true then leafA (fun i => match fs[i]? with
     | some f => if f.offset + szT P f.type ≤ szT P t then leavesT P d f.type (off + f.offset) else none
     | none => none) (List.range fs.size) else none
   | _ => none
def leafEnd : Lf → Nat
 | .i o _ | .b o | .s o => o + 1
 | .y o n => o + n
def cEqD (P : Program) (op : BinOp) (t : TypeId) (x y : Opnd) : Iop := if !(P.eqGuardType P.depth t) && P.keyTypeAt 12 t then (match leavesT P 12 t 0 with
 | some l => if l.all (fun l => decide (leafEnd l ≤ szT P t)) then (match op with
   | .eql => .p (hEqD (szT P t) l false x y)
   | .neq => .p (hEqD (szT P t) l true x y)
   | _ => .bad 303) else .bad 377
 | none => .bad 379) else .bad 378
def isCst : Operand → Bool
 | .const _ => true
 | _ => false
def cBin (P : Program) (op : BinOp) (t : TypeId) (cst : Bool) (x y : Opnd) : Iop :=
 match P.underlying t with
 | some (.int k) => cBinI k op x y
 | some .string => cBinS op x y
 | some .bool => cEq eqB op x y
 | some (.pointer e) => if szT P e = 0 then .bad 363 else cEq eqP op x y
 | some (.slice _) => cEq eqS op x y
 | some (.map _ _) => cEq eqM op x y
 | some (.func _ _ _) => cEq eqF op x y
 | some (.interface _) => if cst then cEq eqI op x y else .bad 364
 | some (.array n e) => if isU8 P e then cBinA P op t n e x y else cEqD P op t x y
 | some (.struct _) => cEqD P op t x y
 | _ => .bad 304
def cUnI (k : IntKind) (op : UnOp) (x : Opnd) : Iop := match op with
 | .neg => .p (hUn (kc k) (fun a => Nat.land (Nat.sub (kmask (kc k) + 1) a) (kmask (kc k))) x)
 | .xor => .p (hUn (kc k) (fun a => Nat.xor a (kmask (kc k))) x)
 | _ => .bad 305
def cUn (P : Program) (op : UnOp) (t : TypeId) (x : Opnd) : Iop := match op with
 | .not => .p (hNot x)
 | _ => match P.underlying t with
   | some (.int k) => cUnI k op x
   | _ => .bad 305
def cvF (a b : IntKind) : Nat → Nat := if ksigned (kc a) then fun n => Bool.rec (Nat.land (Nat.add n (2 ^ 64 - 2 ^ kbits (kc a))) (kmask (kc b))) (Nat.land n (kmask (kc b))) (lt n (khalf (kc a))) else fun n => Nat.land n (kmask (kc b))
def cConvI (a b : IntKind) (x : Opnd) : Iop := .p (hConv (kc a) (kc b) (cvF a b) x)
def cConv (P : Program) (s d : TypeId) (x : Opnd) : Iop :=
 match P.underlying s, P.underlying d with
 | some (.int a), some (.int b) => cConvI a b x
 | some .string, some .string => .p (hStrId x)
 | some .string, some (.slice e) => match P.underlying e with | some (.int .u8) => .a (hStrBytes e x) | _ => .bad 306
 | some (.slice e), some .string => match P.underlying e with | some (.int .u8) => .r x (hBytesStr x) | _ => .bad 307
 | some (.slice _), some (.slice e) => if s = d then (match P.underlying e with | some (.int .u8) => .w (hMarkS x) | _ => .bad 338) else .bad 339
 | _, _ => .bad (400000 + s * 700 + d)
def zeroCh (P : Program) (t : TypeId) : Option V := match zeroOf P t with
 | .agg w cs => if w == szT P t && (wfb (.agg w cs)).v then some cs else none
 | v => if szT P t == 1 && (wfb v).v && isSc v then some (.cons v .nil) else none
def cParts (P : Program) (place : Nat → Option (Nat × TypeId)) (op : Operand → Opnd) : List (Nat × Operand) → Nat → Option (List Prt)
 | [], _ => some []
 | (i, x) :: r, w => match place i with
   | some (o, t) => if okT P t && decide (0 < szT P t) && decide (o + szT P t ≤ w) then (match cParts P place op r w with
     | some l => some (.mk o (szT P t) (isAggT P t) (op x) :: l)
     | none => none) else none
   | none => none
def cBuild (P : Program) (t : TypeId) (op : Operand → Opnd) (l : List (Nat × Operand)) : Iop :=
 match zeroOf P t with
 | .agg w z => if (wfb (.agg w z)).v then (match P.underlying t with
   | some (.struct fs) => match cParts P (fun i => (fs[i]?).map fun f => (f.offset, f.type)) op l w with
     | some ps => if fs.all (fun f => (P.info? f.type).isSome) then .p (hBuild w z ps) else .bad 352
     | none => .bad 309
   | some (.array _ e) => match cParts P (fun i => some (i * szT P e, e)) op l w with
     | some ps => if (P.info? e).isSome then .p (hBuild w z ps) else .bad 353
     | none => .bad 310
   | _ => .bad 311) else .bad 354
 | _ => .bad 355
def cBuildSl (P : Program) (t : TypeId) (len : Nat) (op : Operand → Opnd) (l : List (Nat × Operand)) : Iop :=
 match P.underlying t with
 | some (.slice e) => match zeroCh P e with
   | some z => match cParts P (fun i => some (i * szT P e, e)) op l (len * szT P e) with
     | some ps => if decide (0 < szT P e) && decide (len * szT P e ≤ 4096) then .a (hBuildSl e (szT P e) len (repK (mkSp z (szT P e)) len) ps) else .bad 356
     | none => .bad 312
   | none => .bad 357
 | _ => .bad 313
def cSlice (P : Program) (t : TypeId) (x : Opnd) (lo hi mx : Option Opnd) : Iop :=
 match P.underlying t with
 | some (.slice e) => if szT P e = 0 || (mx.isSome && hi.isNone) then .bad 349 else .p (hSliceSl (szT P e) x lo hi mx mx.isSome)
 | some (.array n e) => if szT P e = 0 || (mx.isSome && hi.isNone) then .bad 350 else .p (hSliceArr n (szT P e) x lo hi mx)
 | some .string => if mx.isSome then .bad 351 else .p (hSliceStr x lo hi)
 | _ => .bad 315
def cFieldAddr (P : Program) (t : TypeId) (x : Opnd) (j : Nat) : Iop :=
 match P.underlying t with
 | some (.struct fs) => match fs[j]? with
   | some f => if szT P f.type = 0 then .bad 316 else .p (hFieldAddr f.offset x)
   | none => .bad 317
 | _ => .bad 318
def cField (P : Program) (t : TypeId) (x : Opnd) (j : Nat) : Iop :=
 match P.underlying t with
 | some (.struct fs) => match fs[j]? with
   | some f => if okT P f.type then .p (hField (isAggT P f.type) f.offset (szT P f.type) x) else .bad 345
   | none => .bad 319
 | _ => .bad 320
def cIdxA (P : Program) (t : TypeId) (x y : Opnd) : Iop :=
 match P.underlying t with
 | some (.array n e) => if szT P e = 0 then .bad 346 else .p (hIdxArr n (szT P e) x y)
 | some (.slice e) => if szT P e = 0 then .bad 347 else .p (hIdxSl (szT P e) x y)
 | _ => .bad 321
def cIdx (P : Program) (t : TypeId) (x y : Opnd) : Iop :=
 match P.underlying t with
 | some (.array n e) => if okT P e then .p (hIndexA (isAggT P e) n (szT P e) x y) else .bad 348
 | some .string => .p (hIndexS x y)
 | _ => .bad 322
def bytesOk (P : Program) (e : TypeId) : Bool := match P.info? e with
 | some i => decide (i.bytes ≤ 1048576)
 | none => false
def cAppend (P : Program) (t u : TypeId) (x y : Opnd) : Iop := match P.underlying t with
 | some (.slice e) => match zeroCh P e with
   | some z => if decide (0 < szT P e) && bytesOk P e then (match P.underlying u with
     | some (.int _) => .w (hAppendZ e (szT P e) (mkSp z (szT P e)) x y)
     | some _ => .w (hAppend e (szT P e) x y)
     | none => .bad 375) else .bad 361
   | none => .bad 362
 | _ => .bad 326
def cCopy (P : Program) (t : TypeId) (x y : Opnd) : Iop := match P.underlying t with
 | some (.slice e) => if decide (0 < szT P e) then .w (hCopy (szT P e) x y) else .bad 376
 | _ => .bad 327
def cClear (P : Program) (t : TypeId) (x : Opnd) : Iop := match P.underlying t with
 | some (.slice e) => match zeroCh P e with
   | some z => if decide (0 < szT P e) then .w (hClear (szT P e) (mkSp z (szT P e)) x) else .bad 382
   | none => .bad 383
 | _ => .bad 384
def ltI (k : IntKind) : Nat → Nat → Bool := if ksigned (kc k) then fun a b => lt (Nat.land (Nat.add a (khalf (kc k))) (kmask (kc k))) (Nat.land (Nat.add b (khalf (kc k))) (kmask (kc k))) else fun a b => lt a b
def cMin (P : Program) (t : TypeId) (x y : Opnd) : Iop := match P.underlying t with
 | some (.int k) => .p (hArith (kc k) (fun a b => Bool.rec a b (ltI k b a)) x y)
 | _ => .bad 328
def cMax (P : Program) (t : TypeId) (x y : Opnd) : Iop := match P.underlying t with
 | some (.int k) => .p (hArith (kc k) (fun a b => Bool.rec a b (ltI k a b)) x y)
 | _ => .bad 329
def cKey (P : Program) (t : TypeId) : Option KY := match P.underlying t with
 | some (.int k) => some (kyI (kc k))
 | some .string => some kyS
 | some .bool => some kyB
 | some (.array _ _) | some (.struct _) => if P.keyTypeAt 12 t && P.tiled 12 t then (match leavesT P 12 t 0 with
   | some l => if l.all (fun l => decide (leafEnd l ≤ szT P t)) then some (kyD (szT P t) l) else none
   | none => none) else none
 | _ => none
def cDelete (P : Program) (t : TypeId) (x y : Opnd) : Iop := match P.underlying t with
 | some (.map kt _) => match cKey P kt with
   | some ky => .w (hDelete ky x y)
   | none => .bad 385
 | _ => .bad 386
def cBuiltin (P : Program) (b : Builtin) (ts : List TypeId) (xs : List Opnd) : Iop :=
 match b, ts, xs with
 | .len, [t], [x] => match P.underlying t with
   | some (.slice _) => .p (hLen x)
   | some .string => .p (hLenS x)
   | some (.array n _) => .p (hConst n)
   | some (.pointer a) => match P.underlying a with | some (.array n _) => .p (hConst n) | _ => .bad 323
   | some (.map _ _) => .bad 380
   | _ => .bad 324
 | .cap, [t], [x] => match P.underlying t with | some (.slice _) => .p (hCap x) | some (.array n _) => .p (hConst n) | _ => .bad 325
 | .min, [t, _], [x, y] => cMin P t x y
 | .max, [t, _], [x, y] => cMax P t x y
 | .append, [t, u], [x, y] => cAppend P t u x y
 | .copy, [t, _], [x, y] => cCopy P t x y
 | .clear, [t], [x] => cClear P t x
 | .delete, [t, _], [x, y] => cDelete P t x y
 | _, _, _ => .bad 330
def cAssert (P : Program) (ty : TypeId) (ok : Bool) (x : Opnd) : Iop := match P.underlying ty with
 | some (.interface _) => .bad 340
 | some _ => if ok && !(wfb (zeroOf P ty)).v then .bad 366 else .p (hAssert ok ty (zeroOf P ty) x)
 | none => .bad 341
def cToArr (P : Program) (a : TypeId) (x : Opnd) : Iop := match P.underlying a with
 | some (.array n _) => .p (hToArr n x)
 | _ => .bad 331
def cMakeSl (P : Program) (t : TypeId) (x y : Opnd) : Iop := match P.underlying t with
 | some (.slice e) => match zeroCh P e with
   | some z => if decide (0 < szT P e) && bytesOk P e then .a (hMakeSl e (szT P e) (mkSp z (szT P e)) x y) else .bad 359
   | none => .bad 360
 | _ => .bad 332
def cLookup (P : Program) (t : TypeId) (ok : Bool) (x y : Opnd) : Iop := match P.underlying t with
 | some (.map kt e) => match cKey P kt with
   | some ky => if (wfb (zeroOf P e)).v then .r x (hLookup ky ok (zeroOf P e) x y) else .bad 367
   | none => .bad 368
 | _ => .bad 333
def cMapUpd (P : Program) (t : TypeId) (x y z : Opnd) : Iop := match P.underlying t with
 | some (.map kt _) => match cKey P kt with
   | some ky => .w (hMapUpd ky x y z)
   | none => .bad 369
 | _ => .bad 370
def cMapEnt (P : Program) (t : TypeId) (x y : Opnd) : Iop := match P.underlying t with
 | some (.map kt e) => match cKey P kt with
   | some ky => if (wfb (zeroOf P e)).v then .w (hMapEnt ky (zeroOf P e) x y) else .bad 371
   | none => .bad 372
 | _ => .bad 334
def cIface (P : Program) (t : TypeId) (x : Opnd) : Iop := match P.underlying t with
 | some (.interface _) => .bad 342
 | some _ => .p (hIface t x)
 | none => .bad 343
def cMakeMap (P : Program) (t : TypeId) : Iop := match P.underlying t with
 | some (.map _ _) => .a hMakeMap
 | _ => .bad 381
def cAlloc (P : Program) (e : TypeId) : Iop := match zeroCh P e with
 | some z => .a (hAlloc e (szT P e) z)
 | none => .bad 358
def cOp (P : Program) (e : Ce) (o : Oper) : Iop :=
 let q := cOpd e
 match o.op with
 | .move x | .assign x => .p (hMove (q x))
 | .pick c a b => .p (hPick (q c) (q a) (q b))
 | .alloc e => cAlloc P e
 | .box e x => if okT P e then .a (hBox e (szT P e) (isAggT P e) (q x)) else .bad 374
 | .build t ps => cBuild P t q ps.toList
 | .buildSlice t n ps => cBuildSl P t n q ps.toList
 | .load t x => if okT P t then .r (q x) (hLoad (isAggT P t) (szT P t) (q x)) else .bad 365
 | .store t x y => if okT P t then (if decide (0 < szT P t) then .w (hStore (isAggT P t) (szT P t) (q x) (q y)) else if isAggT P t then .w (hStore0 (q x) (q y)) else .bad 373) else .bad 373
 | .nilCheck x => .p (hNil (q x))
 | .binOp op t x y _ => cBin P op t (isCst x || isCst y) (q x) (q y)
 | .unOp op t x => cUn P op t (q x)
 | .convert s d x => cConv P s d (q x)
 | .sliceToArrayPointer a x => cToArr P a (q x)
 | .makeInterface t x => cIface P t (q x)
 | .makeFunc fn a b => if plainB fn then .p (hFunc fn (a.toList.map q) (b.toList.map q)) else .bad 344
 | .makeMap t none => cMakeMap P t
 | .makeSlice t x y => cMakeSl P t (q x) (q y)
 | .slice t x lo hi mx => cSlice P t (q x) (lo.map q) (hi.map q) (mx.map q)
 | .fieldAddr t x j => cFieldAddr P t (q x) j
 | .field t x j => cField P t (q x) j
 | .indexAddr t x y => cIdxA P t (q x) (q y)
 | .index t x y => cIdx P t (q x) (q y)
 | .lookup t x y ok => cLookup P t ok (q x) (q y)
 | .mapUpdate t m k v | .insert t m k v => cMapUpd P t (q m) (q k) (q v)
 | .mapEntry t m k => cMapEnt P t (q m) (q k)
 | .entryStore _ m s x => .w (hEntSt (q m) (q s) (q x))
 | .typeAssert x _ ty ok => cAssert P ty ok (q x)
 | .extract x j => .p (hTup (U.ofNat j) (q x))
 | .panic x => .w (hPanic (q x))
 | .call c => match c.callee with
   | .value f => .w (hCall (q f) (c.args.toList.map q))
   | .invoke r m => .w (hCall (.c (.f (.method m) .nil .nil)) (q r :: c.args.toList.map q))
   | .builtin b => cBuiltin P b c.argTypes.toList (c.args.toList.map q)
 | _ => .bad 336
def dstAl (nt : Nat) (d : Option Nat) (a : Al) (al : List (Nat × Al)) : List (Nat × Al) := match d with | some d => if d < nt then (d, a) :: al else (d, .c .x) :: al | none => al
def plainMove (o : Oper) : Option Operand := match o.guard, o.op with
 | none, .move x => some x
 | none, .assign x => some x
 | _, _ => none
def cOpG (P : Program) (ops : Array Oper) (e : Ce) (o : Oper) : Iop := match o.guard with
 | none => cOp P e o
 | some (g, want) => match (ops[g]?).bind (·.dst) with
   | some t => .g (cOpd e (.tmp t)) want (cOp P e o)
   | none => .bad 337
def cOps (P : Program) (nt : Nat) (ops : Array Oper) : List Nat → Ce → List Iop × Ce
 | [], e => ([], e)
 | i :: r, e => match ops[i]? with
   | none => cOps P nt ops r e
   | some o => match plainMove o with
     | some x => cOps P nt ops r { e with al := dstAl nt o.dst (cAl e x) e.al }
     | none =>
       let w := cOps P nt ops r { e with al := dstAl nt o.dst (.r e.n) e.al, n := e.n + 1 }
       (cOpG P ops e o :: w.1, w.2)
def cWr (far n : Nat) : List (Nat × Al) → Nat → List (Nm × Opnd)
 | [], _ => []
 | (d, a) :: r, seen => if Nat.testBit far d && !Nat.testBit seen d then (tn d, a.opd n) :: cWr far n r (Nat.lor seen (Nat.shiftLeft 1 d)) else cWr far n r seen
def cRegion (P : Program) (far nt : Nat) (ops : Array Oper) : Rg :=
 let w := cOps P nt ops (List.range ops.size) ⟨[], 0, P.globals.size⟩
 .mk w.1 (cWr far w.2.n w.2.al 0)
def maskOpds (l : List Operand) (own : List Nat) (m : Nat) : Nat :=
 l.foldl (fun m x => match x with | .tmp t => if own.contains t then m else Nat.lor m (Nat.shiftLeft 1 t) | _ => m) m
def maskOps : List Oper → List Nat → Nat → Nat
 | [], _, m => m
 | o :: r, own, m => maskOps r (o.dst.toList ++ own) (maskOpds o.op.operands.toList own m)
def maskC : Code → Nat → Nat
 | .region _ ops _, m => maskOps ops.toList [] m
 | .seq a b, m => maskC b (maskC a m)
 | .cond c a b, m => maskC b (maskC a (maskOpds [c] [] m))
 | .block _ a, m | .loop a, m | .scope a, m => maskC a m
 | .rangeFunc f ps a b, m => maskC b (maskC a (ps.toList.foldl (fun m t => Nat.lor m (Nat.shiftLeft 1 t)) (maskOpds [f] [] m)))
 | _, m => m
def maskF (fn : Func) : Nat :=
 let m := match fn.body with | some c => maskC c 0 | none => 0
 fn.results.toList.foldl (fun m r => match r with | .tmp t => Nat.lor m (Nat.shiftLeft 1 t) | .cell a _ => Nat.lor m (Nat.shiftLeft 1 a)) m
abbrev RC := Cal → T → List D → H → Nm → KN → R
def rSkip : RC := fun _ t d h c k => k t d h c
def rSeq (a b : RC) : RC := fun cal t d h c k => a cal t d h c (fun t d h c => b cal t d h c k)
def rCond (x : Opnd) (a b : RC) : RC := fun cal t d h c k => asB (ev x [] t) (fun z => Bool.rec (b cal t d h c k) (a cal t d h c k) z)
def rBlock (id : Nat) (a : RC) : RC := fun cal t d h c k =>
 R.rec (motive := fun _ => Nat → KN → R) (fun n _ _ => .bad n) (fun t d h c _ k => k t d h c) (fun t d h c _ _ => .ret t d h c)
  (fun id' t d h c id k => Bool.rec (.exit id' t d h c) (k t d h c) (Nat.beq id' id)) (fun ch t d h c _ _ => .panic ch t d h c)
  (a cal t d h c .norm) id k
def rLoop (n : Nat) (a : RC) : Cal → T → List D → H → Nm → R :=
 Nat.rec (motive := fun _ => Cal → T → List D → H → Nm → R) (fun _ _ _ _ _ => .bad 400) (fun _ ih cal t d h c => a cal t d h c (fun t d h c => ih cal t d h c)) n
def rBlock0 (a : RC) : RC := fun cal t d h c k =>
 R.rec (motive := fun _ => KN → R) (fun n _ => .bad n) (fun t d h c k => k t d h c) (fun t d h c _ => .ret t d h c)
  (fun id t d h c _ => .exit id t d h c) (fun ch t d h c _ => .panic ch t d h c) (a cal t d h c .norm) k
def rBad (n : Nat) : RC := fun _ _ _ _ _ _ => .bad n
def rExit (id : Nat) : RC := fun _ t d h c _ => .exit id t d h c
def rRet : RC := fun _ t d h c _ => .ret t d h c
def asLoop (b : Blk) : (Nat → Option Code → Nat → Nat → Nat → T → List Nat → Code → Code → Nm → R) → R :=
 Blk.rec (motive := fun _ => (Nat → Option Code → Nat → Nat → Nat → T → List Nat → Code → Code → Nm → R) → R) (fun _ => .bad 401) (fun _ _ _ _ _ _ _ => .bad 401) (fun _ _ _ => .bad 401) (fun _ _ _ _ => .bad 401)
  (fun st pe fi fa nt t ps a b dn q => q st pe fi fa nt t ps a b dn) (fun _ _ => .bad 401) b
def hasBody (P : Program) (g : Fn) : Bool := Fn.rec (motive := fun _ => Bool) (fun f => match P.funcs[f]? with | some fn => fn.body.isSome | none => false) (fun _ => false) (fun _ _ => false) (fun _ _ _ _ => false) (fun _ => false) g
def asFnB (P : Program) (v : V) : R → R := v_f (α := R → R) (fun _ => .bad 406) (fun g _ _ => fun r => Bool.rec (.bad 405) r (hasBody P g)) v
def rJump (j : Option Code) (t : T) (d : List D) (h : H) (c : Nm) (k : KN) : R :=
 match j with
 | none => k t d h c
 | some .ret => .ret t d h c
 | some (.exit id) => .exit id t d h c
 | _ => .bad 402
def rRange (P : Program) (fid far nt : Nat) (g : Opnd) (ps : List Nat) (a b : Code) (rd : Option Nm) : RC := fun cal t d h c k =>
 Bool.rec (.bad 409) (asFnB P (ev g [] t) (
 let go (dn l : Nm) (d : List D) (h : H) (c : Nm) : R :=
  C.rec (motive := fun _ => R) (fun e => .bad e)
   (fun _ h c => asLoop (H.get l h) (fun st pe fi fa nt t' ps a b dn => Bool.rec (rJump pe t d (H.set l (.loop 3 pe fi fa nt t' ps a b dn) h) c k) (.bad 403) (Nat.beq st 1)))
   (fun ch h c => .panic ch t d h c)
   (cal (ev g [] t) (.cons (.yl l) .nil) (H.set l (.loop 0 none fid far nt t ps a b dn) h) c)
 match rd with
 | none => go c (Nm.succ c) (.mark c :: d) (H.set c (.dfd true) h) (Nm.succ (Nm.succ c))
 | some o => asLoop (H.get o h) (fun _ _ _ _ _ _ _ _ _ dn => go dn c d h (Nm.succ c)))) (ps.all (fun p => Nat.testBit far p && decide (p < nt)))
def tmpsOf : List Operand → List Nat
 | [] => []
 | x :: r => match x with
   | .tmp t => t :: tmpsOf r
   | _ => tmpsOf r
def guardTm (ops : Array Oper) (o : Oper) : List Nat := match o.guard with
 | some (g, _) => ((ops[g]?).bind (·.dst)).toList
 | none => []
def usesOf (ops : Array Oper) (o : Oper) : List Nat := tmpsOf o.op.operands.toList ++ guardTm ops o
def edgesM (ms : List Nat) : List Edge → Nat
 | [] => 0
 | e :: r => Nat.lor (if Region.binds .any e then Nat.lor (Nat.shiftLeft 1 e.on) (ms.getD e.on 0) else 0) (edgesM ms r)
def masksL : List Oper → List Nat → List Nat
 | [], acc => acc
 | o :: r, acc => masksL r (acc ++ [edgesM acc o.after.toList])
def dstsL : List Oper → Nat → List (Nat × Nat)
 | [], _ => []
 | o :: r, i => match o.dst with
   | some d => (d, i) :: dstsL r (i + 1)
   | none => dstsL r (i + 1)
def findW (s : Nat) : List (Nat × Nat) → Option Nat
 | [] => none
 | (d, i) :: r => if Nat.beq d s then some i else findW s r
def posOf (i : Nat) : List Nat → Nat
 | [] => 0
 | j :: r => if Nat.beq j i then 0 else posOf i r + 1
def clsI : Iop → Nat
 | .p _ => 0
 | .r _ _ => 1
 | .a _ => 2
 | .w _ => 3
 | _ => 4
structure Pl where
 ds : List (Nat × Nat)
 ms : List Nat
 sch : List Nat
 mks : List Nat
def alD (nt k : Nat) (pl : Pl) (s : Nat) : Al := match findW s pl.ds with
 | some q => if s < nt then .r (k + posOf q pl.sch) else .c .x
 | none => .t (tn s)
def alO (nt k : Nat) (pl : Pl) (nw : Nat → Bool) (s : Nat) : Al := match findW s pl.ds with
 | some q => if nw q = true then (if s < nt then .r (k + posOf q pl.sch) else .c .x) else .t (tn s)
 | none => .t (tn s)
def envD (G nt : Nat) (pl : Pl) (m : Nat) (nw : Nat → Bool) (uses : List Nat) : Ce :=
 ⟨uses.map (fun s => (s, alO nt pl.mks.length pl nw s)) ++ pl.ds.map (fun p => (p.1, .c .x)), pl.mks.length + m, G⟩
def wrapG (ops : Array Oper) (e : Ce) (o : Oper) (io : Iop) : Iop := match o.guard with
 | none => io
 | some (g, want) => match (ops[g]?).bind (·.dst) with
   | some t => .g (cOpd e (.tmp t)) want io
   | none => .bad 337
def nameI (j : U) : Iop → Iop
 | .a f => .an j f
 | io => io
def againI (j : U) : Iop → Iop
 | .r x f => .k x f j
 | _ => .bad 134
def clsD (P : Program) (ops : Array Oper) (i : Nat) : Nat := match ops[i]? with
 | some o => clsI (cOp P ⟨[], 0, P.globals.size⟩ o)
 | none => 4
def mainD (P : Program) (nt : Nat) (ops : Array Oper) (pl : Pl) (cls : Nat → Nat) (m i : Nat) : Iop := match ops[i]? with
 | some o =>
   let e := envD P.globals.size nt pl m (Nat.testBit (pl.ms.getD i 0)) (usesOf ops o)
   let io := cOp P e o
   if Nat.beq (clsI io) (cls i) then wrapG ops e o (nameI (U.ofNat (pl.mks.length + m - 1 - posOf i pl.mks)) io) else .bad 135
 | none => .bad 420
def againD (P : Program) (nt : Nat) (ops : Array Oper) (pl : Pl) (m j : Nat) : Iop := match ops[j]? with
 | some o =>
   let e := envD P.globals.size nt pl (m + 1) (Nat.testBit (pl.ms.getD j 0)) (usesOf ops o)
   wrapG ops e o (againI (U.ofNat (m - posOf j pl.sch)) (cOp P e o))
 | none => .bad 420
def laterD (cls : Nat → Nat) (mi : Nat) : List Nat → List Nat
 | [] => []
 | j :: r => if Nat.beq (cls j) 1 && !Nat.testBit mi j then j :: laterD cls mi r else laterD cls mi r
def itemsD (P : Program) (nt : Nat) (ops : Array Oper) (pl : Pl) (cls : Nat → Nat) : List Nat → Nat → List Nat → List (Iop × List Iop)
 | [], _, _ => []
 | i :: r, m, seen => (mainD P nt ops pl cls m i, if Nat.beq (cls i) 3 then (laterD cls (pl.ms.getD i 0) seen).map (againD P nt ops pl m) else []) :: itemsD P nt ops pl cls r (m + 1) (i :: seen)
def okL (ops : Array Oper) (pl : Pl) (cls : Nat → Nat) : List Nat → Nat → Nat → Bool
 | [], _, _ => true
 | i :: r, E, AW => match ops[i]? with
   | none => false
   | some o =>
     let mi := pl.ms.getD i 0
     let ui := edgesM pl.ms o.after.toList
     let k := cls i
     !Nat.testBit E i && Nat.beq (Nat.lor ui E) E && Nat.beq (Nat.lor mi ui) ui && decide (k < 4) && (Nat.beq k 0 || Nat.beq k 2 || Nat.beq (Nat.lor AW mi) mi) && (!Nat.beq k 2 || pl.mks.contains i) &&
     (usesOf ops o).all (fun s => match findW s pl.ds with | some q => Nat.testBit mi q || Nat.testBit (pl.ms.getD q 0) i | none => true) && (match o.dst with | some d => findW d pl.ds == some i | none => true) &&
     okL ops pl cls r (Nat.lor E (Nat.shiftLeft 1 i)) (if Nat.beq k 2 || Nat.beq k 3 then Nat.lor AW (Nat.shiftLeft 1 i) else AW)
def firstL (p : Nat → Bool) : List Nat → Option Nat
 | [] => none
 | i :: r => if p i then some i else firstL p r
def orderD (ms : List Nat) (cls : Nat → Nat) (all : List Nat) : Nat → Nat → List Nat
 | 0, _ => []
 | n + 1, E =>
   let ready (i : Nat) : Bool := !Nat.testBit E i && Nat.beq (Nat.lor (ms.getD i 0) E) E
   let pick (i : Nat) : List Nat := i :: orderD ms cls all n (Nat.lor E (Nat.shiftLeft 1 i))
   match firstL (fun i => ready i && decide (cls i < 2)) all with
   | some i => pick i
   | none => match firstL (fun i => ready i && Nat.beq (cls i) 3) all with
     | some i => pick i
     | none => match firstL (fun i => !Nat.testBit E i && Nat.beq (cls i) 3) all with
       | some w => match firstL (fun i => ready i && Nat.testBit (ms.getD w 0) i) all with
         | some i => pick i
         | none => match firstL ready all with | some i => pick i | none => []
       | none => match firstL ready all with | some i => pick i | none => []
def planD (ops : Array Oper) (cls : Nat → Nat) : Pl :=
 let ms := masksL ops.toList []
 let sch := orderD ms cls (List.range ops.size) ops.size 0
 ⟨dstsL ops.toList 0, ms, sch, sch.filter (fun i => Nat.beq (cls i) 2)⟩
def okD (ops : Array Oper) (pl : Pl) (cls : Nat → Nat) : Bool := okL ops pl cls pl.sch 0 0 && (List.range ops.size).all (fun i => pl.sch.contains i) && pl.ds.all (fun p => (ops[p.2]?).bind (·.dst) == some p.1)
def runD (P : Program) (far nt : Nat) (ops : Array Oper) (pl : Pl) (cls : Nat → Nat) : RC := fun cal t d h c k =>
 Bool.rec (.bad 408) (resN pl.mks.length c [] (fun n c => execD (itemsD P nt ops pl cls pl.sch 0 []) cal n t d h c (fun n d h c => k (wrL (cWr far (pl.mks.length + pl.sch.length) (pl.ds.map fun p => (p.1, alD nt pl.mks.length pl p.1)) 0) n t t) d h c)))
  (P.follows .mixedOrders && okD ops pl cls)
def rRegionD (P : Program) (far nt : Nat) (ops : Array Oper) : RC := runD P far nt ops (planD ops (clsD P ops)) (clsD P ops)
def rRegion (P : Program) (far nt : Nat) (ops : Array Oper) : RC := fun cal t d h c k => execR (cRegion P far nt ops) cal t d h c k
def rLoopC (lf : Nat) (a : RC) : RC := fun cal t d h c _ => rLoop lf a cal t d h c
def comp (P : Program) (G far nt fid lf : Nat) (rd : Option Nm) (c : Code) : RC :=
 Code.rec (motive := fun _ => RC) rSkip (fun _ ops dr => Bool.rec (rRegion P far nt ops) (rRegionD P far nt ops) dr) (fun _ _ a b => rSeq a b) (fun c _ _ a b => rCond (cOpd ⟨[], 0, G⟩ c) a b) (fun id _ a => rBlock id a)
  (fun _ a => rLoopC lf a) (fun f ps a b _ _ => rRange P fid far nt (cOpd ⟨[], 0, G⟩ f) ps.toList a b rd) rExit (fun _ a => rBlock0 a) (fun _ => rSkip) (fun _ => rBad 404) rRet (fun _ => rBad 405) c
inductive Rs where
 | tmp (p : Nm)
 | cell (p : Nm) (agg : Bool) (sz : Nat)
def getRs (r : Rs) : T → H → (V → C) → C :=
 Rs.rec (motive := fun _ => T → H → (V → C) → C) (fun p t _ q => Bool.rec (.bad 411) (q (T.get p t)) (nx (T.get p t)))
  (fun p agg sz t h q => R.rec (motive := fun _ => (V → C) → C) (fun n _ => .bad n) (fun t _ _ _ q => q (T.get .h t)) (fun _ _ _ _ _ => .bad 412) (fun _ _ _ _ _ _ => .bad 412) (fun _ _ _ _ _ _ => .bad 412)
   (rdK (.t p) (hLoad agg sz (.t p)) [] t h (fun v => .norm (.nd .e v .e) [] h .h)) q) r
def getAll (l : List Rs) : T → H → (V → C) → C :=
 List.rec (motive := fun _ => T → H → (V → C) → C) (fun _ _ q => q .nil) (fun r _ ih t h q => getRs r t h (fun v => ih t h (fun w => q (.cons v w)))) l
def packRs (one none_ : Bool) (v : V) : V := Bool.rec (Bool.rec (.tup v) .u none_) (nthC .z v) one
inductive FI where
 | mk (id : Nat) (body : RC) (ini : List (Nm × U)) (res : List Rs) (one none_ : Bool)
 | bad (n : Nat)
 | orc (g : Cal → V → H → Nm → C)
def iniL (l : List (Nm × U)) : V → T → T :=
 List.rec (motive := fun _ => V → T → T) (fun _ t => t) (fun p _ ih a t => ih a (T.set p.1 (nthC p.2 a) t)) l
def unwL (l : List D) : Cal → H → Nm → (H → Nm → C) → C :=
 List.rec (motive := fun _ => Cal → H → Nm → (H → Nm → C) → C) (fun _ h c q => q h c)
  (fun x _ ih => D.rec (motive := fun _ => Cal → H → Nm → (H → Nm → C) → C)
   (fun _ _ _ _ _ _ => .bad 413)
   (fun r cal h c q => Blk.rec (motive := fun _ => C) (.bad 414) (fun _ _ _ _ _ _ => .bad 414) (fun _ _ => .bad 414) (fun _ _ _ => .bad 414) (fun _ _ _ _ _ _ _ _ _ _ => .bad 414)
    (fun z => Bool.rec (.bad 415) (ih cal (H.set r (.dfd false) h) c q) z) (H.get r h))
   (fun _ _ _ _ => .bad 416) x) l
def finK (res : List Rs) (one none_ : Bool) (cal : Cal) (t : T) (d : List D) (h : H) (c : Nm) : C :=
 unwL d cal h c (fun h c => getAll res t h (fun v => .ret (packRs one none_ v) h c))
def isE (d : List D) : Bool := List.rec (motive := fun _ => Bool) true (fun _ _ _ => false) d
def runF (f : FI) : Cal → V → H → Nm → C :=
 FI.rec (motive := fun _ => Cal → V → H → Nm → C)
  (fun id body ini res one none_ cal args h c =>
   R.rec (motive := fun _ => C) (fun n => .bad (Bool.rec n (Nat.add (Nat.mul 1000000 id) n) (Nat.ble n 999999))) (fun t d h c => finK res one none_ cal t d h c) (fun t d h c => finK res one none_ cal t d h c) (fun _ _ _ _ _ => .bad 417)
    (fun ch _ d h c => Bool.rec (.bad 418) (.panic ch h c) (isE d)) (body cal (iniL ini args .e) [] h c .norm))
  (fun n _ _ _ _ => .bad n) (fun g => g) f
abbrev Orc := Nat → Option (Cal → V → H → Nm → C)
def cIni (far : Nat) : Nat → Nat → List (Nm × U)
 | 0, _ => []
 | n + 1, j => (if Nat.testBit far j then [(tn j, U.ofNat j)] else []) ++ cIni far n (j + 1)
def okRes (P : Program) (r : ResultVar) : Bool := match r with
 | .tmp _ => true
 | .cell _ t => okT P t
def rsOf (P : Program) (r : ResultVar) : Rs := match r with
 | .tmp t => .tmp (tn t)
 | .cell a t => .cell (tn a) (isAggT P t) (szT P t)
def fnI (P : Program) (O : Orc) (lf : Nat) (f : Nat) : FI :=
 match O f with
 | some g => .orc g
 | none => match P.funcs[f]? with
 | none => .bad 421
 | some fn => match fn.body with
   | none => .bad (1000 + f)
   | some c => if fn.results.toList.all (okRes P) then .mk f (comp P P.globals.size (maskF fn) fn.ntmps f lf none c) (cIni (maskF fn) (fn.params.size + fn.nfree) 0)
    (fn.results.toList.map (rsOf P)) (fn.results.size == 1) (fn.results.size == 0) else .bad 436
inductive Mt where
 | dir (f : Nat)
 | load (f : Nat) (agg : Bool) (sz : Nat)
 | bad
def meth (P : Program) (t : Nat) (name : String) : Mt :=
 match P.info? t with
 | none => .bad
 | some i => match i.methods.find? (·.name == name) with
   | none => .bad
   | some m => if m.path.isEmpty then match m.func with
     | some (f, ptr) => match P.underlying t, ptr with
       | none, _ => .bad
       | some (.pointer _), true => .dir f
       | some (.pointer e), false => if okT P e then .load f (isAggT P e) (szT P e) else .bad
       | _, true => .bad
       | _, false => .dir f
     | none => .bad
     else .bad
def farFn (P : Program) (f : Nat) : Nat := match P.funcs[f]? with | some fn => maskF fn | none => 0
def ntFn (P : Program) (f : Nat) : Nat := match P.funcs[f]? with | some fn => fn.ntmps | none => 0
def runM (m : Mt) (q : Nat → V → H → Nm → C) : V → V → H → Nm → C :=
 Mt.rec (motive := fun _ => V → V → H → Nm → C) (fun f w rest h c => q f (.cons w rest) h c)
  (fun f agg sz w rest h c => R.rec (motive := fun _ => C) (fun n => .bad n) (fun t _ h c => q f (.cons (T.get .h t) rest) h c) (fun _ _ _ _ => .bad 422) (fun _ _ _ _ _ => .bad 422) (fun _ _ _ _ _ => .bad 422)
   (rdK (.c w) (hLoad agg sz (.c w)) [] .e h (fun v => .norm (.nd .e v .e) [] h c)))
  (fun _ _ _ _ => .bad 423) m
def callMeth (P : Program) (name : String) (q : Nat → V → H → Nm → C) (args : V) (h : H) (c : Nm) : C :=
 (v_cons (α := ((Nat → V → V → H → Nm → C) → H → Nm → C)) (fun _ _ _ => .bad 424) (fun A W => (v_ifc (α := (V → (Nat → V → V → H → Nm → C) → H → Nm → C)) (fun _ _ _ _ => .bad 425) (fun t W => fun rest m h c => m t W rest h c) A) W) args) (fun t => runM (meth P t name) q) h c
def concT (P : Program) (t : Nat) : Bool := match P.underlying t with
 | some (.interface _) => false
 | some _ => true
 | none => false
def callFn (P : Program) (O : Orc) (lf : Nat) (g : Fn) : Cal → V → V → V → H → Nm → C :=
 Fn.rec (motive := fun _ => Cal → V → V → V → H → Nm → C)
  (fun f cal F args G h c => runF (fnI P O lf f) cal (appC F (appC args G)) h c)
  (fun name cal F args _ h c => callMeth P name (fun f a h c => runF (fnI P O lf f) cal a h c) (appC F args) h c)
  (fun t name cal F args _ h c => Bool.rec (.bad 419) (callMeth P name (fun f a h c => runF (fnI P O lf f) cal a h c) ((v_cons (α := (Nat → V)) (fun _ => .x) (fun A W => fun t => .cons (.ifc t A) W) (appC F args)) t) h c) (concT P t))
  (fun _ _ _ _ _ _ _ _ _ _ => .bad 426) (fun _ _ _ _ _ _ _ => .bad 427) g
def setPs (ps : List Nat) : V → T → T :=
 List.rec (motive := fun _ => V → T → T) (fun _ t => t) (fun p _ ih a t => ih ((v_cons (α := V) (.x) (fun _ W => W) a)) (T.set (tn p) (hdC a) t)) ps
def endR (j : Option Code) (a : Nm) (h : H) (c : Nm) : C :=
 R.rec (motive := fun _ => C) (fun n => .bad n) (fun t _ h c => .ret (T.get .h t) h c) (fun _ _ _ _ => .bad 428) (fun _ _ _ _ _ => .bad 428) (fun _ _ _ _ _ => .bad 428)
  (asLoop (H.get a h) (fun _ _ fi fa nt t ps as_ b dn => match j with
   | none => .norm (.nd .e (.b true) .e) [] (H.set a (.loop 0 none fi fa nt t ps as_ b dn) h) c
   | some x => .norm (.nd .e (.b false) .e) [] (H.set a (.loop 2 (some x) fi fa nt t ps as_ b dn) h) c))
def roundB (P : Program) (lf : Nat) (cal : Cal) (a : Nm) (body : Code) (fi fa nt : Nat) (t : T) (d : List D) (h : H) (c : Nm) : C :=
 R.rec (motive := fun _ => C) (fun n => .bad n) (fun _ _ h c => endR none a h c) (fun _ _ h c => endR (some .ret) a h c) (fun id _ _ h c => endR (some (.exit id)) a h c) (fun _ _ _ _ _ => .bad 429)
  (comp P P.globals.size fa nt fi lf (some a) body cal t d h c .norm)
def asLoopC (b : Blk) : (Nat → Option Code → Nat → Nat → Nat → T → List Nat → Code → Code → Nm → C) → C :=
 Blk.rec (motive := fun _ => (Nat → Option Code → Nat → Nat → Nat → T → List Nat → Code → Code → Nm → C) → C) (fun _ => .bad 433) (fun _ _ _ _ _ _ _ => .bad 433) (fun _ _ _ => .bad 433) (fun _ _ _ _ => .bad 433)
  (fun st pe fi fa nt t ps a b dn q => q st pe fi fa nt t ps a b dn) (fun _ _ => .bad 433) b
def roundA (P : Program) (lf : Nat) (cal : Cal) (a : Nm) (args : V) (h : H) (c : Nm) : C :=
 asLoopC (H.get a h) (fun _ _ fi fa nt t ps as_ body _ => Bool.rec (.bad 430) (
  R.rec (motive := fun _ => C) (fun n => .bad n)
   (fun t d h c => asLoopC (H.get a h) (fun st pe fi' fa' nt' t0 ps' as' b' dn => Bool.rec (.bad 431) (roundB P lf cal a body fi fa nt t d (H.set a (.loop 1 pe fi' fa' nt' t0 ps' as' b' dn) h) c) (Nat.beq st 0)))
   (fun _ _ _ _ => .bad 432) (fun _ _ _ _ _ => .bad 432) (fun _ _ _ _ _ => .bad 432)
   (comp P P.globals.size fa nt fi lf (some a) as_ cal (setPs ps args t) [] h c .norm)) (Nat.beq (lenC args) ps.length))
def stepV (P : Program) (O : Orc) (lf : Nat) (fv : V) : Cal → V → H → Nm → C :=
 v_f_yl (α := Cal → V → H → Nm → C) (fun _ _ _ _ => .bad 434) (fun g F G => fun cal args h c => callFn P O lf g cal F args G h c) (fun a => fun cal args h c => roundA P lf cal a args h c) fv
def callN (P : Program) (O : Orc) (lf n : Nat) : Cal :=
 Nat.rec (motive := fun _ => Cal) (fun _ _ _ _ => .bad 435) (fun _ ih fv args h c => stepV P O lf fv ih args h c) n
end
end Go.Ev
