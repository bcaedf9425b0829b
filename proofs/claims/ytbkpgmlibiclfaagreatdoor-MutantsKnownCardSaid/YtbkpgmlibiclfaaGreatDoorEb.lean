/- Calls reckoned once, found by what they are given. -/
import Derived.Test.YtbkpgmlibiclfaaGreatDoorEa
set_option maxRecDepth 4000

namespace Go.Ev
open Go.RowKit
open Go.Proofs
noncomputable section
def kC (v : V) : Nat := V.rec (motive := fun _ => Nat)
    (0) (0) (fun _ n => Nat.land n 255) (fun _ => 0) (fun _ _ => 0) (0) (fun _ _ => 0) (fun _ _ l _ => l) (fun _ _ _ l => l) (fun _ _ _ => 0) (0) (fun _ => 0) (0) (fun _ _ _ _ _ => 0) (0) (fun _ => 0) (fun _ _ _ => 0) (0) (fun _ _ ihW => ihW) (fun _ _ => 0) (0) (fun _ _ ihA ihW => Nat.add ihA ihW) (fun _ _ => 0) (fun _ _ ihW => ihW) v
def kB (b : Blk) : Nat := Blk.rec (motive := fun _ => Nat) 0 (fun _ _ _ _ _ cs => kC cs) (fun _ _ => 0) (fun _ _ _ => 0) (fun _ _ _ _ _ _ _ _ _ _ => 0) (fun _ => 0) b
def kArg (v : V) (h : H) : Nat := v_p (α := Nat) (kC v) (fun a _ => kB (H.get a h)) v
def keyA (v : V) : H → Nat := V.rec (motive := fun _ => H → Nat)
    (fun _ => 0) (fun _ => 0) (fun _ _ => fun _ => 0) (fun _ => fun _ => 0) (fun _ _ => fun _ => 0) (fun _ => 0) (fun _ _ => fun _ => 0) (fun _ _ _ _ => fun _ => 0) (fun _ _ _ _ => fun _ => 0) (fun _ _ _ => fun _ => 0) (fun _ => 0) (fun _ => fun _ => 0) (fun _ => 0) (fun _ _ _ _ _ => fun _ => 0) (fun _ => 0) (fun _ => fun _ => 0) (fun _ _ _ => fun _ => 0) (fun _ => 0) (fun _ _ _ => fun _ => 0) (fun _ _ => fun _ => 0) (fun _ => 0) (fun A _ _ ihW => fun h => Nat.add (kArg A h) (Nat.mul 3 (ihW h))) (fun _ _ => fun _ => 0) (fun _ _ _ => fun _ => 0) v
abbrev Grp := List (Nat × List Mem2)
def selE (gs : List Nm) (es : List Mem2) (a : V) (h : H) (c : Nm) (fl : C) : C := List.rec (motive := fun _ => C) fl (fun e _ ih => mem3K gs e a h c ih) es
def selK (gs : List Nm) (l : Grp) (a : V) (h : H) (c : Nm) (k : Nat) : C := List.rec (motive := fun _ => C) (.bad 972) (fun p _ ih => Bool.rec ih (selE gs p.2 a h c ih) (Nat.beq p.1 k)) l
def orcK (gs : List Nm) (l : Grp) : Cal → V → H → Nm → C := fun _ a h c => frc (keyA a h) (fun k => selK gs l a h c k)
def runsK (P : Program) (O : Orc) (f : Nat) (l : Grp) : Bool := List.rec (motive := fun _ => Bool) true (fun p _ ih => Bool.rec false ih (List.rec (motive := fun _ => Bool) true (fun m _ ih => Bool.rec false ih (mem2Run P O 3000 60 f m)) p.2)) l
def appG (c l : Grp) : Grp := List.rec (motive := fun _ => Grp) l (fun a _ ih => a :: ih) c
end
section
variable {P : Program}
theorem brec_and {a b : Bool} (h : (Bool.rec false a b : Bool) = true) : b = true ∧ a = true := by
 cases b
 · cases h
 · exact ⟨rfl, h⟩
theorem runs_at {O : Orc} {f : Nat} : ∀ (es : List Mem2), (List.rec (motive := fun _ => Bool) true (fun m _ ih => Bool.rec false ih (mem2Run P O 3000 60 f m)) es : Bool) = true → ∀ e ∈ es, mem2Run P O 3000 60 f e = true
 | [], _, _, h => by cases h
 | a :: es, h, e, he => by
   obtain ⟨h1, h2⟩ := brec_and h
   rcases List.mem_cons.1 he with rfl | he
   · exact h1
   · exact runs_at es h2 e he
theorem runsK_app {O : Orc} {f : Nat} {l : Grp} : ∀ (c : Grp), runsK P O f c = true → (∀ p ∈ l, ∀ e ∈ p.2, mem2Run P O 3000 60 f e = true) → ∀ p ∈ appG c l, ∀ e ∈ p.2, mem2Run P O 3000 60 f e = true
 | [], _, hl => hl
 | a :: c, h, hl => fun p hp => by
   obtain ⟨h1, h2⟩ := brec_and h
   rcases List.mem_cons.1 (show p ∈ a :: appG c l from hp) with rfl | hp
   · exact runs_at _ h1
   · exact runsK_app c h2 hl p hp
theorem orcK_ok {O : Orc} {lf n : Nat} (hn : NamesOk P) (hO : ∀ f g, O f = some g → OrcOk P f g) {f : FuncId} {fn : Func} {cd : Code} (hf : P.funcs[f]? = some fn) (hb : fn.body = some cd) {gs : List Nm} (hgs : ∀ g, g < P.globals.size → gn g ∈ gs) (l : Grp)
 (hes : ∀ p ∈ l, ∀ e ∈ p.2, mem2Run P O lf n f e = true) : OrcOk P f (orcK gs l) := by
 intro cal args h c L S w hcal hr hbd hgok ha hg
 have e0 : orcK gs l cal args h c = selK gs l args h c (keyA args h) := by unfold orcK; rw [frc_eq]
 rw [e0] at hg ⊢
 generalize keyA args h = k at hg ⊢
 have inner : ∀ (es : List Mem2) (fl : C), (∀ e ∈ es, mem2Run P O lf n f e = true) → (CGood fl → Doing P (CPost L S h c w fl) ((callFunc f (lsv L args).toArray).run P w)) →
  CGood (selE gs es args h c fl) → Doing P (CPost L S h c w (selE gs es args h c fl)) ((callFunc f (lsv L args).toArray).run P w) := by
  intro es
  induction es with
  | nil => exact fun fl _ hfl hg => hfl hg
  | cons e es ih =>
    intro fl he hfl hg
    have e1 : selE gs (e :: es) args h c fl = mem3K gs e args h c (selE gs es args h c fl) := rfl
    rw [e1] at hg ⊢
    rcases mem3_ok hn hO hf hb hgs (he e List.mem_cons_self) hr hbd hgok ha (selE gs es args h c fl) hg with h1 | h1
    · rw [h1] at hg ⊢
      exact ih fl (fun e' he' => he e' (List.mem_cons_of_mem _ he')) hfl hg
    · exact h1
 clear e0
 induction l with
 | nil => exact absurd rfl (hg 972)
 | cons p l ih =>
   have e1 : selK gs (p :: l) args h c k = (Bool.rec (selK gs l args h c k) (selE gs p.2 args h c (selK gs l args h c k)) (Nat.beq p.1 k) : C) := rfl
   have ih' := ih (fun q hq => hes q (List.mem_cons_of_mem _ hq))
   rw [e1] at hg ⊢
   cases hz : Nat.beq p.1 k
   · rw [hz] at hg
     exact ih' hg
   · rw [hz] at hg
     exact inner p.2 _ (hes p List.mem_cons_self) ih' hg
end
theorem memKs_ok {O : Orc} (hO : ∀ f g, O f = some g → OrcOk Tryz.prog f g) {f : FuncId} {fn : Func} (hf : Tryz.prog.funcs[f]? = some fn) (hb : fn.body.isSome = true) (l : Grp) (hes : ∀ p ∈ l, ∀ e ∈ p.2, mem2Run Tryz.prog O 3000 60 f e = true) : OrcOk Tryz.prog f (orcK gsG l) := by
 obtain ⟨cd, hb⟩ := Option.isSome_iff_exists.1 hb
 exact orcK_ok namesOk hO hf hb gsG_ok l hes
end Go.Ev
