/- Programs are checked: programs.Check, for whatever list of programs. -/
import Derived.Test.YtnpnljgjloofkaaGreatDoorShC
namespace Go.Proofs.YtnpnljgjloofkaaGreatDoor
open Go.RowKit

/-- an operation as it lies: kind, index, the slice of its data -/
structure OpV where
  k : Int
  i : Int
  A : Option Addr
  n : Nat
  c : Nat
def OpV.cells (o : OpV) : List Value := [.int .u8 o.k, .int .i64 o.i, .slice o.A o.n o.c]
def cellsO (l : List OpV) : List Value := l.flatMap OpV.cells
theorem cellsO_len (hs : List OpV) : (cellsO hs).length = hs.length * 3 := by
  induction hs with
  | nil => rfl
  | cons h t ih => simp only [cellsO, List.flatMap_cons, List.length_append, List.length_cons] at ih ⊢; rw [ih]; simp [OpV.cells]; omega
theorem cellsO_drop (hs : List OpV) (k : Nat) : (cellsO hs).drop (k * 3) = cellsO (hs.drop k) := by
  induction k generalizing hs with
  | zero => simp
  | succ k ih =>
    cases hs with
    | nil => simp [cellsO]
    | cons h t =>
      have e : (k + 1) * 3 = 3 + k * 3 := by omega
      rw [e, ← List.drop_drop]
      exact ih t
theorem Rd.lenO {w : World} {B n : Nat} {A : Option Addr} {hs : List OpV} (h : Rd w B 3 A n (cellsO hs)) : n = hs.length := by
  have := h.1; rw [cellsO_len] at this; omega
theorem Rd.atO {w : World} {B n : Nat} {A : Option Addr} {hs : List OpV} (h : Rd w B 3 A n (cellsO hs)) {k : Nat} (hk : k < hs.length) :
    ∃ ad, A = some ad ∧ ad.block < B ∧ w.cell? (ad.add (k * 3)) = some (.int .u8 hs[k].k) ∧ w.cell? ⟨(ad.add (k * 3)).block, (ad.add (k * 3)).off + 1, none⟩ = some (.int .i64 hs[k].i) ∧
      w.cell? ⟨(ad.add (k * 3)).block, (ad.add (k * 3)).off + 2, none⟩ = some (.slice hs[k].A hs[k].n hs[k].c) := by
  have hn := h.lenO
  obtain ⟨ad, e, hl, hc⟩ := h.at_ (k := k) (by omega)
  rw [cellsO_drop, List.drop_eq_getElem_cons hk] at hc
  exact ⟨ad, e, hl, hc.c0, hc.c1, hc.c2⟩
/-- too many data? -/
def OpV.long (o : OpV) : Bool := decide (64 < (o.n : Int))
theorem pRetB {a b : Bool} (h : a = b) : Ending.returned (.bool a) = .returned (.bool b) := by rw [h]

theorem long1_any (o : OpV) (w : World) :
    Calls Tryz.prog 67 #[.agg #[.int .u8 o.k, .int .i64 o.i, .slice o.A o.n o.c]] w fun e w' => e = .returned (.bool o.long) ∧ Below w.heap.size w w' := by
  go_enter Tryz.func67, Tryz.ntmps67
  go_wp2
  go_ret
  exact ⟨pRetB (by simp [OpV.long]), (Below.refl _ _).alloc (Nat.le_refl _) _⟩
set_option maxHeartbeats 1000000 in
theorem idxO_any (A : Option Addr) (n c : Nat) (hs : List OpV) (w : World) (hr : Rd w w.heap.size 3 A n (cellsO hs)) (hn : (n : Int) ≤ 1000000) :
    Calls Tryz.prog 105 #[.slice A n c, .func (.func 67) #[] #[]] w fun e w' => (∃ j : Int, e = .returned (.int .i64 j) ∧ decide (j ≥ 0) = hs.any OpV.long) ∧ Below w.heap.size w w' := by
  have HL := Lib.hid hr.lenO
  go_enter Tryz.func105, Tryz.ntmps105
  go_wp2
  go_loopw [8] (fun i wr => ∃ k : Nat, k ≤ n ∧ i = .int .i64 k ∧ Hid ((hs.drop k).any OpV.long = hs.any OpV.long) ∧ Below w.heap.size w wr) (fun i _ => n - (intOf i).toNat)
  case atStart => exact ⟨0, Nat.zero_le _, rfl, rfl, Below.refl _ _⟩
  case round =>
    obtain ⟨k, hk, rfl, hF, hb⟩ := hrel
    by_cases hlt : k < n
    · have hk2 : k < hs.length := by have := HL.out; omega
      obtain ⟨ad, rfl, had, c0, c1, c2⟩ := (hr.below hb (Nat.le_refl _)).atO hk2
      have hd : (hs.drop k).any OpV.long = (hs[k].long || (hs.drop (k + 1)).any OpV.long) := by rw [List.drop_eq_getElem_cons hk2]; rfl
      cases hv : hs[k].long
      · have hF2 : Hid ((hs.drop (k + 1)).any OpV.long = hs.any OpV.long) := by unfold Hid; rw [← hF.out, hd, hv]; rfl
        clear hd hF
        go_wp2_with (go_at_call 67; refine (long1_any hs[k] _).mono ?_; rintro e w2 ⟨rfl, hb3⟩; rw [hv])
        go_roundw
        case rel => exact ⟨k + 1, by omega, by go_num, hF2, hb.trans (hb3.mono hb.size)⟩
        case measure => simp [intOf]; omega
      · have hF2 : Hid (hs.any OpV.long = true) := by unfold Hid; rw [← hF.out, hd, hv]; rfl
        clear hd hF
        go_wp2_with (go_at_call 67; refine (long1_any hs[k] _).mono ?_; rintro e w2 ⟨rfl, hb3⟩; rw [hv])
        go_ret
        exact ⟨⟨_, rfl, by rw [hF2.out]; simp⟩, hb.trans (hb3.mono hb.size)⟩
    · go_wp2
      go_ret
      have : k = hs.length := by have := HL.out; omega
      exact ⟨⟨_, rfl, by rw [← hF.out, this, List.drop_length]; rfl⟩, hb⟩
theorem contO_any (A : Option Addr) (n c : Nat) (hs : List OpV) (w : World) (hr : Rd w w.heap.size 3 A n (cellsO hs)) (hn : (n : Int) ≤ 1000000) :
    Calls Tryz.prog 66 #[.slice A n c, .func (.func 67) #[] #[]] w fun e w' => e = .returned (.bool (hs.any OpV.long)) ∧ Below w.heap.size w w' := by
  go_enter Tryz.func66, Tryz.ntmps66
  go_wp2_with (go_at_call 105; refine (idxO_any _ _ _ hs _ hr hn).mono ?_; rintro e w2 ⟨⟨j, rfl, hj⟩, hb2⟩)
  go_ret
  exact ⟨rfl, hb2⟩
/-- a program as it lies -/
structure PgV where
  A : Option Addr
  n : Nat
  c : Nat
  ops : List OpV
def PgV.long (p : PgV) : Bool := decide (64 < (p.n : Int)) || p.ops.any OpV.long
theorem longP_any (p : PgV) (w : World) (hr : Rd w w.heap.size 3 p.A p.n (cellsO p.ops)) :
    Calls Tryz.prog 65 #[.slice p.A p.n p.c] w fun e w' => e = .returned (.bool p.long) ∧ Below w.heap.size w w' := by
  go_enter Tryz.func65, Tryz.ntmps65
  by_cases h : (p.n : Int) > 64
  · have hd : decide ((p.n : Int) > 64) = true := by simpa using h
    go_wp2
    go_ret
    exact ⟨pRetB (by simp [PgV.long]; left; omega), Below.refl _ _⟩
  · have hd : decide ((p.n : Int) > 64) = false := by simpa using h
    go_wp2_with (go_at_call 66; refine (contO_any _ _ _ p.ops _ hr (by omega)).mono ?_; rintro e w2 ⟨rfl, hb2⟩)
    go_ret
    have hq : decide (64 < (p.n : Int)) = false := hd
    exact ⟨pRetB (by rw [PgV.long, hq, Bool.false_or]), hb2⟩

def PgV.val (p : PgV) : Value := .slice p.A p.n p.c
def cellsP (l : List PgV) : List Value := l.map PgV.val
theorem cellsP_drop (l : List PgV) (k : Nat) : (cellsP l).drop (k * 1) = cellsP (l.drop k) := by simp [cellsP]
theorem Rd.lenP {w : World} {B n : Nat} {A : Option Addr} {l : List PgV} (h : Rd w B 1 A n (cellsP l)) : n = l.length := by
  have := h.1; simp [cellsP] at this; omega
theorem Rd.atP {w : World} {B n : Nat} {A : Option Addr} {l : List PgV} (h : Rd w B 1 A n (cellsP l)) {k : Nat} (hk : k < l.length) :
    ∃ ad, A = some ad ∧ ad.block < B ∧ w.cell? (ad.add k) = some (.slice l[k].A l[k].n l[k].c) := by
  have hn := h.lenP
  obtain ⟨ad, e, hl, hc⟩ := h.at_ (k := k) (by omega)
  rw [cellsP_drop, List.drop_eq_getElem_cons hk, Nat.mul_one] at hc
  exact ⟨ad, e, hl, hc.c0⟩
/-- a list of programs as it lies -/
def Progs (w : World) (A : Option Addr) (n : Nat) (l : List PgV) : Prop := Rd w w.heap.size 1 A n (cellsP l) ∧ ∀ p ∈ l, Rd w w.heap.size 3 p.A p.n (cellsO p.ops)
theorem Progs.step {w w' : World} {A : Option Addr} {n : Nat} {l : List PgV} (h : Progs w A n l) (hb : Below w.heap.size w w') : Progs w' A n l := ⟨h.1.step hb, fun p hp => (h.2 p hp).step hb⟩
set_option maxHeartbeats 1000000 in
theorem idxP_any (A : Option Addr) (n c : Nat) (l : List PgV) (w : World) (hr : Progs w A n l) (hn : (n : Int) ≤ 1000000) :
    Calls Tryz.prog 106 #[.slice A n c, .func (.func 65) #[] #[]] w fun e w' => (∃ j : Int, e = .returned (.int .i64 j) ∧ decide (j ≥ 0) = l.any PgV.long) ∧ Below w.heap.size w w' := by
  have HL := Lib.hid hr.1.lenP
  have HR := Lib.hid hr
  go_enter Tryz.func106, Tryz.ntmps106
  go_wp2
  go_loopw [8] (fun i wr => ∃ k : Nat, k ≤ n ∧ i = .int .i64 k ∧ Hid ((l.drop k).any PgV.long = l.any PgV.long) ∧ Below w.heap.size w wr) (fun i _ => n - (intOf i).toNat)
  case atStart => exact ⟨0, Nat.zero_le _, rfl, rfl, Below.refl _ _⟩
  case round =>
    obtain ⟨k, hk, rfl, hF, hb⟩ := hrel
    by_cases hlt : k < n
    · have hk2 : k < l.length := by have := HL.out; omega
      obtain ⟨ad, rfl, had, c0⟩ := (HR.out.1.below hb (Nat.le_refl _)).atP hk2
      have HP := Lib.hid ((HR.out.step hb).2 l[k] (List.getElem_mem hk2))
      have hd : (l.drop k).any PgV.long = (l[k].long || (l.drop (k + 1)).any PgV.long) := by rw [List.drop_eq_getElem_cons hk2]; rfl
      clear hr
      cases hv : l[k].long
      · have hF2 : Hid ((l.drop (k + 1)).any PgV.long = l.any PgV.long) := by unfold Hid; rw [← hF.out, hd, hv]; rfl
        clear hd hF
        go_wp2_with (go_at_call 65; refine (longP_any l[k] _ HP.out).mono ?_; rintro e w2 ⟨rfl, hb3⟩; rw [hv])
        go_roundw
        case rel => exact ⟨k + 1, by omega, by go_num, hF2, hb.trans (hb3.mono hb.size)⟩
        case measure => simp [intOf]; omega
      · have hF2 : Hid (l.any PgV.long = true) := by unfold Hid; rw [← hF.out, hd, hv]; rfl
        clear hd hF
        go_wp2_with (go_at_call 65; refine (longP_any l[k] _ HP.out).mono ?_; rintro e w2 ⟨rfl, hb3⟩; rw [hv])
        go_ret
        exact ⟨⟨_, rfl, by rw [hF2.out]; simp⟩, hb.trans (hb3.mono hb.size)⟩
    · go_wp2
      go_ret
      have : k = l.length := by have := HL.out; omega
      exact ⟨⟨_, rfl, by rw [← hF.out, this, List.drop_length]; rfl⟩, hb⟩
theorem contP_any (A : Option Addr) (n c : Nat) (l : List PgV) (w : World) (hr : Progs w A n l) (hn : (n : Int) ≤ 1000000) :
    Calls Tryz.prog 68 #[.slice A n c, .func (.func 65) #[] #[]] w fun e w' => e = .returned (.bool (l.any PgV.long)) ∧ Below w.heap.size w w' := by
  go_enter Tryz.func68, Tryz.ntmps68
  go_wp2_with (go_at_call 106; refine (idxP_any _ _ _ l _ hr hn).mono ?_; rintro e w2 ⟨⟨j, rfl, hj⟩, hb2⟩)
  go_ret
  exact ⟨rfl, hb2⟩
/-- what programs.Check tells -/
def pgErr (n : Nat) (l : List PgV) : Int := if decide ((n : Int) > 8) || l.any PgV.long then 3 else 0
theorem pCheck_any (A : Option Addr) (n c : Nat) (l : List PgV) (w : World) (hr : Progs w A n l) :
    Calls Tryz.prog 42 #[.slice A n c] w fun e w' => e = .returned (.int .i64 (pgErr n l)) ∧ Below w.heap.size w w' := by
  go_enter Tryz.func42, Tryz.ntmps42
  by_cases h : (n : Int) > 8
  · have hd : decide ((n : Int) > 8) = true := by simpa using h
    go_wp2
    go_ret
    exact ⟨ret_int (by rw [pgErr, hd]; rfl), Below.refl _ _⟩
  · have hd : decide ((n : Int) > 8) = false := by simpa using h
    cases hv : l.any PgV.long
    all_goals
      go_wp2_with (go_at_call 68; refine (contP_any _ _ _ l _ hr (by omega)).mono ?_; rintro e w2 ⟨rfl, hb2⟩; rw [hv])
      go_ret
      exact ⟨ret_int (by rw [pgErr, hd, hv]; rfl), hb2⟩
end Go.Proofs.YtnpnljgjloofkaaGreatDoor
