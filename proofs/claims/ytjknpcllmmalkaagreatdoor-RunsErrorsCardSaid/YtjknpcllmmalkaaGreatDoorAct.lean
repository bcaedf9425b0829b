/- Actions compared: scripts.sameAction. -/
import Derived.Test.YtjknpcllmmalkaaGreatDoorCnv
namespace Go.Proofs.YtjknpcllmmalkaaGreatDoor
open Go.RowKit

/-- an action as it lies -/
structure ActV where
  k : Int
  th : Int
  sc : Int
  A : Option Addr
  n : Nat
  c : Nat
  bk : Int
  l : List B8
def ActV.cells (a : ActV) : List Value := [.int .u8 a.k, .int .i64 a.th, .int .i64 a.sc, .slice a.A a.n a.c, .int .i64 a.bk]
def ActV.same (a b : ActV) : Bool := ((((a.k == b.k) && (a.th == b.th)) && (a.sc == b.sc)) && (a.bk == b.bk)) && decide (a.l = b.l)
theorem aRetB {a b : Bool} (h : a = b) : Ending.returned (.bool a) = .returned (.bool b) := by rw [h]
set_option maxRecDepth 100000 in
set_option maxHeartbeats 2000000 in
theorem same_any (a b : ActV) (w : World) (ha : Rd w w.heap.size 1 a.A a.n (cells8 a.l)) (hb : Rd w w.heap.size 1 b.A b.n (cells8 b.l)) :
    Calls Tryz.prog 35 #[.agg a.cells.toArray, .agg b.cells.toArray] w fun e w' => e = .returned (.bool (a.same b)) ∧ Below w.heap.size w w' := by
  have b1 : Below w.heap.size w ((w.alloc (.cells a.cells.toArray 93)).alloc (.cells b.cells.toArray 93)) := ((Below.refl _ _).alloc (Nat.le_refl _) _).alloc (by simp) _
  have k1 := conv8 (c := a.c) (ha.below b1 (Nat.le_refl _))
  have k2 := conv8 (c := b.c) (hb.below b1 (Nat.le_refl _))
  have k3 := strB_beq a.l b.l
  have B1 := Lib.hid b1
  clear ha hb b1
  unfold ActV.cells at *
  go_enter Tryz.func35, Tryz.ntmps35
  cases h1 : (a.k == b.k)
  · go_wp2
    go_ret
    exact ⟨aRetB (by simp [ActV.same, h1]), B1.out⟩
  cases h2 : (a.th == b.th)
  · go_wp2
    go_ret
    exact ⟨aRetB (by simp [ActV.same, h1, h2]), B1.out⟩
  cases h3 : (a.sc == b.sc)
  · go_wp2
    go_ret
    exact ⟨aRetB (by simp [ActV.same, h1, h2, h3]), B1.out⟩
  cases h4 : (a.bk == b.bk)
  · go_wp2
    go_ret
    exact ⟨aRetB (by simp [ActV.same, h1, h2, h3, h4]), B1.out⟩
  go_wp2
  go_ret
  exact ⟨aRetB (by simp [ActV.same, h1, h2, h3, h4]), B1.out⟩
end Go.Proofs.YtjknpcllmmalkaaGreatDoor
