/- Actions checked: scripts.actionIs. -/
import Derived.Test.YtjknpcllmmalkaaGreatDoorAct
namespace Go.Proofs.YtjknpcllmmalkaaGreatDoor
open Go.RowKit

/-- what an action of its kind would be without what others have -/
def ActV.bare (a : ActV) : ActV :=
  if a.k = 1 then ⟨a.k, a.th, 0, none, 0, 0, 0, []⟩ else if a.k = 2 then ⟨a.k, 0, a.sc, a.A, a.n, a.c, 0, a.l⟩ else if a.k = 3 then ⟨a.k, 0, a.sc, none, 0, 0, 0, []⟩ else if a.k = 4 then ⟨a.k, 0, a.sc, none, 0, 0, a.bk, []⟩ else ⟨a.k, 0, 0, none, 0, 0, 0, []⟩
def ActV.okB (a : ActV) (threads : Int) : Bool :=
  if a.k = 1 then decide (0 ≤ a.th) && decide (a.th < threads) else if a.k = 2 then decide ((a.n : Int) ≤ 256) else if a.k = 4 then decide (0 ≤ a.bk) else true
def ActV.isB (a : ActV) (threads sectors : Int) : Bool :=
  (decide (1 ≤ a.k) && decide (a.k ≤ 5)) && (((a.okB threads && decide (0 ≤ a.bare.sc)) && decide (a.bare.sc < sectors)) && a.same a.bare)
set_option maxRecDepth 100000 in
set_option maxHeartbeats 2000000 in
theorem is5 (a : ActV) (hk : a.k = 5) (threads sectors : Int) (w : World) (ha : Rd w w.heap.size 1 a.A a.n (cells8 a.l)) :
    Calls Tryz.prog 16 #[.agg a.cells.toArray, .int .i64 threads, .int .i64 sectors] w fun e w' => e = .returned (.bool (a.isB threads sectors)) ∧ Below w.heap.size w w' := by
  have HS := fun (W : World) (hb : Below w.heap.size w W) => same_any a a.bare W (ha.step hb) (by simp [ActV.bare, hk]; exact Rd.none_)
  have hbare : a.bare = ⟨5, 0, 0, none, 0, 0, 0, []⟩ := by simp [ActV.bare, hk]
  have hok : a.okB threads = true := by simp [ActV.okB, hk]
  have hcell : a.cells = [.int .u8 5, .int .i64 a.th, .int .i64 a.sc, .slice a.A a.n a.c, .int .i64 a.bk] := by rw [ActV.cells, hk]
  have hB : a.isB threads sectors = (decide (0 < sectors) && a.same a.bare) := by rw [ActV.isB, hok, hbare, hk]; simp
  rw [hB]
  rw [hcell] at HS ⊢
  generalize hq : a.same a.bare = q at HS ⊢
  rw [hbare] at HS
  unfold ActV.cells at HS
  clear ha hbare hok hcell hB hq
  go_enter Tryz.func16, Tryz.ntmps16
  have B1 : ∀ o1 o2 : Obj, Below w.heap.size w ((w.alloc o1).alloc o2) := fun o1 o2 => ((Below.refl _ _).alloc (Nat.le_refl _) _).alloc (by simp) _
  cases h1 : decide (0 < sectors)
  · go_wp2
    go_ret
    exact ⟨rfl, B1 _ _⟩
  · go_wp2_with (go_at_call 35; refine (HS _ ?_).mono ?_; rotate_left; rintro e w2 ⟨rfl, hb2⟩)
    · go_ret
      exact ⟨rfl, (B1 _ _).trans (hb2.mono (B1 _ _).size)⟩
set_option maxRecDepth 100000 in
set_option maxHeartbeats 2000000 in
theorem is3 (a : ActV) (hk : a.k = 3) (threads sectors : Int) (w : World) (ha : Rd w w.heap.size 1 a.A a.n (cells8 a.l)) :
    Calls Tryz.prog 16 #[.agg a.cells.toArray, .int .i64 threads, .int .i64 sectors] w fun e w' => e = .returned (.bool (a.isB threads sectors)) ∧ Below w.heap.size w w' := by
  have HS := fun (W : World) (hb : Below w.heap.size w W) => same_any a a.bare W (ha.step hb) (by simp [ActV.bare, hk]; exact Rd.none_)
  have hbare : a.bare = ⟨3, 0, a.sc, none, 0, 0, 0, []⟩ := by simp [ActV.bare, hk]
  have hok : a.okB threads = true := by simp [ActV.okB, hk]
  have hcell : a.cells = [.int .u8 3, .int .i64 a.th, .int .i64 a.sc, .slice a.A a.n a.c, .int .i64 a.bk] := by rw [ActV.cells, hk]
  have hB : a.isB threads sectors = ((decide (a.sc ≥ 0) && decide (a.sc < sectors)) && a.same a.bare) := by rw [ActV.isB, hok, hbare, hk]; simp
  rw [hB]
  rw [hcell] at HS ⊢
  generalize hq : a.same a.bare = q at HS ⊢
  rw [hbare] at HS
  unfold ActV.cells at HS
  clear ha hbare hok hcell hB hq
  go_enter Tryz.func16, Tryz.ntmps16
  have B1 : ∀ o1 o2 : Obj, Below w.heap.size w ((w.alloc o1).alloc o2) := fun o1 o2 => ((Below.refl _ _).alloc (Nat.le_refl _) _).alloc (by simp) _
  cases h0 : decide (a.sc ≥ 0)
  · go_wp2
    go_ret
    exact ⟨rfl, B1 _ _⟩
  cases h1 : decide (a.sc < sectors)
  · go_wp2
    go_ret
    exact ⟨rfl, B1 _ _⟩
  · go_wp2_with (go_at_call 35; refine (HS _ ?_).mono ?_; rotate_left; rintro e w2 ⟨rfl, hb2⟩)
    · go_ret
      exact ⟨rfl, (B1 _ _).trans (hb2.mono (B1 _ _).size)⟩
set_option maxRecDepth 100000 in
set_option maxHeartbeats 2000000 in
theorem is4 (a : ActV) (hk : a.k = 4) (threads sectors : Int) (w : World) (ha : Rd w w.heap.size 1 a.A a.n (cells8 a.l)) :
    Calls Tryz.prog 16 #[.agg a.cells.toArray, .int .i64 threads, .int .i64 sectors] w fun e w' => e = .returned (.bool (a.isB threads sectors)) ∧ Below w.heap.size w w' := by
  have HS := fun (W : World) (hb : Below w.heap.size w W) => same_any a a.bare W (ha.step hb) (by simp [ActV.bare, hk]; exact Rd.none_)
  have hbare : a.bare = ⟨4, 0, a.sc, none, 0, 0, a.bk, []⟩ := by simp [ActV.bare, hk]
  have hok : a.okB threads = decide (0 ≤ a.bk) := by simp [ActV.okB, hk]
  have hcell : a.cells = [.int .u8 4, .int .i64 a.th, .int .i64 a.sc, .slice a.A a.n a.c, .int .i64 a.bk] := by rw [ActV.cells, hk]
  have hB : a.isB threads sectors = (((decide (a.bk ≥ 0) && decide (a.sc ≥ 0)) && decide (a.sc < sectors)) && a.same a.bare) := by rw [ActV.isB, hok, hbare, hk]; simp
  rw [hB]
  rw [hcell] at HS ⊢
  generalize hq : a.same a.bare = q at HS ⊢
  rw [hbare] at HS
  unfold ActV.cells at HS
  clear ha hbare hok hcell hB hq
  go_enter Tryz.func16, Tryz.ntmps16
  have B2 : ∀ o1 o2 : Obj, Below w.heap.size w ((w.alloc o1).alloc o2).drew := fun o1 o2 => below_drewN' (((Below.refl _ _).alloc (Nat.le_refl _) _).alloc (by simp) _) 1
  cases hb0 : decide (a.bk ≥ 0)
  · go_wp2
    go_region
    go_wp2
    go_ret
    exact ⟨rfl, B2 _ _⟩
  cases h0 : decide (a.sc ≥ 0)
  · go_wp2
    go_region
    go_wp2
    go_ret
    exact ⟨rfl, B2 _ _⟩
  cases h1 : decide (a.sc < sectors)
  · go_wp2
    go_region
    go_wp2
    go_ret
    exact ⟨rfl, B2 _ _⟩
  · go_wp2
    go_region
    go_wp2_with (go_at_call 35; refine (HS _ ?_).mono ?_; rotate_left; rintro e w2 ⟨rfl, hb2⟩)
    · go_ret
      exact ⟨rfl, (B2 _ _).trans (hb2.mono (B2 _ _).size)⟩
    · exact B2 _ _
set_option maxRecDepth 100000 in
set_option maxHeartbeats 2000000 in
theorem is2 (a : ActV) (hk : a.k = 2) (threads sectors : Int) (w : World) (ha : Rd w w.heap.size 1 a.A a.n (cells8 a.l)) :
    Calls Tryz.prog 16 #[.agg a.cells.toArray, .int .i64 threads, .int .i64 sectors] w fun e w' => e = .returned (.bool (a.isB threads sectors)) ∧ Below w.heap.size w w' := by
  have HS := fun (W : World) (hb : Below w.heap.size w W) => same_any a a.bare W (ha.step hb) (by simp [ActV.bare, hk]; exact ha.step hb)
  have hbare : a.bare = ⟨2, 0, a.sc, a.A, a.n, a.c, 0, a.l⟩ := by simp [ActV.bare, hk]
  have hok : a.okB threads = decide ((a.n : Int) ≤ 256) := by simp [ActV.okB, hk]
  have hcell : a.cells = [.int .u8 2, .int .i64 a.th, .int .i64 a.sc, .slice a.A a.n a.c, .int .i64 a.bk] := by rw [ActV.cells, hk]
  have hB : a.isB threads sectors = (((decide ((a.n : Int) ≤ 256) && decide (a.sc ≥ 0)) && decide (a.sc < sectors)) && a.same a.bare) := by rw [ActV.isB, hok, hbare, hk]; simp
  rw [hB]
  rw [hcell] at HS ⊢
  generalize hq : a.same a.bare = q at HS ⊢
  rw [hbare] at HS
  unfold ActV.cells at HS
  clear ha hbare hok hcell hB hq
  go_enter Tryz.func16, Tryz.ntmps16
  have B2 : ∀ o1 o2 : Obj, Below w.heap.size w ((w.alloc o1).alloc o2).drew := fun o1 o2 => below_drewN' (((Below.refl _ _).alloc (Nat.le_refl _) _).alloc (by simp) _) 1
  cases hb0 : decide ((a.n : Int) ≤ 256)
  · go_wp2
    go_region
    go_wp2
    go_ret
    exact ⟨rfl, B2 _ _⟩
  cases h0 : decide (a.sc ≥ 0)
  · go_wp2
    go_region
    go_wp2
    go_ret
    exact ⟨rfl, B2 _ _⟩
  cases h1 : decide (a.sc < sectors)
  · go_wp2
    go_region
    go_wp2
    go_ret
    exact ⟨rfl, B2 _ _⟩
  · go_wp2
    go_region
    go_wp2_with (go_at_call 35; refine (HS _ ?_).mono ?_; rotate_left; rintro e w2 ⟨rfl, hb2⟩)
    · go_ret
      exact ⟨rfl, (B2 _ _).trans (hb2.mono (B2 _ _).size)⟩
    · exact B2 _ _
set_option maxRecDepth 100000 in
set_option maxHeartbeats 2000000 in
theorem is1 (a : ActV) (hk : a.k = 1) (threads sectors : Int) (w : World) (ha : Rd w w.heap.size 1 a.A a.n (cells8 a.l)) :
    Calls Tryz.prog 16 #[.agg a.cells.toArray, .int .i64 threads, .int .i64 sectors] w fun e w' => e = .returned (.bool (a.isB threads sectors)) ∧ Below w.heap.size w w' := by
  have HS := fun (W : World) (hb : Below w.heap.size w W) => same_any a a.bare W (ha.step hb) (by simp [ActV.bare, hk]; exact Rd.none_)
  have hbare : a.bare = ⟨1, a.th, 0, none, 0, 0, 0, []⟩ := by simp [ActV.bare, hk]
  have hok : a.okB threads = (decide (a.th ≥ 0) && decide (a.th < threads)) := by simp [ActV.okB, hk]
  have hcell : a.cells = [.int .u8 1, .int .i64 a.th, .int .i64 a.sc, .slice a.A a.n a.c, .int .i64 a.bk] := by rw [ActV.cells, hk]
  have hB : a.isB threads sectors = (((decide (a.th ≥ 0) && decide (a.th < threads)) && decide (0 < sectors)) && a.same a.bare) := by rw [ActV.isB, hok, hbare, hk]; simp
  rw [hB]
  rw [hcell] at HS ⊢
  generalize hq : a.same a.bare = q at HS ⊢
  rw [hbare] at HS
  unfold ActV.cells at HS
  clear ha hbare hok hcell hB hq
  go_enter Tryz.func16, Tryz.ntmps16
  have B1 : ∀ o1 o2 : Obj, Below w.heap.size w ((w.alloc o1).alloc o2) := fun o1 o2 => ((Below.refl _ _).alloc (Nat.le_refl _) _).alloc (by simp) _
  cases h0 : decide (a.th ≥ 0)
  · go_wp2
    go_ret
    exact ⟨rfl, B1 _ _⟩
  cases h1 : decide (a.th < threads)
  · go_wp2
    go_ret
    exact ⟨rfl, B1 _ _⟩
  cases h2 : decide (0 < sectors)
  · go_wp2
    go_ret
    exact ⟨rfl, B1 _ _⟩
  · go_wp2_with (go_at_call 35; refine (HS _ ?_).mono ?_; rotate_left; rintro e w2 ⟨rfl, hb2⟩)
    · go_ret
      exact ⟨rfl, (B1 _ _).trans (hb2.mono (B1 _ _).size)⟩
set_option maxRecDepth 100000 in
set_option maxHeartbeats 2000000 in
theorem is0 (a : ActV) (hk : ¬ (1 ≤ a.k ∧ a.k ≤ 5)) (threads sectors : Int) (w : World) :
    Calls Tryz.prog 16 #[.agg a.cells.toArray, .int .i64 threads, .int .i64 sectors] w fun e w' => e = .returned (.bool (a.isB threads sectors)) ∧ Below w.heap.size w w' := by
  have hB : a.isB threads sectors = false := by
    have h : (decide (1 ≤ a.k) && decide (a.k ≤ 5)) = false := by rw [Bool.and_eq_false_iff, decide_eq_false_iff_not, decide_eq_false_iff_not]; omega
    rw [ActV.isB, h, Bool.false_and]
  have e1 : (a.k == 1) = false := by simp; omega
  have e2 : (a.k == 2) = false := by simp; omega
  have e3 : (a.k == 3) = false := by simp; omega
  have e4 : (a.k == 4) = false := by simp; omega
  have e5 : (a.k == 5) = false := by simp; omega
  have B1 : ∀ o1 o2 : Obj, Below w.heap.size w ((w.alloc o1).alloc o2) := fun o1 o2 => ((Below.refl _ _).alloc (Nat.le_refl _) _).alloc (by simp) _
  rw [hB]
  unfold ActV.cells
  clear hk hB
  go_enter Tryz.func16, Tryz.ntmps16
  go_wp2
  go_ret
  exact ⟨rfl, B1 _ _⟩
theorem actionIs_any (a : ActV) (threads sectors : Int) (w : World) (ha : Rd w w.heap.size 1 a.A a.n (cells8 a.l)) :
    Calls Tryz.prog 16 #[.agg a.cells.toArray, .int .i64 threads, .int .i64 sectors] w fun e w' => e = .returned (.bool (a.isB threads sectors)) ∧ Below w.heap.size w w' := by
  by_cases h1 : a.k = 1
  · exact is1 a h1 threads sectors w ha
  by_cases h2 : a.k = 2
  · exact is2 a h2 threads sectors w ha
  by_cases h3 : a.k = 3
  · exact is3 a h3 threads sectors w ha
  by_cases h4 : a.k = 4
  · exact is4 a h4 threads sectors w ha
  by_cases h5 : a.k = 5
  · exact is5 a h5 threads sectors w ha
  exact is0 a (by omega) threads sectors w
end Go.Proofs.YtjknpcllmmalkaaGreatDoor
