/- lives: the examples of the chapter. -/
import Derived.Test.YtfdfadebfdmdgaaLkV
import Derived.Test.YtfdfadebfdmdgaaLkP
import Derived.Test.YtfdfadebfdmdgaaLkH
import Derived.Deep.CutRange
import Derived.Deep.DeepCutAuto
import Derived.Deep.RegionHeld3
namespace Go.Proofs.Ytfdfadebfdmdgaa
open Go.RowKit

def hs0 : List H3 := [⟨-1, 0, 1⟩, ⟨0, 3, 4⟩, ⟨1, 2, 1⟩]
def hs1 : List H3 := [⟨-1, 0, 1⟩, ⟨1, 2, 1⟩]

/-- What the examples' variables hold: the table, the two locks. -/
def Five (b : Nat) (A : Option Addr) (w : World) : Prop :=
  w.cell? ⟨b, 0, none⟩ = some (.slice A 3 3) ∧ w.cell? ⟨b + 1, 0, none⟩ = some (.int .i64 1) ∧ w.cell? ⟨b + 1, 1, none⟩ = some (.int .i64 2) ∧
    w.cell? ⟨b + 1 + 1, 0, none⟩ = some (.int .i64 0) ∧ w.cell? ⟨b + 1 + 1, 1, none⟩ = some (.int .i64 3)
theorem keep_cell {w w' : World} {a : Addr} {v : Value} (hb : Below w.heap.size w w') (h : w.cell? a = some v) : w'.cell? a = some v := (hb.cell (lt_of_cell h)).trans h
theorem Five.step {b : Nat} {A : Option Addr} {w w' : World} (h : Five b A w) (hb : Below w.heap.size w w') : Five b A w' :=
  ⟨keep_cell hb h.1, keep_cell hb h.2.1, keep_cell hb h.2.2.1, keep_cell hb h.2.2.2.1, keep_cell hb h.2.2.2.2⟩
theorem Five.new {w : World} {A : Option Addr} {w' : World} {T K : TypeId}
    (hb : Below (((w.alloc (.cells #[.slice A 3 3] T)).alloc (.cells #[.int .i64 1, .int .i64 2] K)).alloc (.cells #[.int .i64 0, .int .i64 3] K)).heap.size (((w.alloc (.cells #[.slice A 3 3] T)).alloc (.cells #[.int .i64 1, .int .i64 2] K)).alloc (.cells #[.int .i64 0, .int .i64 3] K)) w') : Five w.heap.size A w' := by
  have h : Five w.heap.size A (((w.alloc (.cells #[.slice A 3 3] T)).alloc (.cells #[.int .i64 1, .int .i64 2] K)).alloc (.cells #[.int .i64 0, .int .i64 3] K)) := by
    refine ⟨?_, ?_, ?_, ?_, ?_⟩ <;> simp [go_sem]
  exact h.step hb

/-- The two waits of the examples. -/
def Two (a b : Nat) (w : World) : Prop :=
  w.cell? ⟨a, 0, none⟩ = some (.int .i64 4) ∧ w.cell? ⟨a, 1, none⟩ = some (.int .i64 1) ∧ w.cell? ⟨a, 2, none⟩ = some (.int .i64 2) ∧
    w.cell? ⟨b, 0, none⟩ = some (.int .i64 1) ∧ w.cell? ⟨b, 1, none⟩ = some (.int .i64 0) ∧ w.cell? ⟨b, 2, none⟩ = some (.int .i64 3)
theorem Two.step {a b : Nat} {w w' : World} (h : Two a b w) (hb : Below w.heap.size w w') : Two a b w' :=
  ⟨keep_cell hb h.1, keep_cell hb h.2.1, keep_cell hb h.2.2.1, keep_cell hb h.2.2.2.1, keep_cell hb h.2.2.2.2.1, keep_cell hb h.2.2.2.2.2⟩

def wsU : List W3 := [⟨4, 1, 2⟩]
def wsUD : List W3 := [⟨4, 1, 2⟩, ⟨1, 0, 3⟩]
def wsD : List W3 := [⟨1, 0, 3⟩]
def wsF : List W3 := [⟨4, 0, 4⟩]
def wsUU : List W3 := [⟨4, 1, 2⟩, ⟨4, 1, 2⟩]

set_option maxRecDepth 100000 in
set_option maxHeartbeats 8000000 in
theorem lives_any (w : World) :
    Calls Try.prog 9 #[] w fun e w' => e = .returned (.bool true) ∧ Below w.heap.size w w' := by
  go_enter Try.func9, Try.ntmps9
  go_wp2_with fail
  refine (sample_any _).mono ?_
  rintro e w1 ⟨A, rfl, hr1, hb1⟩
  have hr1 : Rd w1 w1.heap.size 3 A 3 (cells3 hs0) := hr1
  have h3 : ((3 : Nat) : Int) ≤ 999999 := by omega
  have h3' : ((3 : Nat) : Int) ≤ 1000000 := by omega
  go_wp2_with fail
  refine (owner_any _ _ _ hs0 _ _ _ ?_ h3').mono ?_
  · exact hr1.step (below_new3 _ _ _ _)
  rintro e w2 ⟨rfl, hb2⟩
  rw [show who 1 2 hs0 = 1 from by decide, show heldB 1 2 hs0 = true from by decide]
  have f2 := Five.new hb2
  obtain ⟨g, hg⟩ : ∃ g, g = w1.heap.size := ⟨_, rfl⟩
  rw [← hg] at f2 ⊢
  have hx : Below w1.heap.size w1 w2 := below_alloc1 (below_alloc2 hb2)
  have hr := hr1.step hx
  have hb := hb1.trans (hx.mono hb1.size)
  clear hb2 hx hr1 hb1 hg
  obtain ⟨q1, q2, q3, q4, q5⟩ := f2
  have f : Five g A w2 := ⟨q1, q2, q3, q4, q5⟩
  have l1 : g < w2.heap.size := lt_of_cell q1
  have l2 : g + 1 < w2.heap.size := lt_of_cell q2
  have l3 : g + 1 + 1 < w2.heap.size := lt_of_cell q4
  go_wp2_with fail
  refine (owner_any _ _ _ hs0 _ _ _ hr h3').mono ?_
  rintro e w3 ⟨rfl, hb2⟩
  rw [show who 0 2 hs0 = 0 from by decide, show heldB 0 2 hs0 = false from by decide]
  have hx : Below w2.heap.size w2 w3 := hb2
  have f1 := f.step hx
  have hr1 := hr.step hx
  have hb1 := hb.trans (hx.mono hb.size)
  clear hb2 hx f hr hb q1 q2 q3 q4 q5 l1 l2 l3
  obtain ⟨q1, q2, q3, q4, q5⟩ := f1
  have f : Five g A w3 := ⟨q1, q2, q3, q4, q5⟩
  have l1 : g < w3.heap.size := lt_of_cell q1
  have l2 : g + 1 < w3.heap.size := lt_of_cell q2
  have l3 : g + 1 + 1 < w3.heap.size := lt_of_cell q4
  have hr := hr1
  have hb := hb1
  clear hr1 hb1
  go_wp2_with fail
  refine (of_any _ _ _ hs0 _ _ hr h3').mono ?_
  rintro e w4 ⟨A8, m8, rfl, hr8, hb2⟩
  have hx : Below w3.heap.size w3 w4 := hb2
  have hof : ofF 1 hs0 = [(-1, 0), (1, 2)] := by decide
  rw [hof] at hr8
  obtain rfl : m8 = 2 := hr8.len2
  have f1 := f.step hx
  have hr1 := hr.step hx
  have hb1 := hb.trans (hx.mono hb.size)
  clear hb2 hx f hr hb q1 q2 q3 q4 q5 l1 l2 l3
  obtain ⟨q1, q2, q3, q4, q5⟩ := f1
  have f : Five g A w4 := ⟨q1, q2, q3, q4, q5⟩
  have l1 : g < w4.heap.size := lt_of_cell q1
  have l2 : g + 1 < w4.heap.size := lt_of_cell q2
  have l3 : g + 1 + 1 < w4.heap.size := lt_of_cell q4
  have hr := hr1
  have hb := hb1
  clear hr1 hb1
  go_wp2_with fail
  refine (take_any _ _ _ hs0 _ _ _ _ hr h3).mono ?_
  rintro e w5 ⟨A9, m9, rfl, hr9, hb2⟩
  rw [show takeE hs0 0 3 1 = 14 from by decide]
  have hx : Below w4.heap.size w4 w5 := hb2
  have f1 := f.step hx
  have hr1 := hr.step hx
  have hb1 := hb.trans (hx.mono hb.size)
  have hr8 := hr8.step hx
  clear hb2 hx f hr hb q1 q2 q3 q4 q5 l1 l2 l3
  obtain ⟨q1, q2, q3, q4, q5⟩ := f1
  have f : Five g A w5 := ⟨q1, q2, q3, q4, q5⟩
  have l1 : g < w5.heap.size := lt_of_cell q1
  have l2 : g + 1 < w5.heap.size := lt_of_cell q2
  have l3 : g + 1 + 1 < w5.heap.size := lt_of_cell q4
  have hr := hr1
  have hb := hb1
  clear hr1 hb1
  go_wp2_with fail
  refine (take_any _ _ _ hs0 _ _ _ _ (hr.step ((Below.refl _ _).alloc (Nat.le_refl _) _)) h3).mono ?_
  rintro e w6 ⟨A10, m10, rfl, hr10, hb2⟩
  rw [show takeE hs0 0 3 4 = 14 from by decide]
  have hx : Below w5.heap.size w5 w6 := below_alloc1 hb2
  have f1 := f.step hx
  have hr1 := hr.step hx
  have hb1 := hb.trans (hx.mono hb.size)
  have hr8 := hr8.step hx
  clear hb2 hx f hr hb q1 q2 q3 q4 q5 l1 l2 l3
  obtain ⟨q1, q2, q3, q4, q5⟩ := f1
  have f : Five g A w6 := ⟨q1, q2, q3, q4, q5⟩
  have l1 : g < w6.heap.size := lt_of_cell q1
  have l2 : g + 1 < w6.heap.size := lt_of_cell q2
  have l3 : g + 1 + 1 < w6.heap.size := lt_of_cell q4
  have hr := hr1
  have hb := hb1
  clear hr1 hb1
  go_wp2_with fail
  refine (take_any _ _ _ hs0 _ _ _ _ (hr.step ((Below.refl _ _).alloc (Nat.le_refl _) _)) h3).mono ?_
  rintro e w7 ⟨A11, m11, rfl, hr11, hb2⟩
  rw [show takeE hs0 6 0 1 = 1 from by decide]
  have hx : Below w6.heap.size w6 w7 := below_alloc1 hb2
  have f1 := f.step hx
  have hr1 := hr.step hx
  have hb1 := hb.trans (hx.mono hb.size)
  have hr8 := hr8.step hx
  clear hb2 hx f hr hb q1 q2 q3 q4 q5 l1 l2 l3
  obtain ⟨q1, q2, q3, q4, q5⟩ := f1
  have f : Five g A w7 := ⟨q1, q2, q3, q4, q5⟩
  have l1 : g < w7.heap.size := lt_of_cell q1
  have l2 : g + 1 < w7.heap.size := lt_of_cell q2
  have l3 : g + 1 + 1 < w7.heap.size := lt_of_cell q4
  have hr := hr1
  have hb := hb1
  clear hr1 hb1
  go_wp2_with fail
  refine (free_any _ _ _ hs0 _ _ _ _ (hr.step ((Below.refl _ _).alloc (Nat.le_refl _) _)) h3').mono ?_
  rintro e w8 ⟨A12, m12, rfl, hr12, hb2⟩
  rw [show freeE hs0 0 3 1 = 10 from by decide]
  have hx : Below w7.heap.size w7 w8 := below_alloc1 hb2
  have f1 := f.step hx
  have hr1 := hr.step hx
  have hb1 := hb.trans (hx.mono hb.size)
  have hr8 := hr8.step hx
  clear hb2 hx f hr hb q1 q2 q3 q4 q5 l1 l2 l3
  obtain ⟨q1, q2, q3, q4, q5⟩ := f1
  have f : Five g A w8 := ⟨q1, q2, q3, q4, q5⟩
  have l1 : g < w8.heap.size := lt_of_cell q1
  have l2 : g + 1 < w8.heap.size := lt_of_cell q2
  have l3 : g + 1 + 1 < w8.heap.size := lt_of_cell q4
  have hr := hr1
  have hb := hb1
  clear hr1 hb1
  go_wp2_with fail
  refine (free_any _ _ _ hs0 _ _ _ _ (hr.step ((Below.refl _ _).alloc (Nat.le_refl _) _)) h3').mono ?_
  rintro e w9 ⟨A13, m13, rfl, hr13, hb2⟩
  rw [show freeE hs0 0 3 4 = 0 from by decide]
  have hx : Below w8.heap.size w8 w9 := below_alloc1 hb2
  rw [show freeG hs0 0 3 4 = hs1 from by decide] at hr13
  obtain rfl : m13 = 2 := hr13.len3
  have f1 := f.step hx
  have hr1 := hr.step hx
  have hb1 := hb.trans (hx.mono hb.size)
  have hr8 := hr8.step hx
  clear hb2 hx f hr hb q1 q2 q3 q4 q5 l1 l2 l3
  obtain ⟨q1, q2, q3, q4, q5⟩ := f1
  have f : Five g A w9 := ⟨q1, q2, q3, q4, q5⟩
  have l1 : g < w9.heap.size := lt_of_cell q1
  have l2 : g + 1 < w9.heap.size := lt_of_cell q2
  have l3 : g + 1 + 1 < w9.heap.size := lt_of_cell q4
  have hr := hr1
  have hb := hb1
  clear hr1 hb1
  obtain ⟨wu, hwu⟩ : ∃ wu, wu = w9.alloc (.cells #[.slice A13 2 2] 29) := ⟨_, rfl⟩
  obtain ⟨gu, hgu⟩ : ∃ gu, gu = w9.heap.size := ⟨_, rfl⟩
  go_wp2_with fail
  rw [← hwu, ← hgu]
  have hx : Below w9.heap.size w9 wu := by rw [hwu]; exact (Below.refl _ _).alloc (Nat.le_refl _) _
  have qu : wu.cell? ⟨gu, 0, none⟩ = some (.slice A13 2 2) := by rw [hwu, hgu]; exact cell_newest _ _ _ 0 rfl
  have hr8 := hr8.step hx
  have hr13 := hr13.step hx
  have f1 := f.step hx
  have hr1 := hr.step hx
  have hb1 := hb.trans (hx.mono hb.size)
  clear hx f hr hb q1 q2 q3 q4 q5 l1 l2 l3 hwu hgu
  obtain ⟨q1, q2, q3, q4, q5⟩ := f1
  have f : Five g A wu := ⟨q1, q2, q3, q4, q5⟩
  have hr := hr1
  have hb := hb1
  clear hr1 hb1
  have hq : ∀ w, (binOp .neq 43 (.agg #[.int .i64 1, .int .i64 2]) (.agg #[.int .i64 1, .int .i64 2])).run Try.prog w = .ok (.bool false) w := fun w => lock_neq 1 2 1 2 w
  obtain ⟨ad, rfl, had, c0', c1'⟩ := hr8.at2 (k := 1) (by decide)
  have c0 : wu.cell? ⟨ad.block, ad.off + 2, none⟩ = some (.int .i64 1) := c0'
  have c1 : wu.cell? ⟨ad.block, ad.off + 2 + 1, none⟩ = some (.int .i64 2) := c1'
  clear c0' c1'
  refine still_tail 47 (by kernel_rfl) (by kernel_rfl) ?_
  simp only [List.take_succ_cons, List.take_zero, List.drop_succ_cons, List.drop_zero]
  repeat still_step
  refine wpStill_nil ?_
  go_wp2_with fail
  refine (of_any _ _ _ hs1 _ _ (hr13.drew) (by omega)).mono ?_
  rintro e w10 ⟨A14, m14, rfl, hr14, hb2⟩
  have hof2 : ofF 4 hs1 = [] := by decide
  rw [hof2] at hr14
  obtain rfl : m14 = 0 := hr14.len2
  have hx : Below wu.heap.size wu w10 := below_of_drew hb2
  have f1 := f.step hx
  have hr1 := hr.step hx
  have hb1 := hb.trans (hx.mono hb.size)
  clear hx hb2 f hr hb q1 q2 q3 q4 q5 hr8 hr13 hr14 hr9 hr10 hr11 hr12 c0 c1 had hq qu hof hof2
  obtain ⟨q1, q2, q3, q4, q5⟩ := f1
  have f : Five g A w10 := ⟨q1, q2, q3, q4, q5⟩
  have hr := hr1
  have hb := hb1
  clear hr1 hb1
  have l1 : g < w10.heap.size := lt_of_cell q1
  have l2 : g + 1 < w10.heap.size := lt_of_cell q2
  have l3 : g + 1 + 1 < w10.heap.size := lt_of_cell q4
  go_upto_region 13 with (fail)
  go_cut [19, 20] (fun s u wx => ∃ bu bd, s = .pointer (some ⟨bu, 0, none⟩) ∧ u = .pointer (some ⟨bd, 0, none⟩) ∧ Two bu bd wx ∧ Below w10.heap.size w10 wx)
  case first =>
    go_region_held3 (fun w' => w'.cell? ⟨g + 1, 0, none⟩ = some (.int .i64 1) ∧ w'.cell? ⟨g + 1, 1, none⟩ = some (.int .i64 2) ∧ w'.cell? ⟨g + 1 + 1, 0, none⟩ = some (.int .i64 0) ∧ w'.cell? ⟨g + 1 + 1, 1, none⟩ = some (.int .i64 3)) (go_keep) (fail)
    all_goals
      go_wp2
      go_meet
      case rel =>
        refine ⟨_, _, rfl, rfl, ⟨?_, ?_, ?_, ?_, ?_, ?_⟩, ?_⟩
        · simp [go_sem]
        · simp [go_sem]
        · simp [go_sem]
        · simp [go_sem]
        · simp [go_sem]
        · simp [go_sem]
        · exact below_drewN' (((Below.refl _ _).alloc (Nat.le_refl _) _).alloc (by simp) _) 1
  case rest =>
    obtain ⟨bu, bd, rfl, rfl, ht, hx⟩ := hcut
    have f1 := f.step hx
    have hr1 := hr.step hx
    have hb1 := hb.trans (hx.mono hb.size)
    clear hx f hr hb q1 q2 q3 q4 q5 l1 l2 l3
    obtain ⟨q1, q2, q3, q4, q5⟩ := f1
    have f : Five g A wc := ⟨q1, q2, q3, q4, q5⟩
    have l1 : g < wc.heap.size := lt_of_cell q1
    have hr := hr1
    have hb := hb1
    clear hr1 hb1
    have hsU : ((1 : Nat) : Int) ≤ 1000000 := by omega
    have hsV : ((2 : Nat) : Int) ≤ 1000000 := by omega
    obtain ⟨t1, t2, t3, t4, t5, t6⟩ := ht
    have ht : Two bu bd wc := ⟨t1, t2, t3, t4, t5, t6⟩
    have m1 : bu < wc.heap.size := lt_of_cell t1
    have m2 : bd < wc.heap.size := lt_of_cell t4
    go_wp2_with fail
    refine (cycle_any _ _ _ _ _ _ hs0 wsU _ (hr.step ((Below.refl _ _).alloc (Nat.le_refl _) _)) (Rd.lit1 rfl rfl) h3' hsU (Nat.le_refl _)).mono ?_
    rintro e w12 ⟨A15, m15, rfl, hr15, hb2⟩
    rw [show cycF hs0 wsU = [] from by decide] at hr15
    obtain rfl : m15 = 0 := hr15.len1
    have hx : Below wc.heap.size wc w12 := below_alloc1 hb2
    have f1 := f.step hx
    have ht1 := ht.step hx
    have hr1 := hr.step hx
    have hb1 := hb.trans (hx.mono hb.size)
    clear hr15
    clear hx hb2 f hr hb ht q1 q2 q3 q4 q5 t1 t2 t3 t4 t5 t6 l1 m1 m2
    obtain ⟨q1, q2, q3, q4, q5⟩ := f1
    have f : Five g A w12 := ⟨q1, q2, q3, q4, q5⟩
    obtain ⟨t1, t2, t3, t4, t5, t6⟩ := ht1
    have ht : Two bu bd w12 := ⟨t1, t2, t3, t4, t5, t6⟩
    have l1 : g < w12.heap.size := lt_of_cell q1
    have m1 : bu < w12.heap.size := lt_of_cell t1
    have m2 : bd < w12.heap.size := lt_of_cell t4
    have hr := hr1
    have hb := hb1
    clear hr1 hb1
    go_wp2_with fail
    refine (cycle_any _ _ _ _ _ _ hs0 wsUD _ (hr.step ((Below.refl _ _).alloc (Nat.le_refl _) _)) (Rd.lit1 rfl rfl) h3' hsV (Nat.le_refl _)).mono ?_
    rintro e w13 ⟨A16, m16, rfl, hr16, hb2⟩
    rw [show cycF hs0 wsUD = [1, 4] from by decide] at hr16
    obtain rfl : m16 = 2 := hr16.len1
    have hx : Below w12.heap.size w12 w13 := below_alloc1 hb2
    have f1 := f.step hx
    have ht1 := ht.step hx
    have hr1 := hr.step hx
    have hb1 := hb.trans (hx.mono hb.size)
    clear hx hb2 f hr hb ht q1 q2 q3 q4 q5 t1 t2 t3 t4 t5 t6 l1 m1 m2
    obtain ⟨q1, q2, q3, q4, q5⟩ := f1
    have f : Five g A w13 := ⟨q1, q2, q3, q4, q5⟩
    obtain ⟨t1, t2, t3, t4, t5, t6⟩ := ht1
    have ht : Two bu bd w13 := ⟨t1, t2, t3, t4, t5, t6⟩
    have l1 : g < w13.heap.size := lt_of_cell q1
    have m1 : bu < w13.heap.size := lt_of_cell t1
    have m2 : bd < w13.heap.size := lt_of_cell t4
    have hr := hr1
    have hb := hb1
    clear hr1 hb1
    go_wp2_with fail
    refine (ints_any _ _ _ _ _ _ [1, 4] [1, 4] _ (hr16.step ((Below.refl _ _).alloc (Nat.le_refl _) _)) (Rd.lit1 rfl rfl) hsV hsV (by omega)).mono ?_
    rintro e w14 ⟨rfl, hb2⟩
    rw [show b2i (decide (2 = 2) && decide (([1, 4] : List Int) = [1, 4])) = 1 from by decide]
    have hx : Below w13.heap.size w13 w14 := below_alloc1 hb2
    have f1 := f.step hx
    have ht1 := ht.step hx
    have hr1 := hr.step hx
    have hb1 := hb.trans (hx.mono hb.size)
    clear hr16
    clear hx hb2 f hr hb ht q1 q2 q3 q4 q5 t1 t2 t3 t4 t5 t6 l1 m1 m2
    obtain ⟨q1, q2, q3, q4, q5⟩ := f1
    have f : Five g A w14 := ⟨q1, q2, q3, q4, q5⟩
    obtain ⟨t1, t2, t3, t4, t5, t6⟩ := ht1
    have ht : Two bu bd w14 := ⟨t1, t2, t3, t4, t5, t6⟩
    have l1 : g < w14.heap.size := lt_of_cell q1
    have m1 : bu < w14.heap.size := lt_of_cell t1
    have m2 : bd < w14.heap.size := lt_of_cell t4
    have hr := hr1
    have hb := hb1
    clear hr1 hb1
    go_wp2_with fail
    refine (upward_any _ _ _ _ _ _ hs0 wsU _ (hr.step ((Below.refl _ _).alloc (Nat.le_refl _) _)) (Rd.lit1 rfl rfl) h3' hsU (Nat.le_refl _)).mono ?_
    rintro e w15 ⟨rfl, hb2⟩
    rw [show upwardB hs0 wsU = true from by decide]
    have hx : Below w14.heap.size w14 w15 := below_alloc1 hb2
    have f1 := f.step hx
    have ht1 := ht.step hx
    have hr1 := hr.step hx
    have hb1 := hb.trans (hx.mono hb.size)
    clear hx hb2 f hr hb ht q1 q2 q3 q4 q5 t1 t2 t3 t4 t5 t6 l1 m1 m2
    obtain ⟨q1, q2, q3, q4, q5⟩ := f1
    have f : Five g A w15 := ⟨q1, q2, q3, q4, q5⟩
    obtain ⟨t1, t2, t3, t4, t5, t6⟩ := ht1
    have ht : Two bu bd w15 := ⟨t1, t2, t3, t4, t5, t6⟩
    have l1 : g < w15.heap.size := lt_of_cell q1
    have m1 : bu < w15.heap.size := lt_of_cell t1
    have m2 : bd < w15.heap.size := lt_of_cell t4
    have hr := hr1
    have hb := hb1
    clear hr1 hb1
    go_wp2_with fail
    refine (upward_any _ _ _ _ _ _ hs0 wsD _ (hr.step ((Below.refl _ _).alloc (Nat.le_refl _) _)) (Rd.lit1 rfl rfl) h3' hsU (Nat.le_refl _)).mono ?_
    rintro e w16 ⟨rfl, hb2⟩
    rw [show upwardB hs0 wsD = false from by decide]
    have hx : Below w15.heap.size w15 w16 := below_alloc1 hb2
    have f1 := f.step hx
    have ht1 := ht.step hx
    have hr1 := hr.step hx
    have hb1 := hb.trans (hx.mono hb.size)
    clear hx hb2 f hr hb ht q1 q2 q3 q4 q5 t1 t2 t3 t4 t5 t6 l1 m1 m2
    obtain ⟨q1, q2, q3, q4, q5⟩ := f1
    have f : Five g A w16 := ⟨q1, q2, q3, q4, q5⟩
    obtain ⟨t1, t2, t3, t4, t5, t6⟩ := ht1
    have ht : Two bu bd w16 := ⟨t1, t2, t3, t4, t5, t6⟩
    have l1 : g < w16.heap.size := lt_of_cell q1
    have m1 : bu < w16.heap.size := lt_of_cell t1
    have m2 : bd < w16.heap.size := lt_of_cell t4
    have hr := hr1
    have hb := hb1
    clear hr1 hb1
    go_wp2_with fail
    refine (checkWaits_any _ _ _ _ _ _ hs0 wsF _ (hr.step ((Below.refl _ _).alloc (Nat.le_refl _) _)) (Rd.lit1 rfl rfl) h3' hsU (Nat.le_refl _)).mono ?_
    rintro e w17 ⟨rfl, hb2⟩
    rw [show cwF hs0 wsF = 10 from by decide]
    have hx : Below w16.heap.size w16 w17 := below_alloc1 hb2
    have f1 := f.step hx
    have ht1 := ht.step hx
    have hr1 := hr.step hx
    have hb1 := hb.trans (hx.mono hb.size)
    clear hx hb2 f hr hb ht q1 q2 q3 q4 q5 t1 t2 t3 t4 t5 t6 l1 m1 m2
    obtain ⟨q1, q2, q3, q4, q5⟩ := f1
    have f : Five g A w17 := ⟨q1, q2, q3, q4, q5⟩
    obtain ⟨t1, t2, t3, t4, t5, t6⟩ := ht1
    have ht : Two bu bd w17 := ⟨t1, t2, t3, t4, t5, t6⟩
    have l1 : g < w17.heap.size := lt_of_cell q1
    have m1 : bu < w17.heap.size := lt_of_cell t1
    have m2 : bd < w17.heap.size := lt_of_cell t4
    have hr := hr1
    have hb := hb1
    clear hr1 hb1
    go_wp2_with fail
    refine (checkWaits_any _ _ _ _ _ _ hs0 wsUU _ (hr.step ((Below.refl _ _).alloc (Nat.le_refl _) _)) (Rd.lit1 rfl rfl) h3' hsV (Nat.le_refl _)).mono ?_
    rintro e w18 ⟨rfl, hb2⟩
    rw [show cwF hs0 wsUU = 12 from by decide]
    have hx : Below w17.heap.size w17 w18 := below_alloc1 hb2
    have hb1 := hb.trans (hx.mono hb.size)
    go_wp2
    go_ret
    exact ⟨rfl, hb1⟩
end Go.Proofs.Ytfdfadebfdmdgaa
