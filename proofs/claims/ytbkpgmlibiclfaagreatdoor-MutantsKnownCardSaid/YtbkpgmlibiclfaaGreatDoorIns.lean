/- slices.Insert of one held lock into a row: what it does, and that all else stays. -/
import Derived.Test.YtbkpgmlibiclfaaGreatDoorShC
import Derived.Lib.Overlaps
namespace Go.Proofs.YtbkpgmlibiclfaaGreatDoor
open Go.RowKit

structure H3 where
  lv : Int
  ix : Int
  th : Int

def H3.cells (h : H3) : List Value := [.int .i64 h.lv, .int .i64 h.ix, .int .i64 h.th]
def cells3 (hs : List H3) : List Value := hs.flatMap H3.cells

theorem cells3_len (hs : List H3) : (cells3 hs).length = hs.length * 3 := by
  induction hs with
  | nil => rfl
  | cons h t ih => simp only [cells3, List.flatMap_cons, List.length_append, List.length_cons] at ih ⊢; rw [ih]; simp [H3.cells]; omega
theorem cells3_drop (hs : List H3) (k : Nat) : (cells3 hs).drop (k * 3) = cells3 (hs.drop k) := by
  induction k generalizing hs with
  | zero => simp
  | succ k ih =>
    cases hs with
    | nil => simp [cells3]
    | cons h t =>
      have e : (k + 1) * 3 = 3 + k * 3 := by omega
      rw [e, ← List.drop_drop]
      exact ih t
theorem cells3_app (a b : List H3) : cells3 (a ++ b) = cells3 a ++ cells3 b := by simp [cells3]
theorem cells3_one (hs : List H3) : ∀ u ∈ cells3 hs, u.oneCell' = true := by
  intro u hu
  simp only [cells3, List.mem_flatMap] at hu
  obtain ⟨h, _, hu⟩ := hu
  simp [H3.cells] at hu
  rcases hu with rfl | rfl | rfl <;> rfl
theorem cells3_take (hs : List H3) (k : Nat) : (cells3 hs).take (k * 3) = cells3 (hs.take k) := by
  induction k generalizing hs with
  | zero => simp [cells3]
  | succ k ih =>
    cases hs with
    | nil => simp [cells3]
    | cons h t =>
      have e : (k + 1) * 3 = 3 + k * 3 := by omega
      rw [e]
      show List.take (3 + k * 3) (H3.cells h ++ cells3 t) = H3.cells h ++ cells3 (t.take k)
      rw [← ih t, List.take_append]
      have h3 : (H3.cells h).length = 3 := rfl
      rw [h3, List.take_of_length_le (by rw [h3]; omega), show 3 + k * 3 - 3 = k * 3 by omega]

theorem info_held : (Tryz.prog.info? 299).map (fun i => (i.zero, i.size, i.bytes)) = some (some (.agg #[.int .i64 0, .int .i64 0, .int .i64 0]), 3, 24) := by kernel_rfl

theorem splice2_take {α : Type} (L tail x : List α) (a b : Nat) (hb : b = a + x.length) (hl : b + tail.length ≤ L.length) : (splice (splice L b tail) a x).take (b + tail.length) = L.take a ++ (x ++ tail) := by
  have h1 : (splice L b tail).take a = L.take a := splice_take _ _ _ _ (by omega) (by omega)
  have h2 : (splice L b tail).drop (a + x.length) = tail ++ L.drop (b + tail.length) := by
    rw [← hb]; unfold splice
    rw [List.drop_append, List.drop_eq_nil_of_le (by simp; omega), List.nil_append, List.length_take, Nat.min_eq_left (by omega), Nat.sub_self, List.drop_zero]
  generalize splice L b tail = S at *
  unfold splice
  rw [h1, h2, ← List.append_assoc, ← List.append_assoc, List.take_append_of_le_length (by simp; omega)]
  rw [List.take_of_length_le (by simp; omega), List.append_assoc]

def insF (i : Nat) (x : H3) (hs : List H3) : List H3 := hs.take i ++ x :: hs.drop i

theorem grown_below {B g : Nat} {w0 w w' : World} (hb : Below B w0 w) (hg : w.grownBy w' (some g)) (hB : B ≤ w.heap.size) (hBg : B ≤ g) : Below B w0 w' :=
  hb.grown hg hB (fun k hk => by cases hk; exact hBg)

theorem grown_trans {w w1 w2 : World} {r : Option Nat} (h1 : w.grownBy w1 r) (h2 : w1.grownBy w2 r) : w.grownBy w2 r := ⟨h2.os.trans h1.os, h2.tape.trans h1.tape, h2.output.trans h1.output, Nat.le_trans h1.size h2.size, fun k hk hn => (h2.block k (Nat.lt_of_lt_of_le hk h1.size) hn).trans (h1.block k hk hn)⟩
theorem grown_below0 {w w' : World} {r : Option Nat} (h : Below w.heap.size w w') : w.grownBy w' r := ⟨h.os, h.tape, h.output, h.size, fun k hk _ => h.block k hk⟩

/-- Insert comes back with the row into which an element has been put, the old one or a new one. -/
def InsOut (n : Nat) (gs : List H3) (r : Option Nat) (w : World) (e : Ending) (w' : World) : Prop := ∃ v, e = .returned v ∧ w'.ownsRow 0 299 3 v n (cells3 gs) ∧ w.grownBy w' r ∧ (v.ownBlock = r ∨ ∃ k, v.ownBlock = some k ∧ w.heap.size ≤ k)

set_option maxRecDepth 100000 in
set_option maxHeartbeats 1000000 in
theorem insert_end (n c gv : Nat) (A : Option Addr) (x : H3) (hs : List H3) (w : World) (hown : w.ownsRow 0 299 3 (.slice A n c) n (cells3 hs)) (hn : (n : Int) ≤ 1000000) (hv : Row w gv 299 x.cells) :
    Calls Tryz.prog 394 #[.slice A n c, .int .i64 n, .slice (some ⟨gv, 0, none⟩) 1 1] w (InsOut (n + 1) (insF n x hs) (A.map (·.block)) w) := by
  have hlen : n = hs.length := by have := hown.1; rw [cells3_len] at this; omega
  have hx : Rd w w.heap.size 3 (some ⟨gv, 0, none⟩) 1 x.cells := ⟨rfl, fun _ => ⟨_, rfl, hv.lt, by simpa using hv.cells 0⟩⟩
  have hone : ∀ u ∈ x.cells, u.oneCell' = true := fun u hu => cells3_one [x] u (by simpa [cells3] using hu)
  have hmx : n + 1 ≤ maxLen := by unfold maxLen; omega
  have hby : (n + 1) * 24 ≤ 140737488355328 := by omega
  obtain ⟨i0, hi0, hz0, hz1, hz2⟩ := info_parts info_held
  have hfin : Hid (cells3 (insF n x hs) = cells3 hs ++ x.cells) := by
    unfold Hid insF
    rw [hlen, List.take_length, List.drop_length, cells3_app]; simp [cells3]
  have hnc : n ≤ c := by
    rcases own_row hown with ⟨_, h1, h2, _⟩ | ⟨_, _, _, _, _, h, _⟩
    · omega
    · exact h
  clear hlen
  go_enter Tryz.func394, Tryz.ntmps394
  go_wp2_with (at_builtin; refine wpList_append_rd _ rfl (.tmp 23) (.tmp 24) _ rfl 0 299 i0 _ 3 24 Tryz.underlying182 hi0 hz0 hz1 hz2 rfl (by decide) _ _ _ rfl hown _ _ _ _ x.cells rfl hx hone hmx hby (Nat.zero_le _) ?_; intro v' w1 hown' hgrow hat; have hgrow2 : w.grownBy w1 (A.map (·.block)) := (by cases A <;> exact hgrow); have hat2 : v'.ownBlock = A.map (·.block) ∨ ∃ k, v'.ownBlock = some k ∧ w.heap.size ≤ k := (by cases A <;> exact hat.imp id (fun h => ⟨_, h, Nat.le_refl _⟩)))
  all_goals
    go_wp2
    go_ret
    exact ⟨_, rfl, by rw [hfin.out]; exact hown', hgrow2, hat2⟩

set_option maxRecDepth 100000 in
set_option maxHeartbeats 1000000 in
theorem insert_room (n c g gv i : Nat) (x : H3) (hs : List H3) (w : World) (hown : w.ownsRow 0 299 3 (.slice (some ⟨g, 0, none⟩) n c) n (cells3 hs)) (hn : (n : Int) ≤ 1000000) (hv : Row w gv 299 x.cells) (hne : gv ≠ g) (hi : i < n) (hroom : n + 1 ≤ c) :
    Calls Tryz.prog 394 #[.slice (some ⟨g, 0, none⟩) n c, .int .i64 i, .slice (some ⟨gv, 0, none⟩) 1 1] w (InsOut (n + 1) (insF i x hs) (some g) w) := by
  rcases own_row hown with ⟨h, _⟩ | ⟨g', L, hg', _, hrow, hnc, hcm, hLl, hLt⟩
  · cases h
  obtain rfl : g = g' := by simpa using hg'
  clear hg'
  have hlen : n = hs.length := by have := hown.1; rw [cells3_len] at this; omega
  have hkl : (cells3 (hs.drop i)).length = (n - i) * 3 := by rw [cells3_len, List.length_drop, ← hlen]
  have hxl : x.cells.length = 3 := rfl
  have hsrc : Cells w ⟨g, i * 3, none⟩ (cells3 (hs.drop i)) := by
    have h1 := (hrow.cells 0).take (n * 3)
    simp only [List.drop_zero, hLt] at h1
    have h2 := h1.nth (i * 3)
    rw [cells3_drop] at h2
    have e : (⟨g, 0, none⟩ : Addr).add (i * 3) = ⟨g, i * 3, none⟩ := by unfold Addr.add; split <;> simp_all
    rwa [e] at h2
  have hfit : (i + 1) * 3 + (cells3 (hs.drop i)).length ≤ L.length := by rw [hkl, hLl]; omega
  have hrowd : Row w.drew g 299 L := hrow
  obtain ⟨W2, hcp, hrow2, hg2⟩ := copy_ex (P := Tryz.prog) (w := w.drew) 182 182 3 299 3 Tryz.underlying182 (by kernel_rfl) g ((i + 1) * 3) (n - i) (c - (i + 1)) (n + 1 - i) (c - i) (n - i) (some ⟨g, (i + 1) * 3, none⟩) (some ⟨g, i * 3, none⟩) L (cells3 (hs.drop i)) _ hrowd
    (by simp only [Nat.min_def]; split <;> omega) hkl (fun _ => rfl) (fun _ => ⟨_, rfl, hsrc⟩) hfit (cells3_one _)
  have hlen2 : (splice L ((i + 1) * 3) (cells3 (hs.drop i))).length = c * 3 := by rw [splice_len _ _ _ hfit, hLl]
  have hv2 : Cells W2 ⟨gv, 0, none⟩ x.cells := by
    have h0 : Cells w ⟨gv, 0, none⟩ x.cells := by simpa using hv.cells 0
    exact (show Cells w.drew ⟨gv, 0, none⟩ x.cells from h0).keep fun p hp => World.cell?_of_block (hg2.block _ (by rw [hp]; exact hv.lt) (by rw [hp]; intro h; cases h; exact hne rfl))
  obtain ⟨W3, hcp3, hrow3, hg3⟩ := copy_ex (P := Tryz.prog) (w := W2) 182 182 3 299 3 Tryz.underlying182 (by kernel_rfl) g (i * 3) (n + 1 - i) (c - i) 1 1 1 (some ⟨g, i * 3, none⟩) (some ⟨gv, 0, none⟩) _ x.cells _ hrow2
    (by simp only [Nat.min_def]; split <;> omega) hxl (fun _ => rfl) (fun _ => ⟨_, rfl, hv2⟩) (by rw [hlen2, hxl]; omega) (fun u hu => cells3_one [x] u (by simpa [cells3] using hu))
  have hb3 : Hid (w.grownBy W3 (some g)) := grown_trans ⟨hg2.os, hg2.tape, hg2.output, hg2.size, hg2.block⟩ hg3
  have hfin : Hid (W3.ownsRow 0 299 3 (.slice (some ⟨g, 0, none⟩) (n + 1) c) (n + 1) (cells3 (insF i x hs))) := by
    refine row_own (Nat.zero_le _) hrow3 hroom hcm (by rw [splice_len _ _ _ (by rw [hlen2, hxl]; omega), hlen2]) ?_
    have e1 : (n + 1) * 3 = (i + 1) * 3 + (cells3 (hs.drop i)).length := by rw [hkl]; omega
    rw [e1, splice2_take _ _ _ _ _ (by rw [hxl]; omega) hfit]
    have e3 : L.take (i * 3) = cells3 (hs.take i) := by
      rw [← cells3_take, ← hLt, List.take_take]; congr 1; omega
    rw [e3, insF, cells3_app]; rfl
  have hov : ∀ lb cb, (callFunc 438 #[.slice (some ⟨gv, 0, none⟩) 1 1, .slice (some ⟨g, (i + 1) * 3, none⟩) lb cb]).run Tryz.prog w = .ok (.value (.bool false)) w := fun lb cb => by
    obtain ⟨i0, hi0, hz0, hz1, hz2⟩ := info_parts info_held
    have hsz : ∀ w, (Go.sizeOf 299).run Tryz.prog w = .ok 3 w := fun w => by simp [sizeOf, typeInfo, hi0, hz1]
    rw [run_callFunc_extern Tryz.func438 (by kernel_rfl) (by kernel_rfl) (by kernel_rfl) (e := Extern.SlicesOverlaps.overlaps #[182, 182] #[4]) (by kernel_rfl),
      Lib.run_overlaps_apart w 182 4 299 Tryz.underlying182 3 hsz ⟨gv, 0, none⟩ ⟨g, (i + 1) * 3, none⟩ 1 1 lb cb hne 299 299 3 L.length
        (by unfold Row at hv; simp [World.shape?, hv, H3.cells]) (by unfold Row at hrow; simp [World.shape?, hrow]) (by rw [hLl]; omega) (hv.free 0) (hv.free 3)]
    rfl
  have hne1 : ((i : Int) == (n : Int)) = false := by simp; omega
  have h1c : i ≤ c := by omega
  have hin : i ≤ n := by omega
  have hgr : ¬ (c : Int) < (n : Int) + 1 := by omega
  have hnc1 : n + 1 ≤ c := hroom
  have hc1 : ¬ c = i + 1 := by omega
  have hc0 : ¬ c = i := by omega
  have hi1 : i + 1 ≤ n + 1 := by omega
  have h01 : (0 : Int) ≤ (i : Int) + 1 := by omega
  have hi2 : (i : Int) + 1 ≤ (n : Int) + 1 := by omega
  have hi3 : (i : Int) ≤ (n : Int) + 1 := by omega
  have hwr : IntKind.i64.wrap ((i : Int) + 1) = (i : Int) + 1 := IntWalk.i64_in _ (by omega)
  have htn : ((i : Int) + 1).toNat = i + 1 := by omega
  have HV := Lib.hid hv
  clear hown hrow hrowd hrow2 hrow3 hLt hLl hlen hkl hsrc hfit hlen2 hv2 hg2 hg3 hv hxl hcm
  have HCP := Lib.hid hcp
  have HCP3 := Lib.hid hcp3
  clear hcp hcp3
  go_enter Tryz.func394, Tryz.ntmps394
  go_wp2_with (simp only [hov])
  refine still_tail 8 (by kernel_rfl) (by kernel_rfl) ?_
  simp only [List.take_succ_cons, List.take_zero, List.drop_succ_cons, List.drop_zero]
  repeat still_step
  refine wpStill_nil ?_
  refine wpList_copy_run rfl (.tmp 73) (.tmp 76) _ _ rfl _ _ rfl rfl HCP.out ?_
  have hcp3 := HCP3.out
  go_wp2
  go_ret
  exact ⟨_, rfl, hfin.out, hb3.out, .inl rfl⟩

set_option maxRecDepth 100000 in
set_option maxHeartbeats 1000000 in
theorem insert_grow (n g gv i : Nat) (x : H3) (hs : List H3) (w : World) (hown : w.ownsRow 0 299 3 (.slice (some ⟨g, 0, none⟩) n n) n (cells3 hs)) (hn : (n : Int) ≤ 1000000) (hv : Row w gv 299 x.cells) (hi : i < n) :
    Calls Tryz.prog 394 #[.slice (some ⟨g, 0, none⟩) n n, .int .i64 i, .slice (some ⟨gv, 0, none⟩) 1 1] w (InsOut (n + 1) (insF i x hs) (some g) w) := by
  rcases own_row hown with ⟨h, _⟩ | ⟨g', L, hg', _, hrow, hnc, hcm, hLl, hLt⟩
  · cases h
  obtain rfl : g = g' := by simpa using hg'
  clear hg'
  obtain ⟨i0, hi0, hz0, hz1, hz2⟩ := info_parts info_held
  have hlen : n = hs.length := by have := hown.1; rw [cells3_len] at this; omega
  have hkl : (cells3 (hs.drop i)).length = (n - i) * 3 := by rw [cells3_len, List.length_drop, ← hlen]
  have htl : (cells3 (hs.take i)).length = i * 3 := by rw [cells3_len, List.length_take]; omega
  have hxl : x.cells.length = 3 := rfl
  have hLeq : L = cells3 hs := by rw [← hLt, List.take_of_length_le (by rw [hLl]; omega)]
  have hsrc : Cells w ⟨g, i * 3, none⟩ (cells3 (hs.drop i)) := by
    have h2 := hrow.cells (i * 3)
    rwa [hLeq, cells3_drop] at h2
  have hpre : Cells w ⟨g, 0, none⟩ (cells3 (hs.take i)) := by
    have h2 := (hrow.cells 0).take (i * 3)
    rwa [List.drop_zero, hLeq, cells3_take] at h2
  obtain ⟨cap, hcap, hcapm, hap⟩ := run_append_zeros (P := Tryz.prog) (w := w) 182 3 182 299 i0 _ .i64 Tryz.underlying182 Tryz.underlying3 hi0 hz0 (by rw [hz1]; omega) (some ⟨g, 0, none⟩) i n (n + 1 - i) (cells3 (hs.take i)) (by rw [hz1]; exact htl) (fun _ => ⟨_, rfl, hpre⟩)
    (by omega) (by omega) (by omega) (by rw [hz2]; omega)
  rw [show i + (n + 1 - i) = n + 1 by omega] at hcap hap
  obtain ⟨Z, hZ⟩ : ∃ Z, Z = (Builtin.zeroCells (Value.agg #[.int .i64 0, .int .i64 0, .int .i64 0]).cells (n + 1 - i)).toList ++ (Builtin.zeroCells (Value.agg #[.int .i64 0, .int .i64 0, .int .i64 0]).cells (cap - (n + 1))).toList := ⟨_, rfl⟩
  have hzz : (Value.agg #[.int .i64 0, .int .i64 0, .int .i64 0]).cells.size = 3 := rfl
  have hZl : Z.length = (cap - i) * 3 := by
    rw [hZ, List.length_append]; simp only [Array.length_toList, size_zeroCells, hzz]; omega
  rw [List.append_assoc, ← hZ] at hap
  obtain ⟨W1, hW1⟩ : ∃ W1, W1 = w.drew.alloc (.cells (cells3 (hs.take i) ++ Z).toArray 299) := ⟨_, rfl⟩
  rw [← hW1] at hap
  obtain ⟨h, hh⟩ : ∃ h, h = w.heap.size := ⟨_, rfl⟩
  have hrow1 : Row W1 h 299 (cells3 (hs.take i) ++ Z) := by rw [hW1]; unfold Row; exact heap_new_at (by rw [hh]; rfl)
  have hb1 : Below w.heap.size w W1 := by rw [hW1]; exact (below_drewN' (Below.refl _ _) 1).alloc (Nat.le_refl _) _
  have hl1 : (cells3 (hs.take i) ++ Z).length = cap * 3 := by rw [List.length_append, htl, hZl]; omega
  have hvc : Cells w ⟨gv, 0, none⟩ x.cells := by simpa using hv.cells 0
  obtain ⟨W2, hcp, hrow2, hg2⟩ := copy_ex (P := Tryz.prog) (w := W1) 182 182 3 299 3 Tryz.underlying182 (by kernel_rfl) h (i * 3) (n + 1 - i) (cap - i) 1 1 1 (some ⟨h, i * 3, none⟩) (some ⟨gv, 0, none⟩) _ x.cells _ hrow1
    (by simp only [Nat.min_def]; split <;> omega) hxl (fun _ => rfl) (fun _ => ⟨_, rfl, hvc.below hb1 hv.lt⟩) (by rw [hl1, hxl]; omega) (fun u hu => cells3_one [x] u (by simpa [cells3] using hu))
  have hb2 : Below w.heap.size w W2 := grown_below hb1 hg2 hb1.size (by omega)
  have hl2 : (splice (cells3 (hs.take i) ++ Z) (i * 3) x.cells).length = cap * 3 := by rw [splice_len _ _ _ (by rw [hl1, hxl]; omega), hl1]
  have hb2d : Below w.heap.size w W2.drew := below_drewN' hb2 1
  have hrow2d : Row W2.drew h 299 (splice (cells3 (hs.take i) ++ Z) (i * 3) x.cells) := hrow2
  obtain ⟨W3, hcp3, hrow3, hg3⟩ := copy_ex (P := Tryz.prog) (w := W2.drew) 182 182 3 299 3 Tryz.underlying182 (by kernel_rfl) h ((i + 1) * 3) (n - i) (cap - (i + 1)) (n - i) (n - i) (n - i) (some ⟨h, (i + 1) * 3, none⟩) (some ⟨g, i * 3, none⟩) _ (cells3 (hs.drop i)) _ hrow2d
    (by simp only [Nat.min_def]; split <;> omega) hkl (fun _ => rfl) (fun _ => ⟨_, rfl, hsrc.below hb2d hrow.lt⟩) (by rw [hl2, hkl]; omega) (cells3_one _)
  have hb3 : Below w.heap.size w W3 := grown_below hb2d hg3 hb2d.size (by omega)
  have hfin : Hid (W3.ownsRow 0 299 3 (.slice (some ⟨h, 0, none⟩) (n + 1) cap) (n + 1) (cells3 (insF i x hs))) := by
    refine row_own (Nat.zero_le _) hrow3 hcap hcapm (by rw [splice_len _ _ _ (by rw [hl2, hkl]; omega), hl2]) ?_
    have e1 : (n + 1) * 3 = (i + 1) * 3 + (cells3 (hs.drop i)).length := by rw [hkl]; omega
    rw [e1, splice_take_end _ _ _ (by rw [hl2]; omega)]
    have e2 : (i + 1) * 3 = i * 3 + x.cells.length := by rw [hxl]; omega
    rw [e2, splice_take_end _ _ _ (by rw [hl1]; omega), List.take_append_of_le_length (by rw [htl]; omega), List.take_of_length_le (by rw [htl]; omega), insF, cells3_app, List.append_assoc]; rfl
  have hbf : Hid (w.grownBy W3 (some g)) := grown_below0 hb3
  have hhl : Hid (w.heap.size ≤ h) := by rw [hh]; exact Nat.le_refl _
  have hne1 : ((i : Int) == (n : Int)) = false := by simp; omega
  have h1c : i ≤ n := by omega
  have hgr : (n : Int) < (n : Int) + 1 := by omega
  have hc1 : ¬ cap = i + 1 := by omega
  have hc0 : ¬ cap = i := by omega
  have hc2 : ¬ n = i := by omega
  have hi1 : i + 1 ≤ n + 1 := by omega
  have hi4 : i ≤ n + 1 := by omega
  have h01 : (0 : Int) ≤ (i : Int) + 1 := by omega
  have hi2 : (i : Int) + 1 ≤ (n : Int) + 1 := by omega
  have hi3 : (i : Int) ≤ (n : Int) + 1 := by omega
  have hwr : IntKind.i64.wrap ((i : Int) + 1) = (i : Int) + 1 := IntWalk.i64_in _ (by omega)
  have htn : ((i : Int) + 1).toNat = i + 1 := by omega
  have ecast : ((n + 1 - i : Nat) : Int) = (n : Int) + 1 - (i : Int) := by omega
  rw [ecast, ← hh] at hap
  have HAP := Lib.hid hap
  have HCP := Lib.hid hcp
  have HCP3 := Lib.hid hcp3
  clear hown hrow hrow1 hrow2 hrow2d hrow3 hLt hLl hlen hkl htl hsrc hpre hl1 hl2 hg2 hg3 hv hvc hxl hcm hap hcp hcp3 hb1 hb2 hb2d hb3 hZ hZl hW1 hh hLeq hzz ecast
  go_enter Tryz.func394, Tryz.ntmps394
  have hcp := HCP.out
  go_wp2_with (at_builtin; refine Lib.wpList_append_run _ rfl (.tmp 34) (.tmp 39) _ _ rfl _ _ rfl rfl _ _ HAP.out ?_)
  refine still_tail 8 (by kernel_rfl) (by kernel_rfl) ?_
  simp only [List.take_succ_cons, List.take_zero, List.drop_succ_cons, List.drop_zero]
  repeat still_step
  refine wpStill_nil ?_
  refine wpList_copy_run rfl (.tmp 50) (.tmp 53) _ _ rfl _ _ rfl rfl HCP3.out ?_
  go_wp2
  go_ret
  exact ⟨_, rfl, hfin.out, hbf.out, .inr ⟨_, rfl, hhl.out⟩⟩
end Go.Proofs.YtbkpgmlibiclfaaGreatDoor
