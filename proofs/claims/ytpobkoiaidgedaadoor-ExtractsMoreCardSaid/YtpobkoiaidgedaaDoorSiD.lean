/- The program's Expand, as far as one part is enough. -/
import Derived.Test.YtpobkoiaidgedaaDoorSiC
namespace Go.Proofs.YtpobkoiaidgedaaDoor
open Go.RowKit Go.Shelf
attribute [local go_sem] Oper.semAt_some

theorem row_kept {W W' : World} {row : Option Nat} {g : Nat} {t : TypeId} {L : List Value} (h : Row W g t L) (hg : W.grownBy W' row) (hr : ∀ r, row = some r → ∃ o : Obj, W.heap[r]? = some o ∧ o.isCells = false) : Row W' g t L := by
  refine (hg.block g h.lt (fun e => ?_)).trans h
  obtain ⟨o, ho, hc⟩ := hr g e.symm
  rw [h] at ho
  cases ho
  simp [Obj.isCells] at hc

theorem parts_any (A1 : Option Addr) (n1 c1 : Nat) (A2 : Option Addr) (n2 c2 : Nat) (w : World) :
    Calls Tryd.prog 44 #[.slice A1 n1 c1, .slice A2 n2 c2] w fun e w' => e = .returned (.func (.func 55) #[] #[.pointer (some ⟨w.heap.size, 0, none⟩), .pointer (some ⟨w.heap.size + 1, 0, none⟩)]) ∧ w' = (w.alloc (.cells #[.slice A1 n1 c1] 34)).alloc (.cells #[.slice A2 n2 c2] 34) := by
  go_enter Tryd.func44, Tryd.ntmps44
  go_wp2
  go_ret
  exact ⟨rfl, rfl⟩

set_option maxRecDepth 100000 in
set_option maxHeartbeats 4000000 in
theorem expand_any (A1 : Option Addr) (c1 : Nat) (prk : List B8) (A2 : Option Addr) (n2 c2 : Nat) (info : List B8) (n : Nat) (w : World) (hG : Glob w) (hp : prk.length = 32) (hr : Rd w w.heap.size 1 A1 32 (cells8 prk)) (hr2 : Rd w w.heap.size 1 A2 n2 (cells8 info)) (hi : info.length ≤ 100) (hc2 : n2 ≤ c2) (hcm : c2 ≤ maxLen) (hn0 : 0 < n) (hn : n ≤ 32) :
    Calls Tryd.prog 30 #[.slice A1 32 c1, .slice A2 n2 c2, .int .i64 (n : Int)] w fun e w' => ∃ g, e = .returned (.tuple #[.slice (some ⟨g, 0, none⟩) n n, .int .i64 0]) ∧ Rd w' w'.heap.size 1 (some ⟨g, 0, none⟩) n (cells8 ((part1 prk info).take n)) ∧ w.heap.size ≤ g ∧ Below w.heap.size w w' := by
  obtain rfl : n2 = info.length := hr2.len8
  have hn2 : (n : Int) ≤ 32 := by omega
  have hn1 : (0 : Int) < (n : Int) := by omega
  have hn3 : ((n : Int) == 0) = false := by simp; omega
  have hd1 : decide ((n : Int) < 0) = false := by simp
  have hd2 : decide (8160 < (n : Int)) = false := by simp; omega
  have HN0 := Lib.hid hn0
  have HN := Lib.hid hn
  have HI := Lib.hid hi
  have HP := Lib.hid hp
  have HC2 := Lib.hid hc2
  have HCM := Lib.hid hcm
  clear hn0 hn hi hp hc2 hcm
  refine (callsIn_wide (n := 9)).1 ?_
  refine callsIn_of_wp_marks Tryd.func30 rfl trivial ?_ rfl
  simp only [Tryd.ntmps30, List.push_toArray, List.append_toArray, List.nil_append, List.cons_append, List.size_toArray, List.length_cons, List.length_nil, Nat.reduceAdd, Nat.reduceSub, Array.replicate_succ, Array.replicate_zero]
  gi_wp2_with (fail)
  refine ⟨trivial, ?_⟩
  refine (callsIn_wide.2 (parts_any A1 32 c1 A2 info.length c2 _)).mono ?_
  rintro e w' ⟨rfl, rfl⟩
  have ba := (Below.refl w.heap.size w).alloc (Nat.le_refl _) (.cells #[.int .i64 (n : Int)] 3)
  have bb := ba.alloc ba.size (.cells #[.slice none 0 0] 34)
  have bc := bb.alloc bb.size (.cells #[.slice A1 32 c1] 34)
  have bd := bc.alloc bc.size (.cells #[.slice A2 info.length c2] 34)
  obtain ⟨W0, hW0⟩ : ∃ W0, ((((w.alloc (.cells #[.int .i64 (n : Int)] 3)).alloc (.cells #[.slice none 0 0] 34)).alloc (.cells #[.slice A1 32 c1] 34)).alloc (.cells #[.slice A2 info.length c2] 34)) = W0 := ⟨_, rfl⟩
  have r5 : Row W0 w.heap.size 3 [.int .i64 (n : Int)] := by
    have h0 : Row (w.alloc (.cells #[.int .i64 (n : Int)] 3)) w.heap.size 3 [.int .i64 (n : Int)] := heap_alloc_new _ _
    rw [← hW0]; exact ((h0.step ((Below.refl _ _).alloc (Nat.le_refl _) _)).step ((Below.refl _ _).alloc (Nat.le_refl _) _)).step ((Below.refl _ _).alloc (Nat.le_refl _) _)
  have r8 : Row W0 (w.heap.size + 1) 34 [.slice none 0 0] := by
    have h0 : Row ((w.alloc (.cells #[.int .i64 (n : Int)] 3)).alloc (.cells #[.slice none 0 0] 34)) (w.heap.size + 1) 34 [.slice none 0 0] := heap_new_at (by simp)
    rw [← hW0]; exact (h0.step ((Below.refl _ _).alloc (Nat.le_refl _) _)).step ((Below.refl _ _).alloc (Nat.le_refl _) _)
  have rb1 : Row W0 (w.heap.size + 1 + 1) 34 [.slice A1 32 c1] := by
    have h0 : Row (((w.alloc (.cells #[.int .i64 (n : Int)] 3)).alloc (.cells #[.slice none 0 0] 34)).alloc (.cells #[.slice A1 32 c1] 34)) (w.heap.size + 1 + 1) 34 [.slice A1 32 c1] := heap_new_at (by simp)
    rw [← hW0]; exact h0.step ((Below.refl _ _).alloc (Nat.le_refl _) _)
  have rb2 : Row W0 (w.heap.size + 1 + 1 + 1) 34 [.slice A2 info.length c2] := by rw [← hW0]; exact heap_new_at (by simp)
  have hsz : W0.heap.size = w.heap.size + 4 := by rw [← hW0]; simp
  rw [hW0] at bd
  have hE : Env prk info (w.heap.size + 1 + 1) (w.heap.size + 1 + 1 + 1) A1 c1 A2 c2 W0 := ⟨hG.step bd, rb1, rb2, hr.step bd, hr2.step bd⟩
  simp only [World.size_alloc, hW0]
  clear hW0 ba bb bc rb1 rb2 hr hr2 hG
  obtain ⟨g5, hg5⟩ : ∃ g, g = w.heap.size := ⟨_, rfl⟩
  obtain ⟨g8, hg8⟩ : ∃ g, g = w.heap.size + 1 := ⟨_, rfl⟩
  have h55 : g5 < W0.heap.size := by omega
  have h88 : g8 < W0.heap.size := by omega
  rw [← hg5] at r5
  rw [← hg8] at r8
  have HSZ := Lib.hid hsz
  have HG5 := Lib.hid hg5
  have HG8 := Lib.hid hg8
  clear hsz hg5 hg8
  have hE' : Env prk info (g8 + 1) (g8 + 1 + 1) A1 c1 A2 c2 W0 := by rw [HG8.out]; exact hE
  clear hE
  gi_wp2_with (fail)
  rw [← HG8.out, ← HG5.out]
  refine wpIn_rangeFunc_ownH rfl (by decide) (gf := 55) (lb := #[.pointer (some ⟨g8 + 1, 0, none⟩), .pointer (some ⟨g8 + 1 + 1, 0, none⟩)]) rfl trivial (enters_of Tryd.func55 (by kernel_rfl) rfl)
    (parts_stops prk info HP.out HI.out (g8 + 1) (g8 + 1 + 1) A1 c1 A2 c2 HC2.out HCM.out _ W0 hE') KeepC.trans (fun W l o o' h1 h2 h3 h4 => KeepC.putObj (w := W0) W l o o' h1 h2 h3 h4) (Below.refl _ _) (fun _ => rfl)
    (fun pre W => pre = [] ∧ (Row W g8 34 [.slice none 0 0] ∧ Row W g5 3 [.int .i64 (n : Int)]) ∧ Below w.heap.size w W)
    (fun c pre W => c = .exit 1 ∧ (∃ x : D32, pre = [x] ∧ ∃ gj, w.heap.size ≤ gj ∧ Row W gj 5 (cells8 x.1) ∧ Row W g8 34 [.slice (some ⟨gj, 0, none⟩) 32 32] ∧ Row W g5 3 [.int .i64 (n : Int)]) ∧ Below w.heap.size w W)
    (fun s X Y row hs hg hr => ⟨hs.1, ⟨row_kept hs.2.1.1 hg (fun r e => (hr r e).2), row_kept hs.2.1.2 hg (fun r e => (hr r e).2)⟩, hs.2.2.grown hg hs.2.2.size (fun k hk => Nat.le_trans (by have := HSZ.out; omega) (hr k hk).1)⟩)
    (fun c s X Y row hs hg hr => by
      obtain ⟨h1, ⟨x, h2, gj, h3, h4, h5, h6⟩, h7⟩ := hs
      exact ⟨h1, ⟨x, h2, gj, h3, row_kept h4 hg (fun r e => (hr r e).2), row_kept h5 hg (fun r e => (hr r e).2), row_kept h6 hg (fun r e => (hr r e).2)⟩, h7.grown hg h7.size (fun k hk => Nat.le_trans (by have := HSZ.out; omega) (hr k hk).1)⟩)
    ⟨rfl, ⟨r8, r5⟩, bd⟩
    (fun x a' W => ∃ Bx, Row W Bx 39 (cells8 x.1) ∧ a' = { tmps := #[.slice A1 32 c1, .slice A2 info.length c2, .int .i64 (n : Int), undef, undef, .pointer (some ⟨g5, 0, none⟩), .slice none 0 0, .int .i64 0, .pointer (some ⟨g8, 0, none⟩), .pointer (some ⟨Bx, 0, none⟩), .bool false, .int .i64 (n : Int), .bool false, .bool false, .int .i64 (n : Int), .bool false, .bool false, .int .i64 (n : Int), .bool false, .slice A1 32 c1, .slice A2 info.length c2, .func (.func 55) #[] #[.pointer (some ⟨g8 + 1, 0, none⟩), .pointer (some ⟨g8 + 1 + 1, 0, none⟩)], .agg (cells8 x.1).toArray, undef, undef, undef, undef, undef, undef, undef, undef, undef, undef, undef, undef], defers := [] })
    (fun x a' _ X Y row hs hg hr => by obtain ⟨Bx, h2, h3⟩ := hs; exact ⟨Bx, row_kept h2 hg (fun r e => (hr r e).2), h3⟩)
    ?assign ?body ?done ?stop
  case assign =>
    rintro l pre x W K ⟨rfl, ⟨r8, r5⟩, hb⟩ hK
    have HI4 := Lib.hid (show (Tryd.prog.info? 39).map (·.size) = some (cells8 x.1).length by rw [cells8_len, x.2]; kernel_rfl)
    have HZ4 := Lib.hid (show (cells8 (List.replicate 32 0)).length = (cells8 x.1).length by rw [cells8_len, cells8_len, x.2]; rfl)
    have r0 : Row (W.alloc (.cells (cells8 (List.replicate 32 0)).toArray 39)) W.heap.size 39 (cells8 (List.replicate 32 0)) := heap_alloc_new _ _
    obtain ⟨w2, hw2⟩ : ∃ y, y = (W.alloc (.cells (cells8 (List.replicate 32 0)).toArray 39)).setRow W.heap.size (cells8 x.1).toArray := ⟨_, rfl⟩
    have r6 : Row w2 W.heap.size 39 (cells8 x.1) := by rw [hw2]; exact r0.set
    have b12 : Below W.heap.size W w2 := by rw [hw2]; exact ((Below.refl _ _).alloc (Nat.le_refl _) _).grown (grown_setRow _ _ _) (by simp) (fun k hk => by cases hk; exact Nat.le_refl _)
    have hst : ∀ ev : Operand → Value, ev (.tmp 9) = .pointer (some ⟨W.heap.size, 0, none⟩) → ev (.tmp 22) = .agg (cells8 x.1).toArray → ∀ o : Oper, o.op = .store 39 (.tmp 9) (.tmp 22) → (execOp ev o).run Tryd.prog (W.alloc (.cells (cells8 (List.replicate 32 0)).toArray 39)) = .ok .skip w2 := by
      intro ev h1 h2 o ho
      rw [hw2]
      exact exec_store_row 39 (.tmp 9) (.tmp 22) ho W.heap.size 39 _ _ h1 h2 r0 HI4.out HZ4.out (cells8_ones _)
    have HST := Lib.hid hst
    clear hst hw2 r0
    gi_wp2_with (refine wpListIn_skipd rfl (by simp) (by simp) (HST.out _ rfl rfl _ rfl) ?_)
    exact hK _ _ (KeepsFrom.of_grownBy (grown_of_below b12) (fun j e => by cases e)) (KeepC.of_below b12) ⟨(by first | exact rfl | trivial), ⟨r8.step b12, r5.step b12⟩, hb.trans (b12.mono hb.size)⟩ ⟨W.heap.size, r6, rfl⟩
  case body =>
    rintro l pre x a' W hl ⟨r, hr⟩ ⟨rfl, ⟨r8, r5⟩, hb⟩ ⟨Bx, rx, rfl⟩ hlt
    have c8 : W.cell? ⟨g8, 0, none⟩ = some (.slice none 0 0) := r8.cell rfl
    have c5 : W.cell? ⟨g5, 0, none⟩ = some (.int .i64 (n : Int)) := r5.cell rfl
    have hba : Below W.heap.size W (W.alloc (.cells #[.slice none 0 0, .slice (some ⟨Bx, 0, none⟩) 32 32] 34)) := (Below.refl _ _).alloc (Nat.le_refl _) _
    have hrx := rx.rdAll
    rw [x.2] at hrx
    have hpp : Parts (W.alloc (.cells #[.slice none 0 0, .slice (some ⟨Bx, 0, none⟩) 32 32] 34)) (W.alloc (.cells #[.slice none 0 0, .slice (some ⟨Bx, 0, none⟩) 32 32] 34)).heap.size [.slice none 0 0, .slice (some ⟨Bx, 0, none⟩) 32 32] [[], x.1] := by
      have h2 : Parts W W.heap.size [.slice (some ⟨Bx, 0, none⟩) 32 32] [x.1] := by
        have := Parts.cons (c := 32) (A := some ⟨Bx, 0, none⟩) (l := x.1) (by rw [x.2]; exact hrx) (by rw [x.2]; exact Nat.le_refl _) (by decide) (Parts.nil (w := W) (B := W.heap.size))
        rwa [x.2] at this
      exact (Parts.cons (l := []) Rd.none_ (Nat.le_refl _) (by decide) h2).step hba
    have hfl : ([[], x.1] : List (List B8)).flatten = x.1 := by simp
    have hjn := join_any (some ⟨W.heap.size, 0, none⟩) 2 2 _ [[], x.1] (W.alloc (.cells #[.slice none 0 0, .slice (some ⟨Bx, 0, none⟩) 32 32] 34)).drew rfl (Rd.drew (Rd.lit1 (cs := [.slice none 0 0, .slice (some ⟨Bx, 0, none⟩) 32 32]) rfl rfl)) hpp (by simp [x.2]) (by omega)
    rw [hfl] at hjn
    have HJN := Lib.hid hjn
    have HBA := Lib.hid hba
    have R8 := Lib.hid r8
    have R5 := Lib.hid r5
    have HB := Lib.hid hb
    clear hjn hpp hrx hba hfl r8 r5 rx hb
    gi_wp2_with (fail)
    gi_region_with (refine ⟨trivial, ?_⟩; gi_at_call 45; refine (CallsIn.inRound l (callsIn_wide.2 HJN.out)).mono ?_; rintro e w1 ⟨gj, rfl, rj, hgj, hbj⟩; have hbw := HBA.out.trans ((below_of_drew hbj).mono HBA.out.size); have c81 := keep_cl hbw c8; have f81 := (R8.out.step hbw).free 0; have c51 := keep_cl hbw c5; clear hbj)
    all_goals
      have HBW := Lib.hid hbw
      have HGJ := Lib.hid (Nat.le_trans HBA.out.size hgj)
      rw [x.2]
      obtain ⟨w2, hw2⟩ : ∃ y, y = w1.setCell ⟨g8, 0, none⟩ (.slice (some ⟨gj, 0, none⟩) 32 32) := ⟨_, rfl⟩
      have r82 : Row w2 g8 34 [.slice (some ⟨gj, 0, none⟩) 32 32] := by rw [hw2]; exact (R8.out.step hbw).setCell (i := 0) _
      have hne5 : g5 ≠ g8 := by have := HG5.out; have := HG8.out; omega
      have hnej : gj ≠ g8 := by have := R8.out.lt; have := HGJ.out; omega
      have r52 : Row w2 g5 3 [.int .i64 (n : Int)] := by rw [hw2]; exact (heap_setCell_other _ _ _ _ hne5).trans (R5.out.step hbw)
      have rj2 : Row w2 gj 5 (cells8 x.1) := by rw [hw2]; exact (heap_setCell_other _ _ _ _ hnej).trans rj
      have hb2 : Below w.heap.size w w2 := by rw [hw2]; exact (HB.out.trans (hbw.mono HB.out.size)).setCell (show w.heap.size ≤ g8 by have := HG8.out; omega) _
      have hkf : KeepsFrom W0.heap.size W w2 := by
        rw [hw2]; exact (KeepsFrom.of_grownBy (grown_of_below hbw) (fun j e => by cases e)).trans ((KeepsOthers.setCell _ _ _).from _)
      have c82 : w2.cell? ⟨g8, 0, none⟩ = some (.slice (some ⟨gj, 0, none⟩) 32 32) := r82.cell rfl
      have c52 : w2.cell? ⟨g5, 0, none⟩ = some (.int .i64 (n : Int)) := r52.cell rfl
      rw [← hw2]
      have R := Lib.hid (show _ ∧ _ ∧ _ ∧ _ ∧ _ from ⟨r82, r52, rj2, hb2, hkf⟩)
      clear hw2 c81 f81 c51 c8 c5 hbw hgj r82 r52 rj2 hb2 hkf rj hne5 hnej
      gi_wp2_with (fail)
      exact ⟨R.out.2.2.2.2, rfl, ⟨x, rfl, gj, Nat.le_trans HB.out.size HGJ.out, R.out.2.2.1, R.out.1, R.out.2.1⟩, R.out.2.2.2.1⟩
  case done =>
    rintro D xs W hD hne ⟨rfl, _⟩ hK
    exact absurd rfl hne
  case stop =>
    rintro D c pre W hD hS ⟨rfl, ⟨x, rfl, gj, hgj, rj, r8, r5⟩, hb⟩ hK
    have hx : x.1 = part1 prk info := by simpa using hS
    rw [hx] at rj
    have c8 : W.cell? ⟨g8, 0, none⟩ = some (.slice (some ⟨gj, 0, none⟩) 32 32) := r8.cell rfl
    have c5 : W.cell? ⟨g5, 0, none⟩ = some (.int .i64 (n : Int)) := r5.cell rfl
    have HRJ := Lib.hid rj
    have hn32 := HN.out
    gi_wp2_with (fail)
    refine ⟨by simp, .inl ⟨_, _, rfl, run_takeDeferred hK, ?_⟩⟩
    have hgr := grownBy_putObj' W D (.deferred none)
    have hrow : ∀ r, some D = some r → ∃ o : Obj, W.heap[r]? = some o ∧ o.isCells = false := fun r e => by cases e; exact ⟨_, hK, rfl⟩
    have rj2 := row_kept HRJ.out hgr hrow
    have hrd := rj2.rd8 0 n (by rw [← hx, x.2]; omega)
    rw [List.drop_zero] at hrd
    refine ⟨.tuple #[.slice (some ⟨gj, 0, none⟩) n n, .int .i64 0], by simp [results, Tryd.results30, go_sem], ⟨gj, rfl, hrd, hgj, hb.grown hgr hb.size (fun k hk => by cases hk; exact Nat.le_trans (by have := HSZ.out; omega) hD)⟩⟩
end Go.Proofs.YtpobkoiaidgedaaDoor
