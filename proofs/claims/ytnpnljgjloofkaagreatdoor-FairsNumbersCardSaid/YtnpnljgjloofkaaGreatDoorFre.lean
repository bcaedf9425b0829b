/- An operation out of plain data (layer 23). -/
import Derived.Test.YtnpnljgjloofkaaGreatDoorFrd
import Derived.Test.YtnpnljgjloofkaaGreatDoorShE
import Derived.Deep.Cut
import Derived.Deep.MidRow
import Derived.Laws.Entries
namespace Go.Proofs.YtnpnljgjloofkaaGreatDoor
open Go.RowKit

theorem below_drew1 {B : Nat} {w w' : World} (h : Below B w w') : Below B w w'.drew := below_drewN' h 1

theorem set_rep32 (n j : Nat) (c : B8) (hj : j < n) : (cells8 (List.replicate j c ++ List.replicate (n - j) 0)).set j (.int .u8 (bv c)) = cells8 (List.replicate (j + 1) c ++ List.replicate (n - (j + 1)) 0) := by
  have e : (List.replicate j c ++ List.replicate (n - j) (0 : B8)).set j c = List.replicate (j + 1) c ++ List.replicate (n - (j + 1)) 0 := by
    rw [List.set_append_right _ _ (by simp), List.length_replicate, Nat.sub_self, show n - j = (n - (j + 1)) + 1 by omega, List.replicate_succ, List.set_cons_zero, List.replicate_succ']
    simp
  rw [← e, cells8, cells8, List.map_set]
theorem at_rep32 (n j : Nat) (c : B8) (hj : j < n) : (cells8 (List.replicate j c ++ List.replicate (n - j) 0))[j]? = some (.int .u8 0) := by
  rw [cells8, List.getElem?_map, List.getElem?_append_right (by simp), List.length_replicate, Nat.sub_self, List.getElem?_replicate]
  simp [bv]; omega
theorem meas_step (a k : Nat) (h : k < a) : a - (intOf (.int .i64 ((k + 1 : Nat) : Int))).toNat < a - (intOf (.int .i64 (k : Int))).toNat := by
  simp [intOf]; omega
theorem op_end {P : Program} {fn : Func} {p : Tmp} {ty : TypeId} (h : fn.results = #[.cell p ty]) (tmps : Array Value) (w : World) (g : Nat) (cs : List Value) (d : TypeDesc)
    (hp : tmps.getD p undef = .pointer (some ⟨g, 0, none⟩)) (hr : w.rangeAt g 0 cs)
    (hu : P.underlying ty = some d) (hd : d.isRow = true) (hi : (P.info? ty).map (·.size) = some cs.length) :
    (results fn tmps).run P w = .ok (.agg cs.toArray) w := by
  have hp' : tmps[p]?.getD undef = .pointer (some ⟨g, 0, none⟩) := by simpa using hp
  simp [results, h, hp', asAddr, run_loadVar_mid w g 0 ty cs d hr hu hd hi]
theorem three {w : World} {g : Nat} {u0 u1 u2 v0 v1 v2 : Value} (h0 : w.cell? ⟨g, 0, none⟩ = some u0) (h1 : w.cell? ⟨g, 1, none⟩ = some u1) (h2 : w.cell? ⟨g, 2, none⟩ = some u2) :
    (((w.setCell ⟨g, 0, none⟩ v0).setCell ⟨g, 1, none⟩ v1).setCell ⟨g, 2, none⟩ v2).rangeAt g 0 [v0, v1, v2] := by
  have a1 : (w.setCell ⟨g, 0, none⟩ v0).cell? ⟨g, 1, none⟩ = some u1 := (World.cell?_setCell_other _ _ _ _ (by simp)).trans h1
  have a2 : ((w.setCell ⟨g, 0, none⟩ v0).setCell ⟨g, 1, none⟩ v1).cell? ⟨g, 2, none⟩ = some u2 := (World.cell?_setCell_other _ _ _ _ (by simp)).trans ((World.cell?_setCell_other _ _ _ _ (by simp)).trans h2)
  intro j v hv
  match j, hv with
  | 0, hv => cases hv; exact (World.cell?_setCell_other _ _ _ _ (by simp)).trans ((World.cell?_setCell_other _ _ _ _ (by simp)).trans (World.cell?_setCell_same' _ _ _ (by rw [h0]; rfl)))
  | 1, hv => cases hv; exact (World.cell?_setCell_other _ _ _ _ (by simp)).trans (World.cell?_setCell_same' _ _ _ (by rw [a1]; rfl))
  | 2, hv => cases hv; exact World.cell?_setCell_same' _ _ _ (by rw [a2]; rfl)
theorem ap3 {w : World} {g g2 : Nat} {x0 x1 x2 u : Value} {i : Nat} (hne : g2 ≠ g) (h : w.cell? ⟨g, i, none⟩ = some u) : (((w.setCell ⟨g2, 0, none⟩ x0).setCell ⟨g2, 1, none⟩ x1).setCell ⟨g2, 2, none⟩ x2).cell? ⟨g, i, none⟩ = some u :=
  (World.cell?_setCell_other _ _ _ _ (by simp)).trans ((World.cell?_setCell_other _ _ _ _ (by simp)).trans ((World.cell?_setCell_other _ _ _ _ (by simp)).trans h))
/-- an operation -/
def OpIs (v : Value) : Prop := ∃ (k i : Int) (A : Option Addr) (n c : Nat), v = .agg #[.int .u8 k, .int .i64 i, .slice A n c]
theorem one3 (k : Int) (i : Int) (A : Option Addr) (n c : Nat) : ([(.int .u8 k : Value), .int .i64 i, .slice A n c]).toArray.all (·.oneCell') = true := by simp [Value.oneCell']
set_option maxRecDepth 100000 in
set_option maxHeartbeats 4000000 in
theorem q_any (a b : Nat) (ha : a < 256) (hb : b < 256) (d : B8) (w : World) :
    Calls Tryz.prog 39 #[.agg #[.int .u8 a, .int .u8 b, .int .u8 (bv d)]] w fun e w' => (∃ v, e = .returned v ∧ OpIs v) ∧ Below w.heap.size w w' := by
  have hmk : ∀ w : World, (Instr.makeSlice 53 (.int .i64 (32 : Int)) (.int .i64 (32 : Int))).run Tryz.prog w = .ok (.slice (some ⟨w.heap.size, 0, none⟩) 32 32) (w.alloc (.cells (cells8 (List.replicate 32 0)).toArray 5)) := make_u8 32 (by omega)
  go_enter Tryz.func39, Tryz.ntmps39
  go_upto_region 3 with (fail)
  clear hmk
  have G : ∃ g w4, g = w.heap.size ∧ w4 = ((((w.alloc (.cells #[.int .u8 (a : Int), .int .u8 (b : Int), .int .u8 (bv d)] 103)).alloc (.cells #[.int .u8 0, .int .i64 0, .slice none 0 0] 65)).alloc (.cells #[.int .u8 3, .int .i64 0, .slice none 0 0] 65)).alloc (.cells (cells8 (List.replicate 0 d ++ List.replicate (32 - 0) 0)).toArray 5)) := ⟨_, _, rfl, rfl⟩
  obtain ⟨g, w4, hg, hw4⟩ := G
  change Code.wp _ _ _ _ ((((w.alloc (.cells #[.int .u8 (a : Int), .int .u8 (b : Int), .int .u8 (bv d)] 103)).alloc (.cells #[.int .u8 0, .int .i64 0, .slice none 0 0] 65)).alloc (.cells #[.int .u8 3, .int .i64 0, .slice none 0 0] 65)).alloc (.cells (cells8 (List.replicate 0 d ++ List.replicate (32 - 0) 0)).toArray 5))
  have B0 : Below w.heap.size w w4 := by rw [hw4]; exact ((((Below.refl _ _).alloc (Nat.le_refl _) _).alloc (by simp) _).alloc (by simp; omega) _).alloc (by simp; omega) _
  have R1 : Row w4 g 103 [.int .u8 (a : Int), .int .u8 (b : Int), .int .u8 (bv d)] := by
    rw [hw4, hg]; exact (heap_alloc_old _ _ (by simp <;> omega)).trans ((heap_alloc_old _ _ (by simp <;> omega)).trans ((heap_alloc_old _ _ (by simp)).trans (heap_alloc_new _ _)))
  have R2 : Row w4 (g + 1) 65 [.int .u8 0, .int .i64 0, .slice none 0 0] := by
    rw [hw4, hg]
    have e : w.heap.size + 1 = (w.alloc (.cells #[.int .u8 (a : Int), .int .u8 (b : Int), .int .u8 (bv d)] 103)).heap.size := by simp
    rw [e]; exact (heap_alloc_old _ _ (by simp <;> omega)).trans ((heap_alloc_old _ _ (by simp)).trans (heap_alloc_new _ _))
  have R3 : Row w4 (g + 2) 65 [.int .u8 3, .int .i64 0, .slice none 0 0] := by
    rw [hw4, hg]
    have e : w.heap.size + 2 = ((w.alloc (.cells #[.int .u8 (a : Int), .int .u8 (b : Int), .int .u8 (bv d)] 103)).alloc (.cells #[.int .u8 0, .int .i64 0, .slice none 0 0] 65)).heap.size := by simp
    rw [e]; exact (heap_alloc_old _ _ (by simp)).trans (heap_alloc_new _ _)
  have R4 : Row w4 (g + 3) 5 (cells8 (List.replicate 0 d ++ List.replicate (32 - 0) 0)) := by
    rw [hw4, hg]
    have e : w.heap.size + 3 = (((w.alloc (.cells #[.int .u8 (a : Int), .int .u8 (b : Int), .int .u8 (bv d)] 103)).alloc (.cells #[.int .u8 0, .int .i64 0, .slice none 0 0] 65)).alloc (.cells #[.int .u8 3, .int .i64 0, .slice none 0 0] 65)).heap.size := by simp
    rw [e]; exact heap_alloc_new _ _
  have HG : Hid (w.heap.size ≤ g) := Lib.hid (Nat.le_of_eq hg.symm)
  have R3 : Row w4 (g + 1 + 1) 65 [.int .u8 3, .int .i64 0, .slice none 0 0] := R3
  have R4 : Row w4 (g + 1 + 1 + 1) 5 (cells8 (List.replicate 0 d ++ List.replicate (32 - 0) 0)) := R4
  rw [← hw4, ← hg]
  have HB0 := Lib.hid B0
  have H1 := Lib.hid R1
  have H2 := Lib.hid R2
  have H3 := Lib.hid R3
  clear hw4 hg R1 R2 R3 B0
  go_wp2
  go_loopw [5] (fun i wr => ∃ j : Nat, j ≤ 32 ∧ i = .int .i64 (j : Int) ∧ Row wr (g + 1 + 1 + 1) 5 (cells8 (List.replicate j d ++ List.replicate (32 - j) 0)) ∧ Below (g + 1 + 1 + 1) w4 wr) (fun i _ => 32 - (intOf i).toNat)
  case atStart => exact ⟨0, Nat.zero_le _, rfl, R4, Below.refl _ _⟩
  case round =>
    clear R4
    obtain ⟨j, hj, rfl, r, hbr⟩ := hrel
    have P1 : Row wr g 103 [.int .u8 (a : Int), .int .u8 (b : Int), .int .u8 (bv d)] := (hbr.block _ (by omega)).trans H1.out
    have P3 : Row wr (g + 1 + 1) 65 [.int .u8 3, .int .i64 0, .slice none 0 0] := (hbr.block _ (by omega)).trans H3.out
    have P2 : Row wr (g + 1) 65 [.int .u8 0, .int .i64 0, .slice none 0 0] := (hbr.block _ (by omega)).trans H2.out
    have d0 := P1.cell (i := 0) rfl
    have d1 := P1.cell (i := 1) rfl
    have d2 := P1.cell (i := 2) rfl
    by_cases hlt : j < 32
    · have hd : decide ((j : Int) < 32) = true := by simp; omega
      have cr := r.cell (at_rep32 32 j d hlt)
      have fr := r.free j
      have rn := r.setCell (i := j) (.int .u8 (bv d))
      rw [set_rep32 32 j d hlt] at rn
      have RN := Lib.hid rn
      clear rn r P1 P2 P3 d0 d1
      have hwk : wrap64 ((j : Int) + 1) = ((j + 1 : Nat) : Int) := by unfold wrap64; omega
      go_wp2
      go_roundw
      case rel => exact ⟨j + 1, by omega, by first | rw [hwk] | go_num, RN.out, hbr.setCell (Nat.le_refl _) _⟩
      case measure => first | (rw [hwk]; exact meas_step _ _ hlt) | (simp [intOf]; omega)
    · have hd : decide ((j : Int) < 32) = false := by simp; omega
      have BB : Below w.heap.size w wr := HB0.out.trans (hbr.mono (by have := HG.out; omega))
      have HBB := Lib.hid BB
      have HP2 := Lib.hid P2
      have P3H := Lib.hid P3
      have P1H := Lib.hid P1
      have q0 := P1.cell (i := 0) rfl
      have q1 := P1.cell (i := 1) rfl
      have q2 := P1.cell (i := 2) rfl
      clear BB P1 P2 P3 r hbr
      go_upto_region 8 with (fail)
      by_cases x4 : (a : Int) % 9 < 4
      · have hx4 : decide ((a : Int) % 9 < 4) = true := by simpa using x4
        clear x4
        go_upto_region 14 with (refine Row.store P3H.out rfl 65 (.tmp 3) (.tmp 29) rfl rfl rfl (by kernel_rfl) rfl (one3 _ _ _ _ _) ?_; rintro w5 hw5 r5; have b5 : Below w.heap.size w w5 := (by rw [hw5]; exact HBB.out.grown (grown_setRow _ _ _) HBB.out.size (fun k hk => by cases hk; have := HG.out; omega)); have P2N : Row w5 (g + 1) _ _ := (by rw [hw5]; exact HP2.out.other (by omega) _); clear hw5)
        refine wp_region_lit ?_
        refine wpList_load_row rfl 65 (.tmp 3) rfl (g + 1 + 1) rfl 65 _ (0, 0) _ r5 Tryz.underlying65 rfl (by kernel_rfl) ?_
        go_wp2_with (refine Row.store P2N rfl 65 (.tmp 2) (.tmp 56) rfl rfl rfl (by kernel_rfl) rfl (one3 _ _ _ _ _) ?_; rintro w6 hw6 r6; have b6 : Below w.heap.size w w6 := (by rw [hw6]; exact b5.grown (grown_setRow _ _ _) b5.size (fun k hk => by cases hk; have := HG.out; omega)); clear hw6)
        refine bodyPost_ret (results_cell_row Tryz.results39 _ w6 (g + 1) 65 _ (0, 0) _ rfl r6 Tryz.underlying65 rfl (by kernel_rfl)) rfl ⟨⟨_, rfl, _, _, _, _, _, rfl⟩, b6⟩
      · have hx4 : decide ((a : Int) % 9 < 4) = false := by simpa using x4
        by_cases x7 : (a : Int) % 9 < 7
        · have hx7 : decide ((a : Int) % 9 < 7) = true := by simpa using x7
          clear x4 x7
          go_upto_region 14 with (refine Row.store P3H.out rfl 65 (.tmp 3) (.tmp 39) rfl rfl rfl (by kernel_rfl) rfl (one3 _ _ _ _ _) ?_; rintro w5 hw5 r5; have b5 : Below w.heap.size w w5 := (by rw [hw5]; exact HBB.out.grown (grown_setRow _ _ _) HBB.out.size (fun k hk => by cases hk; have := HG.out; omega)); have P2N : Row w5 (g + 1) _ _ := (by rw [hw5]; exact HP2.out.other (by omega) _); clear hw5)
          refine wp_region_lit ?_
          refine wpList_load_row rfl 65 (.tmp 3) rfl (g + 1 + 1) rfl 65 _ (0, 0) _ r5 Tryz.underlying65 rfl (by kernel_rfl) ?_
          go_wp2_with (refine Row.store P2N rfl 65 (.tmp 2) (.tmp 56) rfl rfl rfl (by kernel_rfl) rfl (one3 _ _ _ _ _) ?_; rintro w6 hw6 r6; have b6 : Below w.heap.size w w6 := (by rw [hw6]; exact b5.grown (grown_setRow _ _ _) b5.size (fun k hk => by cases hk; have := HG.out; omega)); clear hw6)
          refine bodyPost_ret (results_cell_row Tryz.results39 _ w6 (g + 1) 65 _ (0, 0) _ rfl r6 Tryz.underlying65 rfl (by kernel_rfl)) rfl ⟨⟨_, rfl, _, _, _, _, _, rfl⟩, b6⟩
        · have hx7 : decide ((a : Int) % 9 < 7) = false := by simpa using x7
          by_cases x8 : (a : Int) % 9 = 8
          · have hx8 : ((a : Int) % 9 == 8) = true := by simpa using x8
            clear x4 x7 x8
            have e0 := P3H.out.cell (i := 0) rfl
            have e1 := P3H.out.cell (i := 1) rfl
            have e2 := P3H.out.cell (i := 2) rfl
            have f0 := P3H.out.free 0
            have f1 := P3H.out.free 1
            have f2 := P3H.out.free 2
            go_upto_region 13 with (fail)
            go_region
            obtain ⟨w5, hw5⟩ : ∃ w5, w5 = (((wr.setCell ⟨g + 1 + 1, 0, none⟩ (.int .u8 ((bv d).tmod 4))).setCell ⟨g + 1 + 1, 1, none⟩ (.int .i64 ((b : Int) - 100))).setCell ⟨g + 1 + 1, 2, none⟩ (.slice (some ⟨g + 1 + 1 + 1, 0, none⟩) (b % 32) 32)).drew := ⟨_, rfl⟩
            rw [← hw5]
            have r5 : Row w5 (g + 1 + 1) 65 [.int .u8 ((bv d).tmod 4), .int .i64 ((b : Int) - 100), .slice (some ⟨g + 1 + 1 + 1, 0, none⟩) (b % 32) 32] := by rw [hw5]; exact ((P3H.out.setCell (i := 0) _).setCell (i := 1) _).setCell (i := 2) _
            have b5 : Below w.heap.size w w5 := by
              rw [hw5]
              exact below_drew1 (((HBB.out.setCell (by have := HG.out; simp; omega) _).setCell (by have := HG.out; simp; omega) _).setCell (by have := HG.out; simp; omega) _)
            have P2N : Row w5 (g + 1) 65 [.int .u8 0, .int .i64 0, .slice none 0 0] := by
              rw [hw5]
              exact (Below.heap_setCell _ _ _ _ (by simp)).trans ((Below.heap_setCell _ _ _ _ (by simp)).trans ((Below.heap_setCell _ _ _ _ (by simp)).trans HP2.out))
            clear hw5 e0 e1 e2 f0 f1 f2
            go_upto_region 14 with (fail)
            refine wp_region_lit ?_
            refine wpList_load_row rfl 65 (.tmp 3) rfl (g + 1 + 1) rfl 65 _ (0, 0) _ r5 Tryz.underlying65 rfl (by kernel_rfl) ?_
            go_wp2_with (refine Row.store P2N rfl 65 (.tmp 2) (.tmp 56) rfl rfl rfl (by kernel_rfl) rfl (one3 _ _ _ _ _) ?_; rintro w6 hw6 r6; have b6 : Below w.heap.size w w6 := (by rw [hw6]; exact b5.grown (grown_setRow _ _ _) b5.size (fun k hk => by cases hk; have := HG.out; omega)); clear hw6)
            refine bodyPost_ret (results_cell_row Tryz.results39 _ w6 (g + 1) 65 _ (0, 0) _ rfl r6 Tryz.underlying65 rfl (by kernel_rfl)) rfl ⟨⟨_, rfl, _, _, _, _, _, rfl⟩, b6⟩
          · have hx8 : ((a : Int) % 9 == 8) = false := by simpa using x8
            clear x4 x7 x8
            have b5 := HBB.out
            have P2N := HP2.out
            go_upto_region 14 with (fail)
            refine wp_region_lit ?_
            refine wpList_load_row rfl 65 (.tmp 3) rfl (g + 1 + 1) rfl 65 _ (0, 0) _ P3H.out Tryz.underlying65 rfl (by kernel_rfl) ?_
            go_wp2_with (refine Row.store P2N rfl 65 (.tmp 2) (.tmp 56) rfl rfl rfl (by kernel_rfl) rfl (one3 _ _ _ _ _) ?_; rintro w6 hw6 r6; have b6 : Below w.heap.size w w6 := (by rw [hw6]; exact b5.grown (grown_setRow _ _ _) b5.size (fun k hk => by cases hk; have := HG.out; omega)); clear hw6)
            refine bodyPost_ret (results_cell_row Tryz.results39 _ w6 (g + 1) 65 _ (0, 0) _ rfl r6 Tryz.underlying65 rfl (by kernel_rfl)) rfl ⟨⟨_, rfl, _, _, _, _, _, rfl⟩, b6⟩
end Go.Proofs.YtnpnljgjloofkaaGreatDoor
