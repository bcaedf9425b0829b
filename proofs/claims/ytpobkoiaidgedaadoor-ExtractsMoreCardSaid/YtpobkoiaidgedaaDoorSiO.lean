/- The law's message. -/
import Derived.Test.YtpobkoiaidgedaaDoorSiN
namespace Go.Proofs.YtpobkoiaidgedaaDoor
open Go.RowKit

/-- The message before its tag. -/
def msg0 (i x v y : B8) : Msg := ⟨i.toNat, BitVec.ofNat 32 x.toNat, v.toNat, (List.replicate 32 (0 : B8)).set (y.toNat % 32) y, List.replicate 32 0⟩
def tagF (k : List B8) (i x v y : B8) (bad : Bool) : List B8 :=
  let t := hmacF k (msg0 i x v y).body
  if bad then t.set (v.toNat % 32) (t.getD (v.toNat % 32) 0 ^^^ BitVec.ofNat 8 (2 ^ (y.toNat % 8))) else t
def msgOf (k : List B8) (i x v y : B8) (bad : Bool) : Msg := { msg0 i x v y with t := tagF k i x v y bad }
theorem wv_ofByte (x : B8) : wv (BitVec.ofNat 32 x.toNat) = bv x := by
  unfold wv bv
  have := x.isLt
  rw [BitVec.toNat_ofNat, Nat.mod_eq_of_lt (by omega)]

/-- The message with no byte of data yet. -/
def msgZ (i x v : B8) : Msg := ⟨i.toNat, BitVec.ofNat 32 x.toNat, v.toNat, List.replicate 32 0, List.replicate 32 0⟩
theorem build_msg0 (a b c : Int) : Tryd.prog.built 54 [(0, .int .i64 a), (1, .agg #[.int .u32 b, .int .u64 c])] = some (Value.int .i64 a :: ([Value.int .u32 b, .int .u64 c] ++ (cells8 (List.replicate 32 0) ++ cells8 (List.replicate 32 0)))).toArray := by
  kernel_rfl
theorem build_msg (i x v : B8) : Tryd.prog.built 54 [(0, .int .i64 (bv i)), (1, .agg #[.int .u32 (bv x), .int .u64 (bv v)])] = some (msgZ i x v).cells.toArray := by
  rw [build_msg0]
  unfold msgZ Msg.cells nonC
  rw [wv_ofByte]
  rfl
theorem msgZ_ok (i x v : B8) : (msgZ i x v).ok := by
  have := i.isLt; have := v.isLt
  exact ⟨by unfold msgZ; show i.toNat < 4096; omega, by unfold msgZ; show v.toNat < _; omega, rfl, rfl⟩

/-- A byte of the data, of the tag; a whole tag. -/
theorem Msg.setData {m : Msg} {q : Nat} (b : B8) (hq : q < m.d.length) : m.cells.set (3 + q) (.int .u8 (bv b)) = ({ m with d := m.d.set q b } : Msg).cells := by
  unfold Msg.cells nonC
  rw [show 3 + q = q + 1 + 1 + 1 by omega]
  simp only [List.cons_append, List.nil_append, List.set_cons_succ]
  rw [List.set_append_left _ _ (by rw [cells8_len]; exact hq)]
  simp only [cells8, List.map_set]
theorem Msg.setTag {m : Msg} {q : Nat} (b : B8) (hd : m.d.length = 32) : m.cells.set (35 + q) (.int .u8 (bv b)) = ({ m with t := m.t.set q b } : Msg).cells := by
  unfold Msg.cells nonC
  rw [show 35 + q = (32 + q) + 1 + 1 + 1 by omega]
  simp only [List.cons_append, List.nil_append, List.set_cons_succ]
  rw [List.set_append_right _ _ (by rw [cells8_len]; omega), cells8_len, hd, Nat.add_sub_cancel_left]
  simp only [cells8, List.map_set]
theorem Msg.newTag {m : Msg} (t : List B8) (hd : m.d.length = 32) (ht : m.t.length = 32) (h : t.length = 32) : splice m.cells 35 (cells8 t) = ({ m with t := t } : Msg).cells := by
  unfold splice
  have hl : m.cells.length = 67 := by simp [Msg.cells, nonC, cells8_len, hd, ht]
  rw [List.drop_of_length_le (by rw [hl, cells8_len, h]; exact Nat.le_refl _), List.append_nil]
  unfold Msg.cells nonC
  rw [show (35 : Nat) = 32 + 1 + 1 + 1 by rfl]
  simp only [List.cons_append, List.nil_append, List.take_succ_cons]
  rw [List.take_append_of_le_length (by rw [cells8_len]; omega), List.take_of_length_le (by rw [cells8_len]; omega)]
theorem Msg.tagCell {m : Msg} {q : Nat} {b : B8} (hd : m.d.length = 32) (hb : m.t[q]? = some b) : m.cells[35 + q]? = some (.int .u8 (bv b)) := by
  unfold Msg.cells nonC
  rw [show 35 + q = (32 + q) + 1 + 1 + 1 by omega]
  simp only [List.cons_append, List.nil_append, List.getElem?_cons_succ]
  rw [List.getElem?_append_right (by rw [cells8_len]; omega), cells8_len, hd, Nat.add_sub_cancel_left, cells8, List.getElem?_map, hb]
  rfl
theorem wp_store_splice {P : Program} {w : World} {op : Oper} {a : Act} {K : Act → World → Prop} {Q : Exit → Act → World → Prop} (ty : TypeId) (x y : Operand) (ho : op.op = .store ty x y)
    (g o : Nat) (t : TypeId) (L cs : List Value) (hx : a.eval x = .pointer (some ⟨g, o, none⟩)) (hy : a.eval y = .agg cs.toArray) (hg : Row w g t L) (hi : (P.info? ty).map (·.size) = some cs.length) (hfit : o + cs.length ≤ L.length) (h1 : ∀ v ∈ cs, v.oneCell' = true)
    (h : ∀ w', Row w' g t (splice L o cs) → w.grownBy w' (some g) → K (a.put op.dst undef) w') : op.wp P a w K Q := by
  unfold Oper.wp execOp
  simp only [ho, hx, hy, Sem.run_bind, Sem.run_pure, Result.andThen_ok, run_store_row ty g o t L cs hg hi hfit h1]
  exact h _ hg.set (grown_setRow _ _ _)
theorem setCell_grown (w : World) (g i : Nat) (v : Value) : w.grownBy (w.setCell ⟨g, i, none⟩ v) (some g) :=
  ⟨rfl, rfl, rfl, by simp, fun k _ hk => Below.heap_setCell w ⟨g, i, none⟩ v k (fun e => hk (by have e' : k = g := e; rw [e']))⟩
theorem row_k {w w' : World} {g k : Nat} {t : TypeId} {L : List Value} (h : Row w g t L) (hg : w.grownBy w' (some k)) (hne : g ≠ k) : Row w' g t L := (hg.block g h.lt (fun e => hne (by cases e; rfl))).trans h
theorem b8_xor (a b : B8) : bits .xor .u8 (bv a) (bv b) = bv (a ^^^ b) := by
  show IntKind.u8.wrap ((BitVec.ofInt 8 (a.toNat : Int) ^^^ BitVec.ofInt 8 (b.toNat : Int)).toNat : Int) = ((a ^^^ b).toNat : Int)
  rw [BitVec.ofInt_natCast, BitVec.ofInt_natCast, BitVec.ofNat_toNat, BitVec.ofNat_toNat, BitVec.setWidth_eq, BitVec.setWidth_eq, wrap_u8]
  have := (a ^^^ b).isLt
  omega
theorem shl8 (y : B8) : IntKind.u8.wrap (2 ^ (bv y % 8).toNat) = bv (BitVec.ofNat 8 (2 ^ (y.toNat % 8))) := by
  have h8 : (bv y % 8).toNat = y.toNat % 8 := by unfold bv; omega
  have hp : (2 : Nat) ^ (y.toNat % 8) < 256 := Nat.lt_of_lt_of_le (Nat.pow_lt_pow_right (by decide) (show y.toNat % 8 < 8 by omega)) (by decide)
  rw [h8, wrap_u8]
  have e : (2 : Int) ^ (y.toNat % 8) = ((2 ^ (y.toNat % 8) : Nat) : Int) := by rw [Int.natCast_pow]; rfl
  rw [e]
  unfold bv
  rw [BitVec.toNat_ofNat]
  rw [Nat.mod_eq_of_lt hp]
  exact Int.emod_eq_of_lt (Int.natCast_nonneg _) (Int.ofNat_lt.2 hp)

theorem msgOf_ok (k : List B8) (i x v y : B8) (bad : Bool) : (msgOf k i x v y bad).ok := by
  have := i.isLt; have := v.isLt
  have ht : (hmacF k (msg0 i x v y).body).length = 32 := shaF_len _
  refine ⟨by show i.toNat < 4096; omega, by show v.toNat < _; omega, by show ((List.replicate 32 (0 : B8)).set _ _).length = 32; simp, ?_⟩
  show (tagF k i x v y bad).length = 32
  unfold tagF
  cases bad
  · exact ht
  · show (List.set _ _ _).length = 32
    rw [List.length_set]; exact ht

set_option maxRecDepth 100000 in
set_option maxHeartbeats 2000000 in
theorem mOf_any (k : List B8) (hk : k.length = 32) (i x v y : B8) (bad : Bool) (w : World) :
    Calls Tryd.prog 15 #[.agg #[.int .u8 (bv i), .int .u8 (bv x), .int .u8 (bv v), .int .u8 (bv y), .bool bad], .agg (cells8 k).toArray] w fun e w' => e = .returned (.agg (msgOf k i x v y bad).cells.toArray) ∧ Below w.heap.size w w' := by
  have hi0 := (bv_lt i).1
  have hi1 := (bv_lt i).2
  have hx0 := (bv_lt x).1
  have hx1 := (bv_lt x).2
  have hv0 := (bv_lt v).1
  have hv1 := (bv_lt v).2
  have hy0 := (bv_lt y).1
  have hy1 := (bv_lt y).2
  have HK := Lib.hid hk
  clear hk
  go_enter Tryd.func15, Tryd.ntmps15
  have HB := Lib.hid (build_msg i x v)
  have HI := Lib.hid (show (Tryd.prog.info? 54).map (·.size) = some (msgZ i x v).cells.length by rw [Msg.len (msgZ_ok i x v)]; kernel_rfl)
  have HZ := Lib.hid (show Msg.zero.cells.length = (msgZ i x v).cells.length by rw [Msg.len (msgZ_ok i x v)]; rfl)
  have H1 := Lib.hid (all_oneCell_toArray (Msg.one (msgZ i x v)))
  have r50 : Row ((((w.alloc (.cells #[.int .u8 (bv i), .int .u8 (bv x), .int .u8 (bv v), .int .u8 (bv y), .bool bad] 66)).alloc (.cells (cells8 k).toArray 43)).alloc (.cells Msg.zero.cells.toArray 54)).alloc (.cells Msg.zero.cells.toArray 54)) (w.heap.size + 1 + 1 + 1) 54 Msg.zero.cells := heap_new_at (by simp)
  go_upto_region 2 with (first
    | (refine wpList_build_as rfl _ _ rfl _ _ HB.out (by kernel_rfl) ?_)
    | (refine r50.store rfl _ _ _ rfl rfl rfl HI.out HZ.out H1.out ?_; intro w1 hw1 s1))
  obtain ⟨wz, hwz⟩ : ∃ wz, wz = ((((w.alloc (.cells #[.int .u8 (bv i), .int .u8 (bv x), .int .u8 (bv v), .int .u8 (bv y), .bool bad] 66)).alloc (.cells (cells8 k).toArray 43)).alloc (.cells Msg.zero.cells.toArray 54)).alloc (.cells Msg.zero.cells.toArray 54)) := ⟨_, rfl⟩
  obtain ⟨g2, h2⟩ : ∃ g, g = w.heap.size := ⟨_, rfl⟩
  obtain ⟨g3, h3⟩ : ∃ g, g = w.heap.size + 1 := ⟨_, rfl⟩
  obtain ⟨g4, h4⟩ : ∃ g, g = w.heap.size + 1 + 1 := ⟨_, rfl⟩
  obtain ⟨g5, h5⟩ : ∃ g, g = w.heap.size + 1 + 1 + 1 := ⟨_, rfl⟩
  have hbz : Below w.heap.size w wz := by rw [hwz]; exact below_alloc2 (below_alloc2 (Below.refl _ _))
  have hb2 : ∀ o, Below (w.alloc o).heap.size (w.alloc o) (((w.alloc o).alloc (.cells (cells8 k).toArray 43)).alloc (.cells Msg.zero.cells.toArray 54)) := fun o => below_alloc2 (Below.refl _ _)
  have r2z : Row wz g2 66 [.int .u8 (bv i), .int .u8 (bv x), .int .u8 (bv v), .int .u8 (bv y), .bool bad] := by
    rw [hwz, h2]
    exact (Row.step (heap_alloc_new _ _) (hb2 _)).step ((Below.refl _ _).alloc (Nat.le_refl _) _)
  have r3z : Row wz g3 43 (cells8 k) := by
    rw [hwz, h3]
    exact Row.step (heap_new_at (by simp)) (below_alloc2 (Below.refl _ _))
  have r4z : Row wz g4 54 Msg.zero.cells := by
    rw [hwz, h4]
    exact Row.step (heap_new_at (by simp)) ((Below.refl _ _).alloc (Nat.le_refl _) _)
  have hsz : wz.heap.size = w.heap.size + 4 := by rw [hwz]; simp
  rw [← hwz, ← h5] at hw1
  rw [← h5] at s1
  have r2 : Row w1 g2 66 [.int .u8 (bv i), .int .u8 (bv x), .int .u8 (bv v), .int .u8 (bv y), .bool bad] := by
    rw [hw1]; show (wz.setRow g5 _).heap[g2]? = _; rw [setRow_other _ _ _ _ (by omega)]; exact r2z
  have r3 : Row w1 g3 43 (cells8 k) := by
    rw [hw1]; show (wz.setRow g5 _).heap[g3]? = _; rw [setRow_other _ _ _ _ (by omega)]; exact r3z
  have r4 : Row w1 g4 54 Msg.zero.cells := by
    rw [hw1]; show (wz.setRow g5 _).heap[g4]? = _; rw [setRow_other _ _ _ _ (by omega)]; exact r4z
  have b1 : Below w.heap.size w w1 := by
    rw [hw1]; exact hbz.grown (grown_setRow _ _ _) hbz.size (fun k hk => by cases hk; omega)
  rw [← h5, ← h4, ← h3, ← h2]
  have hg2 : w.heap.size ≤ g2 := by omega
  have hg4 : w.heap.size ≤ g4 := by omega
  have hg5 : w.heap.size ≤ g5 := by omega
  have hg45 : g4 < g5 := by omega
  have hg25 : g2 < g5 := by omega
  have hg35 : g3 < g5 := by omega
  clear hwz h2 h3 h4 h5 hbz hb2 r2z r3z r4z hsz hw1 r50 HB HI HZ H1
  have hm32 : Hid ((msg0 i x v y).ok) := by
    have := msgZ_ok i x v
    exact ⟨this.1, this.2.1, by simp [msg0], rfl⟩
  have c3 : w1.cell? ⟨g2, 3, none⟩ = some (.int .u8 (bv y)) := r2.cell rfl
  have hq : Hid ((bv y % 32).toNat = y.toNat % 32) := by
    unfold Hid bv
    omega
  obtain ⟨u, hu⟩ : ∃ u, (msgZ i x v).cells[3 + (bv y % 32).toNat]? = some u := ⟨_, List.getElem?_eq_getElem (by rw [Msg.len (msgZ_ok i x v), hq.out]; omega)⟩
  have cq : w1.cell? ⟨g5, 3 + (bv y % 32).toNat, none⟩ = some u := s1.cell hu
  have fq := s1.free (3 + (bv y % 32).toNat)
  go_upto_region 3 with (fail)
  obtain ⟨w2, hw2⟩ : ∃ w2, w2 = (w1.setCell ⟨g5, 3 + (bv y % 32).toNat, none⟩ (.int .u8 (bv y))) := ⟨_, rfl⟩
  have gs := setCell_grown w1 g5 (3 + (bv y % 32).toNat) (.int .u8 (bv y))
  have s2 : Row w2 g5 54 (msg0 i x v y).cells := by
    rw [hw2, hq.out]
    have h := s1.setCell (i := 3 + y.toNat % 32) (.int .u8 (bv y))
    rw [Msg.setData (m := msgZ i x v) y (by show y.toNat % 32 < (List.replicate 32 (0 : B8)).length; simp; omega)] at h
    exact h
  rw [← hw2] at gs
  have r22 := row_k r2 gs (by omega)
  have r32 := row_k r3 gs (by omega)
  have r42 := row_k r4 gs (by omega)
  have b2 := b1.grown gs b1.size (fun k hk => by cases hk; exact hg5)
  rw [← hw2]
  have hT32 : (hmacF k (msg0 i x v y).body).length = 32 := shaF_len _
  have HT32 := Lib.hid hT32
  have HI54 := Lib.hid (show (Tryd.prog.info? 54).map (·.size) = some (msg0 i x v y).cells.toArray.size by rw [List.size_toArray, Msg.len hm32.out]; kernel_rfl)
  have HIT := Lib.hid (show (Tryd.prog.info? 39).map (·.size) = some (cells8 (hmacF k (msg0 i x v y).body)).length by rw [cells8_len, hT32]; kernel_rfl)
  have HFT := Lib.hid (show 35 + (cells8 (hmacF k (msg0 i x v y).body)).length ≤ (msg0 i x v y).cells.length by rw [cells8_len, hT32, Msg.len hm32.out]; omega)
  have HNT := Lib.hid (Msg.newTag (hmacF k (msg0 i x v y).body) hm32.out.2.2.1 hm32.out.2.2.2 hT32)
  have HBL : Hid ((msgB (msg0 i x v y).i (msg0 i x v y).x (msg0 i x v y).v (msg0 i x v y).d).length = 48) := msgB_len _ _ _ _ hm32.out.2.2.1
  clear hw2 gs s1 r2 r3 r4 b1 c3 hu cq fq hT32 hq
  refine wp_region_held_drew (S := (fun _ => True)) (by kernel_rfl) trivial (fun hHeld => ?_)
  refine take_run 0 (v := ?_) rfl (by kernel_rfl) (by kernel_rfl) (by kernel_rfl) (fun _ _ _ h => h) rfl ?_ hHeld ?_
  rotate_left
  · intro w hSw; (try dsimp only at hSw); go_simp <;> with_reducible rfl
  try simp only [Act.put, List.setIfInBounds_toArray, List.set_cons_zero, List.set_cons_succ]
  refine take_call 1 rfl (by kernel_rfl) rfl (fun K hK => ?_)
  refine wp_exec (exec_load_row 54 (.tmp 5) rfl g5 rfl 54 (msg0 i x v y).cells.toArray (0, 0) _ s2 Tryd.underlying54 rfl HI54.out) ?_
  try dsimp only
  try clear hHeld
  refine hK.out _ _ trivial (fun hHeld => ?_)
  clear hK K
  try simp only [Act.put, List.setIfInBounds_toArray, List.set_cons_zero, List.set_cons_succ]
  refine take_call 2 rfl (by kernel_rfl) rfl (fun K hK => ?_)
  go_simp
  refine (refMsg_any (msg0 i x v y) hm32.out _).mono ?_
  rintro e wm ⟨vm, rfl, om, hbx⟩
  have y4 : Below w2.heap.size w2 wm := below_of_drew hbx
  obtain ⟨Am, cm, rfl, _, hcm, hrm⟩ := om.slice
  rw [HBL.out] at hrm
  rw [HBL.out]
  clear hbx om
  try dsimp only
  try clear hHeld
  refine hK.out _ _ trivial (fun hHeld => ?_)
  clear hK K
  try simp only [Act.put, List.setIfInBounds_toArray, List.set_cons_zero, List.set_cons_succ]
  refine take_call 3 rfl (by kernel_rfl) rfl (fun K hK => ?_)
  go_simp
  have hrk := (r32.step y4).rdAll
  rw [HK.out] at hrk
  refine (refMac_32 (some ⟨g3, 0, none⟩) 32 k HK.out Am 48 cm _ _ hrk hrm (by rw [HBL.out]; omega)).mono ?_
  rintro e wn ⟨rfl, hbx⟩
  have y5 : Below w2.heap.size w2 wn := below_nx y4 hbx
  have r5n := s2.step y5
  have r2n := r22.step y5
  have r4n := r42.step y5
  have bn := b2.trans (y5.mono b2.size)
  clear hbx hrk
  try dsimp only
  try clear hHeld
  refine hK.out _ _ trivial (fun hHeld => ?_)
  clear hK K
  try simp only [Act.put, List.setIfInBounds_toArray, List.set_cons_zero, List.set_cons_succ]
  refine take_run 4 (v := ?_) rfl (by kernel_rfl) (by kernel_rfl) (by kernel_rfl) (fun _ _ _ h => h) rfl ?_ hHeld ?_
  rotate_left
  · intro w hSw; (try dsimp only at hSw); go_simp <;> with_reducible rfl
  try simp only [Act.put, List.setIfInBounds_toArray, List.set_cons_zero, List.set_cons_succ]
  refine take_call 5 rfl (by kernel_rfl) rfl (fun K hK => ?_)
  refine wp_store_splice 39 (.tmp 28) (.tmp 27) rfl g5 35 54 (msg0 i x v y).cells (cells8 (hmacF k (msg0 i x v y).body)) rfl rfl r5n HIT.out HFT.out (cells8_ones _) ?_
  intro w4 r5 gr4
  rw [HNT.out] at r5
  have r24 := row_k r2n gr4 (by omega)
  have r44 := row_k r4n gr4 (by omega)
  have b4 := bn.grown gr4 bn.size (fun k hk => by cases hk; exact hg5)
  try dsimp only
  try clear hHeld
  refine hK.out _ _ trivial (fun hHeld => ?_)
  clear hK K
  try simp only [Act.put]
  refine wpAnyH_done (by kernel_rfl) ?_ _
  try clear hHeld
  have HOK := Lib.hid (msgOf_ok k i x v y bad)
  have c24 : w4.cell? ⟨g2, 4, none⟩ = some (.bool bad) := r24.cell rfl
  clear y4 y5 r5n r2n r4n bn gr4 r22 r42 b2 s2
  cases bad with
  | false =>
    have r5f : Row w4 g5 54 (msgOf k i x v y false).cells := r5
    have HIE := Lib.hid (show (Tryd.prog.info? 54).map (·.size) = some (msgOf k i x v y false).cells.length by rw [Msg.len HOK.out]; kernel_rfl)
    have HIE2 := Lib.hid (show (Tryd.prog.info? 54).map (·.size) = some (msgOf k i x v y false).cells.toArray.size by rw [List.size_toArray, Msg.len HOK.out]; kernel_rfl)
    have HZE := Lib.hid (show Msg.zero.cells.length = (msgOf k i x v y false).cells.length by rw [Msg.len HOK.out]; rfl)
    go_wp2_with (first
      | (refine wpList_load_row rfl 54 (.tmp 5) rfl g5 rfl 54 (msgOf k i x v y false).cells.toArray (0, 0) _ r5f Tryd.underlying54 rfl HIE2.out ?_)
      | (refine Row.store (g := g4) (t := 54) (L := Msg.zero.cells) (M := (msgOf k i x v y false).cells) r44 rfl 54 (.tmp 4) (.tmp 44) rfl rfl rfl HIE.out HZE.out (all_oneCell_toArray (Msg.one _)) ?_; rintro wF hwF rF; have bF : Below w.heap.size w wF := (by rw [hwF]; exact b4.grown (grown_setRow _ _ _) b4.size (fun k hk => by cases hk; exact hg4)); clear hwF))
    refine bodyPost_ret (v := .agg (msgOf k i x v y false).cells.toArray) (results_cell_row Tryd.results15 _ wF g4 54 _ (0, 0) _ rfl rF Tryd.underlying54 rfl HIE2.out) rfl ⟨rfl, bF⟩
  | true =>
    have hqv : Hid ((bv v % 32).toNat = v.toNat % 32) := by unfold Hid bv; omega
    obtain ⟨tb, htb⟩ : ∃ tb, (hmacF k (msg0 i x v y).body)[v.toNat % 32]? = some tb := ⟨_, List.getElem?_eq_getElem (by rw [HT32.out]; omega)⟩
    have ctag : w4.cell? ⟨g5, 35 + (bv v % 32).toNat, none⟩ = some (.int .u8 (bv tb)) := by
      rw [hqv.out]
      exact r5.cell (Msg.tagCell (m := { msg0 i x v y with t := hmacF k (msg0 i x v y).body }) hm32.out.2.2.1 htb)
    have ftag := r5.free (35 + (bv v % 32).toNat)
    have c2v : w4.cell? ⟨g2, 2, none⟩ = some (.int .u8 (bv v)) := r24.cell rfl
    have c2y : w4.cell? ⟨g2, 3, none⟩ = some (.int .u8 (bv y)) := r24.cell rfl
    have hne2 : ¬ g2 = g5 := by omega
    have hmv : (bv v).tmod 32 = bv v % 32 := Int.tmod_eq_emod_of_nonneg hv0
    have hmy : (bv y).tmod 8 = bv y % 8 := Int.tmod_eq_emod_of_nonneg hy0
    have hv1a : 0 ≤ bv v % 32 := by omega
    have hv1b : bv v % 32 < 32 := by omega
    have hshl := shl8 y
    have hxor := b8_xor tb (BitVec.ofNat 8 (2 ^ (y.toNat % 8)))
    have HTB := Lib.hid htb
    have R5 := Lib.hid r5
    have R24 := Lib.hid r24
    have R44 := Lib.hid r44
    have d2 : (⟨g5, 35 + (bv v % 32).toNat, none⟩ : Addr) ≠ ⟨g2, 2, none⟩ := fun e => hne2 (congrArg Addr.block e).symm
    have d3 : (⟨g5, 35 + (bv v % 32).toNat, none⟩ : Addr) ≠ ⟨g2, 3, none⟩ := fun e => hne2 (congrArg Addr.block e).symm
    clear htb r5 r24 r44
    go_upto_region 5 with (fail)
    refine wp_region_held_drew (S := (fun w => w.cell? ⟨g2, 2, none⟩ = some (.int .u8 (bv v)) ∧ w.cell? ⟨g2, 3, none⟩ = some (.int .u8 (bv y)))) (by kernel_rfl) ⟨c2v, c2y⟩ (fun hHeld => ?_)
    refine take_run 0 (v := ?_) rfl (by kernel_rfl) (by kernel_rfl) (by kernel_rfl) (fun _ _ _ h => h) rfl ?_ hHeld ?_
    rotate_left
    · intro w hSw; (try dsimp only at hSw); go_simp <;> with_reducible rfl
    try simp only [Act.put, List.setIfInBounds_toArray, List.set_cons_zero, List.set_cons_succ]
    refine take_run 1 (v := ?_) rfl (by kernel_rfl) (by kernel_rfl) (by kernel_rfl) (fun _ _ _ h => h) rfl ?_ hHeld ?_
    rotate_left
    · intro w hSw; (try dsimp only at hSw); go_simp <;> with_reducible rfl
    try simp only [Act.put, List.setIfInBounds_toArray, List.set_cons_zero, List.set_cons_succ]
    refine take_run 2 (v := ?_) rfl (by kernel_rfl) (by kernel_rfl) (by kernel_rfl) (fun _ _ _ h => h) rfl ?_ hHeld ?_
    rotate_left
    · intro w hSw; (try dsimp only at hSw); go_simp <;> with_reducible rfl
    try simp only [Act.put, List.setIfInBounds_toArray, List.set_cons_zero, List.set_cons_succ]
    refine take_run 3 (v := ?_) rfl (by kernel_rfl) (by kernel_rfl) (by kernel_rfl) (fun _ _ _ h => h) rfl ?_ hHeld ?_
    rotate_left
    · intro w hSw; (try dsimp only at hSw); go_simp <;> with_reducible rfl
    try simp only [Act.put, List.setIfInBounds_toArray, List.set_cons_zero, List.set_cons_succ]
    refine take_run 4 (v := ?_) rfl (by kernel_rfl) (by kernel_rfl) (by kernel_rfl) (fun _ _ _ h => h) rfl ?_ hHeld ?_
    rotate_left
    · intro w hSw; (try dsimp only at hSw); go_simp <;> with_reducible rfl
    try simp only [Act.put, List.setIfInBounds_toArray, List.set_cons_zero, List.set_cons_succ]
    refine take_run 6 (v := ?_) rfl (by kernel_rfl) (by kernel_rfl) (by kernel_rfl) (fun _ _ _ h => h) rfl ?_ hHeld ?_
    rotate_left
    · intro w hSw; (try dsimp only at hSw); go_simp <;> with_reducible rfl
    try simp only [Act.put, List.setIfInBounds_toArray, List.set_cons_zero, List.set_cons_succ]
    refine take_run 7 (v := ?_) rfl (by kernel_rfl) (by kernel_rfl) (by kernel_rfl) (fun _ _ _ h => h) rfl ?_ hHeld ?_
    rotate_left
    · intro w hSw; (try dsimp only at hSw); go_simp <;> with_reducible rfl
    try simp only [Act.put, List.setIfInBounds_toArray, List.set_cons_zero, List.set_cons_succ]
    refine take_run 8 (v := ?_) rfl (by kernel_rfl) (by kernel_rfl) (by kernel_rfl) (fun _ _ _ h => h) rfl ?_ hHeld ?_
    rotate_left
    · intro w hSw; (try dsimp only at hSw); go_simp <;> with_reducible rfl
    try simp only [Act.put, List.setIfInBounds_toArray, List.set_cons_zero, List.set_cons_succ]
    refine take_run 9 (v := ?_) rfl (by kernel_rfl) (by kernel_rfl) (by kernel_rfl) (fun _ _ _ h => h) rfl ?_ hHeld ?_
    rotate_left
    · intro w hSw; (try dsimp only at hSw); go_simp <;> with_reducible rfl
    try simp only [Act.put, List.setIfInBounds_toArray, List.set_cons_zero, List.set_cons_succ]
    refine take_run 11 (v := ?_) rfl (by kernel_rfl) (by kernel_rfl) (by kernel_rfl) (fun _ _ _ h => h) rfl ?_ hHeld ?_
    rotate_left
    · intro w hSw; (try dsimp only at hSw); go_simp <;> with_reducible rfl
    try simp only [Act.put, List.setIfInBounds_toArray, List.set_cons_zero, List.set_cons_succ]
    refine take_call 5 rfl (by kernel_rfl) rfl (fun K hK => ?_)
    go_simp
    refine hK.out _ _ ⟨c2v, c2y⟩ (fun hHeld => ?_)
    clear hK K
    try simp only [Act.put, List.setIfInBounds_toArray, List.set_cons_zero, List.set_cons_succ]
    refine take_run 10 (v := ?_) rfl (by kernel_rfl) (by kernel_rfl) (by kernel_rfl) (fun _ _ _ h => h) rfl ?_ hHeld ?_
    rotate_left
    · intro w hSw; (try dsimp only at hSw); go_simp <;> with_reducible rfl
    try simp only [Act.put, List.setIfInBounds_toArray, List.set_cons_zero, List.set_cons_succ]
    refine take_run 12 (v := ?_) rfl (by kernel_rfl) (by kernel_rfl) (by kernel_rfl) (fun _ _ _ h => h) rfl ?_ hHeld ?_
    rotate_left
    · intro w hSw; (try dsimp only at hSw); go_simp <;> with_reducible rfl
    try simp only [Act.put, List.setIfInBounds_toArray, List.set_cons_zero, List.set_cons_succ]
    refine take_call 13 rfl (by kernel_rfl) rfl (fun K hK => ?_)
    go_simp
    refine hK.out _ _ ⟨(World.cell?_setCell_other _ _ _ _ d2).trans c2v, (World.cell?_setCell_other _ _ _ _ d3).trans c2y⟩ (fun hHeld => ?_)
    clear hK K
    try simp only [Act.put, List.setIfInBounds_toArray, List.set_cons_zero, List.set_cons_succ]
    refine wpAnyH_done (by kernel_rfl) ?_ _
    try clear hHeld
    obtain ⟨w6, hw6⟩ : ∃ w6, w6 = (w4.setCell ⟨g5, 35 + (bv v % 32).toNat, none⟩ (.int .u8 (bv (tb ^^^ BitVec.ofNat 8 (2 ^ (y.toNat % 8)))))).drew := ⟨_, rfl⟩
    have gs6 : w4.drew.grownBy w6 (some g5) := by rw [hw6]; exact setCell_grown w4.drew g5 _ _
    have s6 : Row w6 g5 54 (msgOf k i x v y true).cells := by
      rw [hw6, hqv.out]
      have h := R5.out.setCell (i := 35 + v.toNat % 32) (.int .u8 (bv (tb ^^^ BitVec.ofNat 8 (2 ^ (y.toNat % 8)))))
      rw [Msg.setTag (m := { msg0 i x v y with t := hmacF k (msg0 i x v y).body }) _ hm32.out.2.2.1] at h
      have e : (hmacF k (msg0 i x v y).body).getD (v.toNat % 32) 0 = tb := by rw [List.getD_eq_getElem?_getD, HTB.out]; rfl
      have e1 : tagF k i x v y true = (hmacF k (msg0 i x v y).body).set (v.toNat % 32) (tb ^^^ BitVec.ofNat 8 (2 ^ (y.toNat % 8))) := by
        show (hmacF k (msg0 i x v y).body).set (v.toNat % 32) ((hmacF k (msg0 i x v y).body).getD (v.toNat % 32) 0 ^^^ BitVec.ofNat 8 (2 ^ (y.toNat % 8))) = _
        rw [e]
      have e2 : msgOf k i x v y true = { msg0 i x v y with t := (hmacF k (msg0 i x v y).body).set (v.toNat % 32) (tb ^^^ BitVec.ofNat 8 (2 ^ (y.toNat % 8))) } := by
        unfold msgOf
        rw [e1]
      rw [e2]
      exact h
    have r46 := row_k (show Row w4.drew g4 54 Msg.zero.cells from R44.out) gs6 (by omega)
    have b6 := (below_drewN' b4 1).grown gs6 b4.size (fun k hk => by cases hk; exact hg5)
    rw [← hw6]
    clear hw6 gs6 ctag ftag c2v c2y hmv hmy hv1a hv1b hshl hxor d2 d3 c24 b4
    have HIE := Lib.hid (show (Tryd.prog.info? 54).map (·.size) = some (msgOf k i x v y true).cells.length by rw [Msg.len HOK.out]; kernel_rfl)
    have HIE2 := Lib.hid (show (Tryd.prog.info? 54).map (·.size) = some (msgOf k i x v y true).cells.toArray.size by rw [List.size_toArray, Msg.len HOK.out]; kernel_rfl)
    have HZE := Lib.hid (show Msg.zero.cells.length = (msgOf k i x v y true).cells.length by rw [Msg.len HOK.out]; rfl)
    go_wp2_with (first
      | (refine wpList_load_row rfl 54 (.tmp 5) rfl g5 rfl 54 (msgOf k i x v y true).cells.toArray (0, 0) _ s6 Tryd.underlying54 rfl HIE2.out ?_)
      | (refine Row.store (g := g4) (t := 54) (L := Msg.zero.cells) (M := (msgOf k i x v y true).cells) r46 rfl 54 (.tmp 4) (.tmp 44) rfl rfl rfl HIE.out HZE.out (all_oneCell_toArray (Msg.one _)) ?_; rintro wF hwF rF; have bF : Below w.heap.size w wF := (by rw [hwF]; exact b6.grown (grown_setRow _ _ _) b6.size (fun k hk => by cases hk; exact hg4)); clear hwF))
    refine bodyPost_ret (v := .agg (msgOf k i x v y true).cells.toArray) (results_cell_row Tryd.results15 _ wF g4 54 _ (0, 0) _ rfl rF Tryd.underlying54 rfl HIE2.out) rfl ⟨rfl, bF⟩
end Go.Proofs.YtpobkoiaidgedaaDoor
