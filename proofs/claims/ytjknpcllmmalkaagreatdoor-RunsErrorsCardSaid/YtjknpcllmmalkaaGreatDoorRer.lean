/- Runs of scripts that are not valid, of no world, with fuel that is not in its range: what is refused. -/
import Derived.Test.YtjknpcllmmalkaaGreatDoorSck
import Derived.Test.YtjknpcllmmalkaaGreatDoorSerl
import Derived.Test.YtjknpcllmmalkaaGreatDoorShE
import Derived.Deep.Cut
import Derived.Laws.Tables
namespace Go.Proofs.YtjknpcllmmalkaaGreatDoor
open Go.RowKit

theorem exec_loadR {P : Program} {o : Oper} {ev : Operand → Value} (ty : TypeId) (x : Operand) (ho : o.op = .load ty x) (g : Nat) (hx : ev x = .pointer (some ⟨g, 0, none⟩)) (t : TypeId) (cs : Array Value) (fr : Nat × Nat) (d : TypeDesc) {w : World}
    (hrow : w.heap[g]? = some (.cells cs t fr)) (hu : P.underlying ty = some d) (hd : d.isRow = true) (hi : (P.info? ty).map (·.size) = some cs.size) : (execOp ev o).run P w = .ok (.value (.agg cs)) w := by
  have h1 := run_loadVar_row (P := P) w g t ty cs fr d hrow hu (by cases d <;> simp_all) hi
  unfold execOp
  simp only [ho, hx, Instr.loadAt, Instr.sureAddr, Sem.run_bind, Sem.run_pure, Result.andThen_ok, h1]
theorem wpList_wantR {P : Program} {ops : Array Oper} {rest : List Oper} {o : Oper} {a : Act} {w : World} {Q : Exit → Act → World → Prop} {v : Value} (hw : Region.wanted o (yielded ops a.tmps) = true) (hr : (execOp a.eval o).run P w = .ok (.value v) w) (h : wpList P ops Q rest (a.put o.dst v) w) : wpList P ops Q (o :: rest) a w :=
  wpList_step fun K hK => by
    rw [if_pos hw]
    unfold Oper.wp
    rw [hr]
    exact hK _ _ h

theorem ScrV.len (s : ScrV) (hl : s.c.ms.length = 32) : s.cells.length = 41 := by simp [ScrV.cells, Cfg.cells, cells8_len, hl]
set_option maxRecDepth 100000 in
set_option maxHeartbeats 2000000 in
theorem begin_bad (s : ScrV) (hl : s.c.ms.length = 32) (w : World) (hp : Progs w s.pA s.pn s.pl) (ha : Acts w s.aA s.an s.al) (hb : s.err ≠ 0) :
    Calls Tryz.prog 17 #[.agg s.cells.toArray] w fun e w' => e = .returned (.tuple #[.pointer none, .int .i64 s.err]) ∧ Below w.heap.size w w' := by
  have hlen := s.len hl
  have HI := Lib.hid (show (Tryz.prog.info? 30).map (·.size) = some s.cells.toArray.size by rw [List.size_toArray, hlen]; kernel_rfl)
  have HC := fun (W : World) (hb : Below w.heap.size w W) => sCheck_any s hl W (hp.step hb) (ha.step hb)
  generalize hcs : s.cells = cs at HC HI ⊢
  generalize hE : s.err = E at HC hb ⊢
  have b0 : Below w.heap.size w (w.alloc (.cells cs.toArray 30)) := (Below.refl _ _).alloc (Nat.le_refl _) _
  have r0 : (w.alloc (.cells cs.toArray 30)).heap[w.heap.size]? = some (.cells cs.toArray 30 (0, 0)) := heap_alloc_new _ _
  have hd : decide (E = 0) = false := by simpa using hb
  clear hcs hE hp ha hlen hl
  go_enter Tryz.func17, Tryz.ntmps17
  go_wp2_with (first | (refine wpList_load_row rfl 30 (.tmp 1) rfl w.heap.size rfl 30 cs.toArray (0, 0) _ r0 Tryz.underlying30 rfl HI.out ?_) | (go_at_call 5; refine (HC _ b0).mono ?_; rintro e w2 ⟨rfl, hb2⟩))
  go_ret2
  exact ⟨rfl, b0.trans (hb2.mono b0.size)⟩
set_option maxRecDepth 100000 in
set_option maxHeartbeats 2000000 in
theorem world_bad (s : ScrV) (hl : s.c.ms.length = 32) (w : World) (hp : Progs w s.pA s.pn s.pl) (ha : Acts w s.aA s.an s.al) (hb : s.err ≠ 0) :
    Calls Tryz.prog 6 #[.agg s.cells.toArray] w fun e w' => e = .returned (.tuple #[.pointer none, .int .i64 s.err]) ∧ Below w.heap.size w w' := by
  have hlen := s.len hl
  have HI := Lib.hid (show (Tryz.prog.info? 30).map (·.size) = some s.cells.toArray.size by rw [List.size_toArray, hlen]; kernel_rfl)
  have HC := fun (W : World) (hw : Below w.heap.size w W) => begin_bad s hl W (hp.step hw) (ha.step hw) hb
  generalize hcs : s.cells = cs at HC HI ⊢
  generalize hE : s.err = E at HC hb ⊢
  have b0 : Below w.heap.size w (w.alloc (.cells cs.toArray 30)) := (Below.refl _ _).alloc (Nat.le_refl _) _
  have r0 : (w.alloc (.cells cs.toArray 30)).heap[w.heap.size]? = some (.cells cs.toArray 30 (0, 0)) := heap_alloc_new _ _
  have hd : decide (E = 0) = false := by simpa using hb
  clear hcs hE hp ha hlen hl
  go_enter Tryz.func6, Tryz.ntmps6
  go_wp2_with (first | (refine wpList_load_row rfl 30 (.tmp 1) rfl w.heap.size rfl 30 cs.toArray (0, 0) _ r0 Tryz.underlying30 rfl HI.out ?_) | (go_at_call 17; refine (HC _ b0).mono ?_; rintro e w2 ⟨rfl, hb2⟩))
  go_ret2
  exact ⟨rfl, b0.trans (hb2.mono b0.size)⟩
/-- a result in which nothing is -/
def resC : List Value := [.slice none 0 0, .slice none 0 0, .slice none 0 0, .slice none 0 0, .slice none 0 0, .slice none 0 0, .slice none 0 0] ++ (cells8 (List.replicate 32 0) ++ [.int .u64 0, .int .u64 0, .int .i64 0, .int .i64 0, .bool false, .bool false])
theorem resC_info : (Tryz.prog.info? 51).map (·.size) = some resC.length := by kernel_rfl
theorem resC_one : resC.toArray.all (·.oneCell') = true := by kernel_rfl
theorem resC_build : Tryz.prog.built 51 [] = some resC.toArray := by kernel_rfl
theorem resC_inf2 : (Tryz.prog.info? 51).map (·.size) = some resC.toArray.size := by kernel_rfl
theorem results_two {P : Program} {fn : Func} {p q : Tmp} {ty : TypeId} (h : fn.results = #[.cell p ty, .tmp q]) (tmps : Array Value) (w : World) (g : Nat) (t : TypeId) (cs : Array Value) (fr : Nat × Nat) (d : TypeDesc)
    (hp : tmps.getD p undef = .pointer (some ⟨g, 0, none⟩)) (hg : w.heap[g]? = some (.cells cs t fr))
    (hu : P.underlying ty = some d) (hd : (match d with | .struct _ | .array _ _ => true | _ => false) = true) (hi : (P.info? ty).map (·.size) = some cs.size) :
    (results fn tmps).run P w = .ok (.tuple #[.agg cs, tmps.getD q undef]) w := by
  have hp' : tmps[p]?.getD undef = .pointer (some ⟨g, 0, none⟩) := by simpa using hp
  simp [results, h, hp', asAddr, run_loadVar_row w g t ty cs fr d hg hu hd hi]
set_option maxRecDepth 100000 in
set_option maxHeartbeats 4000000 in
theorem run_bad (s : ScrV) (hl : s.c.ms.length = 32) (w : World) (hp : Progs w s.pA s.pn s.pl) (ha : Acts w s.aA s.an s.al) (hb : s.err ≠ 0) :
    Calls Tryz.prog 7 #[.agg s.cells.toArray] w fun e w' => e = .returned (.tuple #[.agg resC.toArray, .int .i64 s.err]) ∧ Below w.heap.size w w' := by
  have hlen := s.len hl
  have HI := Lib.hid (show (Tryz.prog.info? 30).map (·.size) = some s.cells.toArray.size by rw [List.size_toArray, hlen]; kernel_rfl)
  have HC := fun (W : World) (hw : Below w.heap.size w W) => begin_bad s hl W (hp.step hw) (ha.step hw) hb
  generalize hcs : s.cells = cs at HC HI ⊢
  generalize hE : s.err = E at HC hb ⊢
  have hd : decide (E = 0) = false := by simpa using hb
  clear hcs hE hp ha hlen hl
  go_enter Tryz.func7, Tryz.ntmps7
  go_upto_region 1 with (fail)
  change Code.wp _ _ _ _ ((w.alloc (.cells cs.toArray 30)).alloc (.cells resC.toArray 51))
  obtain ⟨w1, hw1⟩ : ∃ w1, w1 = (w.alloc (.cells cs.toArray 30)).alloc (.cells resC.toArray 51) := ⟨_, rfl⟩
  rw [← hw1]
  have b1 : Below w.heap.size w w1 := by rw [hw1]; exact ((Below.refl _ _).alloc (Nat.le_refl _) _).alloc (by simp) _
  have r0 : w1.heap[w.heap.size]? = some (.cells cs.toArray 30 (0, 0)) := by rw [hw1]; exact (heap_alloc_old _ _ (by simp)).trans (heap_alloc_new _ _)
  have r1 : Row w1 (w.heap.size + 1) 51 resC := by
    have hsz : (w.alloc (.cells cs.toArray 30)).heap.size = w.heap.size + 1 := by simp
    rw [hw1, ← hsz]; exact heap_alloc_new _ _
  have hs1 : w.heap.size + 1 < w1.heap.size := by rw [hw1]; simp
  clear hw1
  go_upto_region 3 with (first | (refine wpList_load_row rfl 30 (.tmp 1) rfl w.heap.size rfl 30 cs.toArray (0, 0) _ r0 Tryz.underlying30 rfl HI.out ?_) | (go_at_call 17; refine (HC _ b1).mono ?_; rintro e w2 ⟨rfl, hb2⟩; have r2 : Row w2 (w.heap.size + 1) 51 resC := (hb2.block _ hs1).trans r1; have b2 := b1.trans (hb2.mono b1.size); clear r1))
  refine wp_region_lit ?_
  refine wpList_build_is rfl 51 #[] rfl resC.toArray (by rw [Array.map_empty]; exact resC_build) ?_
  go_wp2_with (first | (refine Row.store (g := w.heap.size + 1) (t := 51) (L := resC) (M := resC) r2 rfl 51 (.tmp 2) (.tmp 13) rfl rfl rfl resC_info rfl resC_one ?_; rintro w3 hw3 r3; have b3 : Below w.heap.size w w3 := (by rw [hw3]; exact b2.grown (grown_setRow _ _ _) b2.size (fun k hk => by cases hk; omega)); clear hw3))
  exact bodyPost_ret (v := .tuple #[.agg resC.toArray, .int .i64 E]) (results_two Tryz.results7 _ _ (w.heap.size + 1) 51 resC.toArray (0, 0) _ rfl r3 Tryz.underlying51 rfl resC_inf2) rfl ⟨rfl, b3⟩
set_option maxRecDepth 100000 in
set_option maxHeartbeats 4000000 in
theorem complete_bad (s : ScrV) (hl : s.c.ms.length = 32) (fuel : Int) (w : World) (hp : Progs w s.pA s.pn s.pl) (ha : Acts w s.aA s.an s.al) (hb : s.err ≠ 0) :
    Calls Tryz.prog 8 #[.agg s.cells.toArray, .int .i64 fuel] w fun e w' => e = .returned (.tuple #[.agg resC.toArray, .int .i64 s.err]) ∧ Below w.heap.size w w' := by
  have hlen := s.len hl
  have HI := Lib.hid (show (Tryz.prog.info? 30).map (·.size) = some s.cells.toArray.size by rw [List.size_toArray, hlen]; kernel_rfl)
  have HC := fun (W : World) (hw : Below w.heap.size w W) => begin_bad s hl W (hp.step hw) (ha.step hw) hb
  generalize hcs : s.cells = cs at HC HI ⊢
  generalize hE : s.err = E at HC hb ⊢
  have hd : decide (E = 0) = false := by simpa using hb
  clear hcs hE hp ha hlen hl
  go_enter Tryz.func8, Tryz.ntmps8
  go_upto_region 1 with (fail)
  change Code.wp _ _ _ _ ((w.alloc (.cells cs.toArray 30)).alloc (.cells resC.toArray 51))
  obtain ⟨w1, hw1⟩ : ∃ w1, w1 = (w.alloc (.cells cs.toArray 30)).alloc (.cells resC.toArray 51) := ⟨_, rfl⟩
  rw [← hw1]
  have b1 : Below w.heap.size w w1 := by rw [hw1]; exact ((Below.refl _ _).alloc (Nat.le_refl _) _).alloc (by simp) _
  have r0 : w1.heap[w.heap.size]? = some (.cells cs.toArray 30 (0, 0)) := by rw [hw1]; exact (heap_alloc_old _ _ (by simp)).trans (heap_alloc_new _ _)
  have r1 : Row w1 (w.heap.size + 1) 51 resC := by
    have hsz : (w.alloc (.cells cs.toArray 30)).heap.size = w.heap.size + 1 := by simp
    rw [hw1, ← hsz]; exact heap_alloc_new _ _
  have hs1 : w.heap.size + 1 < w1.heap.size := by rw [hw1]; simp
  clear hw1
  go_upto_region 3 with (first | (refine wpList_load_row rfl 30 (.tmp 2) rfl w.heap.size rfl 30 cs.toArray (0, 0) _ r0 Tryz.underlying30 rfl HI.out ?_) | (go_at_call 17; refine (HC _ b1).mono ?_; rintro e w2 ⟨rfl, hb2⟩; have r2 : Row w2 (w.heap.size + 1) 51 resC := (hb2.block _ hs1).trans r1; have b2 := b1.trans (hb2.mono b1.size); clear r1))
  refine wp_region_lit ?_
  refine wpList_build_is rfl 51 #[] rfl resC.toArray (by rw [Array.map_empty]; exact resC_build) ?_
  go_wp2_with (first | (refine Row.store (g := w.heap.size + 1) (t := 51) (L := resC) (M := resC) r2 rfl 51 (.tmp 4) (.tmp 17) rfl rfl rfl resC_info rfl resC_one ?_; rintro w3 hw3 r3; have b3 : Below w.heap.size w w3 := (by rw [hw3]; exact b2.grown (grown_setRow _ _ _) b2.size (fun k hk => by cases hk; omega)); clear hw3))
  exact bodyPost_ret (v := .tuple #[.agg resC.toArray, .int .i64 E]) (results_two Tryz.results8 _ _ (w.heap.size + 1) 51 resC.toArray (0, 0) _ rfl r3 Tryz.underlying51 rfl resC_inf2) rfl ⟨rfl, b3⟩
set_option maxRecDepth 100000 in
theorem finish_nil (fuel : Int) (w : World) :
    Calls Tryz.prog 10 #[.pointer none, .int .i64 fuel] w fun e w' => e = .returned (.tuple #[.slice none 0 0, .int .i64 2]) ∧ Below w.heap.size w w' := by
  go_enter Tryz.func10, Tryz.ntmps10
  go_wp2
  go_returns
  exact ⟨rfl, by repeat (first | exact Below.refl _ _ | refine Below.alloc ?_ (by simp <;> omega) _)⟩
set_option maxRecDepth 100000 in
theorem finish_bad (n : Nat) (fuel : Int) (hf : ¬ (0 ≤ fuel ∧ fuel ≤ 1048576)) (w : World) :
    Calls Tryz.prog 10 #[.pointer (some ⟨n, 0, none⟩), .int .i64 fuel] w fun e w' => e = .returned (.tuple #[.slice none 0 0, .int .i64 1]) ∧ Below w.heap.size w w' := by
  go_enter Tryz.func10, Tryz.ntmps10
  by_cases h0 : fuel < 0
  · have hd : decide (fuel < 0) = true := by simpa using h0
    go_wp2
    go_returns
    exact ⟨rfl, by repeat (first | exact Below.refl _ _ | refine Below.alloc ?_ (by simp <;> omega) _)⟩
  · have hd : decide (fuel < 0) = false := by simpa using h0
    have hd2 : decide (fuel > 1048576) = true := by simp; omega
    go_wp2
    go_returns
    exact ⟨rfl, by repeat (first | exact Below.refl _ _ | refine Below.alloc ?_ (by simp <;> omega) _)⟩
set_option maxRecDepth 100000 in
set_option maxHeartbeats 4000000 in
theorem of_nil (b : Int) (w : World) :
    Calls Tryz.prog 11 #[.pointer none, .int .i64 b] w fun e w' => e = .returned (.tuple #[.agg resC.toArray, .int .i64 2]) ∧ Below w.heap.size w w' := by
  go_enter Tryz.func11, Tryz.ntmps11
  go_upto_region 1 with (fail)
  change Code.wp _ _ _ _ (w.alloc (.cells resC.toArray 51))
  obtain ⟨w1, hw1⟩ : ∃ w1, w1 = w.alloc (.cells resC.toArray 51) := ⟨_, rfl⟩
  rw [← hw1]
  have b1 : Below w.heap.size w w1 := by rw [hw1]; exact (Below.refl _ _).alloc (Nat.le_refl _) _
  have r1 : Row w1 w.heap.size 51 resC := by rw [hw1]; exact heap_alloc_new _ _
  clear hw1
  go_upto_region 2 with (fail)
  refine wp_region_lit ?_
  refine wpList_build_is rfl 51 #[] rfl resC.toArray (by rw [Array.map_empty]; exact resC_build) ?_
  go_wp2_with (first | (refine Row.store (g := w.heap.size) (t := 51) (L := resC) (M := resC) r1 rfl 51 (.tmp 4) (.tmp 9) rfl rfl rfl resC_info rfl resC_one ?_; rintro w3 hw3 r3; have b3 : Below w.heap.size w w3 := (by rw [hw3]; exact b1.grown (grown_setRow _ _ _) b1.size (fun k hk => by cases hk; omega)); clear hw3))
  exact bodyPost_ret (v := .tuple #[.agg resC.toArray, .int .i64 2]) (results_two Tryz.results11 _ _ w.heap.size 51 resC.toArray (0, 0) _ rfl r3 Tryz.underlying51 rfl resC_inf2) rfl ⟨rfl, b3⟩
end Go.Proofs.YtjknpcllmmalkaaGreatDoor
