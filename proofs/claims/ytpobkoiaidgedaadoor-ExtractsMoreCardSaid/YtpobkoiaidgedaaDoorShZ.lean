/- The reference's Accepted. -/
import Derived.Test.YtpobkoiaidgedaaDoorShY
namespace Go.Proofs.YtpobkoiaidgedaaDoor
open Go.RowKit

theorem exec_load_mid {P : Program} {o : Oper} {ev : Operand → Value} (ty : TypeId) (x : Operand) (ho : o.op = .load ty x) (g off : Nat) (hx : ev x = .pointer (some ⟨g, off, none⟩)) (cs : List Value) (d : TypeDesc) {w : World}
    (hc : w.rangeAt g off cs) (hu : P.underlying ty = some d) (hd : d.isRow = true) (hi : (P.info? ty).map (·.size) = some cs.length) : (execOp ev o).run P w = .ok (.value (.agg cs.toArray)) w := by
  have h1 := run_loadVar_mid (P := P) w g off ty cs d hc hu hd hi
  unfold execOp
  simp only [ho, hx, Instr.loadAt, Instr.sureAddr, Sem.run_bind, Sem.run_pure, Result.andThen_ok, h1]
theorem Row.tagAt {w : World} {g : Nat} {t : TypeId} {m : Msg} (h : Row w g t m.cells) (hm : m.ok) : w.rangeAt g 35 (cells8 m.t) := by
  have e : m.cells = (.int .i64 (m.i : Int) :: (nonC m.x m.v ++ cells8 m.d)) ++ (cells8 m.t ++ []) := by simp [Msg.cells]
  rw [e] at h
  exact h.mid (by simp [nonC, cells8_len, hm.2.2.1])
theorem Row.dataAt {w : World} {g : Nat} {t : TypeId} {m : Msg} (h : Row w g t m.cells) : w.rangeAt g 3 (cells8 m.d) := by
  have e : m.cells = (.int .i64 (m.i : Int) :: nonC m.x m.v) ++ (cells8 m.d ++ cells8 m.t) := by simp [Msg.cells]
  rw [e] at h
  exact h.mid rfl
theorem Row.nonceAt {w : World} {g : Nat} {t : TypeId} {m : Msg} (h : Row w g t m.cells) : w.rangeAt g 1 (nonC m.x m.v) := by
  have e : m.cells = [.int .i64 (m.i : Int)] ++ (nonC m.x m.v ++ (cells8 m.d ++ cells8 m.t)) := rfl
  rw [e] at h
  exact h.mid rfl
theorem refMac_32 (A : Option Addr) (c : Nat) (k : List B8) (hk : k.length = 32) (A2 : Option Addr) (n c2 : Nat) (m : List B8) (w : World) (hrk : Rd w w.heap.size 1 A 32 (cells8 k)) (hrm : Rd w w.heap.size 1 A2 n (cells8 m)) (hm : m.length < 800000000) :
    Calls Tryd.prog 21 #[.slice A 32 c, .slice A2 n c2] w fun e w' => e = .returned (.agg (cells8 (hmacF k m)).toArray) ∧ Below w.heap.size w w' := by
  have h := refMac_any A c k A2 n c2 m w (by rw [hk]; exact hrk) (by omega) hrm hm
  rwa [hk] at h

def Msg.body (m : Msg) : List B8 := msgB m.i m.x m.v m.d
set_option maxRecDepth 100000 in
set_option maxHeartbeats 2000000 in
theorem accepted_any (m : Msg) (hm : m.ok) (k : List B8) (hk : k.length = 32) (w : World) :
    Calls Tryd.prog 23 #[.agg m.cells.toArray, .agg (cells8 k).toArray] w fun e w' => e = .returned (.bool (decide (m.t = hmacF k m.body))) ∧ Below w.heap.size w w' := by
  have HM := Lib.hid hm
  have HKL := Lib.hid hk
  have HBL : Hid ((msgB m.i m.x m.v m.d).length = 48) := msgB_len _ _ _ _ hm.2.2.1
  have HI39 := Lib.hid (show (Tryd.prog.info? 39).map (·.size) = some (cells8 m.t).length by rw [cells8_len, hm.2.2.2]; kernel_rfl)
  have HI54 := Lib.hid (show (Tryd.prog.info? 54).map (·.size) = some m.cells.toArray.size by rw [List.size_toArray, Msg.len hm]; kernel_rfl)
  obtain ⟨D, hD⟩ : ∃ D, D = hmacF k (msgB m.i m.x m.v m.d) := ⟨_, rfl⟩
  have HD := Lib.hid hD
  have heq := fun w => eql_digest w m.t D hm.2.2.2 (by rw [hD]; exact hmac_len _ _)
  have hi0 : (0 : Int) ≤ (m.i : Int) := by omega
  have hi1 : (m.i : Int) < 4096 := by have := hm.1; omega
  clear hm hk hD
  go_enter Tryd.func23, Tryd.ntmps23
  go_upto_region 1 with (fail)
  obtain ⟨wz, hwz⟩ : ∃ wz, wz = ((w.alloc (.cells m.cells.toArray 54)).alloc (.cells (cells8 k).toArray 43)) := ⟨_, rfl⟩
  obtain ⟨g2, h2⟩ : ∃ g, g = w.heap.size := ⟨_, rfl⟩
  obtain ⟨g3, h3⟩ : ∃ g, g = w.heap.size + 1 := ⟨_, rfl⟩
  have hb : Below w.heap.size w wz := by rw [hwz]; exact below_alloc2 (Below.refl _ _)
  have r2 : Row wz g2 54 m.cells := by
    rw [hwz, h2, Row, ((Below.refl _ _).alloc (Nat.le_refl _) _).block w.heap.size (by simp)]; exact heap_alloc_new _ _
  have r3 : Row wz g3 43 (cells8 k) := by rw [hwz, h3]; exact heap_new_at (by simp)
  rw [← hwz, ← h3, ← h2]
  clear hwz h2 h3
  have c0 : wz.cell? ⟨g2, 0, none⟩ = some (.int .i64 (m.i : Int)) := r2.cell rfl
  refine wp_region_held_drew (S := (fun w => Row w g2 54 m.cells ∧ Row w g3 43 (cells8 k) ∧ w.cell? ⟨g2, 0, none⟩ = some (.int .i64 (m.i : Int)))) (by kernel_rfl) ⟨r2, r3, c0⟩ (fun hHeld => ?_)
  refine take_run 0 (v := ?_) rfl (by kernel_rfl) (by kernel_rfl) (by kernel_rfl) (fun _ _ _ h => h) rfl ?_ hHeld ?_
  rotate_left
  · intro w hSw; (try dsimp only at hSw); go_simp <;> with_reducible rfl
  try simp only [Act.put, List.setIfInBounds_toArray, List.set_cons_zero, List.set_cons_succ]
  refine take_run 1 (v := ?_) rfl (by kernel_rfl) (by kernel_rfl) (by kernel_rfl) (fun _ _ _ h => h) rfl ?_ hHeld ?_
  rotate_left
  · intro w hSw; (try dsimp only at hSw); go_simp <;> with_reducible rfl
  try simp only [Act.put, List.setIfInBounds_toArray, List.set_cons_zero, List.set_cons_succ]
  refine take_run 2 (v := ?_) rfl (by kernel_rfl) (by kernel_rfl) (by kernel_rfl) (fun _ _ _ h => h) rfl ?_ hHeld ?_
  rotate_left
  · intro w hSw; (try dsimp only at hSw); go_simp <;> with_reducible rfl
  try simp only [Act.put, List.setIfInBounds_toArray, List.set_cons_zero, List.set_cons_succ]
  refine take_run 3 (v := ?_) rfl (by kernel_rfl) (by kernel_rfl) (by kernel_rfl) (fun _ _ _ h => h) rfl ?_ hHeld ?_
  rotate_left
  · intro w hSw; (try dsimp only at hSw); go_simp <;> with_reducible rfl
  try simp only [Act.put, List.setIfInBounds_toArray, List.set_cons_zero, List.set_cons_succ]
  refine take_run 4 (v := ?_) rfl (by kernel_rfl) (by kernel_rfl) (by kernel_rfl) (fun _ _ _ h => h) rfl ?_ hHeld ?_
  rotate_left
  · intro w hSw; (try dsimp only at hSw); go_simp <;> with_reducible rfl
  try simp only [Act.put, List.setIfInBounds_toArray, List.set_cons_zero, List.set_cons_succ]
  refine take_run 5 (v := ?_) rfl (by kernel_rfl) (by kernel_rfl) (by kernel_rfl) (fun _ _ _ h => h) rfl ?_ hHeld ?_
  rotate_left
  · intro w hSw; (try dsimp only at hSw); go_simp <;> with_reducible rfl
  try simp only [Act.put, List.setIfInBounds_toArray, List.set_cons_zero, List.set_cons_succ]
  refine take_run 6 (v := ?_) rfl (by kernel_rfl) (by kernel_rfl) (by kernel_rfl) (fun _ _ _ h => h) rfl ?_ hHeld ?_
  rotate_left
  · intro w hSw; (try dsimp only at hSw); go_simp <;> with_reducible rfl
  try simp only [Act.put, List.setIfInBounds_toArray, List.set_cons_zero, List.set_cons_succ]
  refine take_run 7 (v := ?_) rfl (by kernel_rfl) (by kernel_rfl) (by kernel_rfl) (fun _ _ _ h => h) rfl ?_ hHeld ?_
  rotate_left
  · intro w hSw; (try dsimp only at hSw); go_simp <;> with_reducible rfl
  try simp only [Act.put, List.setIfInBounds_toArray, List.set_cons_zero, List.set_cons_succ]
  refine take_run 8 (v := ?_) rfl (by kernel_rfl) (by kernel_rfl) (by kernel_rfl) (fun _ _ _ h => h) rfl ?_ hHeld ?_
  rotate_left
  · intro w hSw; (try dsimp only at hSw); go_simp <;> with_reducible rfl
  try simp only [Act.put, List.setIfInBounds_toArray, List.set_cons_zero, List.set_cons_succ]
  refine take_run 9 (v := ?_) rfl (by kernel_rfl) (by kernel_rfl) (by kernel_rfl) (fun _ _ _ h => h) rfl ?_ hHeld ?_
  rotate_left
  · intro w hSw; (try dsimp only at hSw); go_simp <;> with_reducible rfl
  try simp only [Act.put, List.setIfInBounds_toArray, List.set_cons_zero, List.set_cons_succ]
  refine take_run 10 (v := (.agg (cells8 m.t).toArray)) rfl (by kernel_rfl) (by kernel_rfl) (by kernel_rfl) (fun _ _ _ h => h) rfl ?_ hHeld ?_
  · intro w hSw; (try dsimp only at hSw); exact exec_load_mid 39 (.tmp 14) rfl g2 35 rfl (cells8 m.t) _ (hSw.1.tagAt HM.out) Tryd.underlying39 rfl HI39.out
  try simp only [Act.put, List.setIfInBounds_toArray, List.set_cons_zero, List.set_cons_succ]
  refine take_run 11 (v := ?_) rfl (by kernel_rfl) (by kernel_rfl) (by kernel_rfl) (fun _ _ _ h => h) rfl ?_ hHeld ?_
  rotate_left
  · intro w hSw; (try dsimp only at hSw); go_simp <;> with_reducible rfl
  try simp only [Act.put, List.setIfInBounds_toArray, List.set_cons_zero, List.set_cons_succ]
  refine take_run 12 (v := (.agg m.cells.toArray)) rfl (by kernel_rfl) (by kernel_rfl) (by kernel_rfl) (fun _ _ _ h => h) rfl ?_ hHeld ?_
  · intro w hSw; (try dsimp only at hSw); exact exec_load_row 54 (.tmp 2) rfl g2 rfl 54 m.cells.toArray (0, 0) _ hSw.1 Tryd.underlying54 rfl HI54.out
  try simp only [Act.put, List.setIfInBounds_toArray, List.set_cons_zero, List.set_cons_succ]
  refine take_call 13 rfl (by kernel_rfl) rfl (fun K hK => ?_)
  go_simp
  refine (refMsg_any m HM.out _).mono ?_
  rintro e w4 ⟨vm, rfl, om, hbx⟩
  have y4 : Below wz.heap.size wz w4 := below_of_drew hbx
  obtain ⟨Am, cm, rfl, _, hcm, hrm⟩ := om.slice
  rw [HBL.out] at hrm
  rw [HBL.out]
  clear hbx om
  try dsimp only
  refine hK.out _ _ ⟨r2.step y4, r3.step y4, keep_cl y4 c0⟩ (fun hHeld => ?_)
  clear hK K
  try simp only [Act.put, List.setIfInBounds_toArray, List.set_cons_zero, List.set_cons_succ]
  refine take_call 14 rfl (by kernel_rfl) rfl (fun K hK => ?_)
  go_simp
  have hrk := (r3.step y4).rdAll
  rw [HKL.out] at hrk
  refine (refMac_32 (some ⟨g3, 0, none⟩) 32 k HKL.out Am 48 cm _ _ hrk hrm (by rw [HBL.out]; omega)).mono ?_
  rintro e w5 ⟨rfl, hbx⟩
  have y5 : Below wz.heap.size wz w5 := below_nx y4 hbx
  rw [← HD.out]
  clear hbx hrk
  try dsimp only
  refine hK.out _ _ ⟨r2.step y5, r3.step y5, keep_cl y5 c0⟩ (fun hHeld => ?_)
  clear hK K
  try simp only [Act.put, List.setIfInBounds_toArray, List.set_cons_zero, List.set_cons_succ]
  refine take_run 15 (v := ?_) rfl (by kernel_rfl) (by kernel_rfl) (by kernel_rfl) (fun _ _ _ h => h) rfl ?_ hHeld ?_
  rotate_left
  · intro w hSw; (try dsimp only at hSw); go_simp <;> with_reducible rfl
  try simp only [Act.put, List.setIfInBounds_toArray, List.set_cons_zero, List.set_cons_succ]
  refine take_run 16 (v := ?_) rfl (by kernel_rfl) (by kernel_rfl) (by kernel_rfl) (fun _ _ _ h => h) rfl ?_ hHeld ?_
  rotate_left
  · intro w hSw; (try dsimp only at hSw); go_simp <;> with_reducible rfl
  try simp only [Act.put, List.setIfInBounds_toArray, List.set_cons_zero, List.set_cons_succ]
  refine take_run 17 (v := ?_) rfl (by kernel_rfl) (by kernel_rfl) (by kernel_rfl) (fun _ _ _ h => h) rfl ?_ hHeld ?_
  rotate_left
  · intro w hSw; (try dsimp only at hSw); go_simp <;> with_reducible rfl
  try simp only [Act.put, List.setIfInBounds_toArray, List.set_cons_zero, List.set_cons_succ]
  refine wpAnyH_done (by kernel_rfl) ?_ _
  go_wp2
  go_ret
  exact ⟨ret_bool (by rw [HD.out]; rfl), hb.trans (y5.mono hb.size)⟩
end Go.Proofs.YtpobkoiaidgedaaDoor
