/- The bytes of a message: seals.Message. -/
import Derived.Test.YtpobkoiaidgedaaDoorShW
namespace Go.Proofs.YtpobkoiaidgedaaDoor
open Go.RowKit

/-- The closure has written the bytes into block g. -/
def SealW (B : List B8) (g : Nat) (w : World) (e : Ending) (w' : World) : Prop :=
  e = .returned (.int .i64 0) ∧ ∃ wx gb, Below w.heap.size w wx ∧ w.heap.size ≤ gb ∧ Row wx gb 5 (cells8 B) ∧ w' = wx.setCell ⟨g, 0, none⟩ (.slice (some ⟨gb, 0, none⟩) B.length B.length)

set_option maxRecDepth 100000 in
set_option maxHeartbeats 1000000 in
theorem sealCl_any (i : Nat) (hi : i < 4096) (x : W) (v : Nat) (hv : v < 18446744073709551616) (d : List B8) (hd : d.length = 32) (g0 g1 g2 g3 : Nat) (t0 t1 t2 t3 : TypeId) (u : Value) (w : World)
    (r0 : Row w g0 t0 [.int .i64 (i : Int)]) (r1 : Row w g1 t1 (nonC x v)) (r2 : Row w g2 t2 (cells8 d)) (r3 : Row w g3 t3 [u]) :
    Calls Tryd.prog 41 #[.pointer (some ⟨g0, 0, none⟩), .pointer (some ⟨g1, 0, none⟩), .pointer (some ⟨g2, 0, none⟩), .pointer (some ⟨g3, 0, none⟩)] w (SealW (msgB i x v d) g3 w) := by
  have HV := Lib.hid hv
  have HD := Lib.hid hd
  have HI := Lib.hid hi
  have HL := Lib.hid (show (Tryd.prog.info? 52).map (·.size) = some (cells8 d).toArray.size by rw [List.size_toArray, cells8_len, hd]; kernel_rfl)
  clear hv hd hi
  have c0 : w.cell? ⟨g0, 0, none⟩ = some (.int .i64 (i : Int)) := r0.cell rfl
  go_enter Tryd.func41, Tryd.ntmps41
  go_wp2_with (first
    | (refine wpList_load_row rfl 51 (.tmp 1) rfl g1 rfl t1 (nonC x v).toArray (0, 0) _ r1 Tryd.underlying51 rfl (by kernel_rfl) ?_)
    | (refine wpList_load_row rfl 52 (.tmp 2) rfl g2 rfl t2 (cells8 d).toArray (0, 0) _ r2 Tryd.underlying52 rfl HL.out ?_)
    | (go_at_call 42; fail))
  refine (sealMsg_any i HI.out x v HV.out d HD.out _).mono ?_
  rintro e w1 ⟨gb, rfl, rb, hgb, hb1⟩
  have r31 := r3.step hb1
  have c3 : w1.cell? ⟨g3, 0, none⟩ = some u := r31.cell rfl
  have f3 := r31.free 0
  have hml := msgB_len i x v d HD.out
  rw [hml]
  have HB := Lib.hid hb1
  have HGB := Lib.hid hgb
  have HML := Lib.hid hml
  clear hb1 hgb r31 hml r0 r1 r2 r3 c0
  go_wp2
  go_ret
  exact ⟨rfl, w1, gb, HB.out, HGB.out, rb, by rw [HML.out]⟩

set_option maxRecDepth 100000 in
set_option maxHeartbeats 1000000 in
theorem sealIx_any (i : Nat) (hi : i < 4096) (x : W) (v : Nat) (hv : v < 18446744073709551616) (d : List B8) (hd : d.length = 32) (g0 g1 g2 g3 : Nat) (t0 t1 t2 t3 : TypeId) (u : Value) (w : World)
    (r0 : Row w g0 t0 [.int .i64 (i : Int)]) (r1 : Row w g1 t1 (nonC x v)) (r2 : Row w g2 t2 (cells8 d)) (r3 : Row w g3 t3 [u]) :
    Calls Tryd.prog 40 #[.int .i64 (i : Int), .func (.func 41) #[] #[.pointer (some ⟨g0, 0, none⟩), .pointer (some ⟨g1, 0, none⟩), .pointer (some ⟨g2, 0, none⟩), .pointer (some ⟨g3, 0, none⟩)]] w (SealW (msgB i x v d) g3 w) := by
  have HV := Lib.hid hv
  have HD := Lib.hid hd
  have hi0 : (0 : Int) ≤ (i : Int) := by omega
  have hi1 : (i : Int) < 4096 := by omega
  have hd1 : decide ((i : Int) < 0) = false := by simp
  have hd2 : decide ((i : Int) ≥ 4096) = false := by simp; omega
  have HI := Lib.hid hi
  clear hv hd hi
  go_enter Tryd.func40, Tryd.ntmps40
  go_wp2_with fail
  refine (sealCl_any i HI.out x v HV.out d HD.out g0 g1 g2 g3 t0 t1 t2 t3 u _ r0 r1 r2 r3).mono ?_
  rintro e w1 ⟨rfl, hx⟩
  have HX := Lib.hid hx
  clear hx
  go_wp2
  go_ret
  exact ⟨rfl, HX.out⟩

set_option maxRecDepth 100000 in
set_option maxHeartbeats 1000000 in
theorem seal_any (i : Nat) (hi : i < 4096) (x : W) (v : Nat) (hv : v < 18446744073709551616) (d : List B8) (hd : d.length = 32) (w : World) :
    Calls Tryd.prog 26 #[.int .i64 (i : Int), .agg (nonC x v).toArray, .agg (cells8 d).toArray] w fun e w' => ∃ g, e = .returned (.tuple #[.slice (some ⟨g, 0, none⟩) 48 48, .int .i64 0]) ∧ Row w' g 5 (cells8 (msgB i x v d)) ∧ w.heap.size ≤ g ∧ Below w.heap.size w w' := by
  have HV := Lib.hid hv
  have HD := Lib.hid hd
  have HI := Lib.hid hi
  clear hv hd hi
  go_enter Tryd.func26, Tryd.ntmps26
  go_upto_region 1 with (fail)
  obtain ⟨wz, hwz⟩ : ∃ wz, wz = ((((w.alloc (.cells #[.int .i64 (i : Int)] 3)).alloc (.cells (nonC x v).toArray 51)).alloc (.cells (cells8 d).toArray 52)).alloc (.cells #[.slice none 0 0] 34)) := ⟨_, rfl⟩
  have b1 : Below w.heap.size w (w.alloc (.cells #[.int .i64 (i : Int)] 3)) := (Below.refl _ _).alloc (Nat.le_refl _) _
  have b2 := b1.alloc b1.size (.cells (nonC x v).toArray 51)
  have b3 := b2.alloc b2.size (.cells (cells8 d).toArray 52)
  have b4 := b3.alloc b3.size (.cells #[.slice none 0 0] 34)
  rw [← hwz] at b4
  have r0 : Row wz w.heap.size 3 [.int .i64 (i : Int)] := by
    have h0 : Row (w.alloc (.cells #[.int .i64 (i : Int)] 3)) w.heap.size 3 [.int .i64 (i : Int)] := heap_alloc_new _ _
    have h1 := h0.step ((Below.refl _ _).alloc (Nat.le_refl _) (.cells (nonC x v).toArray 51))
    have h2 := h1.step ((Below.refl _ _).alloc (Nat.le_refl _) (.cells (cells8 d).toArray 52))
    have h3 := h2.step ((Below.refl _ _).alloc (Nat.le_refl _) (.cells #[.slice none 0 0] 34))
    rw [hwz]; exact h3
  have r1 : Row wz (w.heap.size + 1) 51 (nonC x v) := by
    have h1 : Row ((w.alloc (.cells #[.int .i64 (i : Int)] 3)).alloc (.cells (nonC x v).toArray 51)) (w.heap.size + 1) 51 (nonC x v) := heap_new_at (by simp)
    have h2 := h1.step ((Below.refl _ _).alloc (Nat.le_refl _) (.cells (cells8 d).toArray 52))
    have h3 := h2.step ((Below.refl _ _).alloc (Nat.le_refl _) (.cells #[.slice none 0 0] 34))
    rw [hwz]; exact h3
  have r2 : Row wz (w.heap.size + 1 + 1) 52 (cells8 d) := by
    have h2 : Row (((w.alloc (.cells #[.int .i64 (i : Int)] 3)).alloc (.cells (nonC x v).toArray 51)).alloc (.cells (cells8 d).toArray 52)) (w.heap.size + 1 + 1) 52 (cells8 d) := heap_new_at (by simp)
    have h3 := h2.step ((Below.refl _ _).alloc (Nat.le_refl _) (.cells #[.slice none 0 0] 34))
    rw [hwz]; exact h3
  have r3 : Row wz (w.heap.size + 1 + 1 + 1) 34 [.slice none 0 0] := by
    rw [hwz]; exact heap_new_at (by simp)
  have c0 : wz.cell? ⟨w.heap.size, 0, none⟩ = some (.int .i64 (i : Int)) := r0.cell rfl
  rw [← hwz]
  obtain ⟨B, hB⟩ : ∃ B, B = msgB i x v d := ⟨_, rfl⟩
  have hBL : B.length = 48 := by rw [hB]; exact msgB_len i x v d HD.out
  have HB := Lib.hid hB
  have HBL := Lib.hid hBL
  clear hwz b1 b2 b3 hB hBL
  go_wp2_with fail
  refine (sealIx_any i HI.out x v HV.out d HD.out _ _ _ _ _ _ _ _ _ _ r0 r1 r2 r3).mono ?_
  rintro e w1 ⟨rfl, wx, gb, hbx, hgb, rb, hw1⟩
  rw [← HB.out] at rb hw1
  rw [HBL.out] at hw1
  have r3x := r3.step hbx
  have r31 : Row w1 (w.heap.size + 1 + 1 + 1) 34 [.slice (some ⟨gb, 0, none⟩) 48 48] := by rw [hw1]; exact r3x.setCell (i := 0) _
  have b1 : Below w.heap.size w w1 := by rw [hw1]; exact (b4.trans (hbx.mono b4.size)).setCell (show w.heap.size ≤ w.heap.size + 1 + 1 + 1 by omega) _
  have hne : gb ≠ w.heap.size + 1 + 1 + 1 := by have := r3.lt; omega
  have rb1 : Row w1 gb 5 (cells8 B) := by rw [hw1]; exact (heap_setCell_other _ _ _ _ hne).trans rb
  have hgbw : w.heap.size ≤ gb := Nat.le_trans b4.size hgb
  have c3 : w1.cell? ⟨w.heap.size + 1 + 1 + 1, 0, none⟩ = some (.slice (some ⟨gb, 0, none⟩) 48 48) := r31.cell rfl
  have f3 := r31.free 0
  clear hw1 hbx rb r3x hgb r0 r1 r2 r3 b4 c0
  go_wp2
  have r32 : Row (w1.setCell ⟨w.heap.size + 1 + 1 + 1, 0, none⟩ (.slice (some ⟨gb, 0, none⟩) 48 48)) (w.heap.size + 1 + 1 + 1) 34 [.slice (some ⟨gb, 0, none⟩) 48 48] := r31.setCell (i := 0) _
  have c4 : (w1.setCell ⟨w.heap.size + 1 + 1 + 1, 0, none⟩ (.slice (some ⟨gb, 0, none⟩) 48 48)).cell? ⟨w.heap.size + 1 + 1 + 1, 0, none⟩ = some (.slice (some ⟨gb, 0, none⟩) 48 48) := r32.cell rfl
  refine bodyPost_ret (v := .tuple #[.slice (some ⟨gb, 0, none⟩) 48 48, .int .i64 0]) (by simp [results, Tryd.results26, go_sem, c4]) rfl ⟨gb, rfl, by rw [← HB.out]; exact (heap_setCell_other _ _ _ _ hne).trans rb1, hgbw, b1.setCell (show w.heap.size ≤ w.heap.size + 1 + 1 + 1 by omega) _⟩
end Go.Proofs.YtpobkoiaidgedaaDoor
