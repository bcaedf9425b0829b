/- HMAC: the padded key. -/
import Derived.Test.YtbkpgmlibiclfaaGreatDoorShP
namespace Go.Proofs.YtbkpgmlibiclfaaGreatDoor
open Go.RowKit

theorem set_rep (n j : Nat) (c : B8) (hj : j < n) : (cells8 (List.replicate j c ++ List.replicate (n - j) 0)).set j (.int .u8 (bv c)) = cells8 (List.replicate (j + 1) c ++ List.replicate (n - (j + 1)) 0) := by
  have e : (List.replicate j c ++ List.replicate (n - j) (0 : B8)).set j c = List.replicate (j + 1) c ++ List.replicate (n - (j + 1)) 0 := by
    rw [List.set_append_right _ _ (by simp), List.length_replicate, Nat.sub_self, show n - j = (n - (j + 1)) + 1 by omega, List.replicate_succ, List.set_cons_zero, List.replicate_succ']
    simp
  rw [← e, cells8, cells8, List.map_set]
theorem at_rep (n j : Nat) (c : B8) (hj : j < n) : (cells8 (List.replicate j c ++ List.replicate (n - j) 0))[j]? = some (.int .u8 0) := by
  rw [cells8, List.getElem?_map, List.getElem?_append_right (by simp), List.length_replicate, Nat.sub_self, List.getElem?_replicate]
  simp [bv]; omega
theorem xorL_rep (l : List B8) (c : B8) : xorL l (List.replicate l.length c) = xorC l c := by
  induction l with
  | nil => rfl
  | cons a l ih => simp only [List.length_cons, List.replicate_succ, xorL, xorC, List.zipWith_cons_cons, List.map_cons] at ih ⊢; rw [ih]

set_option maxRecDepth 100000 in
set_option maxHeartbeats 2000000 in
theorem padded_any (A : Option Addr) (c : Nat) (k : List B8) (b : B8) (v : Int) (hv : v = bv b) (w : World) (hr : Rd w w.heap.size 1 A k.length (cells8 k)) (hk : k.length ≤ 64) :
    Calls Tryz.prog 169 #[.slice A k.length c, .int .u8 v] w fun e w' => ∃ g, e = .returned (.slice (some ⟨g, 0, none⟩) 64 64) ∧ Row w' g 5 (cells8 (xorC (keyB k) b)) ∧ w.heap.size ≤ g ∧ Below w.heap.size w w' := by
  subst hv
  have HK := Lib.hid hk
  clear hk
  go_enter Tryz.func169, Tryz.ntmps169
  go_wp2_with fail
  refine (macBlock_any A c k _ hr HK.out).mono ?_
  rintro e w1 ⟨rfl, hb1⟩
  have hl := keyB_len k HK.out
  obtain ⟨K, hK⟩ : ∃ K, K = keyB k := ⟨_, rfl⟩
  rw [← hK] at hl ⊢
  have HL := Lib.hid hl
  have HI2 := Lib.hid (show (Tryz.prog.info? 337).map (·.size) = some (cells8 K).length by rw [cells8_len, hl]; kernel_rfl)
  have HZ := Lib.hid (show (cells8 (List.replicate 64 0)).length = (cells8 K).length by rw [cells8_len, cells8_len, hl]; rfl)
  have HKK := Lib.hid hK
  clear hl hr hK
  have S0 : Hid (Row (w1.alloc (.cells (cells8 (List.replicate 64 0)).toArray 337)) w1.heap.size 337 (cells8 (List.replicate 64 0))) := Lib.hid (heap_alloc_new _ _)
  go_upto_region 2 with (refine Row.store (g := w1.heap.size) (t := 337) (L := cells8 (List.replicate 64 0)) (M := cells8 K) S0.out rfl 337 (.tmp 5) (.tmp 11) rfl rfl rfl HI2.out HZ.out (cells8_one _) ?_; rintro w2 hw2 r2; have b2 : Below w1.heap.size w1 w2 := (by rw [hw2]; exact ((Below.refl _ _).alloc (Nat.le_refl _) _).grown (grown_setRow _ _ _) (by simp) (fun k hk => by cases hk; exact Nat.le_refl _)); clear hw2)
  obtain ⟨g5, hg5⟩ : ∃ g, g = w1.heap.size := ⟨_, rfl⟩
  rw [← hg5] at r2 ⊢
  have hg5w : w.heap.size ≤ g5 := by have := hb1.size; omega
  have bb2 := hb1.trans (b2.mono hb1.size)
  clear S0 HI2 HZ hg5 b2 hb1
  have hmk : ∀ w : World, (Instr.makeSlice 24 (.int .i64 (64 : Int)) (.int .i64 (64 : Int))).run Tryz.prog w = .ok (.slice (some ⟨w.heap.size, 0, none⟩) 64 64) (w.alloc (.cells (cells8 (List.replicate 64 0)).toArray 5)) := make_u8 64 (by omega)
  go_wp2
  clear hmk
  obtain ⟨g6, hg6⟩ : ∃ g, g = w2.heap.size := ⟨_, rfl⟩
  have r6 : Row (w2.alloc (.cells (cells8 (List.replicate 64 0)).toArray 5)) w2.heap.size 5 (cells8 (List.replicate 0 b ++ List.replicate (64 - 0) 0)) := heap_alloc_new _ _
  have hg56 : g5 < w2.heap.size := r2.lt
  go_loopw [7, 15] (fun _ i wr => ∃ j : Nat, j ≤ 64 ∧ i = .int .i64 (j : Int) ∧ Row wr w2.heap.size 5 (cells8 (List.replicate j b ++ List.replicate (64 - j) 0)) ∧ Below w2.heap.size w2 wr) (fun _ i _ => 64 - (intOf i).toNat)
  case atStart => exact ⟨0, Nat.zero_le _, rfl, r6, (Below.refl _ _).alloc (Nat.le_refl _) _⟩
  case round =>
    clear r6 hg6
    obtain ⟨j, hj, rfl, r, hbr⟩ := hrel
    by_cases hlt : j < 64
    · have hjn : (j : Int) < 64 := by omega
      have hd : decide ((j : Int) < 64) = true := by simp; omega
      have cr := r.cell (at_rep 64 j b hlt)
      have fr := r.free j
      have rn := r.setCell (i := j) (.int .u8 (bv b))
      rw [set_rep 64 j b hlt] at rn
      have RN := Lib.hid rn
      clear rn r
      go_wp2
      go_roundw
      case rel => exact ⟨j + 1, by omega, by go_num, RN.out, hbr.setCell (Nat.le_refl _) _⟩
      case measure => simp [intOf]; omega
    · obtain rfl : j = 64 := by omega
      have hd : decide ((64 : Int) < 64) = false := by decide
      rw [show ((64 : Nat) : Int) = 64 from rfl]
      have e : List.replicate 64 b ++ List.replicate (64 - 64) 0 = List.replicate 64 b := by simp
      rw [e] at r
      have hra := ((r2.below hbr hg56).rdAll)
      have hrb := r.rdAll
      rw [List.length_replicate] at hrb
      rw [HL.out] at hra
      have HRA := Lib.hid hra
      have HRB := Lib.hid hrb
      clear hra hrb e
      go_wp2_with fail
      rw [← HL.out]
      refine (xor_any (some ⟨g5, 0, none⟩) (some ⟨w2.heap.size, 0, none⟩) K.length K.length K (List.replicate 64 b) _ (by rw [HL.out]; exact HRA.out) (by rw [HL.out]; exact HRB.out) (by have := HL.out; omega)).mono ?_
      rintro e w3 ⟨g, rfl, rx, hgx, hbx⟩
      rw [HL.out]
      have e2 : xorL K (List.replicate 64 b) = xorC K b := by rw [← HL.out]; exact xorL_rep K b
      rw [e2] at rx
      have hw3 : w.heap.size ≤ wr.heap.size := by have := bb2.size; have := hbr.size; omega
      have bb3 := (bb2.trans (hbr.mono bb2.size)).trans (hbx.mono hw3)
      clear e2
      go_wp2
      go_ret
      exact ⟨g, rfl, by rw [← HKK.out]; exact rx, by omega, bb3⟩
end Go.Proofs.YtbkpgmlibiclfaaGreatDoor
