/- HMAC: the key block, the exclusive or. -/
import Derived.Test.YtbkpgmlibiclfaaGreatDoorShO
import Derived.Laws.Bits64
namespace Go.Proofs.YtbkpgmlibiclfaaGreatDoor
open Go.RowKit

def keyB (k : List B8) : List B8 := k ++ List.replicate (64 - k.length) 0
def xorC (k : List B8) (c : B8) : List B8 := k.map (· ^^^ c)
/-- HMAC, of a key of at most 64 bytes. -/
def hmacF (k m : List B8) : List B8 := shaF (xorC (keyB k) 0x5c ++ shaF (xorC (keyB k) 0x36 ++ m))
theorem keyB_len (k : List B8) (h : k.length ≤ 64) : (keyB k).length = 64 := by simp [keyB]; omega
theorem xorC_len (k : List B8) (c : B8) : (xorC k c).length = k.length := by simp [xorC]
theorem wrap_u8 (n : Int) : IntKind.u8.wrap n = n % 256 := by simp [IntKind.wrap, IntKind.bits, IntKind.signed]
theorem b_xor (a b : B8) : bits .xor .u8 (bv a) (bv b) = bv (a ^^^ b) := by
  unfold bv
  show IntKind.u8.wrap ((BitVec.ofInt 8 (a.toNat : Int) ^^^ BitVec.ofInt 8 (b.toNat : Int)).toNat : Int) = _
  rw [BitVec.ofInt_natCast, BitVec.ofInt_natCast, BitVec.ofNat_toNat, BitVec.ofNat_toNat, BitVec.setWidth_eq, BitVec.setWidth_eq, wrap_u8]
  have := (a ^^^ b).isLt
  omega
theorem b_or (a b : B8) : bits .or .u8 (bv a) (bv b) = bv (a ||| b) := by
  unfold bv
  show IntKind.u8.wrap ((BitVec.ofInt 8 (a.toNat : Int) ||| BitVec.ofInt 8 (b.toNat : Int)).toNat : Int) = _
  rw [BitVec.ofInt_natCast, BitVec.ofInt_natCast, BitVec.ofNat_toNat, BitVec.ofNat_toNat, BitVec.setWidth_eq, BitVec.setWidth_eq, wrap_u8]
  have := (a ||| b).isLt
  omega
theorem splice_zero {α : Type} (L q : List α) : splice L 0 q = q ++ L.drop q.length := by simp [splice]

set_option maxRecDepth 100000 in
set_option maxHeartbeats 1000000 in
theorem macBlock_any (A : Option Addr) (c : Nat) (k : List B8) (w : World) (hr : Rd w w.heap.size 1 A k.length (cells8 k)) (hk : k.length ≤ 64) :
    Calls Tryz.prog 213 #[.slice A k.length c] w fun e w' => e = .returned (.agg (cells8 (keyB k)).toArray) ∧ Below w.heap.size w w' := by
  have HK := Lib.hid hk
  have hd : decide (64 < k.length) = false := by simp; omega
  have hd2 : ¬ (64 < (k.length : Int)) := by omega
  clear hk
  go_enter Tryz.func213, Tryz.ntmps213
  go_upto_region 1 with (fail)
  change Code.wp _ _ _ _ (w.alloc (.cells (cells8 (List.replicate 64 0)).toArray 337))
  obtain ⟨wz, hwz⟩ : ∃ wz, wz = (w.alloc (.cells (cells8 (List.replicate 64 0)).toArray 337)) := ⟨_, rfl⟩
  obtain ⟨g2, h2⟩ : ∃ g, g = w.heap.size := ⟨_, rfl⟩
  have hb : Below w.heap.size w wz := by rw [hwz]; exact (Below.refl _ _).alloc (Nat.le_refl _) _
  have r2 : Row wz g2 337 (cells8 (List.replicate 64 0)) := by rw [hwz, h2]; exact heap_alloc_new _ _
  have hg2 : w.heap.size ≤ g2 := by omega
  rw [← hwz, ← h2]
  clear hwz h2
  obtain ⟨w3, hr3, r3, gr3⟩ := copy_ex (P := Tryz.prog) (w := wz) 24 24 3 5 1 Tryz.underlying24 (by kernel_rfl) g2 0 64 64 k.length c k.length (some ⟨g2, 0, none⟩) A _ (cells8 k) 337 r2 (Nat.min_eq_left HK.out).symm (by rw [cells8_len, Nat.mul_one]) (fun _ => rfl) (fun h0 => by obtain ⟨ad, e, _, hc⟩ := (hr.below hb (Nat.le_refl _)).2 h0; exact ⟨ad, e, hc⟩) (by rw [cells8_len, cells8_len, List.length_replicate]; have := HK.out; omega) (cells8_ones _)
  have e3 : splice (cells8 (List.replicate 64 0)) 0 (cells8 k) = cells8 (keyB k) := by
    rw [cells8_splice, splice_zero, List.drop_replicate]; rfl
  rw [e3] at r3
  have b3 := hb.grown gr3 hb.size (fun k hk => by cases hk; exact hg2)
  have HR3 := Lib.hid hr3
  have hl := keyB_len k HK.out
  have HI2 := Lib.hid (show (Tryz.prog.info? 337).map (·.size) = some (cells8 (keyB k)).length by rw [cells8_len, hl]; kernel_rfl)
  have HI3 := Lib.hid (show (Tryz.prog.info? 337).map (·.size) = some (cells8 (keyB k)).toArray.size by rw [List.size_toArray, cells8_len, hl]; kernel_rfl)
  clear hr3 r2 gr3 hb e3 hl
  go_wp2_with (first
    | (refine wpList_copy_run rfl (.tmp 11) (.tmp 12) 24 24 rfl _ _ rfl rfl HR3.out ?_)
    | (refine wpList_load_row rfl 337 (.tmp 2) rfl g2 rfl 337 (cells8 (keyB k)).toArray (0, 0) _ r3 Tryz.underlying337 rfl HI3.out ?_)
    | (refine Row.store (g := g2) (t := 337) (L := cells8 (keyB k)) (M := cells8 (keyB k)) r3 rfl 337 (.tmp 2) (.tmp 14) rfl rfl rfl HI2.out rfl (cells8_one _) ?_; rintro wF hwF rF; have bF : Below w.heap.size w wF := (by rw [hwF]; exact b3.grown (grown_setRow _ _ _) b3.size (fun k hk => by cases hk; exact hg2)); clear hwF))
  refine bodyPost_ret (v := .agg (cells8 (keyB k)).toArray) (results_cell_row Tryz.results213 _ wF g2 337 _ (0, 0) _ rfl rF Tryz.underlying337 rfl HI3.out) rfl ⟨rfl, bF⟩

theorem make_zero8 (n : Nat) : (List.replicate n (Value.int .u8 0)) = cells8 (List.replicate n 0) := by simp [cells8, bv]
def xorL (a b : List B8) : List B8 := List.zipWith (· ^^^ ·) a b
/-- The first j of them are written. -/
def xorJ (a b : List B8) (j : Nat) : List B8 := (xorL a b).take j ++ List.replicate (a.length - j) 0
theorem xorJ_zero (a b : List B8) : xorJ a b 0 = List.replicate a.length 0 := rfl
theorem xorJ_all (a b : List B8) (h : b.length = a.length) : xorJ a b a.length = xorL a b := by
  have hl : (xorL a b).length = a.length := by simp [xorL]; omega
  rw [xorJ, List.take_of_length_le (by omega), Nat.sub_self]
  exact List.append_nil _
theorem xorJ_at (a b : List B8) (j : Nat) (h : b.length = a.length) (hj : j < a.length) : (cells8 (xorJ a b j))[j]? = some (.int .u8 0) := by
  have h1 : ((xorL a b).take j).length = j := by simp [xorL]; omega
  rw [cells8, List.getElem?_map, xorJ, List.getElem?_append_right (by omega), h1, Nat.sub_self, List.getElem?_replicate]
  simp [bv]; omega
theorem xorJ_set (a b : List B8) (j : Nat) (h : b.length = a.length) (hj : j < a.length) : (cells8 (xorJ a b j)).set j (.int .u8 (bv (a[j] ^^^ b[j]'(by omega)))) = cells8 (xorJ a b (j + 1)) := by
  have hl : (xorL a b).length = a.length := by simp [xorL]; omega
  have h1 : ((xorL a b).take j).length = j := by rw [List.length_take]; omega
  have h3 : (xorL a b)[j]'(by omega) = a[j] ^^^ b[j]'(by omega) := by simp [xorL]
  have e : (xorJ a b j).set j (a[j] ^^^ b[j]'(by omega)) = xorJ a b (j + 1) := by
    rw [xorJ, List.set_append_right _ _ (by omega), h1, Nat.sub_self, show a.length - j = (a.length - (j + 1)) + 1 by omega, List.replicate_succ, List.set_cons_zero, xorJ, List.take_succ_eq_append_getElem (by omega), h3]
    simp
  rw [← e, cells8, cells8, List.map_set]

set_option maxRecDepth 100000 in
set_option maxHeartbeats 2000000 in
theorem xor_any (A C : Option Addr) (c c' : Nat) (a b : List B8) (w : World) (ha : Rd w w.heap.size 1 A a.length (cells8 a)) (hb : Rd w w.heap.size 1 C a.length (cells8 b)) (hm : a.length ≤ 1000000) :
    Calls Tryz.prog 214 #[.slice A a.length c, .slice C a.length c'] w fun e w' => ∃ g, e = .returned (.tuple #[.slice (some ⟨g, 0, none⟩) a.length a.length, .int .i64 0]) ∧ Row w' g 5 (cells8 (xorL a b)) ∧ w.heap.size ≤ g ∧ Below w.heap.size w w' := by
  have hbl := hb.len8
  have HBL := Lib.hid hbl
  have HM := Lib.hid hm
  have hmk := make_u8 a.length hm
  rw [make_zero8] at hmk
  have hd : decide (a.length < a.length) = false := by simp
  obtain ⟨n, hn⟩ : ∃ n, n = a.length := ⟨_, rfl⟩
  rw [← hn] at hmk ha hb ⊢
  have hn0 : (n : Int) ≤ 1000000 := by omega
  have HN := Lib.hid hn
  clear hm hbl hn hd
  go_enter Tryz.func214, Tryz.ntmps214
  go_wp2
  clear hmk
  go_loopw [7, 25] (fun _ i wr => ∃ j : Nat, j ≤ n ∧ i = .int .i64 (j : Int) ∧ Row wr w.heap.size 5 (cells8 (xorJ a b j)) ∧ Below w.heap.size w wr) (fun _ i _ => n - (intOf i).toNat)
  case atStart => exact ⟨0, Nat.zero_le _, rfl, by rw [xorJ_zero, ← HN.out]; exact heap_alloc_new _ _, (Below.refl _ _).alloc (Nat.le_refl _) _⟩
  case round =>
    obtain ⟨j, hj, rfl, r, hbr⟩ := hrel
    by_cases hlt : j < n
    · have hjn : (j : Int) < (n : Int) := by omega
      have hja : j < a.length := by rw [← HN.out]; exact hlt
      have hjb : j < b.length := by rw [← HBL.out, ]; exact hja
      obtain ⟨ad, rfl, had, ca⟩ := ha.at8 hja
      obtain ⟨bd, rfl, hbd, cb⟩ := hb.at8 hjb
      obtain ⟨x, hx⟩ : ∃ x, x = a[j] := ⟨_, rfl⟩
      obtain ⟨y, hy⟩ : ∃ y, y = b[j] := ⟨_, rfl⟩
      rw [← hx] at ca
      rw [← hy] at cb
      have c1 := (hbr.cell (p := ad.add j) (by rw [add_block]; exact had)).trans ca
      have c2 := (hbr.cell (p := bd.add j) (by rw [add_block]; exact hbd)).trans cb
      have cr := r.cell (xorJ_at a b j HBL.out.symm hja)
      have fr := r.free j
      have rn := r.setCell (i := j) (.int .u8 (bv (x ^^^ y)))
      rw [hx, hy, xorJ_set a b j HBL.out.symm hja, ← hx, ← hy] at rn
      have RN := Lib.hid rn
      have hxy := b_xor x y
      have HX := Lib.hid hx
      have HY := Lib.hid hy
      clear hx hy rn ca cb had hbd r
      go_upto_region 9 with (fail)
      refine still_tail 12 (by kernel_rfl) (by kernel_rfl) ?_
      simp only [List.take_succ_cons, List.take_zero, List.drop_succ_cons, List.drop_zero]
      repeat still_step
      refine wpStill_nil ?_
      go_wp2
      go_roundw
      case rel => exact ⟨j + 1, by omega, by go_num, RN.out, below_drewN' (hbr.setCell (Nat.le_refl _) _) 1⟩
      case measure => simp [intOf]; omega
    · have hjn : j = n := by omega
      have hd : decide ((j : Int) < (n : Int)) = false := by simp; omega
      have HJ := Lib.hid hjn
      clear hjn
      go_wp2
      have e : cells8 (xorJ a b j) = cells8 (xorL a b) := by rw [HJ.out, HN.out, xorJ_all a b HBL.out.symm]
      rw [e] at r
      refine bodyPost_ret (v := .tuple #[.slice (some ⟨w.heap.size, 0, none⟩) n n, .int .i64 0]) (by simp [results, Tryz.results214, go_sem]) rfl ⟨_, rfl, r, Nat.le_refl _, hbr⟩
end Go.Proofs.YtbkpgmlibiclfaaGreatDoor
