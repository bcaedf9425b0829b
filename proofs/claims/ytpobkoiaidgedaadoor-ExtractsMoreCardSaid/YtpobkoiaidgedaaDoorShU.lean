/- A tag verified; Extract. -/
import Derived.Test.YtpobkoiaidgedaaDoorShT
namespace Go.Proofs.YtpobkoiaidgedaaDoor
open Go.RowKit

def orX (a b : List B8) : Nat → B8
  | 0 => 0
  | j + 1 => orX a b j ||| (a.getD j 0 ^^^ b.getD j 0)
theorem or_zero (x y : B8) : x ||| y = 0 ↔ x = 0 ∧ y = 0 := by
  constructor
  · intro h
    constructor <;>
    · apply BitVec.eq_of_getLsbD_eq
      intro i hi
      have h2 := congrArg (fun z => z.getLsbD i) h
      simp only [BitVec.getLsbD_or] at h2
      have h3 : (0 : B8).getLsbD i = false := by simp
      rw [h3] at h2 ⊢
      simp only [Bool.or_eq_false_iff] at h2
      first | exact h2.1 | exact h2.2
  · rintro ⟨rfl, rfl⟩; rfl
theorem xor_zero (x y : B8) : x ^^^ y = 0 ↔ x = y := by
  constructor
  · intro h
    apply BitVec.eq_of_getLsbD_eq
    intro i hi
    have h2 := congrArg (fun z => z.getLsbD i) h
    have h3 : (0 : B8).getLsbD i = false := by simp
    simp only [BitVec.getLsbD_xor, h3] at h2
    revert h2
    cases x.getLsbD i <;> cases y.getLsbD i <;> simp
  · rintro rfl; exact BitVec.xor_self
theorem orX_zero (a b : List B8) (j : Nat) : orX a b j = 0 ↔ ∀ i, i < j → a.getD i 0 = b.getD i 0 := by
  induction j with
  | zero => simp [orX]
  | succ j ih =>
    rw [orX, or_zero, xor_zero, ih]
    constructor
    · rintro ⟨h1, h2⟩ i hi
      rcases Nat.lt_or_ge i j with h | h
      · exact h1 i h
      · rw [show i = j by omega]; exact h2
    · intro h
      exact ⟨fun i hi => h i (by omega), h j (by omega)⟩
theorem orX_eq (a b : List B8) (ha : a.length = 32) (hb : b.length = 32) : (bv (orX a b 32) == 0) = decide (a = b) := by
  have h1 : (bv (orX a b 32) = 0) ↔ orX a b 32 = 0 := by
    constructor
    · intro h
      apply BitVec.eq_of_toNat_eq
      unfold bv at h
      have : (orX a b 32).toNat = 0 := by omega
      rw [this]; rfl
    · intro h; rw [h]; rfl
  have h2 : orX a b 32 = 0 ↔ a = b := by
    rw [orX_zero]
    constructor
    · intro h
      apply List.ext_getElem (by omega)
      intro i h3 h4
      have := h i (by omega)
      simpa [List.getD, List.getElem?_eq_getElem h3, List.getElem?_eq_getElem h4] using this
    · rintro rfl _ _; rfl
  rw [Bool.eq_iff_iff, beq_iff_eq, decide_eq_true_iff]
  exact h1.trans h2
theorem cells8_getD (l : List B8) (j : Nat) (h : j < l.length) : (cells8 l)[j]? = some (.int .u8 (bv (l.getD j 0))) := by
  rw [cells8, List.getElem?_map, List.getElem?_eq_getElem h]; simp [List.getD, List.getElem?_eq_getElem h]

set_option maxRecDepth 100000 in
set_option maxHeartbeats 2000000 in
theorem verify_any (A : Option Addr) (c : Nat) (k : List B8) (A2 : Option Addr) (n c2 : Nat) (m tag : List B8) (w : World) (hG : Glob w) (hrk : Rd w w.heap.size 1 A k.length (cells8 k)) (hk : k.length ≤ 64)
    (hrm : Rd w w.heap.size 1 A2 n (cells8 m)) (hn : n ≤ c2) (hc2 : c2 ≤ maxLen) (hm : m.length < 700000000) (ht : tag.length = 32) :
    Calls Tryd.prog 27 #[.slice A k.length c, .slice A2 n c2, .agg (cells8 tag).toArray] w fun e w' => e = .returned (.bool (decide (hmacF k m = tag))) ∧ Below w.heap.size w w' := by
  obtain rfl : n = m.length := hrm.len8
  have HM := Lib.hid hm
  have HN := Lib.hid hn
  have HC2 := Lib.hid hc2
  have HT := Lib.hid ht
  have HK := Lib.hid hk
  have HG := Lib.hid hG
  clear hm hn hc2 ht hk hG
  go_enter Tryd.func27, Tryd.ntmps27
  go_upto_region 1 with (fail)
  obtain ⟨wz, hwz⟩ : ∃ wz, wz = (w.alloc (.cells (cells8 tag).toArray 39)) := ⟨_, rfl⟩
  obtain ⟨g5, h5⟩ : ∃ g, g = w.heap.size := ⟨_, rfl⟩
  have hb : Below w.heap.size w wz := by rw [hwz]; exact (Below.refl _ _).alloc (Nat.le_refl _) _
  have r5 : Row wz g5 39 (cells8 tag) := by rw [hwz, h5]; exact heap_alloc_new _ _
  have hg5w : w.heap.size ≤ g5 := by omega
  rw [← hwz, ← h5]
  clear hwz h5
  have hrk1 := (hrk.below hb (Nat.le_refl _)).mono hb.size
  have hrm1 := (hrm.below hb (Nat.le_refl _)).mono hb.size
  have hba : Below wz.heap.size wz (wz.alloc (.cells #[.slice A2 m.length c2] 34)) := (Below.refl _ _).alloc (Nat.le_refl _) _
  have HRK := Lib.hid (hrk1.step hba)
  have HP := Lib.hid ((Parts.cons hrm1 HN.out HC2.out Parts.nil).step hba)
  have HRL := Lib.hid (Rd.lit1 (w := wz) (cs := [.slice A2 m.length c2]) (t := 34) (size := 1) (n := 1) rfl rfl)
  clear hrk hrm hrk1 hrm1
  go_wp2_with fail
  refine (macOf_any A c k _ 1 _ [.slice A2 m.length c2] [m] _ (HG.out.step (hb.trans (hba.mono hb.size))) HRK.out HK.out rfl HRL.out HP.out (by have := HM.out; simp only [List.flatten_cons, List.flatten_nil, List.length_append, List.length_nil]; omega) (by omega)).mono ?_
  rintro e w1 ⟨rfl, hx⟩
  have hb1 : Below wz.heap.size wz w1 := hba.trans (hx.mono hba.size)
  have r51 := r5.step hb1
  have b1 := hb.trans (hb1.mono hb.size)
  obtain ⟨D, hD⟩ : ∃ D, D = hmacF k m := ⟨_, rfl⟩
  have e1 : hmacF k [m].flatten = D := by rw [hD]; simp
  rw [e1]
  have HDL := Lib.hid (show D.length = 32 by rw [hD]; exact hmac_len _ _)
  have HDD := Lib.hid hD
  have HI4 := Lib.hid (show (Tryd.prog.info? 39).map (·.size) = some (cells8 D).length by rw [cells8_len, HDL.out]; kernel_rfl)
  have HZ4 := Lib.hid (show (cells8 (List.replicate 32 0)).length = (cells8 D).length by rw [cells8_len, cells8_len, HDL.out]; rfl)
  have S0 : Hid (Row (w1.alloc (.cells (cells8 (List.replicate 32 0)).toArray 39)) w1.heap.size 39 (cells8 (List.replicate 32 0))) := Lib.hid (heap_alloc_new _ _)
  clear e1 hD hx hba hb1 r5 hb HRK HP HRL
  go_upto_region 2 with (refine Row.store (g := w1.heap.size) (t := 39) (L := cells8 (List.replicate 32 0)) (M := cells8 D) S0.out rfl 39 (.tmp 7) (.tmp 13) rfl rfl rfl HI4.out HZ4.out (cells8_one _) ?_; rintro w2 hw2 r7; have b12 : Below w1.heap.size w1 w2 := (by rw [hw2]; exact ((Below.refl _ _).alloc (Nat.le_refl _) _).grown (grown_setRow _ _ _) (by simp) (fun k hk => by cases hk; exact Nat.le_refl _)); clear hw2)
  obtain ⟨g7, hg7⟩ : ∃ g, g = w1.heap.size := ⟨_, rfl⟩
  rw [← hg7] at r7 ⊢
  have r5 := r51.step b12
  have b2 := b1.trans (b12.mono b1.size)
  clear hg7 S0 HI4 HZ4 b12 b1 r51
  try simp only [Act.put]
  go_wp2
  go_loopw [8, 9, 14] (fun x _ i wr => ∃ (j q : Nat), j ≤ 32 ∧ i = .int .i64 (j : Int) ∧ x = .int .u8 (bv (orX D tag j)) ∧ wr = w2.drewN q) (fun _ _ i _ => 32 - (intOf i).toNat)
  case atStart => exact ⟨0, 0, Nat.zero_le _, rfl, rfl, rfl⟩
  case round =>
    obtain ⟨j, q, hj, rfl, rfl, rfl⟩ := hrel
    by_cases hlt : j < 32
    · have hd : decide ((j : Int) < 32) = true := by simp; omega
      have hjn : (j : Int) < 32 := by omega
      have c7 := r7.cell (cells8_getD D j (by rw [HDL.out]; exact hlt))
      have c5 := r5.cell (cells8_getD tag j (by rw [HT.out]; exact hlt))
      obtain ⟨x, hx⟩ : ∃ x, x = D.getD j 0 := ⟨_, rfl⟩
      obtain ⟨y, hy⟩ : ∃ y, y = tag.getD j 0 := ⟨_, rfl⟩
      obtain ⟨z, hz⟩ : ∃ z, z = orX D tag j := ⟨_, rfl⟩
      rw [← hx] at c7
      rw [← hy] at c5
      rw [← hz]
      have h1 := b_xor x y
      have h2 := b_or z (x ^^^ y)
      have HZ : Hid (orX D tag (j + 1) = z ||| (x ^^^ y)) := by unfold Hid; rw [orX, hz, hx, hy]
      clear hx hy hz
      go_upto_region 6 with (fail)
      go_quiet (fail)
      go_wp2
      go_roundw
      case rel => exact ⟨j + 1, q + nq, by omega, by go_num, by rw [HZ.out], rfl⟩
      case measure => simp [intOf]; omega
    · obtain rfl : j = 32 := by omega
      have hd : decide ((32 : Int) < 32) = false := by decide
      rw [show ((32 : Nat) : Int) = 32 from rfl]
      have he := orX_eq D tag HDL.out HT.out
      go_wp2
      go_ret
      exact ⟨ret_bool (by rw [← HDD.out]), below_drewN' b2 _⟩

set_option maxRecDepth 100000 in
set_option maxHeartbeats 2000000 in
theorem extract_any (A : Option Addr) (c : Nat) (k : List B8) (A2 : Option Addr) (n c2 : Nat) (m : List B8) (w : World) (hG : Glob w) (hrk : Rd w w.heap.size 1 A k.length (cells8 k)) (hk : k.length ≤ 64)
    (hrm : Rd w w.heap.size 1 A2 n (cells8 m)) (hn : n ≤ c2) (hc2 : c2 ≤ maxLen) (hm : m.length < 700000000) :
    Calls Tryd.prog 29 #[.slice A k.length c, .slice A2 n c2] w fun e w' => e = .returned (.agg (cells8 (hmacF k m)).toArray) ∧ Below w.heap.size w w' := by
  obtain rfl : n = m.length := hrm.len8
  have HM := Lib.hid hm
  have HN := Lib.hid hn
  have HC2 := Lib.hid hc2
  have HK := Lib.hid hk
  have HG := Lib.hid hG
  clear hm hn hc2 hk hG
  go_enter Tryd.func29, Tryd.ntmps29
  go_upto_region 1 with (fail)
  change Code.wp _ _ _ _ (w.alloc (.cells (cells8 (List.replicate 32 0)).toArray 39))
  obtain ⟨wz, hwz⟩ : ∃ wz, wz = (w.alloc (.cells (cells8 (List.replicate 32 0)).toArray 39)) := ⟨_, rfl⟩
  obtain ⟨g4, h4⟩ : ∃ g, g = w.heap.size := ⟨_, rfl⟩
  have hb : Below w.heap.size w wz := by rw [hwz]; exact (Below.refl _ _).alloc (Nat.le_refl _) _
  have r4 : Row wz g4 39 (cells8 (List.replicate 32 0)) := by rw [hwz, h4]; exact heap_alloc_new _ _
  have hg4w : w.heap.size ≤ g4 := by omega
  rw [← hwz, ← h4]
  clear hwz h4
  have hrk1 := (hrk.below hb (Nat.le_refl _)).mono hb.size
  have hrm1 := (hrm.below hb (Nat.le_refl _)).mono hb.size
  have hba : Below wz.heap.size wz (wz.alloc (.cells #[.slice A2 m.length c2] 34)) := (Below.refl _ _).alloc (Nat.le_refl _) _
  have HRK := Lib.hid (hrk1.step hba)
  have HP := Lib.hid ((Parts.cons hrm1 HN.out HC2.out Parts.nil).step hba)
  have HRL := Lib.hid (Rd.lit1 (w := wz) (cs := [.slice A2 m.length c2]) (t := 34) (size := 1) (n := 1) rfl rfl)
  clear hrk hrm hrk1 hrm1
  go_wp2_with fail
  refine (macOf_any A c k _ 1 _ [.slice A2 m.length c2] [m] _ (HG.out.step (hb.trans (hba.mono hb.size))) HRK.out HK.out rfl HRL.out HP.out (by have := HM.out; simp only [List.flatten_cons, List.flatten_nil, List.length_append, List.length_nil]; omega) (by omega)).mono ?_
  rintro e w1 ⟨rfl, hx⟩
  have hb1 : Below wz.heap.size wz w1 := hba.trans (hx.mono hba.size)
  have r41 := r4.step hb1
  have b1 := hb.trans (hb1.mono hb.size)
  have e1 : hmacF k [m].flatten = hmacF k m := by simp
  rw [e1]
  have HI2 := Lib.hid (show (Tryd.prog.info? 39).map (·.size) = some (cells8 (hmacF k m)).length by rw [cells8_len, hmac_len]; kernel_rfl)
  have HI3 := Lib.hid (show (Tryd.prog.info? 39).map (·.size) = some (cells8 (hmacF k m)).toArray.size by rw [List.size_toArray, cells8_len, hmac_len]; kernel_rfl)
  have HZ := Lib.hid (show (cells8 (List.replicate 32 0)).length = (cells8 (hmacF k m)).length by rw [cells8_len, cells8_len, hmac_len]; rfl)
  clear e1 hx hba hb1 r4 hb HRK HP HRL
  go_wp2_with (refine Row.store (g := g4) (t := 39) (L := cells8 (List.replicate 32 0)) (M := cells8 (hmacF k m)) r41 rfl 39 (.tmp 4) (.tmp 8) rfl rfl rfl HI2.out HZ.out (cells8_one _) ?_; rintro wF hwF rF; have bF : Below w.heap.size w wF := (by rw [hwF]; exact b1.grown (grown_setRow _ _ _) b1.size (fun k hk => by cases hk; exact hg4w)); clear hwF)
  refine bodyPost_ret (v := .agg (cells8 (hmacF k m)).toArray) (results_cell_row Tryd.results29 _ wF g4 39 _ (0, 0) _ rfl rF Tryd.underlying39 rfl HI3.out) rfl ⟨rfl, bF⟩
end Go.Proofs.YtpobkoiaidgedaaDoor
