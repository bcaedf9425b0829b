/- Rotations. -/
import Derived.Test.YtbkpgmlibiclfaaGreatDoorShA
import Derived.Laws.Bits64b
namespace Go.Proofs.YtbkpgmlibiclfaaGreatDoor
open Go.RowKit

theorem w_shrp (a : W) (k : Nat) : (a.toNat : Int) / 2 ^ k = ((a >>> k).toNat : Int) := by
  have := w_shr a k
  rw [Int.natCast_pow] at this
  exact this
theorem w_shlp (a : W) (k : Nat) : (a.toNat : Int) * 2 ^ k % 4294967296 = ((a <<< k).toNat : Int) := by
  have := w_shl a k
  rw [Int.natCast_pow, wrap_u32] at this
  exact this
theorem rot_val (x : W) (n : Nat) : bits .or .u32 (wv x / 2 ^ n) (wv x * 2 ^ (32 - n) % 4294967296) = wv (rotr x n) := by
  unfold wv
  rw [w_shrp, w_shlp, w_or]; rfl
theorem rot_val2 (x : W) (n : Nat) : bits .or .u32 (wv x * 2 ^ (32 - n) % 4294967296) (wv x / 2 ^ n) = wv (rotr x n) := by
  unfold wv
  rw [w_shrp, w_shlp, w_or, BitVec.or_comm]; rfl
theorem rot_mask (n : Nat) (hn0 : 0 < n) (hn : n < 32) : bits .and .u64 (IntKind.u64.wrap (-(n : Int))) 31 = ((32 - n : Nat) : Int) := by
  have e : IntKind.u64.wrap (-(n : Int)) = ((18446744073709551616 - n : Nat) : Int) := by rw [IntKind.wrap_u64]; omega
  rw [e]
  have h := bits_and_u64_nat (18446744073709551616 - n) 31 (by omega) (by omega)
  refine h.trans ?_
  have h2 : (18446744073709551616 - n) &&& 31 = (18446744073709551616 - n) % 32 := Nat.and_two_pow_sub_one_eq_mod _ 5
  rw [h2]
  omega

theorem rotl_any (x : W) (n : Nat) (hn0 : 0 < n) (hn : n < 32) (w : World) :
    Calls Tryz.prog 390 #[.int .u32 (wv x), .int .i64 (-(n : Int))] w fun e w' => e = .returned (.int .u32 (wv (rotr x n))) ∧ Below w.heap.size w w' := by
  obtain ⟨s, hs⟩ : ∃ s, s = 32 - n := ⟨_, rfl⟩
  have hm : bits .and .u64 (IntKind.u64.wrap (-(n : Int))) 31 = (s : Int) := by rw [hs]; exact rot_mask n hn0 hn
  have hsub : IntKind.u64.wrap (32 - (s : Int)) = (n : Int) := by rw [IntKind.wrap_u64]; omega
  have hs32 : (s : Int) < 32 := by omega
  have HS := Lib.hid hs
  clear hs
  go_enter Tryz.func390, Tryz.ntmps390
  go_wp2
  go_ret
  exact ⟨ret_int (by rw [HS.out]; exact rot_val2 x n), Below.refl _ _⟩

theorem rot_any (x : W) (n : Nat) (hn0 : 0 < n) (hn : n < 32) (w : World) :
    Calls Tryz.prog 310 #[.int .u32 (wv x), .int .i64 (-(n : Int))] w fun e w' => e = .returned (.int .u32 (wv (rotr x n))) ∧ Below w.heap.size w w' := by
  have hrem : (-(n : Int)).tmod 32 = -(n : Int) := by rw [Int.neg_tmod, Int.tmod_eq_of_lt (by omega) (by omega)]
  go_enter Tryz.func310, Tryz.ntmps310
  go_wp2_with fail
  refine (rotl_any x n hn0 hn _).mono ?_
  rintro e w1 ⟨rfl, hb⟩
  go_wp2
  go_ret
  exact ⟨rfl, hb⟩

theorem dRotr_any (x : W) (n : Nat) (hn0 : 0 < n) (hn : n < 32) (w : World) :
    Calls Tryz.prog 248 #[.int .u32 (wv x), .int .i64 n] w fun e w' => e = .returned (.int .u32 (wv (rotr x n))) ∧ Below w.heap.size w w' := by
  go_enter Tryz.func248, Tryz.ntmps248
  go_wp2_with fail
  refine (rot_any x n hn0 hn _).mono ?_
  rintro e w1 ⟨rfl, hb⟩
  go_wp2
  go_ret
  exact ⟨rfl, hb⟩
end Go.Proofs.YtbkpgmlibiclfaaGreatDoor
