/- Numbers as bytes and out of bytes: the exported functions. -/
import Derived.Test.YtbkpgmlibiclfaaGreatDoorShC
namespace Go.Proofs.YtbkpgmlibiclfaaGreatDoor
open Go.RowKit

/-- New bytes come back. -/
def NewB (l : List B8) (w : World) (e : Ending) (w' : World) : Prop := ∃ g, e = .returned (.slice (some ⟨g, 0, none⟩) l.length l.length) ∧ Row w' g 5 (cells8 l) ∧ w.heap.size ≤ g ∧ Below w.heap.size w w'

theorem putD32_any (x : W) (w : World) : Calls Tryz.prog 191 #[.int .u32 (wv x)] w (NewB (beB x.toNat 4) w) := by
  have hx := x.isLt
  have hx0 := (wv_lt x).1
  have hx1 := (wv_lt x).2
  go_enter Tryz.func191, Tryz.ntmps191
  go_wp2_with fail
  rw [show wv x = (x.toNat : Int) from rfl]
  refine (put_any x.toNat 4 (by omega) (by omega) _).mono ?_
  rintro e w1 ⟨g, rfl, hrow, hg, hb⟩
  go_wp2
  go_ret
  exact ⟨g, by rw [beB_len]; rfl, hrow, hg, hb⟩
theorem putD64_any (v : Nat) (hv : v < 18446744073709551616) (w : World) : Calls Tryz.prog 211 #[.int .u64 (v : Int)] w (NewB (beB v 8) w) := by
  have HV := Lib.hid hv
  clear hv
  go_enter Tryz.func211, Tryz.ntmps211
  go_wp2_with fail
  refine (put_any v 8 HV.out (by omega) _).mono ?_
  rintro e w1 ⟨g, rfl, hrow, hg, hb⟩
  go_wp2
  go_ret
  exact ⟨g, by rw [beB_len]; rfl, hrow, hg, hb⟩
theorem numB_snoc (l : List B8) (b : B8) : numB (l ++ [b]) = numB l * 256 + b.toNat := by simp [numB]
theorem numB_lt (l : List B8) : numB l < 256 ^ l.length := by
  have h : ∀ (l : List B8) (v k : Nat), v < 256 ^ k → l.foldl (fun v b => v * 256 + b.toNat) v < 256 ^ (k + l.length) := by
    intro l
    induction l with
    | nil => intro v k h; simpa using h
    | cons b t ih =>
      intro v k h
      have hb := b.isLt
      have := ih (v * 256 + b.toNat) (k + 1) (by rw [Nat.pow_succ]; omega)
      simp only [List.foldl_cons, List.length_cons]
      rw [show k + (t.length + 1) = k + 1 + t.length by omega]; exact this
  have := h l 0 0 (by simp)
  simpa [numB] using this
theorem numB_take (l : List B8) (k : Nat) (hk : k < l.length) : numB (l.take (k + 1)) = numB (l.take k) * 256 + l[k].toNat := by
  rw [List.take_succ_eq_append_getElem hk, numB_snoc]
theorem numB_take_lt (l : List B8) (k : Nat) (hk : k ≤ 4) : numB (l.take k) < 4294967296 := by
  have h1 := numB_lt (l.take k)
  have h2 : (l.take k).length ≤ 4 := Nat.le_trans (List.length_take_le _ _) hk
  have h3 : 256 ^ (l.take k).length ≤ 256 ^ 4 := Nat.pow_le_pow_right (by omega) h2
  omega
theorem or_bytes (V b : Nat) (hV : V < 72057594037927936) (hb : b < 256) : bits .or .u64 ((V : Int) * 256) (b : Int) = ((V * 256 + b : Nat) : Int) := by
  have e : ((V : Int) * 256) = ((V * 256 : Nat) : Int) := by omega
  rw [e, bits_or_u64_nat _ _ (by omega) (by omega)]
  have := Nat.shiftLeft_add_eq_or_of_lt (b := b) (i := 8) (by omega) V
  rw [Nat.shiftLeft_eq] at this
  rw [← this]

set_option maxRecDepth 100000 in
set_option maxHeartbeats 1000000 in
theorem get4_any (A : Option Addr) (c : Nat) (l : List B8) (w : World) (hr : Rd w w.heap.size 1 A 4 (cells8 l)) :
    Calls Tryz.prog 389 #[.slice A 4 c, .int .i64 4] w fun e w' => e = .returned (.tuple #[.int .u64 (numB l : Int), .int .i64 0]) ∧ Below w.heap.size w w' := by
  have HL := Lib.hid hr.len8
  go_enter Tryz.func389, Tryz.ntmps389
  go_wp2
  go_loopw [6, 8, 21] (fun v _ i wr => ∃ k : Nat, k ≤ 4 ∧ v = .int .u64 (numB (l.take k) : Int) ∧ i = .int .i64 (k : Int) ∧ wr = w) (fun _ _ i _ => 4 - (intOf i).toNat)
  case atStart => exact ⟨0, Nat.zero_le _, rfl, rfl, rfl⟩
  case round =>
    obtain ⟨k, hk, rfl, rfl, rfl⟩ := hrel
    by_cases hlt : k < 4
    · have hkl : k < l.length := by have := HL.out; omega
      obtain ⟨ad, rfl, _, c0⟩ := hr.at8 hkl
      have hb := l[k].isLt
      have hbv : bv l[k] = (l[k].toNat : Int) := rfl
      have hV := numB_take_lt l k hk
      have hor := or_bytes (numB (l.take k)) l[k].toNat (by omega) hb
      have hst : Hid (numB (l.take (k + 1)) = numB (l.take k) * 256 + l[k].toNat) := numB_take l k hkl
      have HO := Lib.hid hor
      clear hor
      go_wp2
      go_roundw
      case rel => exact ⟨k + 1, by omega, by rw [hst.out, HO.out], by go_num, by first | rfl | trivial⟩
      case measure => simp [intOf]; omega
    · have h4 : k = 4 := by omega
      subst h4
      have hall : l.take 4 = l := List.take_of_length_le (by have := HL.out; omega)
      rw [hall]
      go_wp2
      refine bodyPost_ret (v := .tuple #[.int .u64 (numB l : Int), .int .i64 0]) (by simp [results, Tryz.results389, go_sem]) rfl ⟨rfl, Below.refl _ _⟩

theorem getD32_any (A : Option Addr) (c : Nat) (l : List B8) (w : World) (hr : Rd w w.heap.size 1 A 4 (cells8 l)) :
    Calls Tryz.prog 309 #[.slice A 4 c] w fun e w' => e = .returned (.tuple #[.int .u32 (wv (BitVec.ofNat 32 (numB l))), .int .i64 0]) ∧ Below w.heap.size w w' := by
  have hV : numB l < 4294967296 := by have := numB_take_lt l 4 (Nat.le_refl _); rwa [List.take_of_length_le (by have := hr.len8; omega)] at this
  have hm : wv (BitVec.ofNat 32 (numB l)) = (numB l : Int) := by unfold wv; rw [BitVec.toNat_ofNat]; omega
  rw [hm]
  go_enter Tryz.func309, Tryz.ntmps309
  go_wp2_with fail
  refine (get4_any A c l _ hr).mono ?_
  rintro e w1 ⟨rfl, hb⟩
  go_wp2
  refine bodyPost_ret (v := .tuple #[.int .u32 (numB l : Int), .int .i64 0]) (by simp [results, Tryz.results309, go_sem]) rfl ⟨rfl, hb⟩

end Go.Proofs.YtbkpgmlibiclfaaGreatDoor
