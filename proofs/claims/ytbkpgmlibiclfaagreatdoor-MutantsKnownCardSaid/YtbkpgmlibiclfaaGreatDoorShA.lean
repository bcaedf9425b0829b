/- Words of 32 bits: the walk's arithmetic as that of bit vectors; SHA-256 as a function on lists. -/
import Derived.Test.YtbkpgmlibiclfaaGreatDoorBase
import Derived.Laws.Bits64
namespace Go.Proofs.YtbkpgmlibiclfaaGreatDoor
open Go.RowKit

abbrev W := BitVec 32
theorem wrap_u32 (n : Int) : IntKind.u32.wrap n = n % 4294967296 := by simp [IntKind.wrap, IntKind.bits, IntKind.signed]
theorem w_lt (a : W) : a.toNat < 4294967296 := a.isLt
theorem w_xor (a b : W) : bits .xor .u32 (a.toNat : Int) (b.toNat : Int) = ((a ^^^ b).toNat : Int) := by
  show IntKind.u32.wrap ((BitVec.ofInt 32 (a.toNat : Int) ^^^ BitVec.ofInt 32 (b.toNat : Int)).toNat : Int) = _
  rw [BitVec.ofInt_natCast, BitVec.ofInt_natCast, BitVec.ofNat_toNat, BitVec.ofNat_toNat, BitVec.setWidth_eq, BitVec.setWidth_eq, wrap_u32]
  have := (a ^^^ b).isLt
  omega
theorem w_and (a b : W) : bits .and .u32 (a.toNat : Int) (b.toNat : Int) = ((a &&& b).toNat : Int) := by
  show IntKind.u32.wrap ((BitVec.ofInt 32 (a.toNat : Int) &&& BitVec.ofInt 32 (b.toNat : Int)).toNat : Int) = _
  rw [BitVec.ofInt_natCast, BitVec.ofInt_natCast, BitVec.ofNat_toNat, BitVec.ofNat_toNat, BitVec.setWidth_eq, BitVec.setWidth_eq, wrap_u32]
  have := (a &&& b).isLt
  omega
theorem w_or (a b : W) : bits .or .u32 (a.toNat : Int) (b.toNat : Int) = ((a ||| b).toNat : Int) := by
  show IntKind.u32.wrap ((BitVec.ofInt 32 (a.toNat : Int) ||| BitVec.ofInt 32 (b.toNat : Int)).toNat : Int) = _
  rw [BitVec.ofInt_natCast, BitVec.ofInt_natCast, BitVec.ofNat_toNat, BitVec.ofNat_toNat, BitVec.setWidth_eq, BitVec.setWidth_eq, wrap_u32]
  have := (a ||| b).isLt
  omega
theorem w_add (a b : W) : IntKind.u32.wrap ((a.toNat : Int) + (b.toNat : Int)) = ((a + b).toNat : Int) := by
  rw [wrap_u32, BitVec.toNat_add]; omega
theorem w_shr (a : W) (k : Nat) : (a.toNat : Int) / ((2 ^ k : Nat) : Int) = ((a >>> k).toNat : Int) := by
  rw [BitVec.toNat_ushiftRight, Nat.shiftRight_eq_div_pow]; exact (Int.natCast_ediv _ _).symm
theorem w_shl (a : W) (k : Nat) : IntKind.u32.wrap ((a.toNat : Int) * ((2 ^ k : Nat) : Int)) = ((a <<< k).toNat : Int) := by
  rw [wrap_u32, BitVec.toNat_shiftLeft, Nat.shiftLeft_eq, ← Int.natCast_mul]
  exact (Int.natCast_emod _ _).symm
theorem w_not (a : W) : bits .xor .u32 4294967295 (a.toNat : Int) = ((~~~a).toNat : Int) := by
  have h : ((4294967295 : Int)) = (((BitVec.allOnes 32) : W).toNat : Int) := by decide
  rw [h, w_xor, BitVec.allOnes_xor]

/-- A word as a number: not to be opened by simp. -/
def wv (x : W) : Int := (x.toNat : Int)
theorem wv_lt (x : W) : 0 ≤ wv x ∧ wv x < 4294967296 := by have := x.isLt; unfold wv; omega
theorem v_xor (a b : W) : bits .xor .u32 (wv a) (wv b) = wv (a ^^^ b) := w_xor a b
theorem v_and (a b : W) : bits .and .u32 (wv a) (wv b) = wv (a &&& b) := w_and a b
theorem v_or (a b : W) : bits .or .u32 (wv a) (wv b) = wv (a ||| b) := w_or a b
theorem v_add (a b : W) : IntKind.u32.wrap (wv a + wv b) = wv (a + b) := w_add a b
theorem v_add2 (a b : W) : (wv a + wv b) % 4294967296 = wv (a + b) := by have := v_add a b; rwa [wrap_u32] at this
theorem v_shr3 (a : W) : wv a / (8 : Int) = wv (a >>> 3) := w_shr a 3
theorem v_shr10 (a : W) : wv a / (1024 : Int) = wv (a >>> 10) := w_shr a 10
theorem v_shrA (k : Nat) (a : W) : wv a >>> k = wv (a >>> k) := by
  rw [Int.shiftRight_eq_div_pow]; exact w_shr a k
theorem v_shrB (k : Nat) (a : W) : wv a / 2 ^ k = wv (a >>> k) := by
  have := w_shr a k
  rw [Int.natCast_pow] at this
  exact this
theorem v_not (a : W) : bits .xor .u32 4294967295 (wv a) = wv (~~~a) := w_not a

theorem v_not2 (a : W) : bits .xor .u32 (if IntKind.u32.signed = true then -1 else IntKind.u32.max) (wv a) = wv (~~~a) := by
  have h : (if IntKind.u32.signed = true then -1 else IntKind.u32.max) = 4294967295 := by decide
  rw [h]; exact v_not a

/-! ### SHA-256 -/
def rotr (x : W) (n : Nat) : W := (x >>> n) ||| (x <<< (32 - n))
def ssig0 (x : W) : W := rotr x 7 ^^^ rotr x 18 ^^^ (x >>> 3)
def ssig1 (x : W) : W := rotr x 17 ^^^ rotr x 19 ^^^ (x >>> 10)
def bsig0 (x : W) : W := rotr x 2 ^^^ rotr x 13 ^^^ rotr x 22
def bsig1 (x : W) : W := rotr x 6 ^^^ rotr x 11 ^^^ rotr x 25
def chW (e f g : W) : W := (e &&& f) ||| (~~~e &&& g)
def majW (a b c : W) : W := (a &&& b) ||| (a &&& c) ||| (b &&& c)
theorem ch_xor (e f g : W) : (e &&& f) ^^^ (~~~e &&& g) = chW e f g := by
  unfold chW
  apply BitVec.eq_of_getLsbD_eq
  intro i hi
  simp only [BitVec.getLsbD_xor, BitVec.getLsbD_or, BitVec.getLsbD_and, BitVec.getLsbD_not, hi]
  cases e.getLsbD i <;> cases f.getLsbD i <;> cases g.getLsbD i <;> rfl
theorem maj_xor (a b c : W) : (a &&& b) ^^^ (a &&& c) ^^^ (b &&& c) = majW a b c := by
  unfold majW
  apply BitVec.eq_of_getLsbD_eq
  intro i _
  simp only [BitVec.getLsbD_xor, BitVec.getLsbD_or, BitVec.getLsbD_and]
  cases a.getLsbD i <;> cases b.getLsbD i <;> cases c.getLsbD i <;> rfl

def kTab : List Nat := [
  0x428a2f98, 0x71374491, 0xb5c0fbcf, 0xe9b5dba5, 0x3956c25b, 0x59f111f1, 0x923f82a4, 0xab1c5ed5,
  0xd807aa98, 0x12835b01, 0x243185be, 0x550c7dc3, 0x72be5d74, 0x80deb1fe, 0x9bdc06a7, 0xc19bf174,
  0xe49b69c1, 0xefbe4786, 0x0fc19dc6, 0x240ca1cc, 0x2de92c6f, 0x4a7484aa, 0x5cb0a9dc, 0x76f988da,
  0x983e5152, 0xa831c66d, 0xb00327c8, 0xbf597fc7, 0xc6e00bf3, 0xd5a79147, 0x06ca6351, 0x14292967,
  0x27b70a85, 0x2e1b2138, 0x4d2c6dfc, 0x53380d13, 0x650a7354, 0x766a0abb, 0x81c2c92e, 0x92722c85,
  0xa2bfe8a1, 0xa81a664b, 0xc24b8b70, 0xc76c51a3, 0xd192e819, 0xd6990624, 0xf40e3585, 0x106aa070,
  0x19a4c116, 0x1e376c08, 0x2748774c, 0x34b0bcb5, 0x391c0cb3, 0x4ed8aa4a, 0x5b9cca4f, 0x682e6ff3,
  0x748f82ee, 0x78a5636f, 0x84c87814, 0x8cc70208, 0x90befffa, 0xa4506ceb, 0xbef9a3f7, 0xc67178f2]
def kW (t : Nat) : W := BitVec.ofNat 32 (kTab.getD t 0)

/-- Eight words. -/
structure S8 where
  a : W
  b : W
  c : W
  d : W
  e : W
  f : W
  g : W
  h : W
  deriving DecidableEq
def iv0 : S8 := ⟨0x6a09e667#32, 0xbb67ae85#32, 0x3c6ef372#32, 0xa54ff53a#32, 0x510e527f#32, 0x9b05688c#32, 0x1f83d9ab#32, 0x5be0cd19#32⟩
def roundW (s : S8) (k w : W) : S8 :=
  let t1 := s.h + bsig1 s.e + chW s.e s.f s.g + k + w
  let t2 := bsig0 s.a + majW s.a s.b s.c
  ⟨t1 + t2, s.a, s.b, s.c, s.d + t1, s.e, s.f, s.g⟩
abbrev B8 := BitVec 8
/-- The number that bytes stand for, the most significant one first. -/
def numB (l : List B8) : Nat := l.foldl (fun v b => v * 256 + b.toNat) 0
/-- The last k bytes of a number. -/
def beB (v : Nat) : Nat → List B8
  | 0 => []
  | k + 1 => BitVec.ofNat 8 (v / 256 ^ k) :: beB v k
theorem beB_len (v k : Nat) : (beB v k).length = k := by
  induction k with
  | zero => rfl
  | succ k ih => simp [beB, ih]
/-- Four bytes as a word. -/
def be32 (b : List B8) (i : Nat) : W := BitVec.ofNat 32 (numB ((b.drop i).take 4))
/-- The first t words of the schedule of a block. -/
def schedW (b : List B8) : Nat → List W
  | 0 => []
  | t + 1 => let l := schedW b t
    l ++ [if t < 16 then be32 b (4 * t) else l.getD (t - 16) 0 + l.getD (t - 7) 0 + ssig0 (l.getD (t - 15) 0) + ssig1 (l.getD (t - 2) 0)]
def roundsW (w : List W) (s : S8) : Nat → S8
  | 0 => s
  | t + 1 => roundW (roundsW w s t) (kW t) (w.getD t 0)
def addS (x y : S8) : S8 := ⟨x.a + y.a, x.b + y.b, x.c + y.c, x.d + y.d, x.e + y.e, x.f + y.f, x.g + y.g, x.h + y.h⟩
def compW (s : S8) (b : List B8) : S8 := addS s (roundsW (schedW b 64) s 64)
/-- The words of a state. -/
def S8.list (s : S8) : List W := [s.a, s.b, s.c, s.d, s.e, s.f, s.g, s.h]
/-- What fills a string up to whole blocks. -/
def padB (n : Nat) : List B8 := 0x80#8 :: (List.replicate ((119 - n % 64) % 64) 0#8 ++ beB (8 * n % 18446744073709551616) 8)
/-- The blocks of a string, one after another. -/
def blocksW (s : S8) : Nat → List B8 → S8
  | 0, _ => s
  | k + 1, l => blocksW (compW s (l.take 64)) k (l.drop 64)
/-- SHA-256. -/
def shaF (l : List B8) : List B8 := ((blocksW iv0 ((l.length + (padB l.length).length) / 64) (l ++ padB l.length)).list.map fun x => beB x.toNat 4).flatten
/-- A byte as a number: not to be opened by simp. -/
def bv (x : B8) : Int := (x.toNat : Int)
theorem bv_lt (x : B8) : 0 ≤ bv x ∧ bv x < 256 := by have := x.isLt; unfold bv; omega
/-- Bytes as cells. -/
def cells8 (l : List B8) : List Value := l.map fun b => .int .u8 (bv b)
theorem cells8_len (l : List B8) : (cells8 l).length = l.length := by simp [cells8]
theorem cells8_app (a b : List B8) : cells8 (a ++ b) = cells8 a ++ cells8 b := by simp [cells8]
theorem cells8_drop (l : List B8) (k : Nat) : (cells8 l).drop k = cells8 (l.drop k) := by simp [cells8, List.map_drop]
theorem Rd.len8 {w : World} {B n : Nat} {A : Option Addr} {l : List B8} (h : Rd w B 1 A n (cells8 l)) : n = l.length := by
  have := h.1; simp [cells8] at this; omega
theorem Rd.at8 {w : World} {B n : Nat} {A : Option Addr} {l : List B8} (h : Rd w B 1 A n (cells8 l)) {k : Nat} (hk : k < l.length) :
    ∃ ad, A = some ad ∧ ad.block < B ∧ w.cell? (ad.add k) = some (.int .u8 (bv l[k])) := by
  have hn := h.len8
  obtain ⟨ad, e, hl, hc⟩ := h.at_ (k := k) (by omega)
  rw [Nat.mul_one, cells8_drop, List.drop_eq_getElem_cons hk] at hc
  exact ⟨ad, e, hl, hc.c0⟩
end Go.Proofs.YtbkpgmlibiclfaaGreatDoor
