/- Hash functions as oracles; the memory that runs begin with; functions of bytes by tables. -/
import Derived.Test.YtbkpgmlibiclfaaGreatDoorE6
import Derived.Test.YtbkpgmlibiclfaaGreatDoorShA
import Derived.Test.YtbkpgmlibiclfaaGreatDoorShR
set_option maxRecDepth 4000

namespace Go.Ev
open Go.Proofs.YtbkpgmlibiclfaaGreatDoor (W B8 S8 rotr ssig0 ssig1 bsig0 bsig1 chW majW ch_xor maj_xor kTab kW iv0 roundW numB beB beB_len schedW roundsW addS compW padB blocksW shaF bv cells8)
noncomputable section
def nrr (x n m : Nat) : Nat := Nat.lor (Nat.shiftRight x n) (Nat.land (Nat.shiftLeft x m) 4294967295)
def ns0 (x : Nat) : Nat := Nat.xor (Nat.xor (nrr x 7 25) (nrr x 18 14)) (Nat.shiftRight x 3)
def ns1 (x : Nat) : Nat := Nat.xor (Nat.xor (nrr x 17 15) (nrr x 19 13)) (Nat.shiftRight x 10)
def nS1 (e : Nat) : Nat := Nat.xor (Nat.xor (nrr e 6 26) (nrr e 11 21)) (nrr e 25 7)
def nS0 (a : Nat) : Nat := Nat.xor (Nat.xor (nrr a 2 30) (nrr a 13 19)) (nrr a 22 10)
def nch (e f g : Nat) : Nat := Nat.xor (Nat.land e f) (Nat.land (Nat.xor e 4294967295) g)
def nmj (a b c : Nat) : Nat := Nat.xor (Nat.xor (Nat.land a b) (Nat.land a c)) (Nat.land b c)
def nad (a b : Nat) : Nat := Nat.land (Nat.add a b) 4294967295
abbrev Q8 := Nat → Nat → Nat → Nat → Nat → Nat → Nat → Nat → R
def shaR (l : List Nat) : Nat → Nat → Nat → Nat → Nat → Nat → Nat → Nat → Nat → Nat → Nat → Nat → Nat → Nat → Nat → Nat → Nat → Nat → Nat → Nat → Nat → Nat → Nat → Nat → Q8 → R :=
 List.rec (motive := fun _ => Nat → Nat → Nat → Nat → Nat → Nat → Nat → Nat → Nat → Nat → Nat → Nat → Nat → Nat → Nat → Nat → Nat → Nat → Nat → Nat → Nat → Nat → Nat → Nat → Q8 → R) (fun a b c d e f g h _ _ _ _ _ _ _ _ _ _ _ _ _ _ _ _ q => q a b c d e f g h)
  (fun k _ ih a b c d e f g h w0 w1 w2 w3 w4 w5 w6 w7 w8 w9 w10 w11 w12 w13 w14 w15 q =>
   frc (Nat.add (Nat.add (Nat.add (Nat.add h (nS1 e)) (nch e f g)) k) w0) (fun t1 =>
   frc (nad t1 (Nat.add (nS0 a) (nmj a b c))) (fun a' => frc (nad d t1) (fun e' =>
   frc (nad (Nat.add (ns1 w14) w9) (Nat.add (ns0 w1) w0)) (fun w16 => ih a' a b c e' e f g w1 w2 w3 w4 w5 w6 w7 w8 w9 w10 w11 w12 w13 w14 w15 w16 q))))) l
def nb32 (n o : Nat) : Nat := Nat.add (Nat.mul (Nat.add (Nat.mul (Nat.add (Nat.mul (byteAt n o) 256) (byteAt n (Nat.add o 1))) 256) (byteAt n (Nat.add o 2))) 256) (byteAt n (Nat.add o 3))
def compN (a b c d e f g h n : Nat) (q : Q8) : R :=
 shaR kTab a b c d e f g h (nb32 n 0) (nb32 n 4) (nb32 n 8) (nb32 n 12) (nb32 n 16) (nb32 n 20) (nb32 n 24) (nb32 n 28) (nb32 n 32) (nb32 n 36) (nb32 n 40) (nb32 n 44) (nb32 n 48) (nb32 n 52) (nb32 n 56) (nb32 n 60)
  (fun a' b' c' d' e' f' g' h' => frc (nad a a') (fun a => frc (nad b b') (fun b => frc (nad c c') (fun c => frc (nad d d') (fun d => frc (nad e e') (fun e => frc (nad f f') (fun f => frc (nad g g') (fun g => frc (nad h h') (fun h => q a b c d e f g h)))))))))
def blkN (nb : Nat) : Nat → Nat → Nat → Nat → Nat → Nat → Nat → Nat → Nat → Q8 → R :=
 Nat.rec (motive := fun _ => Nat → Nat → Nat → Nat → Nat → Nat → Nat → Nat → Nat → Q8 → R) (fun a b c d e f g h _ q => q a b c d e f g h)
  (fun _ ih a b c d e f g h n q => frc (bytesAt n 0 64) (fun x => compN a b c d e f g h x (fun a b c d e f g h => frc (Nat.shiftRight n 512) (fun n => ih a b c d e f g h n q)))) nb
def rev4 (x : Nat) : Nat := Nat.add (Nat.add (Nat.mul (Nat.mod x 256) 16777216) (Nat.mul (Nat.mod (Nat.div x 256) 256) 65536)) (Nat.add (Nat.mul (Nat.mod (Nat.div x 65536) 256) 256) (Nat.mod (Nat.div x 16777216) 256))
def rev8 (x : Nat) : Nat := Nat.add (rev4 (Nat.div x 4294967296)) (Nat.shiftLeft (rev4 x) 32)
def digN (a b c d e f g h : Nat) : Nat := Nat.add (rev4 a) (Nat.shiftLeft (Nat.add (rev4 b) (Nat.shiftLeft (Nat.add (rev4 c) (Nat.shiftLeft (Nat.add (rev4 d) (Nat.shiftLeft (Nat.add (rev4 e) (Nat.shiftLeft (Nat.add (rev4 f) (Nat.shiftLeft (Nat.add (rev4 g) (Nat.shiftLeft (rev4 h) 32)) 32)) 32)) 32)) 32)) 32)) 32)
def shaN (len num : Nat) (q : Nat → R) : R := frc (Nat.div (Nat.add len 72) 64) (fun nb => frc (Nat.add num (Nat.shiftLeft (Nat.add 128 (Nat.shiftLeft (rev8 (Nat.mul 8 len)) (Nat.sub (Nat.mul 512 nb) (Nat.add 64 (Nat.mul 8 len))))) (Nat.mul 8 len))) (fun n =>
 blkN nb 1779033703 3144134277 1013904242 2773480762 1359893119 2600822924 528734635 1541459225 n (fun a b c d e f g h => frc (digN a b c d e f g h) q)))
end
def l8 (n len : Nat) : List B8 := (List.range len).map fun j => BitVec.ofNat 8 (byteAt n j)
theorem l8_len (n len : Nat) : (l8 n len).length = len := by simp [l8]
theorem l8_take (n k m : Nat) : (l8 n (k + m)).take k = l8 n k := by simp [l8, ← List.map_take, List.take_range]
theorem byteAt_shr (n k j : Nat) : byteAt (n >>> (8 * k)) j = byteAt n (k + j) := by
 rw [byteAt_eq, byteAt_eq, Nat.shiftRight_eq_div_pow, Nat.div_div_eq_div_mul, ← Nat.pow_add, Nat.mul_add]
theorem l8_drop (n k m : Nat) : (l8 n (k + m)).drop k = l8 (n >>> (8 * k)) m := by
 apply List.ext_getElem?
 intro i
 rw [List.getElem?_drop, l8, l8, List.getElem?_map, List.getElem?_map]
 by_cases h : i < m
 · rw [List.getElem?_range (by omega), List.getElem?_range h]; simp [byteAt_shr]
 · rw [List.getElem?_eq_none (by simp; omega), List.getElem?_eq_none (by simp; omega)]; rfl
theorem l8_bytesAt (n m : Nat) : l8 (bytesAt n 0 m) m = l8 n m := by
 refine List.map_congr_left fun j hj => ?_
 rw [byteAt_bytesAt _ _ _ _ (List.mem_range.1 hj), Nat.zero_add]
theorem l8_app (A B k m : Nat) (h : A < 2 ^ (8 * k)) : l8 (A + B <<< (8 * k)) (k + m) = l8 A k ++ l8 B m := by
 have hs : (A + B <<< (8 * k)) >>> (8 * k) = B := by
  rw [Nat.shiftRight_eq_div_pow, Nat.shiftLeft_eq, Nat.add_mul_div_right _ _ (Nat.two_pow_pos _), Nat.div_eq_of_lt h, Nat.zero_add]
 have h1 : l8 (A + B <<< (8 * k)) k = l8 A k := by
  rw [← l8_bytesAt, ← l8_bytesAt A]
  congr 1
  show ((A + B <<< (8 * k)) >>> (8 * 0)) % (1 <<< (8 * k)) = (A >>> (8 * 0)) % (1 <<< (8 * k))
  rw [Nat.one_shiftLeft, Nat.shiftLeft_eq, Nat.mul_zero, Nat.shiftRight_zero, Nat.shiftRight_zero, Nat.add_mul_mod_self_right]
 rw [← List.take_append_drop k (l8 (A + B <<< (8 * k)) (k + m)), l8_take, l8_drop, hs, h1]
theorem l8_zero (m : Nat) : l8 0 m = List.replicate m 0#8 := by
 apply List.ext_getElem?
 intro i
 rw [l8, List.getElem?_map]
 by_cases h : i < m
 · rw [List.getElem?_range h, List.getElem?_replicate, if_pos h, Option.map_some, byteAt_eq]; simp
 · rw [List.getElem?_eq_none (by simp; omega), List.getElem?_replicate, if_neg h]; rfl
theorem l8_cells {L : Loc} (l n : Nat) : chv L (.bs l n) = cells8 (l8 n l) := by
 show (List.range l).map (fun j => iv 4 (byteAt n j)) = ((List.range l).map fun j => BitVec.ofNat 8 (byteAt n j)).map fun b => Value.int .u8 (bv b)
 rw [List.map_map]
 refine List.map_congr_left fun j _ => ?_
 have hb : byteAt n j < 256 := byteAt_lt n j
 rw [iv4_byte]
 show Value.int .u8 ((UInt8.ofNat (byteAt n j)).toNat : Int) = Value.int .u8 (((BitVec.ofNat 8 (byteAt n j)).toNat : Nat) : Int)
 simp
theorem msk (x : Nat) : Nat.land x 4294967295 = x % 4294967296 := Nat.and_two_pow_sub_one_eq_mod x 32
theorem nrr_eq (x : W) (n m : Nat) (h : m = 32 - n) : nrr x.toNat n m = (rotr x n).toNat := by
 subst h
 show Nat.lor (x.toNat >>> n) (Nat.land (x.toNat <<< (32 - n)) 4294967295) = _
 rw [msk]
 show (x.toNat >>> n) ||| _ = _
 simp [rotr, BitVec.toNat_or, BitVec.toNat_ushiftRight, BitVec.toNat_shiftLeft]
theorem ns0_eq (x : W) : ns0 x.toNat = (ssig0 x).toNat := by
 unfold ns0; rw [nrr_eq _ _ _ rfl, nrr_eq _ _ _ rfl]
 simp only [ssig0, BitVec.toNat_xor, BitVec.toNat_ushiftRight]; rfl
theorem ns1_eq (x : W) : ns1 x.toNat = (ssig1 x).toNat := by
 unfold ns1; rw [nrr_eq _ _ _ rfl, nrr_eq _ _ _ rfl]
 simp only [ssig1, BitVec.toNat_xor, BitVec.toNat_ushiftRight]; rfl
theorem nS0_eq (x : W) : nS0 x.toNat = (bsig0 x).toNat := by
 unfold nS0; rw [nrr_eq _ _ _ rfl, nrr_eq _ _ _ rfl, nrr_eq _ _ _ rfl]
 simp only [bsig0, BitVec.toNat_xor]; rfl
theorem nS1_eq (x : W) : nS1 x.toNat = (bsig1 x).toNat := by
 unfold nS1; rw [nrr_eq _ _ _ rfl, nrr_eq _ _ _ rfl, nrr_eq _ _ _ rfl]
 simp only [bsig1, BitVec.toNat_xor]; rfl
theorem nch_eq (e f g : W) : nch e.toNat f.toNat g.toNat = (chW e f g).toNat := by
 rw [← ch_xor, ← BitVec.xor_allOnes (x := e)]
 simp only [BitVec.toNat_xor, BitVec.toNat_and, BitVec.toNat_allOnes]; rfl
theorem nmj_eq (a b c : W) : nmj a.toNat b.toNat c.toNat = (majW a b c).toNat := by
 rw [← maj_xor]
 simp only [BitVec.toNat_xor, BitVec.toNat_and]; rfl
theorem nad_eq (a b : Nat) (x : W) (h : (a + b) % 4294967296 = x.toNat) : nad a b = x.toNat := by
 show Nat.land (a + b) 4294967295 = _
 rw [msk]; exact h
end Go.Ev

namespace Go.Ev
open Go.Proofs.YtbkpgmlibiclfaaGreatDoor (W B8 S8 rotr ssig0 ssig1 bsig0 bsig1 chW majW ch_xor maj_xor kTab kW iv0 roundW numB beB beB_len schedW roundsW addS compW padB blocksW shaF bv cells8)
theorem shaR_cons (k : Nat) (l : List Nat) (a b c d e f g h w0 w1 w2 w3 w4 w5 w6 w7 w8 w9 w10 w11 w12 w13 w14 w15 : Nat) (q : Q8) :
 shaR (k :: l) a b c d e f g h w0 w1 w2 w3 w4 w5 w6 w7 w8 w9 w10 w11 w12 w13 w14 w15 q =
  frc (Nat.add (Nat.add (Nat.add (Nat.add h (nS1 e)) (nch e f g)) k) w0) (fun t1 =>
 frc (nad t1 (Nat.add (nS0 a) (nmj a b c))) (fun a' => frc (nad d t1) (fun e' =>
 frc (nad (Nat.add (ns1 w14) w9) (Nat.add (ns0 w1) w0)) (fun w16 => shaR l a' a b c e' e f g w1 w2 w3 w4 w5 w6 w7 w8 w9 w10 w11 w12 w13 w14 w15 w16 q)))) := rfl
theorem shaR_step (k : Nat) (l : List Nat) (a b c d e f g h w0 w1 w2 w3 w4 w5 w6 w7 w8 w9 w10 w11 w12 w13 w14 w15 : W) (q : Q8) :
 shaR (k :: l) a.toNat b.toNat c.toNat d.toNat e.toNat f.toNat g.toNat h.toNat w0.toNat w1.toNat w2.toNat w3.toNat w4.toNat w5.toNat w6.toNat w7.toNat w8.toNat w9.toNat w10.toNat w11.toNat w12.toNat w13.toNat w14.toNat w15.toNat q =
 shaR l (roundW ⟨a, b, c, d, e, f, g, h⟩ (BitVec.ofNat 32 k) w0).a.toNat a.toNat b.toNat c.toNat (roundW ⟨a, b, c, d, e, f, g, h⟩ (BitVec.ofNat 32 k) w0).e.toNat e.toNat f.toNat g.toNat
  w1.toNat w2.toNat w3.toNat w4.toNat w5.toNat w6.toNat w7.toNat w8.toNat w9.toNat w10.toNat w11.toNat w12.toNat w13.toNat w14.toNat w15.toNat (w0 + w9 + ssig0 w1 + ssig1 w14).toNat q := by
 rw [shaR_cons, frc_eq, frc_eq, frc_eq, frc_eq, nS1_eq, nch_eq, nS0_eq, nmj_eq, ns1_eq, ns0_eq]
 have h1 : nad (Nat.add (Nat.add (Nat.add (Nat.add h.toNat (bsig1 e).toNat) (chW e f g).toNat) k) w0.toNat) (Nat.add (bsig0 a).toNat (majW a b c).toNat) = (roundW ⟨a, b, c, d, e, f, g, h⟩ (BitVec.ofNat 32 k) w0).a.toNat := by
  refine nad_eq _ _ _ ?_
  show (h.toNat + (bsig1 e).toNat + (chW e f g).toNat + k + w0.toNat + ((bsig0 a).toNat + (majW a b c).toNat)) % 4294967296 = (h + bsig1 e + chW e f g + BitVec.ofNat 32 k + w0 + (bsig0 a + majW a b c)).toNat
  simp only [BitVec.toNat_add, BitVec.toNat_ofNat]
  omega
 have h2 : nad d.toNat (Nat.add (Nat.add (Nat.add (Nat.add h.toNat (bsig1 e).toNat) (chW e f g).toNat) k) w0.toNat) = (roundW ⟨a, b, c, d, e, f, g, h⟩ (BitVec.ofNat 32 k) w0).e.toNat := by
  refine nad_eq _ _ _ ?_
  show (d.toNat + (h.toNat + (bsig1 e).toNat + (chW e f g).toNat + k + w0.toNat)) % 4294967296 = (d + (h + bsig1 e + chW e f g + BitVec.ofNat 32 k + w0)).toNat
  simp only [BitVec.toNat_add, BitVec.toNat_ofNat]
  omega
 have h3 : nad (Nat.add (ssig1 w14).toNat w9.toNat) (Nat.add (ssig0 w1).toNat w0.toNat) = (w0 + w9 + ssig0 w1 + ssig1 w14).toNat := by
  refine nad_eq _ _ _ ?_
  show ((ssig1 w14).toNat + w9.toNat + ((ssig0 w1).toNat + w0.toNat)) % 4294967296 = _
  simp only [BitVec.toNat_add]
  omega
 rw [h1, h2, h3]
def wAt (b : List B8) (i : Nat) : W := (schedW b (i + 1)).getD i 0
theorem sched_len (b : List B8) (t : Nat) : (schedW b t).length = t := by
 induction t with
 | zero => rfl
 | succ t ih => simp [schedW, ih]
theorem sched_getD (b : List B8) : ∀ (n i : Nat), i < n → (schedW b n).getD i 0 = wAt b i
 | n + 1, i, h => by
   by_cases hi : i < n
   · rw [← sched_getD b n i hi]
     show (schedW b n ++ _).getD i 0 = _
     rw [List.getD_eq_getElem?_getD, List.getElem?_append_left (by rw [sched_len]; exact hi), ← List.getD_eq_getElem?_getD]
   · have : i = n := by omega
     subst this; rfl
theorem wAt_lo (b : List B8) (i : Nat) (h : i < 16) : wAt b i = Go.Proofs.YtbkpgmlibiclfaaGreatDoor.be32 b (4 * i) := by
 show (schedW b i ++ [_]).getD i 0 = _
 rw [List.getD_eq_getElem?_getD, List.getElem?_append_right (by rw [sched_len]; omega), sched_len, Nat.sub_self]
 simp [h]
theorem wAt_hi (b : List B8) (i : Nat) : wAt b (i + 16) = wAt b i + wAt b (i + 9) + ssig0 (wAt b (i + 1)) + ssig1 (wAt b (i + 14)) := by
 show (schedW b (i + 16) ++ [_]).getD (i + 16) 0 = _
 rw [List.getD_eq_getElem?_getD, List.getElem?_append_right (by rw [sched_len]; omega), sched_len, Nat.sub_self]
 have e : ¬ (i + 16 < 16) := by omega
 simp only [List.getElem?_cons_zero, Option.getD_some, if_neg e]
 rw [sched_getD _ _ _ (by omega), sched_getD _ _ _ (by omega), sched_getD _ _ _ (by omega), sched_getD _ _ _ (by omega)]
 rw [show i + 16 - 16 = i by omega, show i + 16 - 7 = i + 9 by omega, show i + 16 - 15 = i + 1 by omega, show i + 16 - 2 = i + 14 by omega]
theorem kTab_len : kTab.length = 64 := rfl
theorem shaR_nil (a b c d e f g h w0 w1 w2 w3 w4 w5 w6 w7 w8 w9 w10 w11 w12 w13 w14 w15 : Nat) (q : Q8) : shaR [] a b c d e f g h w0 w1 w2 w3 w4 w5 w6 w7 w8 w9 w10 w11 w12 w13 w14 w15 q = q a b c d e f g h := rfl
theorem shaR_sched (b : List B8) (s y : S8) (hy : y = roundsW (schedW b 64) s 64) (q : Q8) : ∀ (m t : Nat) (x : S8), t + m = 64 → x = roundsW (schedW b 64) s t →
 shaR (kTab.drop t) x.a.toNat x.b.toNat x.c.toNat x.d.toNat x.e.toNat x.f.toNat x.g.toNat x.h.toNat (wAt b t).toNat (wAt b (t + 1)).toNat (wAt b (t + 2)).toNat (wAt b (t + 3)).toNat (wAt b (t + 4)).toNat (wAt b (t + 5)).toNat (wAt b (t + 6)).toNat (wAt b (t + 7)).toNat
  (wAt b (t + 8)).toNat (wAt b (t + 9)).toNat (wAt b (t + 10)).toNat (wAt b (t + 11)).toNat (wAt b (t + 12)).toNat (wAt b (t + 13)).toNat (wAt b (t + 14)).toNat (wAt b (t + 15)).toNat q =
 q y.a.toNat y.b.toNat y.c.toNat y.d.toNat y.e.toNat y.f.toNat y.g.toNat y.h.toNat := by
 intro m
 induction m with
 | zero =>
   intro t x h hx
   have : t = 64 := by omega
   subst this
   rw [List.drop_of_length_le (by rw [kTab_len]; omega), shaR_nil, hx, hy]
 | succ m ih =>
   intro t x h hx
   have ht : t < kTab.length := by rw [kTab_len]; omega
   have hk : Go.Proofs.YtbkpgmlibiclfaaGreatDoor.kW t = BitVec.ofNat 32 kTab[t] := by unfold Go.Proofs.YtbkpgmlibiclfaaGreatDoor.kW; rw [List.getD_eq_getElem?_getD, List.getElem?_eq_getElem ht]; rfl
   have e1 : roundW ⟨x.a, x.b, x.c, x.d, x.e, x.f, x.g, x.h⟩ (BitVec.ofNat 32 kTab[t]) (wAt b t) = roundsW (schedW b 64) s (t + 1) := by
    show roundW x _ _ = roundW (roundsW (schedW b 64) s t) (Go.Proofs.YtbkpgmlibiclfaaGreatDoor.kW t) ((schedW b 64).getD t 0)
    rw [sched_getD b 64 t (by omega), hk, hx]
   rw [List.drop_eq_getElem_cons ht, shaR_step, ← wAt_hi]
   have hb : x.a = (roundsW (schedW b 64) s (t + 1)).b ∧ x.b = (roundsW (schedW b 64) s (t + 1)).c ∧ x.c = (roundsW (schedW b 64) s (t + 1)).d ∧ x.e = (roundsW (schedW b 64) s (t + 1)).f ∧ x.f = (roundsW (schedW b 64) s (t + 1)).g ∧ x.g = (roundsW (schedW b 64) s (t + 1)).h := by
    rw [← e1]; exact ⟨rfl, rfl, rfl, rfl, rfl, rfl⟩
   have hi := ih (t + 1) _ (by omega) rfl
   rw [e1]
   rw [← hb.1, ← hb.2.1, ← hb.2.2.1, ← hb.2.2.2.1, ← hb.2.2.2.2.1, ← hb.2.2.2.2.2] at hi
   exact hi
theorem nb32_eq (n o : Nat) (h : o + 4 ≤ 64) : nb32 n o = (Go.Proofs.YtbkpgmlibiclfaaGreatDoor.be32 (l8 n 64) o).toNat := by
 have e : ((l8 n 64).drop o).take 4 = [BitVec.ofNat 8 (byteAt n o), BitVec.ofNat 8 (byteAt n (o + 1)), BitVec.ofNat 8 (byteAt n (o + 2)), BitVec.ofNat 8 (byteAt n (o + 3))] := by
  apply List.ext_getElem?
  intro i
  by_cases hi : i < 4
  · rw [List.getElem?_take_of_lt hi, List.getElem?_drop, l8, List.getElem?_map, List.getElem?_range (by omega)]
    match i, hi with
    | 0, _ => rfl
    | 1, _ => rfl
    | 2, _ => rfl
    | 3, _ => rfl
  · rw [List.getElem?_eq_none (by simp; omega), List.getElem?_eq_none (by simp; omega)]
 unfold Go.Proofs.YtbkpgmlibiclfaaGreatDoor.be32
 rw [e]
 have h0 : byteAt n o < 256 := byteAt_lt _ _
 have h1 : byteAt n (o + 1) < 256 := byteAt_lt _ _
 have h2 : byteAt n (o + 2) < 256 := byteAt_lt _ _
 have h3 : byteAt n (o + 3) < 256 := byteAt_lt _ _
 show ((byteAt n o * 256 + byteAt n (o + 1)) * 256 + byteAt n (o + 2)) * 256 + byteAt n (o + 3) = _
 simp only [numB, List.foldl_cons, List.foldl_nil, BitVec.toNat_ofNat]
 omega
theorem compN_eq (s : S8) (n : Nat) (q : Q8) : compN s.a.toNat s.b.toNat s.c.toNat s.d.toNat s.e.toNat s.f.toNat s.g.toNat s.h.toNat n q = q (compW s (l8 n 64)).a.toNat (compW s (l8 n 64)).b.toNat (compW s (l8 n 64)).c.toNat (compW s (l8 n 64)).d.toNat (compW s (l8 n 64)).e.toNat (compW s (l8 n 64)).f.toNat (compW s (l8 n 64)).g.toNat (compW s (l8 n 64)).h.toNat := by
 unfold compN
 have hw : ∀ i, i < 16 → nb32 n (4 * i) = (wAt (l8 n 64) i).toNat := fun i hi => by rw [nb32_eq _ _ (by omega), wAt_lo _ _ hi]
 rw [hw 0 (by omega), hw 1 (by omega), hw 2 (by omega), hw 3 (by omega), hw 4 (by omega), hw 5 (by omega), hw 6 (by omega), hw 7 (by omega), hw 8 (by omega), hw 9 (by omega), hw 10 (by omega), hw 11 (by omega), hw 12 (by omega), hw 13 (by omega), hw 14 (by omega), hw 15 (by omega)]
 refine (shaR_sched (l8 n 64) s _ rfl _ 64 0 s rfl rfl).trans ?_
 have ha : ∀ x y : W, nad x.toNat y.toNat = (x + y).toNat := fun x y => nad_eq _ _ _ (by rw [BitVec.toNat_add])
 simp only [frc_eq, ha]
 rfl
theorem blkN_eq (q : Q8) : ∀ (nb : Nat) (s : S8) (n : Nat), blkN nb s.a.toNat s.b.toNat s.c.toNat s.d.toNat s.e.toNat s.f.toNat s.g.toNat s.h.toNat n q = (let y := blocksW s nb (l8 n (64 * nb)); q y.a.toNat y.b.toNat y.c.toNat y.d.toNat y.e.toNat y.f.toNat y.g.toNat y.h.toNat)
 | 0, s, n => rfl
 | nb + 1, s, n => by
   show frc (bytesAt n 0 64) (fun x => compN s.a.toNat s.b.toNat s.c.toNat s.d.toNat s.e.toNat s.f.toNat s.g.toNat s.h.toNat x (fun a b c d e f g h => frc (Nat.shiftRight n 512) (fun n => blkN nb a b c d e f g h n q))) = _
   rw [frc_eq, compN_eq, l8_bytesAt]
   simp only [frc_eq]
   refine (blkN_eq q nb (compW s (l8 n 64)) (n >>> 512)).trans ?_
   have e1 : (l8 n (64 * (nb + 1))).take 64 = l8 n 64 := by rw [show 64 * (nb + 1) = 64 + 64 * nb by omega]; exact l8_take _ _ _
   have e2 : (l8 n (64 * (nb + 1))).drop 64 = l8 (n >>> 512) (64 * nb) := by rw [show 64 * (nb + 1) = 64 + 64 * nb by omega]; exact l8_drop _ _ _
   show _ = (let y := blocksW (compW s ((l8 n (64 * (nb + 1))).take 64)) nb ((l8 n (64 * (nb + 1))).drop 64); q y.a.toNat y.b.toNat y.c.toNat y.d.toNat y.e.toNat y.f.toNat y.g.toNat y.h.toNat)
   rw [e1, e2]
end Go.Ev

namespace Go.Ev
open Go.Proofs.YtbkpgmlibiclfaaGreatDoor (W B8 S8 kTab iv0 roundW numB beB beB_len schedW roundsW addS compW padB blocksW shaF bv cells8)
theorem rev4_eq (x : Nat) : rev4 x = (x % 256) * 16777216 + (x / 256 % 256) * 65536 + ((x / 65536 % 256) * 256 + x / 16777216 % 256) := rfl
theorem rev4_lt (x : Nat) : rev4 x < 2 ^ (8 * 4) := by
 rw [rev4_eq]; omega
theorem l8_four (n : Nat) : l8 n 4 = [BitVec.ofNat 8 (n % 256), BitVec.ofNat 8 (n / 256 % 256), BitVec.ofNat 8 (n / 65536 % 256), BitVec.ofNat 8 (n / 16777216 % 256)] := by
 show [BitVec.ofNat 8 (byteAt n 0), BitVec.ofNat 8 (byteAt n 1), BitVec.ofNat 8 (byteAt n 2), BitVec.ofNat 8 (byteAt n 3)] = _
 rw [byteAt_eq, byteAt_eq, byteAt_eq, byteAt_eq]
 simp
theorem ofNat8_congr {a b : Nat} (h : a % 256 = b % 256) : BitVec.ofNat 8 a = BitVec.ofNat 8 b := by
 apply BitVec.eq_of_toNat_eq
 rw [BitVec.toNat_ofNat, BitVec.toNat_ofNat]; exact h
theorem l8_rev4 (x : Nat) : l8 (rev4 x) 4 = beB x 4 := by
 have e : beB x 4 = [BitVec.ofNat 8 (x / 16777216), BitVec.ofNat 8 (x / 65536), BitVec.ofNat 8 (x / 256), BitVec.ofNat 8 x] := by
  simp [beB]
 have hp : x % 256 < 256 := Nat.mod_lt _ (by decide)
 have hq : x / 256 % 256 < 256 := Nat.mod_lt _ (by decide)
 have hr : x / 65536 % 256 < 256 := Nat.mod_lt _ (by decide)
 have hs : x / 16777216 % 256 < 256 := Nat.mod_lt _ (by decide)
 have key : ∀ p q r s : Nat, p < 256 → q < 256 → r < 256 → s < 256 → (p * 16777216 + q * 65536 + (r * 256 + s)) % 256 = s ∧ (p * 16777216 + q * 65536 + (r * 256 + s)) / 256 % 256 = r ∧
  (p * 16777216 + q * 65536 + (r * 256 + s)) / 65536 % 256 = q ∧ (p * 16777216 + q * 65536 + (r * 256 + s)) / 16777216 % 256 = p := fun p q r s _ _ _ _ => by omega
 obtain ⟨k1, k2, k3, k4⟩ := key _ _ _ _ hp hq hr hs
 rw [l8_four, e, rev4_eq, k1, k2, k3, k4, ofNat8_congr (Nat.mod_mod _ _), ofNat8_congr (a := x / 65536 % 256) (Nat.mod_mod _ _), ofNat8_congr (a := x / 256 % 256) (Nat.mod_mod _ _), ofNat8_congr (a := x % 256) (Nat.mod_mod _ _)]
theorem rev8_eq (x : Nat) : rev8 x = rev4 (x / 4294967296) + rev4 x <<< (8 * 4) := rfl
theorem beB_div (x : Nat) : ∀ k, beB x (4 + k) = (beB (x / 256 ^ k) 4) ++ beB x k := by
 intro k
 have h1 : ∀ j, x / 256 ^ (k + j) = x / 256 ^ k / 256 ^ j := fun j => by rw [Nat.div_div_eq_div_mul, ← Nat.pow_add]
 rw [show 4 + k = k + 1 + 1 + 1 + 1 by omega]
 have h2 := h1 1; have h3 := h1 2; have h4 := h1 3
 simp only [beB, List.cons_append, List.nil_append]
 rw [show k + 1 + 1 + 1 = k + 3 by omega, show k + 1 + 1 = k + 2 by omega, h2, h3, h4]
 simp
theorem l8_rev8 (x : Nat) : l8 (rev8 x) 8 = beB x 8 := by
 rw [rev8_eq]
 have := l8_app (rev4 (x / 4294967296)) (rev4 x) 4 4 (rev4_lt _)
 rw [show (8 : Nat) = 4 + 4 by rfl]
 refine this.trans ?_
 rw [l8_rev4, l8_rev4, beB_div x 4]
theorem lt_app {A B k m : Nat} (hA : A < 2 ^ (8 * k)) (hB : B < 2 ^ (8 * m)) : A + B <<< (8 * k) < 2 ^ (8 * (k + m)) := by
 rw [Nat.shiftLeft_eq, Nat.mul_add, Nat.pow_add, Nat.mul_comm B]
 calc A + 2 ^ (8 * k) * B < 2 ^ (8 * k) + 2 ^ (8 * k) * B := by omega
  _ = 2 ^ (8 * k) * (B + 1) := by rw [Nat.mul_add, Nat.mul_one, Nat.add_comm]
  _ ≤ 2 ^ (8 * k) * 2 ^ (8 * m) := Nat.mul_le_mul_left _ hB
theorem digN_ok (a b c d e f g h : Nat) : digN a b c d e f g h < 2 ^ (8 * 32) ∧ l8 (digN a b c d e f g h) 32 = beB a 4 ++ (beB b 4 ++ (beB c 4 ++ (beB d 4 ++ (beB e 4 ++ (beB f 4 ++ (beB g 4 ++ beB h 4)))))) := by
 have step : ∀ (x y k : Nat) (l : List B8), y < 2 ^ (8 * k) → l8 y k = l → (rev4 x + y <<< (8 * 4)) < 2 ^ (8 * (4 + k)) ∧ l8 (rev4 x + y <<< (8 * 4)) (4 + k) = beB x 4 ++ l := fun x y k l hy hl =>
  ⟨lt_app (rev4_lt x) hy, by rw [l8_app _ _ _ _ (rev4_lt x), l8_rev4, hl]⟩
 have h7 := step g (rev4 h) 4 _ (rev4_lt h) (l8_rev4 h)
 have h6 := step f _ _ _ h7.1 h7.2
 have h5 := step e _ _ _ h6.1 h6.2
 have h4 := step d _ _ _ h5.1 h5.2
 have h3 := step c _ _ _ h4.1 h4.2
 have h2 := step b _ _ _ h3.1 h3.2
 exact step a _ _ _ h2.1 h2.2
theorem shaN_eq (len num : Nat) (q : Nat → R) (hn : num < 2 ^ (8 * len)) (hl : 8 * len < 18446744073709551616) : ∃ N, shaN len num q = q N ∧ N < 2 ^ (8 * 32) ∧ l8 N 32 = shaF (l8 num len) := by
 obtain ⟨nb, hnb⟩ : ∃ nb, nb = (len + 72) / 64 := ⟨_, rfl⟩
 obtain ⟨z, hz⟩ : ∃ z, z = (119 - len % 64) % 64 := ⟨_, rfl⟩
 have h1 : 64 * nb = len + (1 + z + 8) := by omega
 have h2 : 512 * nb - (64 + 8 * len) = 8 * (1 + z) := by omega
 obtain ⟨n, hnn⟩ : ∃ n, n = num + (128 + rev8 (8 * len) <<< (8 * (1 + z))) <<< (8 * len) := ⟨_, rfl⟩
 have e1 : l8 n (64 * nb) = l8 num len ++ padB len := by
  rw [hnn, h1, l8_app _ _ _ _ hn]
  congr 1
  have h3 : 128 < 2 ^ (8 * (1 + z)) := Nat.lt_of_lt_of_le (by decide : 128 < 2 ^ 8) (Nat.pow_le_pow_right (by decide) (by omega))
  rw [l8_app _ _ _ _ h3, l8_rev8]
  have h4 : l8 128 (1 + z) = 0x80#8 :: List.replicate z 0#8 := by
   have := l8_app 128 0 1 z (by decide)
   rw [Nat.zero_shiftLeft, Nat.add_zero] at this
   rw [this, l8_zero]; rfl
  rw [h4]
  unfold padB
  rw [← hz, Nat.mod_eq_of_lt hl]; rfl
 have e2 : shaN len num q = blkN nb 1779033703 3144134277 1013904242 2773480762 1359893119 2600822924 528734635 1541459225 n (fun a b c d e f g h => frc (digN a b c d e f g h) q) := by
  show frc ((len + 72) / 64) _ = _
  rw [frc_eq, frc_eq, hnn, ← h2, hnb]; rfl
 have e3 := blkN_eq (fun a b c d e f g h => frc (digN a b c d e f g h) q) nb iv0 n
 obtain ⟨y, hy⟩ : ∃ y, y = blocksW iv0 nb (l8 n (64 * nb)) := ⟨_, rfl⟩
 refine ⟨digN y.a.toNat y.b.toNat y.c.toNat y.d.toNat y.e.toNat y.f.toNat y.g.toNat y.h.toNat, ?_, (digN_ok _ _ _ _ _ _ _ _).1, ?_⟩
 · rw [e2]
   refine e3.trans ?_
   rw [← hy]
   exact frc_eq _ _
 · rw [(digN_ok _ _ _ _ _ _ _ _).2]
   unfold shaF
   have h5 : (l8 num len).length = len := l8_len _ _
   have h6 : (padB len).length = 9 + z := by unfold padB; simp [beB_len]; omega
   rw [h5, h6, show (len + (9 + z)) / 64 = nb by omega, ← e1, ← hy]
   simp [Go.Proofs.YtbkpgmlibiclfaaGreatDoor.S8.list]
end Go.Ev

namespace Go.Ev
open Go.RowKit
open Go.Proofs.YtbkpgmlibiclfaaGreatDoor (W B8 S8 kTab iv0 roundW numB beB beB_len schedW roundsW addS compW padB blocksW shaF bv cells8 cells8_len Rd Cells Parts Glob HasK cells32 kWords add_block)
noncomputable section
def slRow (v : V) : H → (Nat → V → R) → R := V.rec (motive := fun _ => H → (Nat → V → R) → R)
    (fun _ _ => .bad 940) (fun _ _ => .bad 940) (fun _ _ => fun _ _ => .bad 940) (fun _ => fun _ _ => .bad 940) (fun _ _ => fun _ _ => .bad 940) (fun _ _ => .bad 940) (fun _ _ => fun _ _ => .bad 940) (fun a o l _ => fun h q => asRow (H.get a h) (fun _ _ N _ _ cs => Bool.rec (.bad 941) (q l (subC cs o l)) (Nat.ble (Nat.add o l) N))) (fun a o _ l => fun h q => asRow (H.get a h) (fun _ _ N _ _ cs => Bool.rec (.bad 942) (q l (subC cs o l)) (Nat.ble (Nat.add o l) N))) (fun _ _ _ => fun _ _ => .bad 940) (fun _ q => q 0 .nil) (fun _ => fun _ _ => .bad 940) (fun _ _ => .bad 940) (fun _ _ _ _ _ => fun _ _ => .bad 940) (fun _ _ => .bad 940) (fun _ => fun _ _ => .bad 940) (fun _ _ _ => fun _ _ => .bad 940) (fun _ _ => .bad 940) (fun _ _ _ => fun _ _ => .bad 940) (fun _ _ => fun _ _ => .bad 940) (fun _ _ => .bad 940) (fun _ _ _ _ => fun _ _ => .bad 940) (fun _ _ => fun _ _ => .bad 940) (fun _ _ _ => fun _ _ => .bad 940) v
def capOk (v : V) : H → R → R := V.rec (motive := fun _ => H → R → R)
    (fun _ _ => .bad 943) (fun _ _ => .bad 943) (fun _ _ => fun _ _ => .bad 943) (fun _ => fun _ _ => .bad 943) (fun _ _ => fun _ _ => .bad 943) (fun _ _ => .bad 943) (fun _ _ => fun _ _ => .bad 943) (fun _ _ l c => fun _ q => Bool.rec (.bad 944) q (Bool.and (Nat.ble l c) (Nat.ble c 9223372036854775807))) (fun a _ e l => fun h q => asRow (H.get a h) (fun _ s N op _ _ => Bool.rec (.bad 945) q (Bool.and op (Bool.and (Nat.beq s 1) (Nat.beq N (Nat.add l e)))))) (fun _ _ _ => fun _ _ => .bad 943) (fun _ q => q) (fun _ => fun _ _ => .bad 943) (fun _ _ => .bad 943) (fun _ _ _ _ _ => fun _ _ => .bad 943) (fun _ _ => .bad 943) (fun _ => fun _ _ => .bad 943) (fun _ _ _ => fun _ _ => .bad 943) (fun _ _ => .bad 943) (fun _ _ _ => fun _ _ => .bad 943) (fun _ _ => fun _ _ => .bad 943) (fun _ _ => .bad 943) (fun _ _ _ _ => fun _ _ => .bad 943) (fun _ _ => fun _ _ => .bad 943) (fun _ _ _ => fun _ _ => .bad 943) v
def slBytes (v : V) (h : H) (q : Nat → Nat → R) : R := capOk v h (slRow v h (fun l cs => Bool.rec (bytesN cs 0 l (fun n => q l n)) (q 0 0) (isZ l)))
def collB (h : H) (v : V) : Nat → Nat → Nat → (Nat → Nat → Nat → R) → R := V.rec (motive := fun _ => Nat → Nat → Nat → (Nat → Nat → Nat → R) → R)
    (fun _ _ _ _ => .bad 946) (fun _ _ _ _ => .bad 946) (fun _ _ => fun _ _ _ _ => .bad 946) (fun _ => fun _ _ _ _ => .bad 946) (fun _ _ => fun _ _ _ _ => .bad 946) (fun _ _ _ _ => .bad 946) (fun _ _ => fun _ _ _ _ => .bad 946) (fun _ _ _ _ => fun _ _ _ _ => .bad 946) (fun _ _ _ _ => fun _ _ _ _ => .bad 946) (fun _ _ _ => fun _ _ _ _ => .bad 946) (fun _ _ _ _ => .bad 946) (fun _ => fun _ _ _ _ => .bad 946) (fun _ _ _ _ => .bad 946) (fun _ _ _ _ _ => fun _ _ _ _ => .bad 946) (fun _ _ _ _ => .bad 946) (fun _ => fun _ _ _ _ => .bad 946) (fun _ _ _ => fun _ _ _ _ => .bad 946) (fun _ _ _ _ => .bad 946) (fun _ _ _ => fun _ _ _ _ => .bad 946) (fun _ _ => fun _ _ _ _ => .bad 946) (fun k l n q => q k l n) (fun A _ _ ihW => fun k l n q => slBytes A h (fun m y => frc (Nat.add n (Nat.shiftLeft y (Nat.mul 8 l))) (fun n => frc (Nat.add l m) (fun l => ihW (Nat.succ k) l n q)))) (fun _ _ => fun _ _ _ _ => .bad 946) (fun _ _ _ => fun _ _ _ _ => .bad 946) v
def eqTab (l : List Nat) : V → Bool := List.rec (motive := fun _ => V → Bool) (fun _ => true) (fun x _ ih v => v_cons (α := (V → Bool) → Bool) (fun _ => false) (fun A W => fun ih => Bool.and (v_i (α := Bool) (false) (fun k n => Bool.and (Nat.beq k 6) (Nat.beq n x)) A) (ih W)) v ih) l
def ivTab : List Nat := [1779033703, 3144134277, 1013904242, 2773480762, 1359893119, 2600822924, 528734635, 1541459225]
def eqIv : V → Bool := eqTab ivTab
def eqK6 : V → Bool := eqTab kTab
def tabOk (h : H) (q : R) : R := asRow (H.get (gn 1) h) (fun _ _ N op _ cs => Bool.rec (.bad 947) (asRow (H.get (gn 2) h) (fun _ _ N op _ cs => Bool.rec (.bad 948) q (Bool.and (Nat.beq N 64) (Bool.and (Bool.not op) (eqK6 cs))))) (Bool.and (Nat.beq N 8) (Bool.and (Bool.not op) (eqIv cs))))
def arg1 (a : V) (q : V → R) : R := v_cons (α := R) (.bad 949) (fun A W => Bool.rec (.bad 950) (q A) (v_nil (α := Bool) (false) (true) W)) a
def arg2 (a : V) (q : V → V → R) : R := v_cons (α := R) (.bad 951) (fun A W => arg1 W (fun B => q A B)) a
def rToC (r : R) : C := R.rec (motive := fun _ => C) (fun n => .bad n) (fun t _ h c => .ret (T.get .h t) h c) (fun _ _ _ _ => .bad 952) (fun _ _ _ _ _ => .bad 953) (fun _ _ _ _ _ => .bad 954) r
def done (v : V) (h : H) (c : Nm) : R := .norm (.nd .e v .e) [] h c
end
section
variable {P : Program} {L : Loc} {S : Ns} {h : H} {w : World}
theorem rToC_good {r : R} (hg : CGood (rToC r)) : r.Good := fun n hn => by subst hn; exact hg n rfl
theorem slRow_good {v : V} {q : Nat → V → R} (hr : Rel L S h w) (hv : (wf S v).v) (hg : (slRow v h q).Good) :
 ∃ A l c cs, slRow v h q = q l cs ∧ val L v = .slice A l c ∧ (wf S cs).l ∧ Rd w w.heap.size 1 A l (fit l (lcv L cs)) := by
 have key : ∀ (nm : Nm) (off l cap : Nat) (n : Nat), val L v = .slice (some ⟨L.b nm, off, none⟩) l cap → (asRow (H.get nm h) (fun _ _ N _ _ cs => Bool.rec (.bad n) (q l (subC cs off l)) (Nat.ble (Nat.add off l) N))).Good →
  ∃ A l' c cs, (asRow (H.get nm h) (fun _ _ N _ _ cs => Bool.rec (.bad n) (q l (subC cs off l)) (Nat.ble (Nat.add off l) N))) = q l' cs ∧ val L v = .slice A l' c ∧ (wf S cs).l ∧ Rd w w.heap.size 1 A l' (fit l' (lcv L cs)) := by
  intro nm off l cap n hval hg
  obtain ⟨el, s, N, op, fz, cs, hn, e2⟩ := asRow_good hg
  have g2 := good_of e2 hg
  obtain ⟨h3, e3⟩ := rec_good (z := Nat.ble (Nat.add off l) N) g2
  rw [Nat.ble_eq] at h3
  have h3' : off + l ≤ N := h3
  obtain ⟨hS, ob, hob, hbr⟩ := hr.blk nm (by rw [hn]; simp)
  rw [hn] at hbr
  obtain ⟨arr, fr, el2, rfl, hcs, _, htk, hN, _, _⟩ := hbr.row
  have hsub := (subC_spec L S cs).2 hcs off l
  refine ⟨_, l, cap, _, e2.trans e3, hval, hsub.2, by rw [fit_length, Nat.mul_one], fun _ => ⟨_, rfl, lt_size hob, fun j u hj => ?_⟩⟩
  have hrr := row_range (L := L) hob htk hN (o := off) (n := l) h3'
  have e1 : fit l (lcv L (subC cs off l)) = fit l ((lcv L cs).drop off) := by rw [hsub.1, fit_take]
  rw [e1] at hj
  rw [Addr.add_mid]
  exact hrr j u hj
 cases v <;> first | exact (bad_good hg).elim | skip
 case sl nm off l cap => exact key nm off l cap 941 rfl hg
 case so nm off r l => exact key nm off l _ 942 rfl hg
 case ns => exact ⟨none, 0, 0, .nil, rfl, rfl, trivial, by simp [fit], fun h => absurd h (Nat.lt_irrefl 0)⟩
theorem capOk_good {v : V} {q : R} {A : Option Addr} {l c : Nat} (hr : Rel L S h w) (hval : val L v = .slice A l c) (hg : (capOk v h q).Good) : capOk v h q = q ∧ l ≤ c ∧ c ≤ maxLen := by
 cases v <;> first | exact (bad_good hg).elim | skip
 case sl nm off l' cap =>
  obtain ⟨h1, e1⟩ := rec_good (z := Bool.and (Nat.ble l' cap) (Nat.ble cap 9223372036854775807)) hg
  have h2 : Value.slice (some ⟨L.b nm, off, none⟩) l' cap = .slice A l c := hval
  injection h2 with _ h3 h4
  subst h3 h4
  simp only [Bool.and_eq_true, Nat.ble_eq] at h1
  exact ⟨e1, h1.1, h1.2⟩
 case so nm off r l' =>
  obtain ⟨el, s, N, op, fz, cs, hn, e2⟩ := asRow_good hg
  have g2 := good_of e2 hg
  obtain ⟨h1, e1⟩ := rec_good (z := Bool.and op (Bool.and (Nat.beq s 1) (Nat.beq N (Nat.add l' r)))) g2
  simp only [Bool.and_eq_true, Nat.beq_eq] at h1
  obtain ⟨rfl, rfl, h5⟩ := h1
  obtain ⟨hS, ob, hob, hbr⟩ := hr.blk nm (by rw [hn]; simp)
  rw [hn] at hbr
  obtain ⟨arr, fr, el2, rfl, hcs, _, htk, hN, _, h6⟩ := hbr.row
  have h7 := (h6 rfl).2
  have h2 : Value.slice (some ⟨L.b nm, off, none⟩) l' (l' + r + L.k nm) = .slice A l c := hval
  injection h2 with _ h3 h4
  subst h3 h4
  have h5' : N = l' + r := h5
  exact ⟨e2.trans e1, by omega, by omega⟩
 case ns =>
  have h2 : Value.slice none 0 0 = .slice A l c := hval
  injection h2 with _ h3 h4
  subst h3 h4
  exact ⟨rfl, Nat.le_refl _, Nat.zero_le _⟩
theorem slBytes_good {v : V} {q : Nat → Nat → R} (hr : Rel L S h w) (hv : (wf S v).v) (hg : (slBytes v h q).Good) :
 ∃ A l c n, slBytes v h q = q l n ∧ val L v = .slice A l c ∧ l ≤ c ∧ c ≤ maxLen ∧ n < 2 ^ (8 * l) ∧ Rd w w.heap.size 1 A l (cells8 (l8 n l)) := by
 obtain ⟨r, hrr⟩ : ∃ r, r = slRow v h (fun l cs => Bool.rec (bytesN cs 0 l (fun n => q l n)) (q 0 0) (isZ l)) := ⟨_, rfl⟩
 have hg0 : (capOk v h r).Good := by rw [hrr]; exact hg
 have hcap : ∀ A l c, val L v = .slice A l c → capOk v h r = r ∧ l ≤ c ∧ c ≤ maxLen := fun A l c hv => capOk_good hr hv hg0
 have hex : ∃ A l c, val L v = .slice A l c := by
  cases v <;> first | exact (bad_good hg).elim | exact ⟨_, _, _, rfl⟩
 obtain ⟨A0, l0, c0, hv0⟩ := hex
 obtain ⟨e1, hlc, hcm⟩ := hcap _ _ _ hv0
 have hg1 : (slRow v h (fun l cs => Bool.rec (bytesN cs 0 l (fun n => q l n)) (q 0 0) (isZ l))).Good := by rw [← hrr]; exact good_of e1 hg0
 obtain ⟨A, l, c, cs, e2, hv1, hcs, hrd⟩ := slRow_good hr hv hg1
 rw [hv0] at hv1
 injection hv1 with ha hl hc
 subst ha hl hc
 have e3 : slBytes v h q = (Bool.rec (bytesN cs 0 l0 (fun n => q l0 n)) (q 0 0) (isZ l0) : R) := by
  show capOk v h (slRow v h _) = _
  rw [← hrr, e1, hrr, e2]
 have hg2 := good_of e2 hg1
 by_cases hz : l0 = 0
 · subst hz
   exact ⟨A0, 0, c0, 0, e3, hv0, hlc, hcm, by decide, ⟨rfl, fun h => absurd h (Nat.lt_irrefl 0)⟩⟩
 · have hz2 : isZ l0 = false := by rw [isZ_eq]; simpa using hz
   rw [hz2] at hg2 e3
   obtain ⟨n, e4, hn, e5⟩ := (bytesN_spec L S cs).2 hcs 0 l0 _ hg2
   rw [List.drop_zero] at e5
   have hlen : (lcv L cs).take l0 = cells8 (l8 n l0) := e5.trans (l8_cells l0 n)
   have hfit : fit l0 (lcv L cs) = cells8 (l8 n l0) := by
    rw [← fit_take, hlen, fit_self (by rw [cells8_len, l8_len])]
   rw [hfit] at hrd
   exact ⟨A0, l0, c0, n, e3.trans e4, hv0, hlc, hcm, hn, hrd⟩
end
end Go.Ev

namespace Go.Ev
open Go.RowKit
open Go.Proofs.YtbkpgmlibiclfaaGreatDoor (W B8 S8 kTab iv0 roundW numB beB beB_len schedW roundsW addS compW padB blocksW shaF bv wv cells8 cells8_len Rd Cells Parts Glob HasK cells32 kWords add_block of_any macOf_any hmacF xorC keyB shaF_len)
section
variable {L : Loc} {S : Ns} {h : H} {w : World}
theorem lc_cons (A W : V) : lcv L (.cons A W) = chv L A ++ lcv L W := rfl
theorem slice_chv {v : V} {A : Option Addr} {l c : Nat} (h : val L v = .slice A l c) (hk : (wf S v).v) : chv L v = [val L v] ∧ (wf S v).v := by
 cases v <;> first | exact ⟨rfl, hk⟩ | cases h | exact absurd hk id
theorem collB_good (hr : Rel L S h w) : ∀ (v : V) (k l n : Nat) (q : Nat → Nat → Nat → R), (wf S v).l → n < 2 ^ (8 * l) → (collB h v k l n q).Good →
 ∃ vals ls N, lcv L v = vals ∧ Parts w w.heap.size vals ls ∧ collB h v k l n q = q (k + ls.length) (l + ls.flatten.length) N ∧ N < 2 ^ (8 * (l + ls.flatten.length)) ∧ l8 N (l + ls.flatten.length) = l8 n l ++ ls.flatten := by
 intro v
 induction v with
 | nil =>
   intro k l n q _ hn _
   exact ⟨[], [], n, rfl, Parts.nil, rfl, by simpa using hn, by simp⟩
 | cons A W _ ihW =>
   intro k l n q hw hn hg
   have hg0 : (slBytes A h (fun m y => frc (Nat.add n (Nat.shiftLeft y (Nat.mul 8 l))) (fun n => frc (Nat.add l m) (fun l => collB h W (Nat.succ k) l n q)))).Good := hg
   have hwk : (wf S A).v := by
    have h1 : (wf S A).k := hw.1
    cases A <;> first | exact h1 | exact (bad_good hg0).elim
   obtain ⟨Ad, m, c, y, e1, hv, hlc, hcm, hy, hrd⟩ := slBytes_good hr hwk hg0
   have hg1 := good_of e1 hg0
   have e0 : collB h (.cons A W) k l n q = collB h W (Nat.succ k) (Nat.add l m) (Nat.add n (Nat.shiftLeft y (Nat.mul 8 l))) q := e1.trans ((frc_eq _ _).trans (frc_eq _ _))
   simp only [frc_eq] at hg1
   obtain ⟨vals, ls, N, h1, h2, h3, h4, h5⟩ := ihW (Nat.succ k) (Nat.add l m) (Nat.add n (Nat.shiftLeft y (Nat.mul 8 l))) q hw.2 (lt_app hn hy) hg1
   have hm : (l8 y m).length = m := l8_len y m
   refine ⟨val L A :: vals, l8 y m :: ls, N, ?_, ?_, ?_, ?_, ?_⟩
   · rw [lc_cons, (slice_chv hv hwk).1, h1]; rfl
   · rw [hv]
     have := Parts.cons (w := w) (B := w.heap.size) (c := c) (A := Ad) (l := l8 y m) (by rw [hm]; exact hrd) (by rw [hm]; exact hlc) hcm h2
     rwa [hm] at this
   · show collB h (.cons A W) k l n q = _
     rw [e0, h3]
     simp only [List.length_cons, List.flatten_cons, List.length_append, hm]
     rw [show Nat.succ k + ls.length = k + (ls.length + 1) by omega, show Nat.add l m + ls.flatten.length = l + (m + ls.flatten.length) by show l + m + _ = _; omega]
   · simp only [List.flatten_cons, List.length_append, hm]
     rw [show l + (m + ls.flatten.length) = Nat.add l m + ls.flatten.length by show _ = l + m + _; omega]
     exact h4
   · simp only [List.flatten_cons, List.length_append, hm]
     rw [show l + (m + ls.flatten.length) = Nat.add l m + ls.flatten.length by show _ = l + m + _; omega, h5]
     show l8 (n + y <<< (8 * l)) (l + m) ++ _ = _
     rw [l8_app _ _ _ _ hn, List.append_assoc]
 | _ => intro k l n q hw; exact hw.elim
theorem eqTab_ok : ∀ (xs : List Nat) (v : V), eqTab xs v = true → (lcv L v).take xs.length = xs.map (fun x => iv 6 x)
 | [], v, _ => by simp
 | x :: xs, v, hh => by
   cases v with
   | cons A W =>
     cases A with
     | i k n =>
       have h0 : Bool.and (Bool.and (Nat.beq k 6) (Nat.beq n x)) (eqTab xs W) = true := hh
       simp only [Bool.and_eq_true, Nat.beq_eq] at h0
       obtain ⟨⟨rfl, rfl⟩, h3⟩ := h0
       have := eqTab_ok xs W h3
       rw [lc_cons]
       show (iv 6 n :: lcv L W).take (xs.length + 1) = _
       rw [List.take_succ_cons, this]; rfl
     | _ => exact absurd hh (by intro h; cases h)
   | _ => exact absurd hh (by intro h; cases h)
theorem tab_cells {xs : List Nat} {v : V} (hq : eqTab xs v = true) : fit xs.length (lcv L v) = xs.map (fun x => iv 6 x) := by
 rw [← fit_take, eqTab_ok xs v hq, fit_self (by simp)]
theorem tabOk_good {P : Program} {q : R} (hr : Rel L S h w) (hgok : GOk P L S) (hG1 : 1 < P.globals.size) (hG2 : 2 < P.globals.size) (hg : (tabOk h q).Good) : tabOk h q = q ∧ Glob w := by
 obtain ⟨el, s, N, op, fz, cs, hn, e1⟩ := asRow_good hg
 have g1 := good_of e1 hg
 obtain ⟨h1, e2⟩ := rec_good (z := Bool.and (Nat.beq N 8) (Bool.and (Bool.not op) (eqIv cs))) g1
 have g2 := good_of e2 g1
 obtain ⟨el', s', N', op', fz', cs', hn', e3⟩ := asRow_good g2
 have g3 := good_of e3 g2
 obtain ⟨h2, e4⟩ := rec_good (z := Bool.and (Nat.beq N' 64) (Bool.and (Bool.not op') (eqK6 cs'))) g3
 simp only [Bool.and_eq_true, Nat.beq_eq, Bool.not_eq_true'] at h1 h2
 obtain ⟨rfl, rfl, h13⟩ := h1
 obtain ⟨rfl, rfl, h23⟩ := h2
 refine ⟨e1.trans (e2.trans (e3.trans e4)), ?_⟩
 have get : ∀ (g : Nat) (el s N fz : Nat) (cs : V), g < P.globals.size → H.get (gn g) h = .row el s N false fz cs → ∃ t fr, w.heap[g]? = some (.cells (fit N (lcv L cs)).toArray t fr) := by
  intro g el s N fz cs hlt hn
  obtain ⟨hS, ob, hob, hbr⟩ := hr.blk (gn g) (by rw [hn]; simp)
  rw [hn] at hbr
  rw [(hgok g hlt).2] at hob
  obtain ⟨arr, fr, el2, rfl, _, _, htk, _, hN, _⟩ := hbr.row
  refine ⟨el2, fr, ?_⟩
  rw [hob, ← htk, ← hN rfl]
  congr 2
  apply Array.ext'
  rw [List.toList_toArray, ← Array.length_toList, List.take_length]
 have c1 := get _ _ _ _ _ _ hG1 hn
 have c2 := get _ _ _ _ _ _ hG2 hn'
 have t1 : fit 8 (lcv L cs) = _ := tab_cells (xs := ivTab) h13
 have t2 : fit 64 (lcv L cs') = _ := tab_cells (xs := kTab) h23
 rw [t1] at c1
 rw [t2] at c2
 have u1 : ivTab.map (fun x => iv 6 x) = iv0.cells := by kernel_rfl
 have u2 : kTab.map (fun x => iv 6 x) = cells32 kWords := by kernel_rfl
 rw [u1] at c1
 rw [u2] at c2
 exact ⟨c2, c1⟩
end
end Go.Ev

namespace Go.Ev
open Go.RowKit
open Go.Proofs.YtbkpgmlibiclfaaGreatDoor (W B8 S8 kTab iv0 numB beB beB_len padB blocksW shaF bv wv cells8 cells8_len Rd Cells Parts Glob HasK of_any macOf_any hmacF xorC xorC_len keyB keyB_len shaF_len)
noncomputable section
def digV (N : Nat) : V := .agg 32 (.cons (.bs 32 N) .nil)
def orcOf : Cal → V → H → Nm → C := fun _ a h c => rToC (arg1 a (fun ps => tabOk h (slRow ps h (fun m cs => collB h cs 0 0 0 (fun k l n =>
 Bool.rec (.bad 960) (shaN l n (fun N => done (digV N) h c)) (Bool.and (Nat.beq k m) (Bool.and (Nat.ble l 100000000) (Nat.ble m 100000000))))))))
def k36 : Nat := 0x36363636363636363636363636363636363636363636363636363636363636363636363636363636363636363636363636363636363636363636363636363636
def k5c : Nat := 0x5c5c5c5c5c5c5c5c5c5c5c5c5c5c5c5c5c5c5c5c5c5c5c5c5c5c5c5c5c5c5c5c5c5c5c5c5c5c5c5c5c5c5c5c5c5c5c5c5c5c5c5c5c5c5c5c5c5c5c5c5c5c5c5c
def orcMac : Cal → V → H → Nm → C := fun _ a h c => rToC (arg2 a (fun key ps => tabOk h (slBytes key h (fun kl kn => Bool.rec (.bad 962) (slRow ps h (fun m cs => frc (Nat.xor kn k36) (fun x => collB h cs 0 64 x (fun k l n =>
 Bool.rec (.bad 961) (shaN l n (fun N => frc (Nat.add (Nat.xor kn k5c) (Nat.shiftLeft N 512)) (fun n => shaN 96 n (fun N => done (digV N) h c))))
  (Bool.and (Nat.beq k m) (Bool.and (Nat.ble l 100000000) (Nat.ble m 100000000))))))) (Nat.ble kl 64)))))
end
section
variable {L : Loc} {S : Ns} {h : H} {w : World}
theorem arg1_good {a : V} {q : V → R} (hg : (arg1 a q).Good) : ∃ A, a = .cons A .nil ∧ arg1 a q = q A := by
 cases a with
 | cons A W =>
   obtain ⟨h1, e1⟩ := rec_good (z := _) hg
   cases W with
   | nil => exact ⟨A, rfl, e1⟩
   | _ => exact absurd h1 (by intro h; cases h)
 | _ => exact (bad_good hg).elim
theorem arg2_good {a : V} {q : V → V → R} (hg : (arg2 a q).Good) : ∃ A B, a = .cons A (.cons B .nil) ∧ arg2 a q = q A B := by
 cases a with
 | cons A W =>
   have hg' : (arg1 W (fun B => q A B)).Good := hg
   obtain ⟨B, rfl, e⟩ := arg1_good hg'
   exact ⟨A, B, rfl, e⟩
 | _ => exact (bad_good hg).elim
theorem val_dig (N : Nat) (l : List B8) (h : l8 N 32 = l) : val L (digV N) = .agg (cells8 l).toArray := by
 show Value.agg (fit 32 (chv L (.bs 32 N) ++ [])).toArray = _
 rw [List.append_nil, l8_cells, h, fit_self]
 rw [cells8_len, ← h, l8_len]
theorem fit_len_take {n : Nat} {l : List Value} (h : l.length = n) : fit n l = l := fit_self h
theorem ret_done (v : V) (h : H) (c : Nm) : rToC (done v h c) = .ret v h c := rfl
end
end Go.Ev

namespace Go.Ev
open Go.RowKit
open Go.Proofs
open Go.Proofs.YtbkpgmlibiclfaaGreatDoor (W B8 S8 kTab iv0 numB beB beB_len padB blocksW shaF bv wv cells8 cells8_len Rd Cells Parts Glob HasK of_any macOf_any hmacF xorC xorC_len keyB keyB_len shaF_len)
theorem namesOk : NamesOk Tryz.prog := fun f fn h => by
 have h1 : (Tryz.prog.funcs.all fun fn => !(fn.name == "runtime.NumGoroutine")) = true := by kernel_rfl
 rw [Array.all_eq_true'] at h1
 have := h1 fn (Array.mem_of_getElem? h)
 simpa using this
theorem globs : Tryz.prog.globals.size = 3 := by kernel_rfl
theorem boolAnd {a b : Bool} (h : Bool.and a b = true) : a = true ∧ b = true := by cases a <;> cases b <;> first | exact ⟨rfl, rfl⟩ | cases h
theorem orcOf_ok {cd : Code} (hb : Tryz.f103.body = some cd) : OrcOk Tryz.prog 103 orcOf := by
 intro cal args h c L S w _ hr hbd hgok ha hg
 have hR := rToC_good hg
 obtain ⟨ps, rfl, e1⟩ := arg1_good hR
 have g1 := good_of e1 hR
 obtain ⟨e2, hG⟩ := tabOk_good hr hgok (by rw [globs]; decide) (by rw [globs]; decide) g1
 have g2 := good_of e2 g1
 obtain ⟨A, m, cp, cs, e3, hv, hcs, hrd⟩ := slRow_good hr ha.1 g2
 have g3 := good_of e3 g2
 obtain ⟨vals, ls, N, h1, h2, e4, h4, h5⟩ := collB_good hr cs 0 0 0 _ hcs (by decide) g3
 have g4 := good_of e4 g3
 obtain ⟨hz, e5⟩ := rec_good (z := _) g4
 have g5 := good_of e5 g4
 obtain ⟨z1, z2⟩ := boolAnd hz
 obtain ⟨z3, z4⟩ := boolAnd z2
 rw [Nat.beq_eq] at z1
 rw [Nat.ble_eq] at z3 z4
 rw [Nat.zero_add] at z1 z3 h4 h5 
 obtain ⟨D, e6, hD, h6⟩ := shaN_eq _ N (fun N => done (digV N) h c) h4 (by omega)
 have hR2 : orcOf cal (.cons ps .nil) h c = .ret (digV D) h c := by
  show rToC _ = _
  rw [e1, e2, e3, e4, e5, Nat.zero_add, e6]; rfl
 rw [hR2]
 refine orc_post namesOk Tryz.func103 hb ?_
 have hl0 : (l8 0 0 : List B8) = [] := rfl
 rw [hl0, List.nil_append] at h5
 have hfit : fit m (lcv L cs) = vals := by rw [h1, fit_self]; rw [h2.1, z1]
 rw [hfit] at hrd
 have hcall := of_any A m cp vals ls w hG z1.symm hrd h2 (by omega) (by omega)
 have hl : (lsv L (.cons ps .nil)).toArray = #[.slice A m cp] := by rw [← hv]; rfl
 rw [hl]
 refine hcall.mono fun e w' ⟨he, hbel⟩ => post_below hr hbd hbel ?_ ⟨hD, trivial⟩
 rw [he, val_dig D _ rfl, h6, h5]
theorem xor_byte (a b j : Nat) : byteAt (a ^^^ b) j = byteAt a j ^^^ byteAt b j := by
 apply Nat.eq_of_testBit_eq
 intro i
 show Nat.testBit ((a ^^^ b) >>> (8 * j) &&& 255) i = Nat.testBit ((a >>> (8 * j) &&& 255) ^^^ (b >>> (8 * j) &&& 255)) i
 rw [Nat.testBit_and, Nat.testBit_xor, Nat.testBit_and, Nat.testBit_and, Nat.testBit_shiftRight, Nat.testBit_shiftRight, Nat.testBit_shiftRight, Nat.testBit_xor]
 cases Nat.testBit a (8 * j + i) <;> cases Nat.testBit b (8 * j + i) <;> cases Nat.testBit 255 i <;> rfl
theorem l8_xor (a b m : Nat) (x : B8) (hx : ∀ j, j < m → BitVec.ofNat 8 (byteAt b j) = x) : l8 (a ^^^ b) m = xorC (l8 a m) x := by
 unfold l8 xorC
 rw [List.map_map]
 refine List.map_congr_left fun j hj => ?_
 rw [xor_byte, Function.comp, ← hx j (List.mem_range.1 hj), BitVec.ofNat_xor]
theorem k36_at : ∀ j, j < 64 → BitVec.ofNat 8 (byteAt k36 j) = 0x36#8 := by decide +kernel
theorem k5c_at : ∀ j, j < 64 → BitVec.ofNat 8 (byteAt k5c j) = 0x5c#8 := by decide +kernel
theorem key64 (kn kl : Nat) (hk : kn < 2 ^ (8 * kl)) (h : kl ≤ 64) : l8 kn 64 = keyB (l8 kn kl) := by
 have := l8_app kn 0 kl (64 - kl) hk
 rw [Nat.zero_shiftLeft, Nat.add_zero, l8_zero, show kl + (64 - kl) = 64 by omega] at this
 rw [this]; unfold keyB; rw [l8_len]; rfl
theorem xor_lt {a b k m : Nat} (ha : a < 2 ^ (8 * k)) (hkm : k ≤ m) (hb : b < 2 ^ (8 * m)) : a ^^^ b < 2 ^ (8 * m) := Nat.xor_lt_two_pow (Nat.lt_of_lt_of_le ha (Nat.pow_le_pow_right (by decide) (by omega))) hb
theorem k36_lt : ∀ m, m = 64 → k36 < 2 ^ (8 * m) := by intro m h; subst h; decide +kernel
theorem k5c_lt : ∀ m, m = 64 → k5c < 2 ^ (8 * m) := by intro m h; subst h; decide +kernel
theorem key_xor {kn kl : Nat} (m : Nat) (hm : m = 64) (ha : kn < 2 ^ (8 * kl)) (hkm : kl ≤ m) : kn ^^^ k36 < 2 ^ (8 * m) ∧ kn ^^^ k5c < 2 ^ (8 * m) := ⟨xor_lt ha hkm (k36_lt m hm), xor_lt ha hkm (k5c_lt m hm)⟩
theorem shaN_two {x D : Nat} (m : Nat) (hm : m = 64) (q : Nat → R) (hx : x < 2 ^ (8 * m)) (hD : D < 2 ^ (8 * 32)) : ∃ D2, shaN (m + 32) (x + D <<< (8 * m)) q = q D2 ∧ D2 < 2 ^ (8 * 32) ∧ l8 D2 32 = shaF (l8 (x + D <<< (8 * m)) (m + 32)) := shaN_eq (m + 32) _ q (lt_app hx hD) (by omega)
set_option maxHeartbeats 1000000 in
theorem orcMac_ok {cd : Code} (hb : Tryz.f112.body = some cd) : OrcOk Tryz.prog 112 orcMac := by
 intro cal args h c L S w _ hr hbd hgok ha hg
 have hR := rToC_good hg
 obtain ⟨key, ps, rfl, e1⟩ := arg2_good hR
 have g1 := good_of e1 hR
 obtain ⟨e2, hG⟩ := tabOk_good hr hgok (by rw [globs]; decide) (by rw [globs]; decide) g1
 have g2 := good_of e2 g1
 obtain ⟨Ak, kl, ck, kn, e3, hvk, _, _, hkn, hrk⟩ := slBytes_good hr ha.1 g2
 have g3 := good_of e3 g2
 obtain ⟨hkl, e3b⟩ := rec_good (z := _) g3
 rw [Nat.ble_eq] at hkl
 replace g3 := good_of e3b g3
 obtain ⟨A, m, cp, cs, e4, hv, hcs, hrd⟩ := slRow_good hr ha.2.1 g3
 have g4 := good_of (e4.trans (frc_eq _ _)) g3
 obtain ⟨hx, hx2⟩ := key_xor 64 rfl hkn hkl
 obtain ⟨vals, ls, N, h1, h2, e5, h4, h5⟩ := collB_good hr cs 0 64 (Nat.xor kn k36) _ hcs hx g4
 have g5 := good_of e5 g4
 obtain ⟨hz, e6⟩ := rec_good (z := _) g5
 have g6 := good_of e6 g5
 obtain ⟨z1, z2⟩ := boolAnd hz
 obtain ⟨z3, z4⟩ := boolAnd z2
 rw [Nat.beq_eq] at z1
 rw [Nat.ble_eq] at z3 z4
 rw [Nat.zero_add] at z1
 obtain ⟨D, e7, hD, h6⟩ := shaN_eq _ N (fun N => frc (Nat.add (Nat.xor kn k5c) (Nat.shiftLeft N 512)) (fun n => shaN 96 n (fun N => done (digV N) h c))) h4 (by omega)
 obtain ⟨D2, e8, hD2, h7⟩ := shaN_two 64 rfl (fun N => done (digV N) h c) hx2 hD
 have hR2 : orcMac cal (.cons key (.cons ps .nil)) h c = .ret (digV D2) h c := by
  show rToC _ = _
  rw [e1, e2, e3, e3b, e4, frc_eq, e5, e6, e7, frc_eq]
  refine (congrArg rToC e8).trans rfl
 rw [hR2]
 refine orc_post namesOk Tryz.func112 hb ?_
 have hkb : l8 (kn ^^^ k36) 64 = xorC (keyB (l8 kn kl)) 0x36#8 := by rw [l8_xor _ _ _ _ k36_at, key64 _ _ hkn hkl]
 have hkc : l8 (kn ^^^ k5c) 64 = xorC (keyB (l8 kn kl)) 0x5c#8 := by rw [l8_xor _ _ _ _ k5c_at, key64 _ _ hkn hkl]
 have hmac : l8 D2 32 = hmacF (l8 kn kl) ls.flatten := by
  have h8 : l8 ((kn ^^^ k5c) + D <<< (8 * 64)) (64 + 32) = _ := l8_app _ _ _ _ hx2
  rw [h7, h8, h6, h5, hkc]
  show _ = shaF (_ ++ shaF (_ ++ _))
  rw [show (Nat.xor kn k36) = kn ^^^ k36 from rfl, hkb]; rfl
 have hfit : fit m (lcv L cs) = vals := by rw [h1, fit_self]; rw [h2.1, z1]
 rw [hfit] at hrd
 have hkl2 : (l8 kn kl).length = kl := l8_len _ _
 have hcall := macOf_any Ak ck (l8 kn kl) A m cp vals ls w hG (by rw [hkl2]; exact hrk) (by rw [hkl2]; exact hkl) z1.symm hrd h2 (by omega) (by omega)
 have hl : (lsv L (.cons key (.cons ps .nil))).toArray = #[.slice Ak (l8 kn kl).length ck, .slice A m cp] := by rw [hkl2, ← hv, ← hvk]; rfl
 rw [hl]
 refine hcall.mono fun e w' ⟨he, hbel⟩ => post_below hr hbd hbel ?_ ⟨hD2, trivial⟩
 rw [he, val_dig D2 _ rfl, hmac]
end Go.Ev

namespace Go.Ev
open Go.RowKit
open Go.Proofs
open Go.Proofs.YtbkpgmlibiclfaaGreatDoor (W B8 beB beB_len wv cells8 cells8_len NewB putD32_any putD64_any Row)
noncomputable section
def putRes (n x : Nat) (h : H) (c : Nm) : C := .ret (.sl c 0 n n) (H.set c (.row 5 1 n false 0 (.cons (.bs n x) .nil)) h) (Nm.succ c)
def asIC (v : V) (q : Nat → Nat → C) : C := v_i (α := C) (.bad 980) (fun k n => q k n) v
def arg1C (a : V) (q : V → C) : C := v_cons (α := C) (.bad 981) (fun A W => Bool.rec (.bad 982) (q A) (v_nil (α := Bool) (false) (true) W)) a
def orcPut32 : Cal → V → H → Nm → C := fun _ a h c => arg1C a (fun v => asIC v (fun k n => Bool.rec (.bad 983) (frc (rev4 n) (fun x => putRes 4 x h c)) (Nat.beq k 6)))
def orcPut64 : Cal → V → H → Nm → C := fun _ a h c => arg1C a (fun v => asIC v (fun k n => Bool.rec (.bad 984) (frc (rev8 n) (fun x => putRes 8 x h c)) (Nat.beq k 7)))
end
section
variable {L : Loc} {S : Ns} {h : H} {c : Nm} {w w' : World}
theorem Stp.fresh (hr : Rel L S h w) (hb : Bd S c) {b : Blk} {o : Obj} {g k : Nat} (hbel : Below w.heap.size w w') (hg : w.heap.size ≤ g) (ho : w'.heap[g]? = some o) (hbr : BR (L.put c g k) (addN S c) c b o) (_ : b ≠ .no) :
 Stp L S h c w (L.put c g k) (addN S c) (H.set c b h) (Nm.succ c) w' := by
 have hn : ¬ S c := fun h => Nat.lt_irrefl _ (hb c h)
 have hsucc : (Nm.succ c).toNat = c.toNat + 1 := nm_succ c
 have hag := Loc.put_agr (L := L) (S := S) (n := c) g k hn
 have hget : ∀ m, H.get m (H.set c b h) = if m = c then b else H.get m h := fun m => hget_set c m b h
 exact {
  sub := fun _ hm => .inl hm
  new := fun m hm => by
   rcases hm with hm | rfl
   · exact .inl hm
   · exact .inr (Nat.le_refl _)
  agr := hag
  cle := by omega
  bd := fun m hm => by
   rcases hm with hm | rfl
   · have := hb m hm; omega
   · omega
  relb := fun n hn => (hr.blk n hn).1
  rel := by
   refine ⟨fun m hm => ?_, fun m m' hm hm' e => ?_⟩
   · rw [hget] at hm ⊢
     by_cases hmn : m = c
     · subst hmn
       rw [if_pos rfl] at hm ⊢
       exact ⟨.inr rfl, o, by rw [Loc.put_b]; exact ho, hbr⟩
     · rw [if_neg hmn] at hm ⊢
       obtain ⟨h1, o', h2, h3⟩ := hr.blk m hm
       refine ⟨.inl h1, o', ?_, h3.congr (fun _ h => .inl h) hag h1⟩
       rw [(hag m h1).1, hbel.block _ (lt_size h2)]; exact h2
   · rw [hget] at hm hm'
     by_cases hmn : m = c
     · by_cases hmn' : m' = c
       · rw [hmn, hmn']
       · rw [if_neg hmn'] at hm'
         subst hmn
         rw [Loc.put_b, (hag m' (hr.blk m' hm').1).1] at e
         have := hr.lt hm'; omega
     · rw [if_neg hmn] at hm
       by_cases hmn' : m' = c
       · subst hmn'
         rw [Loc.put_b, (hag m (hr.blk m hm).1).1] at e
         have := hr.lt hm; omega
       · rw [if_neg hmn'] at hm'
         rw [(hag m (hr.blk m hm).1).1, (hag m' (hr.blk m' hm').1).1] at e
         exact hr.inj m m' hm hm' e
  size := hbel.size
  kept := fun r o' ho' _ => by rw [hbel.block _ (lt_size ho')]; exact ho'
  roH := fun m hm => by
   have : m ≠ c := fun e => hn (e ▸ (hr.blk m (isRo_ne hm)).1)
   rw [hget_set, if_neg this]
  out := ⟨hbel.os, hbel.tape, hbel.output⟩
  dom := fun m hm => by
   rw [hget_set] at hm
   by_cases hmn : m = c
   · subst hmn; exact .inr (by rw [Loc.put_b]; exact hg)
   · rw [if_neg hmn] at hm
     exact .inl ⟨m, hm, (hag m (hr.blk m hm).1).1⟩ }
theorem newB_post (hr : Rel L S h w) (hb : Bd S c) {n x : Nat} {l : List B8} {e : Ending} (hx : x < 2 ^ (8 * n)) (hl : l8 x n = l) (hN : NewB l w e w') : CPost L S h c w (putRes n x h c) e w' := by
 obtain ⟨g, he, hrow, hg, hbel⟩ := hN
 have hlen : l.length = n := by rw [← hl, l8_len]
 rw [hlen] at he
 refine ⟨L.put c g 0, addN S c, ?_, .inr rfl, Stp.fresh hr hb hbel hg hrow ⟨.inl rfl, ⟨hx, trivial⟩, ⟨.inr ⟨Nat.le_refl _, .inl rfl⟩, fun i _ _ h => Nat.not_lt_zero _ h.2⟩, ?_⟩ (by simp)⟩
 · rw [he]
   show _ = Ending.returned (.slice (some ⟨(L.put c g 0).b c, 0, none⟩) n n)
   rw [Loc.put_b]
 · show (cells8 l).toArray.toList = fit n (chv (L.put c g 0) (.bs n x) ++ [])
   rw [List.append_nil, l8_cells, hl, fit_self]
   rw [cells8_len, hlen]
theorem arg1C_good {a : V} {q : V → C} (hg : CGood (arg1C a q)) : ∃ A, a = .cons A .nil ∧ arg1C a q = q A := by
 cases a with
 | cons A W =>
   obtain ⟨h1, e1⟩ := crec_good (z := _) hg
   cases W with
   | nil => exact ⟨A, rfl, e1⟩
   | _ => exact absurd h1 (by intro h; cases h)
 | _ => exact absurd rfl (hg 981)
theorem asIC_good {a : V} {q : Nat → Nat → C} (hg : CGood (asIC a q)) : ∃ k n, a = .i k n ∧ asIC a q = q k n := by
 cases a with
 | i k n => exact ⟨k, n, rfl, rfl⟩
 | _ => exact absurd rfl (hg 980)
theorem orcPut32_ok {cd : Code} (hb : Tryz.f191.body = some cd) : OrcOk Tryz.prog 191 orcPut32 := by
 intro cal args h c L S w _ hr hbd hgok ha hg
 obtain ⟨v, rfl, e1⟩ := arg1C_good hg
 have e1' : orcPut32 cal (.cons v .nil) h c = _ := e1
 rw [e1'] at hg ⊢
 obtain ⟨k, n, rfl, e2⟩ := asIC_good hg
 rw [e2] at hg ⊢
 obtain ⟨hk, e3⟩ := crec_good (z := _) hg
 rw [e3] at hg ⊢
 rw [frc_eq] at hg ⊢
 rw [Nat.beq_eq] at hk
 subst hk
 have hn : n < 2 ^ 32 := ha.1.1
 refine orc_post namesOk Tryz.func191 hb ?_
 have hl : (lsv L (.cons (.i 6 n) .nil)).toArray = #[.int .u32 (wv (BitVec.ofNat 32 n))] := by
  show #[Value.int .u32 (IntKind.u32.wrap n)] = #[.int .u32 (((BitVec.ofNat 32 n).toNat : Nat) : Int)]
  rw [wrap_val .u32 (show n < 2 ^ 32 from hn), if_neg (by simp [IntKind.signed]), BitVec.toNat_ofNat, Nat.mod_eq_of_lt hn]
 rw [hl]
 have hw : (BitVec.ofNat 32 n).toNat = n := by rw [BitVec.toNat_ofNat, Nat.mod_eq_of_lt hn]
 refine (putD32_any (BitVec.ofNat 32 n) w).mono fun e w' hN => newB_post hr hbd (rev4_lt n) ?_ hN
 rw [hw, l8_rev4]
theorem orcPut64_ok {cd : Code} (hb : Tryz.f211.body = some cd) : OrcOk Tryz.prog 211 orcPut64 := by
 intro cal args h c L S w _ hr hbd hgok ha hg
 obtain ⟨v, rfl, e1⟩ := arg1C_good hg
 have e1' : orcPut64 cal (.cons v .nil) h c = _ := e1
 rw [e1'] at hg ⊢
 obtain ⟨k, n, rfl, e2⟩ := asIC_good hg
 rw [e2] at hg ⊢
 obtain ⟨hk, e3⟩ := crec_good (z := _) hg
 rw [e3] at hg ⊢
 rw [frc_eq] at hg ⊢
 rw [Nat.beq_eq] at hk
 subst hk
 have hn : n < 2 ^ 64 := ha.1.1
 refine orc_post namesOk Tryz.func211 hb ?_
 have hl : (lsv L (.cons (.i 7 n) .nil)).toArray = #[.int .u64 (n : Int)] := by
  show #[Value.int .u64 (IntKind.u64.wrap n)] = #[.int .u64 (n : Int)]
  rw [wrap_val .u64 (show n < 2 ^ 64 from hn), if_neg (by simp [IntKind.signed])]
 rw [hl]
 have h8 : rev8 n < 2 ^ (8 * 8) := lt_app (k := 4) (m := 4) (rev4_lt _) (rev4_lt _)
 refine (putD64_any n hn w).mono fun e w' hN => newB_post hr hbd h8 (l8_rev8 n) hN
end
end Go.Ev

namespace Go.Ev
open Go.RowKit
open Go.Proofs
open Go.Proofs.YtbkpgmlibiclfaaGreatDoor (W kTab iv0 cells32 kWords Glob)
section
noncomputable def tabV (k : Nat) (xs : List Nat) : V := List.rec (motive := fun _ => V) .nil (fun x _ ih => .cons (.i k x) ih) xs
noncomputable def memG : List Mb := [⟨gn 0, 0, 1, 2, tabV 3 [45, 33]⟩, ⟨gn 1, 0, 1, 8, tabV 6 ivTab⟩, ⟨gn 2, 0, 1, 64, tabV 6 kTab⟩]
noncomputable def h0 : H := memOf memG
noncomputable def pick (l : List (Nat × (Cal → V → H → Nm → C))) : Orc := fun f => List.rec (motive := fun _ => Option (Cal → V → H → Nm → C)) none (fun p _ ih => Bool.rec ih (some p.2) (Nat.beq f p.1)) l
noncomputable def codeA (c : Code) : Code := match c with | .seq a _ => a | c => c
noncomputable def codeB (c : Code) : Code := match c with | .seq _ b => b | c => c
noncomputable def opAt (c : Code) (i : Nat) : Oper := match c with | .region _ ops _ => ops[i]! | _ => default
noncomputable def regId (c : Code) : Nat := match c with | .region id _ _ => id | _ => 0
noncomputable def callOf (o : Oper) : Call := match o.op with | .call c | .go c | .defer c => c | _ => default
noncomputable def bodyOf (f : Func) : Code := f.body.getD .skip
noncomputable def funAt (P : Program) (n : Nat) : Func := P.funcs[n]!
end
theorem pick_mem {f : Nat} {g : Cal → V → H → Nm → C} : ∀ l, pick l f = some g → (f, g) ∈ l
 | [], h => by cases h
 | p :: l, h => by
   have e : pick (p :: l) f = Bool.rec (pick l f) (some p.2) (Nat.beq f p.1) := rfl
   rw [e] at h
   cases hz : Nat.beq f p.1
   · rw [hz] at h
     exact List.mem_cons_of_mem _ (pick_mem l h)
   · rw [hz] at h
     rw [Nat.beq_eq] at hz
     have h' : some p.2 = some g := h
     injection h' with h'
     rw [hz, ← h']
     exact List.mem_cons_self
theorem pick_ok {P : Program} {l : List (Nat × (Cal → V → H → Nm → C))} (h : ∀ p ∈ l, OrcOk P p.1 p.2) : ∀ f g, pick l f = some g → OrcOk P f g := fun f g he => h (f, g) (pick_mem l he)
section
variable {L : Loc} {S : Ns} {h : H} {w : World}
theorem tabV_lc (k : Nat) : ∀ xs : List Nat, lcv L (tabV k xs) = xs.map (fun x => iv k x)
 | [] => rfl
 | x :: xs => by
   show chv L (.i k x) ++ lcv L (tabV k xs) = _
   rw [tabV_lc k xs]; rfl
theorem tabV_wf {k : Nat} (hk : k < 8) : ∀ xs : List Nat, (xs.all fun x => Nat.blt x (2 ^ kbits k)) = true → (wf S (tabV k xs)).l
 | [], _ => trivial
 | x :: xs, h => by
   simp only [List.all_cons, Bool.and_eq_true] at h
   exact ⟨⟨by simpa using h.1, hk⟩, tabV_wf hk xs h.2⟩
theorem memOf_get : ∀ (l : List Mb) (n : Nm), H.get n (memOf l) ≠ .no → ∃ m ∈ l, n = m.n ∧ H.get n (memOf l) = .row m.el m.sz m.N false m.N m.cs
 | [], n, hn => absurd (hget_e n) hn
 | m :: l, n, hn => by
   have e : H.get n (memOf (m :: l)) = if n = m.n then .row m.el m.sz m.N false m.N m.cs else H.get n (memOf l) := hget_set _ _ _ _
   by_cases hm : n = m.n
   · rw [if_pos hm] at e
     exact ⟨m, List.mem_cons_self, hm, e⟩
   · rw [if_neg hm] at e
     rw [e] at hn
     obtain ⟨m', h4, h5, h6⟩ := memOf_get l n hn
     exact ⟨m', List.mem_cons_of_mem _ h4, h5, e.trans h6⟩
def MbIs (G : Nat) (w : World) (m : Mb) : Prop := 0 < m.N ∧ (∀ S : Ns, (wf S m.cs).l) ∧ ∃ g, g < G ∧ m.n = gn g ∧ ∃ (arr : Array Value) (t : TypeId) (fr : Nat × Nat), w.heap[g]? = some (.cells arr t fr) ∧ arr.toList = fit m.N (lcv L0 m.cs)
theorem rel_mem {G : Nat} {l : List Mb} (h : ∀ m ∈ l, MbIs G w m) : Rel L0 (S0 G) (memOf l) w ∧ ∀ n, H.get n (memOf l) ≠ .no → isRo (H.get n (memOf l)) = true := by
 refine ⟨⟨fun n hn => ?_, fun n n' hn hn' e => ?_⟩, fun n hn => ?_⟩
 · obtain ⟨m, hm, rfl, e1⟩ := memOf_get l n hn
   obtain ⟨h1, h2, g, h3, h4, arr, t, fr, h5, h6⟩ := h m hm
   rw [e1, h4]
   have hsz : arr.size = m.N := by
    have := congrArg List.length h6
    rw [fit_length] at this; simpa using this
   exact ⟨⟨g, h3, rfl⟩, .cells arr t fr, by rw [L0_b]; exact h5, .inr ⟨h1, Nat.le_refl _, rfl⟩, h2 _, ⟨.inl h1, fun i hi1 hi2 => by omega⟩, h6⟩
 · obtain ⟨m, hm, rfl, _⟩ := memOf_get l n hn
   obtain ⟨m', hm', rfl, _⟩ := memOf_get l n' hn'
   obtain ⟨_, _, g, _, h4, _⟩ := h m hm
   obtain ⟨_, _, g', _, h4', _⟩ := h m' hm'
   rw [h4, h4', L0_b, L0_b] at e
   rw [h4, h4', e]
 · obtain ⟨m, hm, rfl, e1⟩ := memOf_get l n hn
   have := (h m hm).1
   rw [e1]
   simp [isRo]; omega
def Sizes (w : World) : Prop := ∃ t fr, w.heap[0]? = some (.cells #[.int .i64 45, .int .i64 33] t fr)
theorem memG_is (h1 : Glob w) (h2 : Sizes w) : ∀ m ∈ memG, MbIs Tryz.prog.globals.size w m := by
 intro m hm
 rw [globs]
 obtain ⟨⟨t2, f2, g2⟩, t1, f1, g1⟩ := h1
 obtain ⟨t0, f0, g0⟩ := h2
 have u0 : ([45, 33] : List Nat).map (fun x => iv 3 x) = [.int .i64 45, .int .i64 33] := by kernel_rfl
 have u1 : ivTab.map (fun x => iv 6 x) = iv0.cells := by kernel_rfl
 have u2 : kTab.map (fun x => iv 6 x) = cells32 kWords := by kernel_rfl
 simp only [memG, List.mem_cons, List.not_mem_nil, or_false] at hm
 rcases hm with rfl | rfl | rfl
 · exact ⟨by decide, fun S => (tabV_wf (k := 3) (by decide) [45, 33] (by decide) : (wf S (tabV 3 [45, 33])).l), _, by decide, rfl, _, t0, f0, g0, by
    show _ = fit 2 (lcv L0 (tabV 3 [45, 33]))
    rw [tabV_lc, u0]; rfl⟩
 · exact ⟨by decide, fun S => (tabV_wf (k := 6) (by decide) ivTab (by decide +kernel) : (wf S (tabV 6 ivTab)).l), _, by decide, rfl, _, t1, f1, g1, by
    show _ = fit 8 (lcv L0 (tabV 6 ivTab))
    rw [tabV_lc, u1]; exact (fit_self (by rw [← u1]; rfl)).symm⟩
 · exact ⟨by decide, fun S => (tabV_wf (k := 6) (by decide) kTab (by decide +kernel) : (wf S (tabV 6 kTab)).l), _, by decide, rfl, _, t2, f2, g2, by
    show _ = fit 64 (lcv L0 (tabV 6 kTab))
    rw [tabV_lc, u2]; exact (fit_self (by rw [← u2, List.length_map]; decide +kernel)).symm⟩
end
section
noncomputable def yA : Code := bodyOf Tryz.f221
noncomputable def yF1 : Nat := match (opAt (codeA (codeB yA)) 0).op with | .makeFunc (.func f) _ _ => f | _ => 0
noncomputable def yF : Func := funAt Tryz.prog yF1
noncomputable def yB : Code := bodyOf yF
noncomputable def cyC : Cy Tryz.prog where
 f0 := 221
 f1 := yF1
 fn0 := Tryz.f221
 fn1 := yF
 A := codeA yA
 B := codeB (codeB yA)
 Rest := codeB yB
 idD := regId (codeA (codeB yA))
 idR := regId (codeA yB)
 o1 := opAt (codeA (codeB yA)) 0
 o2 := opAt (codeA (codeB yA)) 1
 o3 := opAt (codeA yB) 0
 o4 := opAt (codeA yB) 1
 c2 := callOf (opAt (codeA (codeB yA)) 1)
 c3 := callOf (opAt (codeA yB) 0)
 s2 := 2
 s4 := 4
 r1 := 1
 r4 := 4
 h0 := Tryz.func221
 b0 := by kernel_rfl
 z0 := by kernel_rfl
 h1 := by kernel_rfl
 b1 := by kernel_rfl
 z1 := by kernel_rfl
 o1d := by kernel_rfl
 o1o := by kernel_rfl
 o1g := by kernel_rfl
 o2d := by kernel_rfl
 o2o := by kernel_rfl
 o2g := by kernel_rfl
 c2c := by kernel_rfl
 c2a := by kernel_rfl
 o3d := by kernel_rfl
 o3o := by kernel_rfl
 o3g := by kernel_rfl
 c3c := by kernel_rfl
 c3a := by kernel_rfl
 o4d := by kernel_rfl
 o4o := by kernel_rfl
 o4g := by kernel_rfl
 s4f := by kernel_rfl
 s4n := of_decide_eq_true (by kernel_rfl)
 r4n := of_decide_eq_true (by kernel_rfl)
 r1n := of_decide_eq_true (by kernel_rfl)
 rne := by decide
 r4f := by kernel_rfl
noncomputable def orcs : List (Nat × (Cal → V → H → Nm → C)) := [(103, orcOf), (112, orcMac), (191, orcPut32), (211, orcPut64), (221, orcY cyC 3000)]
end
theorem orcs_ok : ∀ p ∈ orcs, OrcOk Tryz.prog p.1 p.2 := by
 have b1 : ∃ cd, Tryz.f103.body = some cd := Option.isSome_iff_exists.1 (by kernel_rfl)
 have b2 : ∃ cd, Tryz.f112.body = some cd := Option.isSome_iff_exists.1 (by kernel_rfl)
 have b3 : ∃ cd, Tryz.f191.body = some cd := Option.isSome_iff_exists.1 (by kernel_rfl)
 have b4 : ∃ cd, Tryz.f211.body = some cd := Option.isSome_iff_exists.1 (by kernel_rfl)
 obtain ⟨_, b1⟩ := b1
 obtain ⟨_, b2⟩ := b2
 obtain ⟨_, b3⟩ := b3
 obtain ⟨_, b4⟩ := b4
 intro p hp
 simp only [orcs, List.mem_cons, List.not_mem_nil, or_false] at hp
 rcases hp with rfl | rfl | rfl | rfl | rfl
 · exact orcOf_ok b1
 · exact orcMac_ok b2
 · exact orcPut32_ok b3
 · exact orcPut64_ok b4
 · exact orcY_ok namesOk 3000
section
variable {h : H}
noncomputable def c0 : Nm := Nm.ofNat 10
noncomputable def closedTrue (P : Program) (O : Orc) (f : FuncId) : Bool := C.rec (motive := fun _ => Bool) (fun _ => false) (fun v _ _ => sameV (.b true) v) (fun _ _ _ => false) (callN P O 3000 60 (.f (.func f) .nil .nil) .nil h0 c0)
theorem law_mem {O : Orc} (hO : ∀ f g, O f = some g → OrcOk Tryz.prog f g) {f : FuncId} {fn : Func} (hf : Tryz.prog.funcs[f]? = some fn) (hb : fn.body.isSome = true) (ht : closedTrue Tryz.prog O f = true) {w : World} (hm : ∀ m ∈ memG, MbIs Tryz.prog.globals.size w m) :
 Calls Tryz.prog f #[] w fun e w' => e = .returned (.bool true) ∧ Below w.heap.size w w' := by
 obtain ⟨cd, hb⟩ := Option.isSome_iff_exists.1 hb
 cases hc : callN Tryz.prog O 3000 60 (.f (.func f) .nil .nil) .nil h0 c0 with
 | ret v h' c' =>
   unfold closedTrue at ht
   rw [hc] at ht
   have hv : V.b true = v := sameV_eq _ _ ht
   subst hv
   obtain ⟨r1, r2⟩ := rel_mem hm
   exact (calls_of_eval (args := .nil) namesOk hO hf hb r1 (by rw [globs]; decide) r2 trivial hc).mono fun e w' ⟨⟨L', S', h3, _⟩, h4⟩ => ⟨h3, h4⟩
 | bad _ => unfold closedTrue at ht; rw [hc] at ht; cases ht
 | panic _ _ _ => unfold closedTrue at ht; rw [hc] at ht; cases ht
theorem law_of {O : Orc} (hO : ∀ f g, O f = some g → OrcOk Tryz.prog f g) {f : FuncId} {fn : Func} (hf : Tryz.prog.funcs[f]? = some fn) (hb : fn.body.isSome = true) (ht : closedTrue Tryz.prog O f = true) {w : World} (h1 : Glob w) (h2 : Sizes w) :
 Calls Tryz.prog f #[] w fun e w' => e = .returned (.bool true) ∧ Below w.heap.size w w' := law_mem hO hf hb ht (memG_is h1 h2)
theorem memG_closed : ∀ m ∈ memG, 0 < m.N ∧ (∀ S : Ns, (wf S m.cs).l) ∧ (∀ L L' : Loc, lcv L m.cs = lcv L' m.cs) ∧ ∃ g, g < Tryz.prog.globals.size ∧ m.n = gn g := by
 intro m hm
 rw [globs]
 simp only [memG, List.mem_cons, List.not_mem_nil, or_false] at hm
 rcases hm with rfl | rfl | rfl
 · exact ⟨by decide, fun S => (tabV_wf (k := 3) (by decide) [45, 33] (by decide) : (wf S (tabV 3 [45, 33])).l), fun L L' => (tabV_lc 3 [45, 33]).trans (tabV_lc 3 [45, 33]).symm, 0, by decide, rfl⟩
 · exact ⟨by decide, fun S => (tabV_wf (k := 6) (by decide) ivTab (by decide +kernel) : (wf S (tabV 6 ivTab)).l), fun L L' => (tabV_lc 6 ivTab).trans (tabV_lc 6 ivTab).symm, 1, by decide, rfl⟩
 · exact ⟨by decide, fun S => (tabV_wf (k := 6) (by decide) kTab (by decide +kernel) : (wf S (tabV 6 kTab)).l), fun L L' => (tabV_lc 6 kTab).trans (tabV_lc 6 kTab).symm, 2, by decide, rfl⟩
theorem inMem_all : ∀ (l : List Mb), inMem l h = true → ∀ m ∈ l, rowIs m (H.get m.n h) = true
 | m :: l, hi, m', hm => by
   obtain ⟨h1, h2⟩ := boolAnd2 hi
   rcases List.mem_cons.1 hm with rfl | hm
   · exact h1
   · exact inMem_all l h2 m' hm
noncomputable def orcLaw : Cal → V → H → Nm → C := fun _ a h c => Bool.rec (.bad 971) (.ret (.b true) h c) (Bool.and (isNil a) (inMem memG h))
theorem orcLaw_ok {O : Orc} (hO : ∀ f g, O f = some g → OrcOk Tryz.prog f g) {f : FuncId} {fn : Func} (hf : Tryz.prog.funcs[f]? = some fn) (hb : fn.body.isSome = true) (ht : closedTrue Tryz.prog O f = true) : OrcOk Tryz.prog f orcLaw := by
 intro cal args h c L S w _ hr hbd hgok ha hg
 obtain ⟨hz, e1⟩ := crec_good (z := Bool.and (isNil args) (inMem memG h)) hg
 have e1' : orcLaw cal args h c = _ := e1
 rw [e1']
 obtain ⟨h1, h2⟩ := boolAnd2 hz
 have hn : args = .nil := by cases args <;> first | rfl | cases h1
 subst hn
 have hm : ∀ m ∈ memG, MbIs Tryz.prog.globals.size w m := fun m hm => by
  obtain ⟨h3, h4, h5, g, h6, h7⟩ := memG_closed m hm
  obtain ⟨el, fz, h8⟩ := rowIs_eq (inMem_all _ h2 m hm)
  obtain ⟨_, o, h9, h10⟩ := hr.blk m.n (by rw [h8]; simp)
  rw [h8] at h10
  rw [h7, (hgok g h6).2] at h9
  cases o with
  | cells arr el' fr =>
    obtain ⟨_, _, _, h11⟩ := h10
    exact ⟨h3, h4, g, h6, h7, arr, el', fr, h9, by rw [h5 L0 L]; exact h11⟩
  | _ => exact h10.elim
 obtain ⟨cd, hcd⟩ := Option.isSome_iff_exists.1 hb
 exact orc_post namesOk hf hcd ((law_mem hO hf hb ht hm).mono fun e w' ⟨h3, h4⟩ => post_below hr hbd h4 h3 trivial)
theorem memos_ok {O : Orc} (hO : ∀ f g, O f = some g → OrcOk Tryz.prog f g) {f : FuncId} {fn : Func} (hf : Tryz.prog.funcs[f]? = some fn) (hb : fn.body.isSome = true) (es : List Memo) (hes : ∀ e ∈ es, ClosedV e.v ∧ memoRun Tryz.prog O 3000 60 f e = true) : OrcOk Tryz.prog f (orcMemo es) := by
 obtain ⟨cd, hb⟩ := Option.isSome_iff_exists.1 hb
 exact orcMemo_ok namesOk hO hf hb es hes
end
end Go.Ev

namespace Go.Ev
open Go.RowKit
section
noncomputable def cG : Nm := Nm.ofNat 64
noncomputable def pureRun (P : Program) (O : Orc) (lf n f : Nat) (a v : V) : Bool := C.rec (motive := fun _ => Bool) (fun _ => false) (fun v' _ _ => sameV v v') (fun _ _ _ => false) (callN P O lf n (.f (.func f) .nil .nil) a .e cG)
variable {P : Program}
theorem pure_ok {O : Orc} {lf n : Nat} (hn : NamesOk P) (hO : ∀ f g, O f = some g → OrcOk P f g) {f : FuncId} {fn : Func} {cd : Code} (hf : P.funcs[f]? = some fn) (hb : fn.body = some cd) {a v : V} (ha : ∀ S : Ns, (wf S a).s) (hv : ClosedV v)
 (hG : P.globals.size < cG.toNat) (hrun : pureRun P O lf n f a v = true) {L : Loc} {S : Ns} {w : World} {h : H} {c : Nm} (hr : Rel L S h w) (hbd : Bd S c) (hgok : GOk P L S) :
 Doing P (CPost L S h c w (.ret v h c)) ((callFunc f (lsv L a).toArray).run P w) := by
 have hrun' := hrun
 unfold pureRun at hrun'
 cases hc : callN P O lf n (.f (.func f) .nil .nil) a .e cG with
 | ret v' h' c' =>
   rw [hc] at hrun'
   have hvv : v = v' := sameV_eq _ _ hrun'
   have hno : ∀ n, H.get n .e = .no := hget_e
   have hr0 : Rel L (S0 P.globals.size) .e w := ⟨fun n hne => absurd (hno n) hne, fun n m hne => absurd (hno n) hne⟩
   have hg0 : GOk P L (S0 P.globals.size) := fun g hg => ⟨⟨g, hg, rfl⟩, (hgok g hg).2⟩
   refine orc_post hn hf hb ((callsIn_of_eval hn hO hf hb hr0 (bd0 hG) hg0 (ha _) hc).mono fun en w' ⟨L', S', h1, h2, h3⟩ => ?_)
   rw [← hvv] at h1 h2
   exact post_below hr hbd (h3.below fun n hne => absurd (hno n) hne) (by rw [h1, (hv L' L S' S).1]) ((hv L' L S' S).2 h2)
 | bad _ => rw [hc] at hrun'; cases hrun'
 | panic _ _ _ => rw [hc] at hrun'; cases hrun'
noncomputable def asB4 (v : V) (q : Nat → C) : C := v_i (α := C) (.bad 986) (fun k n => Bool.rec (.bad 987) (q n) (Bool.and (Nat.beq k 4) (Nat.blt n 256))) v
noncomputable def arg1D (a : V) (q : V → C) : C := v_cons (α := C) (.bad 988) (fun A W => Bool.rec (.bad 989) (q A) (v_nil (α := Bool) (false) (true) W)) a
noncomputable def nthN (l : List Nat) (i : Nat) : Nat := l.getD i 0
noncomputable def orcTab (t : List Nat) : Cal → V → H → Nm → C := fun _ a h c => arg1D a (fun v => asB4 v (fun n => frc (nthN t n) (fun m => .ret (.i 4 m) h c)))
noncomputable def tabRun (P : Program) (O : Orc) (lf n f : Nat) (t : List Nat) (from_ many : Nat) : Bool := (List.range many).all (fun i => Bool.and (Nat.blt (nthN t (from_ + i)) 256) (pureRun P O lf n f (.cons (.i 4 (from_ + i)) .nil) (.i 4 (nthN t (from_ + i)))))
theorem closed_i (k m : Nat) (hm : m < 2 ^ kbits k ∧ k < 8) : ClosedV (.i k m) := fun _ _ _ _ => ⟨rfl, fun _ => hm⟩
theorem arg1D_good {a : V} {q : V → C} (hg : CGood (arg1D a q)) : ∃ A, a = .cons A .nil ∧ arg1D a q = q A := by
 cases a with
 | cons A W =>
   obtain ⟨h1, e1⟩ := crec_good (z := _) hg
   cases W with
   | nil => exact ⟨A, rfl, e1⟩
   | _ => exact absurd h1 (by intro h; cases h)
 | _ => exact absurd rfl (hg 988)
theorem asB4_good {a : V} {q : Nat → C} (hg : CGood (asB4 a q)) : ∃ n, a = .i 4 n ∧ n < 256 ∧ asB4 a q = q n := by
 cases a with
 | i k n =>
   obtain ⟨h1, e1⟩ := crec_good (z := Bool.and (Nat.beq k 4) (Nat.blt n 256)) hg
   obtain ⟨h2, h3⟩ := boolAnd2 h1
   rw [Nat.beq_eq] at h2
   subst h2
   exact ⟨n, rfl, by simpa using h3, e1⟩
 | _ => exact absurd rfl (hg 986)
theorem orcTab_ok {O : Orc} {lf n : Nat} (hn : NamesOk P) (hO : ∀ f g, O f = some g → OrcOk P f g) {f : FuncId} {fn : Func} {cd : Code} (hf : P.funcs[f]? = some fn) (hb : fn.body = some cd) (hG : P.globals.size < cG.toNat) (t : List Nat)
 (h : ∀ i, i < 256 → ∃ a m, a ≤ i ∧ i < a + m ∧ tabRun P O lf n f t a m = true) : OrcOk P f (orcTab t) := by
 intro cal args h' c L S w _ hr hbd hgok ha hg
 obtain ⟨v, rfl, e1⟩ := arg1D_good hg
 have e1' : orcTab t cal (.cons v .nil) h' c = _ := e1
 rw [e1'] at hg ⊢
 obtain ⟨i, rfl, hi, e2⟩ := asB4_good hg
 rw [e2] at hg ⊢
 rw [frc_eq] at hg ⊢
 obtain ⟨a, m, h1, h2, h3⟩ := h i hi
 have h4 := List.all_eq_true.1 h3 (i - a) (List.mem_range.2 (by omega))
 obtain ⟨h5, h6⟩ := boolAnd2 h4
 rw [show a + (i - a) = i by omega] at h5 h6
 have h7 : nthN t i < 256 := by simpa using h5
 exact pure_ok (a := .cons (.i 4 i) .nil) hn hO hf hb (fun S => ⟨⟨hi, by decide⟩, trivial⟩) (closed_i 4 _ ⟨h7, by decide⟩) hG h6 hr hbd hgok
noncomputable def arg2D (a : V) (q : V → V → C) : C := v_cons (α := C) (.bad 991) (fun A W => arg1D W (fun B => q A B)) a
noncomputable def orcTab2 (ts : List (Nat × List Nat)) : Cal → V → H → Nm → C := fun _ a h c => arg2D a (fun b v => asB4 b (fun k => asB4 v (fun n => List.rec (motive := fun _ => C) (.bad 990) (fun p _ ih => Bool.rec ih (frc (nthN p.2 n) (fun m => .ret (.i 4 m) h c)) (Nat.beq k p.1)) ts)))
noncomputable def tab2Run (P : Program) (O : Orc) (lf n f k : Nat) (t : List Nat) (from_ many : Nat) : Bool := (List.range many).all (fun i => Bool.and (Nat.blt (nthN t (from_ + i)) 256) (pureRun P O lf n f (.cons (.i 4 k) (.cons (.i 4 (from_ + i)) .nil)) (.i 4 (nthN t (from_ + i)))))
theorem arg2D_good {a : V} {q : V → V → C} (hg : CGood (arg2D a q)) : ∃ A B, a = .cons A (.cons B .nil) ∧ arg2D a q = q A B := by
 cases a with
 | cons A W =>
   obtain ⟨B, rfl, e1⟩ := arg1D_good (q := fun B => q A B) hg
   exact ⟨A, B, rfl, e1⟩
 | _ => exact absurd rfl (hg 991)
theorem orcTab2_ok {O : Orc} {lf n : Nat} (hn : NamesOk P) (hO : ∀ f g, O f = some g → OrcOk P f g) {f : FuncId} {fn : Func} {cd : Code} (hf : P.funcs[f]? = some fn) (hb : fn.body = some cd) (hG : P.globals.size < cG.toNat) (ts : List (Nat × List Nat))
 (h : ∀ p ∈ ts, ∀ i, i < 256 → ∃ a m, a ≤ i ∧ i < a + m ∧ tab2Run P O lf n f p.1 p.2 a m = true) : OrcOk P f (orcTab2 ts) := by
 intro cal args h' c L S w _ hr hbd hgok ha hg
 obtain ⟨b, v, rfl, e1⟩ := arg2D_good hg
 have e1' : orcTab2 ts cal (.cons b (.cons v .nil)) h' c = _ := e1
 rw [e1'] at hg ⊢
 obtain ⟨k, rfl, hk, e2⟩ := asB4_good hg
 rw [e2] at hg ⊢
 obtain ⟨i, rfl, hi, e3⟩ := asB4_good hg
 rw [e3] at hg ⊢
 clear e1 e1' e2 e3
 induction ts with
 | nil => exact absurd rfl (hg 990)
 | cons p ts ih =>
   cases hz : Nat.beq k p.1 with
   | false =>
     have e0 : (List.rec (motive := fun _ => C) (.bad 990) (fun p _ ih => Bool.rec ih (frc (nthN p.2 i) (fun m => .ret (.i 4 m) h' c)) (Nat.beq k p.1)) (p :: ts) : C) = List.rec (motive := fun _ => C) (.bad 990) (fun p _ ih => Bool.rec ih (frc (nthN p.2 i) (fun m => .ret (.i 4 m) h' c)) (Nat.beq k p.1)) ts := by
      show (Bool.rec _ _ (Nat.beq k p.1) : C) = _
      rw [hz]
     rw [e0] at hg ⊢
     exact ih (fun p hp => h p (List.mem_cons_of_mem _ hp)) hg
   | true =>
     have e0 : (List.rec (motive := fun _ => C) (.bad 990) (fun p _ ih => Bool.rec ih (frc (nthN p.2 i) (fun m => .ret (.i 4 m) h' c)) (Nat.beq k p.1)) (p :: ts) : C) = .ret (.i 4 (nthN p.2 i)) h' c := by
      show (Bool.rec _ _ (Nat.beq k p.1) : C) = _
      rw [hz]
      exact frc_eq _ _
     rw [e0] at hg ⊢
     rw [Nat.beq_eq] at hz
     subst hz
     obtain ⟨a, m, h1, h2, h3⟩ := h p List.mem_cons_self i hi
     have h4 := List.all_eq_true.1 h3 (i - a) (List.mem_range.2 (by omega))
     obtain ⟨h5, h6⟩ := boolAnd2 h4
     rw [show a + (i - a) = i by omega] at h5 h6
     have h7 : nthN p.2 i < 256 := by simpa using h5
     exact pure_ok (a := .cons (.i 4 p.1) (.cons (.i 4 i) .nil)) hn hO hf hb (fun S => ⟨⟨hk, by decide⟩, ⟨hi, by decide⟩, trivial⟩) (closed_i 4 _ ⟨h7, by decide⟩) hG h6 hr hbd hgok
noncomputable def orcPure (es : List (V × V)) : Cal → V → H → Nm → C := fun _ a h c => List.rec (motive := fun _ => C) (.bad 992) (fun p _ ih => Bool.rec ih (.ret p.2 h c) (sameV p.1 a)) es
theorem orcPure_ok {O : Orc} {lf n : Nat} (hn : NamesOk P) (hO : ∀ f g, O f = some g → OrcOk P f g) {f : FuncId} {fn : Func} {cd : Code} (hf : P.funcs[f]? = some fn) (hb : fn.body = some cd) (hG : P.globals.size < cG.toNat) (es : List (V × V))
 (h : ∀ p ∈ es, (∀ S : Ns, (wf S p.1).s) ∧ ClosedV p.2 ∧ pureRun P O lf n f p.1 p.2 = true) : OrcOk P f (orcPure es) := by
 intro cal args h' c L S w hcal hr hbd hgok ha hg
 induction es with
 | nil => exact absurd rfl (hg 992)
 | cons p es ih =>
   have e0 : orcPure (p :: es) cal args h' c = Bool.rec (orcPure es cal args h' c) (.ret p.2 h' c) (sameV p.1 args) := rfl
   rw [e0] at hg ⊢
   cases hz : sameV p.1 args with
   | false =>
     rw [hz] at hg
     exact ih (fun p hp => h p (List.mem_cons_of_mem _ hp)) hg
   | true =>
     have h1 := sameV_eq _ _ hz
     subst h1
     obtain ⟨h2, h3, h4⟩ := h p List.mem_cons_self
     exact pure_ok hn hO hf hb h2 h3 hG h4 hr hbd hgok
end
end Go.Ev
