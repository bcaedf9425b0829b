/- The reference's Expand, as far as one part is enough. -/
import Derived.Test.YtpobkoiaidgedaaDoorShZ
namespace Go.Proofs.YtpobkoiaidgedaaDoor
open Go.RowKit

/-- The first part. -/
def part1 (prk info : List B8) : List B8 := hmacF prk (info ++ [1#8])
theorem part1_len (prk info : List B8) : (part1 prk info).length = 32 := hmac_len _ _

set_option maxRecDepth 100000 in
set_option maxHeartbeats 4000000 in
theorem refExpand_any (A : Option Addr) (c : Nat) (prk : List B8) (A2 : Option Addr) (n2 c2 : Nat) (info : List B8) (n : Nat) (w : World) (hp : prk.length = 32) (hr : Rd w w.heap.size 1 A 32 (cells8 prk)) (hr2 : Rd w w.heap.size 1 A2 n2 (cells8 info)) (hi : info.length ≤ 100) (hn0 : 0 < n) (hn : n ≤ 32) :
    Calls Tryd.prog 22 #[.slice A 32 c, .slice A2 n2 c2, .int .i64 (n : Int)] w fun e w' => ∃ Ar cr, e = .returned (.slice Ar n cr) ∧ Rd w' w'.heap.size 1 Ar n (cells8 ((part1 prk info).take n)) ∧ (∀ ad, Ar = some ad → w.heap.size ≤ ad.block) ∧ Below w.heap.size w w' := by
  have HP := Lib.hid hp
  have HR := Lib.hid hr
  have HR2 := Lib.hid hr2
  have HI := Lib.hid hi
  have hn2 : (n : Int) ≤ 32 := by omega
  have hn1 : (0 : Int) < (n : Int) := by omega
  have HN0 := Lib.hid hn0
  have HN := Lib.hid hn
  clear hp hr hr2 hi hn0 hn
  go_enter Tryd.func22, Tryd.ntmps22
  go_wp2
  go_loopw [7, 8, 9, 10] (fun o l i _ wr => (o = .slice none 0 0 ∧ l = .slice none 0 0 ∧ i = .int .i64 1 ∧ Below w.heap.size w wr) ∨ (Own8 wr w.heap.size o (part1 prk info) ∧ i = .int .i64 2 ∧ Below w.heap.size w wr)) (fun _ _ i _ _ => (2 - intOf i).toNat)
  case atStart => exact .inl ⟨rfl, rfl, rfl, Below.refl _ _⟩
  case round =>
    rcases hrel with ⟨rfl, rfl, rfl, hb⟩ | ⟨ho, rfl, hb⟩
    · have hd : decide ((0 : Int) < (n : Int)) = true := by simp; omega
      have hbs := hb.size
      have hba := (Below.refl wr.heap.size wr).alloc (Nat.le_refl _) (.cells #[] 5)
      have o0 : Own8 (wr.alloc (.cells #[] 5)) w.heap.size (.slice (some ⟨wr.heap.size, 0, none⟩) 0 0) [] := Own8.lit [] rfl hbs (by decide)
      go_wp2_with (at_builtin; refine wpList_app8 rfl (.tmp 18) (.tmp 19) rfl w.heap.size _ [] rfl o0 0 none 0 0 [] rfl Rd.none_ ?d2 ?d3 ?_)
      case d2 => simp
      case d3 => exact Nat.le_trans hbs hba.size
      intro v1 w1 o1 gr1
      have b1 : Below w.heap.size w w1 := o0.belowG (hb.trans (hba.mono hbs)) gr1 (Nat.le_refl _) (Nat.le_trans hbs hba.size)
      have O1 : Hid (Own8 w1 w.heap.size v1 []) := o1
      have hr2 := Lib.hid (HR2.out.below b1 (Nat.le_refl _))
      have hs1 := b1.size
      clear o0 o1 gr1 hba hb hd
      go_wp2_with (at_builtin; refine wpList_app8 rfl (.tmp 20) (.tmp 21) rfl w.heap.size _ [] rfl O1.out _ _ _ _ info rfl hr2.out ?d2 hs1 ?_)
      case d2 => have := HI.out; simp; omega
      intro v2 w2 o2 gr2
      have b2 : Below w.heap.size w w2 := O1.out.belowG b1 gr2 (Nat.le_refl _) hs1
      have O2 : Hid (Own8 w2 w.heap.size v2 info) := o2
      have hs2 := b2.size
      have hba := (Below.refl w2.heap.size w2).alloc (Nat.le_refl _) (.cells #[.int .u8 1] 5)
      have HL := Lib.hid (lit8 (w := w2) (t := 5) 1#8 1 rfl)
      clear o2 gr2 b1 O1 hr2 hs1
      go_wp2_with (at_builtin; refine wpList_app8 rfl (.tmp 22) (.tmp 25) rfl w.heap.size _ info rfl (O2.out.below hba (Nat.le_refl _)) _ _ _ _ [1#8] rfl HL.out ?d2 ?d3 ?_)
      case d2 => have := HI.out; simp only [List.length_cons, List.length_nil]; omega
      case d3 => exact Nat.le_trans hs2 hba.size
      intro v3 w3 o3 gr3
      have b3 : Below w.heap.size w w3 := (O2.out.below hba (Nat.le_refl _)).belowG (b2.trans (hba.mono hs2)) gr3 (Nat.le_refl _) (Nat.le_trans hs2 hba.size)
      obtain ⟨A3, c3, rfl, _, _, hr3⟩ := o3.slice
      obtain ⟨n3, hn3⟩ : ∃ n, n = (info ++ [1#8]).length := ⟨_, rfl⟩
      rw [← hn3] at hr3 ⊢
      have hrp := Lib.hid ((HR.out.below b3 (Nat.le_refl _)).mono b3.size)
      have HR3 := Lib.hid hr3
      clear o3 gr3 b2 O2 hba HL hs2 hr3 hn3
      go_wp2_with fail
      refine (refMac_32 A _ prk HP.out A3 _ c3 (info ++ [1#8]) _ hrp.out HR3.out (by have := HI.out; simp; omega)).mono ?_
      rintro e w4 ⟨rfl, hb4⟩
      rw [show hmacF prk (info ++ [1#8]) = part1 prk info from rfl]
      have b4 := b3.trans (hb4.mono b3.size)
      have hs4 := b4.size
      obtain ⟨D, hD⟩ : ∃ D, D = part1 prk info := ⟨_, rfl⟩
      rw [← hD]
      have HDL := Lib.hid (show D.length = 32 by rw [hD]; exact part1_len _ _)
      have HDD := Lib.hid hD
      have HI4 := Lib.hid (show (Tryd.prog.info? 39).map (·.size) = some (cells8 D).length by rw [cells8_len, HDL.out]; kernel_rfl)
      have HZ4 := Lib.hid (show (cells8 (List.replicate 32 0)).length = (cells8 D).length by rw [cells8_len, cells8_len, HDL.out]; rfl)
      have S0 : Hid (Row (w4.alloc (.cells (cells8 (List.replicate 32 0)).toArray 39)) w4.heap.size 39 (cells8 (List.replicate 32 0))) := Lib.hid (heap_alloc_new _ _)
      clear hD hb4 b3 hrp HR3
      go_upto_region 6 with (refine Row.store (g := w4.heap.size) (t := 39) (L := cells8 (List.replicate 32 0)) (M := cells8 D) S0.out rfl 39 (.tmp 10) (.tmp 27) rfl rfl rfl HI4.out HZ4.out (cells8_one _) ?_; rintro w5 hw5 r10; have b45 : Below w4.heap.size w4 w5 := (by rw [hw5]; exact ((Below.refl _ _).alloc (Nat.le_refl _) _).grown (grown_setRow _ _ _) (by simp) (fun k hk => by cases hk; exact Nat.le_refl _)); clear hw5)
      obtain ⟨g10, hg10⟩ : ∃ g, g = w4.heap.size := ⟨_, rfl⟩
      rw [← hg10] at r10 ⊢
      have b5 := b4.trans (b45.mono hs4)
      have hs5 := b5.size
      have hba := (Below.refl w5.heap.size w5).alloc (Nat.le_refl _) (.cells #[] 5)
      have o0 : Own8 (w5.alloc (.cells #[] 5)) w.heap.size (.slice (some ⟨w5.heap.size, 0, none⟩) 0 0) [] := Own8.lit [] rfl hs5 (by decide)
      have hr10 := (r10.step hba).rdAll
      rw [HDL.out] at hr10
      have HR10 := Lib.hid hr10
      clear hg10 S0 HI4 HZ4 b45 hr10 b4 hs4
      try simp only [Act.put]
      go_wp2_with (at_builtin; refine wpList_app8 rfl (.tmp 28) (.tmp 29) rfl w.heap.size _ [] rfl o0 _ _ _ _ D rfl HR10.out ?d2 ?d3 ?_)
      case d2 => rw [HDL.out]; simp
      case d3 => exact Nat.le_trans hs5 hba.size
      intro v6 w6 o6 gr6
      have b6 : Below w.heap.size w w6 := o0.belowG (b5.trans (hba.mono hs5)) gr6 (Nat.le_refl _) (Nat.le_trans hs5 hba.size)
      have hs6 := b6.size
      have o6' : Own8 w6 w.heap.size v6 D := o6
      obtain ⟨A6, c6, rfl, _, _, hr6⟩ := o6'.slice
      rw [HDL.out] at hr6 ⊢
      have HR6 := Lib.hid hr6
      clear o6 o6' gr6 hba o0 r10 HR10 b5 hs5 hr6
      have on : Own8 w6 w.heap.size (.slice none 0 0) [] := Own8.nil
      go_wp2_with (at_builtin; refine wpList_app8 rfl (.tmp 31) (.tmp 32) rfl w.heap.size _ [] rfl on _ _ _ _ D rfl HR6.out ?d2 hs6 ?_)
      case d2 => rw [HDL.out]; simp
      intro v7 w7 o7 gr7
      have b7 : Below w.heap.size w w7 := on.belowG b6 gr7 (Nat.le_refl _) hs6
      have O7 : Hid (Own8 w7 w.heap.size v7 (part1 prk info)) := by unfold Hid; rw [← HDD.out]; exact o7
      clear o7 gr7 on HR6 b6 hs6
      go_wp2
      go_roundw
      case rel => exact .inr ⟨O7.out, rfl, b7⟩
      case measure => simp [intOf]
    · obtain ⟨A7, c7, rfl, hc7, hcm, hr7⟩ := ho.slice
      rw [part1_len] at hr7 hc7 ⊢
      have hd : decide ((32 : Int) < (n : Int)) = false := by simp; omega
      have hbase : ∀ ad, A7 = some ad → w.heap.size ≤ ad.block := by
        intro ad e
        subst e
        rcases own_row ho with ⟨h, _⟩ | ⟨g, L, h, hg, _⟩
        · cases h
        · cases h; exact hg
      obtain ⟨ad, rfl, had, hcl⟩ := hr7.2 (by omega)
      have HBASE := Lib.hid hbase
      clear hbase
      have hr8 : Rd wr wr.heap.size 1 (some ad) n (cells8 ((part1 prk info).take n)) := by
        have := hr7.sub8 0 n (by have := HN.out; omega) HN0.out
        rwa [List.drop_zero, show ad.add 0 = ad from by simp [Addr.add]] at this
      have hn7 : (n : Int) ≤ (c7 : Int) := by have := HN.out; omega
      have HR8 := Lib.hid hr8
      clear ho hr7 hcl hr8 hc7
      go_wp2
      go_ret
      exact ⟨_, _, rfl, HR8.out, HBASE.out, hb⟩
end Go.Proofs.YtpobkoiaidgedaaDoor
