/- Strings of bytes compared; copied; the condition of a collision. -/
import Derived.Test.YtpobkoiaidgedaaDoorSiH
import Derived.Laws.IdiomStrings
import Derived.Shelf.Bytes.SlSmallAll
namespace Go.Proofs.YtpobkoiaidgedaaDoor
open Go.RowKit

def strB (l : List B8) : ByteArray := ⟨(l.map fun b => UInt8.ofNat b.toNat).toArray⟩
theorem u8_back (b : B8) : (UInt8.ofNat b.toNat).toNat = b.toNat := by
  have := b.isLt
  simp
theorem strB_inj {a b : List B8} : strB a = strB b ↔ a = b := by
  constructor
  · intro h
    unfold strB at h
    have h2 : (a.map fun b => UInt8.ofNat b.toNat) = (b.map fun b => UInt8.ofNat b.toNat) := by
      have := congrArg (fun s : ByteArray => s.data.toList) h
      simpa using this
    induction a generalizing b with
    | nil => cases b with
      | nil => rfl
      | cons y b => simp at h2
    | cons x a ih =>
      cases b with
      | nil => simp at h2
      | cons y b =>
        simp only [List.map_cons, List.cons.injEq] at h2
        have h3 : x = y := by
          apply BitVec.eq_of_toNat_eq
          rw [← u8_back x, ← u8_back y, h2.1]
        rw [h3, ih (by rw [h2.2]) h2.2]
  · rintro rfl; rfl
theorem conv8 {w : World} {B n c : Nat} {A : Option Addr} {l : List B8} (h : Rd w B 1 A n (cells8 l)) : (convert 34 9 (.slice A n c)).run Tryd.prog w = .ok (.string (strB l)) w := by
  have hs : Tryd.prog.underlying 34 = some (.slice 5) := by kernel_rfl
  have he : Tryd.prog.underlying 5 = some (.int .u8) := by kernel_rfl
  have hd : Tryd.prog.underlying 9 = some .string := by kernel_rfl
  have hn := h.len8
  subst hn
  rcases Nat.eq_zero_or_pos l.length with h0 | h0
  · have : l = [] := List.eq_nil_of_length_eq_zero h0
    subst this
    exact run_convert_bytes_zero w _ _ hs he A c _ hd
  · obtain ⟨ad, rfl, _, hc⟩ := h.2 h0
    have := run_convert_bytes_back (P := Tryd.prog) w 34 9 5 ad c (l.map fun b => UInt8.ofNat b.toNat) hs he hd (fun j hj => by
      have hj' : j < l.length := by simpa using hj
      rw [hc j (.int .u8 (bv l[j])) (by rw [cells8, List.getElem?_map, List.getElem?_eq_getElem hj']; rfl)]
      simp only [List.getElem_map, u8_back]; rfl)
    rw [List.length_map] at this
    exact this
theorem strB_beq (a b : List B8) : ((strB a).toList == (strB b).toList) = decide (a = b) := by
  rw [Bool.eq_iff_iff, beq_iff_eq, decide_eq_true_iff]
  constructor
  · intro h
    rw [ByteArray.toList_eq, ByteArray.toList_eq] at h
    refine strB_inj.1 ?_
    have h2 : (strB a).data = (strB b).data := Array.ext' h
    cases ha : strB a
    cases hb : strB b
    rw [ha, hb] at h2
    exact congrArg ByteArray.mk h2
  · rintro rfl; rfl

set_option maxRecDepth 100000 in
set_option maxHeartbeats 1000000 in
theorem cl19_any (x y : Dig) (cx cy : List Value) (gy : Nat) (t : TypeId) (w : World) (hx : DigIs w w.heap.size x cx) (hy : DigIs w w.heap.size y cy) (ry : Row w gy t cy) :
    Calls Tryd.prog 19 #[.agg cx.toArray, .pointer (some ⟨gy, 0, none⟩)] w fun e w' => e = .returned (.bool (!decide (x.b = y.b))) ∧ Below w.heap.size w w' := by
  obtain ⟨_, _, Ax, lx, rfl, _, _, rx⟩ := hx
  obtain ⟨_, _, Ay, ly, rfl, _, _, ry0⟩ := hy
  go_enter Tryd.func19, Tryd.ntmps19
  go_upto_region 1 with (fail)
  obtain ⟨wz, hwz⟩ : ∃ wz, wz = (w.alloc (.cells (Value.slice Ax x.b.length lx :: cells8 x.d).toArray 41)) := ⟨_, rfl⟩
  have hb : Below w.heap.size w wz := by rw [hwz]; exact (Below.refl _ _).alloc (Nat.le_refl _) _
  have r2 : Row wz w.heap.size 41 (Value.slice Ax x.b.length lx :: cells8 x.d) := by rw [hwz]; exact heap_alloc_new _ _
  have hry := ry.below hb ry.lt
  have c2 : wz.cell? ⟨w.heap.size, 0, none⟩ = some (.slice Ax x.b.length lx) := r2.cell rfl
  have cy : wz.cell? ⟨gy, 0, none⟩ = some (.slice Ay y.b.length ly) := hry.cell rfl
  have k1 := conv8 (c := lx) (rx.below hb (Nat.le_refl _))
  have k2 := conv8 (c := ly) (ry0.below hb (Nat.le_refl _))
  first
    | rw [← hwz]
    | (change Code.wp _ _ _ _ (w.alloc (.cells (Value.slice Ax x.b.length lx :: cells8 x.d).toArray 41)); rw [← hwz])
  clear hwz r2 hry rx ry0 ry
  go_wp2
  go_ret
  exact ⟨ret_bool (by rw [← strB_beq]), hb⟩

set_option maxRecDepth 100000 in
set_option maxHeartbeats 1000000 in
theorem copied_any (A : Option Addr) (n c : Nat) (b : List B8) (w : World) (hr : Rd w w.heap.size 1 A n (cells8 b)) (hm : b.length ≤ 1000000) :
    Calls Tryd.prog 20 #[.slice A n c] w fun e w' => ∃ A' c', e = .returned (.slice A' b.length c') ∧ b.length ≤ c' ∧ c' ≤ maxLen ∧ Rd w' w'.heap.size 1 A' b.length (cells8 b) ∧ Below w.heap.size w w' := by
  obtain rfl : n = b.length := hr.len8
  by_cases h0 : b.length = 0
  · have hb0 : b = [] := List.eq_nil_of_length_eq_zero h0
    subst hb0
    go_enter Tryd.func20, Tryd.ntmps20
    go_wp2
    go_ret
    exact ⟨none, 0, rfl, Nat.le_refl _, by decide, Rd.none_, Below.refl _ _⟩
  · have hmk := make_u8 b.length hm
    rw [make_zero8] at hmk
    obtain ⟨n, hn⟩ : ∃ n, n = b.length := ⟨_, rfl⟩
    rw [← hn] at hmk hr h0 ⊢
    have hd : decide (n = 0) = false := by simp [h0]
    have hd2 : ((n : Int) == 0) = false := by simp; omega
    have hnI : (n : Int) ≤ 1000000 := by omega
    have r0 : Row (w.alloc (.cells (cells8 (List.replicate n 0)).toArray 5)) w.heap.size 5 (cells8 (List.replicate n 0)) := heap_alloc_new _ _
    have ba := (Below.refl w.heap.size w).alloc (Nat.le_refl _) (.cells (cells8 (List.replicate n 0)).toArray 5)
    obtain ⟨w3, hr3, r3, gr3⟩ := copy_ex (P := Tryd.prog) (w := w.alloc (.cells (cells8 (List.replicate n 0)).toArray 5)) 34 34 3 5 1 Tryd.underlying34 (by kernel_rfl) w.heap.size 0 n n n c n (some ⟨w.heap.size, 0, none⟩) A _ (cells8 b) 5 r0 (Nat.min_self n).symm (by rw [cells8_len, Nat.mul_one, hn]) (fun _ => rfl) (fun h0 => by obtain ⟨ad, e, _, hc⟩ := (hr.below ba (Nat.le_refl _)).2 h0; exact ⟨ad, e, hc⟩) (by rw [cells8_len, cells8_len, List.length_replicate]; omega) (cells8_ones _)
    have e3 : splice (cells8 (List.replicate n 0)) 0 (cells8 b) = cells8 b := by
      rw [cells8_splice, splice_zero, List.drop_replicate, ← hn, Nat.sub_self]; simp
    rw [e3] at r3
    have b3 := ba.grown gr3 ba.size (fun k hk => by cases hk; exact Nat.le_refl _)
    have HR3 := Lib.hid hr3
    have HN := Lib.hid hn
    have HM := Lib.hid hm
    clear hr3 r0 ba gr3 e3 hn hr hm
    go_enter Tryd.func20, Tryd.ntmps20
    go_wp2_with (refine wpList_copy_run rfl (.tmp 10) (.tmp 11) 34 34 rfl _ _ rfl rfl HR3.out ?_)
    go_ret
    have h := r3.rdAll
    rw [← HN.out] at h
    exact ⟨_, n, rfl, Nat.le_refl _, by have := HM.out; have := HN.out; unfold maxLen; omega, h, b3⟩
end Go.Proofs.YtpobkoiaidgedaaDoor
