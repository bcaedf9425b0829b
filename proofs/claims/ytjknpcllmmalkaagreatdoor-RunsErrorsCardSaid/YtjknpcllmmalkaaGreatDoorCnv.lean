/- string(b), for bytes wherever they lie. -/
import Derived.Test.YtjknpcllmmalkaaGreatDoorShD
import Derived.Laws.IdiomStrings
import Derived.Shelf.Bytes.SlSmallAll
namespace Go.Proofs.YtjknpcllmmalkaaGreatDoor
open Go.RowKit

def strB (l : List B8) : ByteArray := ⟨(l.map fun b => UInt8.ofNat b.toNat).toArray⟩
theorem u8_back (b : B8) : (UInt8.ofNat b.toNat).toNat = b.toNat := by
  have := b.isLt
  simp
theorem strB_inj {a b : List B8} : strB a = strB b ↔ a = b := by
  constructor
  · intro h
    unfold strB at h
    have h2 : (a.map fun b => UInt8.ofNat b.toNat) = (b.map fun b => UInt8.ofNat b.toNat) := by
      have := congrArg (fun s : ByteArray => s.data.toList) h
      simpa using this
    induction a generalizing b with
    | nil => cases b with
      | nil => rfl
      | cons y b => simp at h2
    | cons x a ih =>
      cases b with
      | nil => simp at h2
      | cons y b =>
        simp only [List.map_cons, List.cons.injEq] at h2
        have h3 : x = y := by
          apply BitVec.eq_of_toNat_eq
          rw [← u8_back x, ← u8_back y, h2.1]
        rw [h3, ih (by rw [h2.2]) h2.2]
  · rintro rfl; rfl
theorem conv8 {w : World} {B n c : Nat} {A : Option Addr} {l : List B8} (h : Rd w B 1 A n (cells8 l)) : (convert 81 9 (.slice A n c)).run Tryz.prog w = .ok (.string (strB l)) w := by
  have hs : Tryz.prog.underlying 81 = some (.slice 5) := by kernel_rfl
  have he : Tryz.prog.underlying 5 = some (.int .u8) := by kernel_rfl
  have hd : Tryz.prog.underlying 9 = some .string := by kernel_rfl
  have hn := h.len8
  subst hn
  rcases Nat.eq_zero_or_pos l.length with h0 | h0
  · have : l = [] := List.eq_nil_of_length_eq_zero h0
    subst this
    exact run_convert_bytes_zero w _ _ hs he A c _ hd
  · obtain ⟨ad, rfl, _, hc⟩ := h.2 h0
    have := run_convert_bytes_back (P := Tryz.prog) w 81 9 5 ad c (l.map fun b => UInt8.ofNat b.toNat) hs he hd (fun j hj => by
      have hj' : j < l.length := by simpa using hj
      rw [hc j (.int .u8 (bv l[j])) (by rw [cells8, List.getElem?_map, List.getElem?_eq_getElem hj']; rfl)]
      simp only [List.getElem_map, u8_back]; rfl)
    rw [List.length_map] at this
    exact this
theorem strB_beq (a b : List B8) : ((strB a).toList == (strB b).toList) = decide (a = b) := by
  rw [Bool.eq_iff_iff, beq_iff_eq, decide_eq_true_iff]
  constructor
  · intro h
    rw [ByteArray.toList_eq, ByteArray.toList_eq] at h
    refine strB_inj.1 ?_
    have h2 : (strB a).data = (strB b).data := Array.ext' h
    cases ha : strB a
    cases hb : strB b
    rw [ha, hb] at h2
    exact congrArg ByteArray.mk h2
  · rintro rfl; rfl

end Go.Proofs.YtjknpcllmmalkaaGreatDoor
