/- Numbers as bytes. -/
import Derived.Test.YtbkpgmlibiclfaaGreatDoorShB
import Derived.Test.YtbkpgmlibiclfaaGreatDoorRowL
namespace Go.Proofs.YtbkpgmlibiclfaaGreatDoor
open Go.RowKit

theorem heap_new_at {w : World} {o : Obj} {g : Nat} (hg : g = w.heap.size) : (w.alloc o).heap[g]? = some o := by subst hg; exact heap_alloc_new _ _
theorem Row.setCell {w : World} {g i : Nat} {t : TypeId} {L : List Value} (h : Row w g t L) (v : Value) : Row (w.setCell ⟨g, i, none⟩ v) g t (L.set i v) := by
  have hlt := h.lt
  unfold Row at h ⊢
  have h' : w.heap[g] = .cells L.toArray t (0, 0) := by simpa [Array.getElem?_eq_getElem hlt] using h
  show (w.heap.modify g _)[g]? = _
  rw [Array.getElem?_eq_getElem (by simpa using hlt), Array.getElem_modify_self, h']
  simp
theorem Row.cell {w : World} {g i : Nat} {t : TypeId} {L : List Value} {v : Value} (h : Row w g t L) (hv : L[i]? = some v) : w.cell? ⟨g, i, none⟩ = some v := by
  have := h.cells 0 i v (by simpa using hv)
  have e : (⟨g, 0, none⟩ : Addr).add i = ⟨g, i, none⟩ := by unfold Addr.add; split <;> simp_all
  rwa [e] at this

theorem info_u8 : (Tryz.prog.info? 5).map (fun i => (i.zero, i.size, i.bytes)) = some (some (.int .u8 0), 1, 1) := by kernel_rfl
theorem info_at {P : Program} {t : TypeId} {z : Option Value} {s b : Nat} (h : (P.info? t).map (fun i => (i.zero, i.size, i.bytes)) = some (z, s, b)) : ∃ i0, P.info? t = some i0 ∧ i0.zero = z ∧ i0.size = s ∧ i0.bytes = b := by
  cases hi : P.info? t with
  | none => rw [hi] at h; cases h
  | some i =>
    rw [hi] at h
    simp only [Option.map_some, Option.some.injEq, Prod.mk.injEq] at h
    exact ⟨i, rfl, h.1, h.2.1, h.2.2⟩
theorem made_one (v : Value) (n : Nat) : madeCells #[v] n = (List.replicate n v).toArray := by
  apply Array.ext
  · simp [madeCells]
  · intro i h1 h2; simp [madeCells, Nat.mod_one]
theorem make_u8 (n : Nat) (hn : n ≤ 1000000) : ∀ w : World, (Instr.makeSlice 24 (.int .i64 (n : Int)) (.int .i64 (n : Int))).run Tryz.prog w =
    .ok (.slice (some ⟨w.heap.size, 0, none⟩) n n) (w.alloc (.cells (List.replicate n (.int .u8 0)).toArray 5)) := by
  intro w
  obtain ⟨i0, hi, hz0, hz1, hz2⟩ := info_at info_u8
  have hb : (i0.bytes : Int) * (n : Int) ≤ 281474976710656 := by rw [hz2]; omega
  have hr := run_make (P := Tryz.prog) w 24 5 i0 _ Tryz.underlying24 hi hz0 .i64 .i64 n n (by omega) (by omega) hb (by omega)
  rw [hz1] at hr
  have e : (Value.int .u8 0).cells = #[.int .u8 0] := rfl
  rw [e, made_one] at hr
  simpa using hr

/-- The cells of a number that is being written from its end. -/
def putC (v n j : Nat) : List Value := List.replicate (n - j) (.int .u8 0) ++ cells8 (beB v j)
theorem putC_zero (v n : Nat) : putC v n 0 = List.replicate n (.int .u8 0) := by simp [putC, cells8, beB]
theorem putC_all (v n : Nat) : putC v n n = cells8 (beB v n) := by simp [putC]
theorem putC_len (v n j : Nat) (h : j ≤ n) : (putC v n j).length = n := by simp [putC, cells8, beB_len]; omega
theorem putC_step (v n j : Nat) (h : j < n) : (putC v n j).set (n - 1 - j) (.int .u8 ((v / 256 ^ j % 256 : Nat) : Int)) = putC v n (j + 1) := by
  obtain ⟨m, rfl⟩ : ∃ m, n = m + 1 + j := ⟨n - 1 - j, by omega⟩
  have e1 : m + 1 + j - 1 - j = m := by omega
  have e2 : m + 1 + j - j = m + 1 := by omega
  have e3 : m + 1 + j - (j + 1) = m := by omega
  unfold putC
  rw [e1, e2, e3, List.replicate_succ', List.append_assoc, List.set_append_right _ _ (by simp)]
  have e4 : m - (List.replicate m (Value.int .u8 0)).length = 0 := by simp
  rw [e4]
  have e5 : bv (BitVec.ofNat 8 (v / 256 ^ j)) = ((v / 256 ^ j % 256 : Nat) : Int) := by unfold bv; rw [BitVec.toNat_ofNat]
  simp only [List.cons_append, List.nil_append, List.set_cons_zero, beB, cells8, List.map_cons, e5]
theorem putC_at (v n j : Nat) (h : j < n) : (putC v n j)[n - 1 - j]? = some (.int .u8 0) := by
  unfold putC
  rw [List.getElem?_append_left (by simp; omega)]
  rw [List.getElem?_replicate]; simp; omega

set_option maxRecDepth 100000 in
set_option maxHeartbeats 1000000 in
theorem put_any (v n : Nat) (hv : v < 18446744073709551616) (hn : n ≤ 8) (w : World) :
    Calls Tryz.prog 240 #[.int .u64 v, .int .i64 n] w fun e w' => ∃ g, e = .returned (.slice (some ⟨g, 0, none⟩) n n) ∧ Row w' g 5 (cells8 (beB v n)) ∧ w.heap.size ≤ g ∧ Below w.heap.size w w' := by
  have h1 : (0 : Int) ≤ n := by omega
  have hmk := make_u8 n (by omega)
  have hV := Lib.hid hv
  clear hv
  go_enter Tryz.func240, Tryz.ntmps240
  go_wp2
  go_loopw [6, 10] (fun _ i wr => ∃ j : Nat, j ≤ n ∧ i = .int .i64 (j : Int) ∧ Row wr w.heap.size 5 (putC v n j) ∧ Below w.heap.size w wr) (fun _ i _ => n - (intOf i).toNat)
  case atStart => exact ⟨0, Nat.zero_le _, rfl, by rw [putC_zero]; exact heap_alloc_new _ _, (Below.refl _ _).alloc (Nat.le_refl _) _⟩
  case round =>
    obtain ⟨j, hj, rfl, hrow, hb⟩ := hrel
    by_cases hlt : j < n
    · obtain ⟨p, hp⟩ : ∃ p : Nat, p = n - 1 - j := ⟨_, rfl⟩
      have hi : ((n : Int) - 1 - (j : Int)) = (p : Int) := by omega
      have hpn : p < n := by omega
      have hq : (putC v n j)[p]? = some (.int .u8 0) := by rw [hp]; exact putC_at v n j hlt
      have c0 := hrow.cell hq
      have f0 := hrow.free p
      have hval : ((v : Int) / 2 ^ (8 * j) % 256) = ((v / 256 ^ j % 256 : Nat) : Int) := by
        rw [show (2 : Int) ^ (8 * j) = ((256 ^ j : Nat) : Int) by rw [Int.natCast_pow, Int.pow_mul]; rfl]; rfl
      have hrow2 := hrow.setCell (i := p) (.int .u8 ((v : Int) / 2 ^ (8 * j) % 256))
      have hstep : (putC v n j).set p (.int .u8 ((v : Int) / 2 ^ (8 * j) % 256)) = putC v n (j + 1) := by rw [hval, hp]; exact putC_step v n j hlt
      rw [hstep] at hrow2
      have HR := Lib.hid hrow2
      have HP := Lib.hid hp
      clear hp hq hval hstep hrow hrow2
      go_wp2
      go_roundw
      case rel => exact ⟨j + 1, by omega, by go_num, HR.out, hb.setCell (Nat.le_refl _) _⟩
      case measure => simp [intOf]; omega
    · go_wp2
      go_ret
      have hjn : j = n := by omega
      rw [hjn, putC_all] at hrow
      exact ⟨_, rfl, hrow, Nat.le_refl _, hb⟩
end Go.Proofs.YtbkpgmlibiclfaaGreatDoor
