/- slices.Clone, exact, slices.Delete, slices.Insert, slices.DeleteFunc at tables' elements. -/
import Derived.Test.YtfdfadebfdmdgaaLkK
import Derived.Test.YtfdfadebfdmdgaaRowL
import Derived.Lib.Overlaps
namespace Go.Proofs.Ytfdfadebfdmdgaa
open Go.RowKit

theorem cells3_one (hs : List H3) : ∀ u ∈ cells3 hs, u.oneCell' = true := by
  intro u hu
  simp only [cells3, List.mem_flatMap] at hu
  obtain ⟨h, _, hu⟩ := hu
  simp [H3.cells] at hu
  rcases hu with rfl | rfl | rfl <;> rfl
theorem held_zero : ∀ v ∈ (Value.agg #[.int .i64 0, .int .i64 0, .int .i64 0]).cells.toList, v.oneCell' = true := by
  intro v hv; simp [Value.cells] at hv; subst hv; rfl

theorem splice_all {α : Type} (L cs : List α) (h : cs.length = L.length) : splice L 0 cs = cs := by
  simp [splice, h]

theorem make_held (n : Nat) (hn : n ≤ 1000000) : ∀ w : World, (Instr.makeSlice 27 (.int .i64 (n : Int)) (.int .i64 (n : Int))).run Try.prog w =
    .ok (.slice (some ⟨w.heap.size, 0, none⟩) n n) (w.alloc (.cells (madeCells #[.int .i64 0, .int .i64 0, .int .i64 0] (n * 3)) 67)) := by
  intro w
  obtain ⟨i0, hi, hz0, hz1, hz2⟩ := info_parts info_held
  have hb : (i0.bytes : Int) * (n : Int) ≤ 281474976710656 := by rw [hz2]; omega
  have hr := run_make (P := Try.prog) w 27 67 i0 _ Try.underlying27 hi hz0 .i64 .i64 n n (by omega) (by omega) hb (by omega)
  rw [hz1] at hr
  simpa [Value.cells] using hr

set_option maxRecDepth 100000 in
set_option maxHeartbeats 1000000 in
theorem clone_any (A : Option Addr) (n c : Nat) (hs : List H3) (w : World) (hr : Rd w w.heap.size 3 A n (cells3 hs)) (hn : (n : Int) ≤ 1000000) (hA : A = none → n = 0) :
    Calls Try.prog 50 #[.slice A n c] w fun e w' => ∃ v, e = .returned v ∧ w'.ownsRow w.heap.size 67 3 v n (cells3 hs) ∧ Below w.heap.size w w' := by
  have HL := Lib.hid hr.len3
  obtain ⟨i0, hi, hz0, hz1, hz2⟩ := info_parts info_held
  have hq := fun W => Lib.run_eql_slice_nil (P := Try.prog) W 27 67 A n c 0 0 Try.underlying27
  cases A with
  | none =>
    have h0 : n = 0 := hA rfl
    subst h0
    have hs0 : hs = [] := List.eq_nil_of_length_eq_zero HL.out.symm
    go_enter Try.func50, Try.ntmps50
    go_wp2_with fail
    go_ret
    subst hs0
    exact ⟨_, rfl, World.ownsRow_nil _ _ _ _, Below.refl _ _⟩
  | some ad =>
    have ho := cells3_one hs
    have hmx : 0 + n ≤ maxLen := by unfold maxLen; omega
    have hby : (0 + n) * 24 ≤ 140737488355328 := by omega
    have hB : ∀ o, w.heap.size ≤ (w.alloc o).heap.size := fun o => by simp
    have hra : ∀ o, Rd (w.alloc o) w.heap.size 3 (some ad) n (cells3 hs) := fun o => hr.below ((Below.refl _ _).alloc (Nat.le_refl _) _) (Nat.le_refl _)
    have hown0 : (w.alloc (.cells #[] 67)).ownsRow w.heap.size 67 3 (.slice (some ⟨w.heap.size, 0, none⟩) 0 0) 0 [] := World.ownsRow_made w #[] 0 (Nat.le_refl _) (by unfold maxLen; omega) (by simp)
    go_enter Try.func50, Try.ntmps50
    go_wp2_with (at_builtin; refine wpList_append_rd _ rfl (.tmp 5) (.tmp 6) _ rfl w.heap.size 67 i0 _ 3 24 Try.underlying27 hi hz0 hz1 hz2 rfl (by decide) _ _ _ rfl hown0 _ _ _ _ (cells3 hs) rfl (hra _) ho hmx hby (hB _) ?_; intro v' w1 hown' hgrow hat)
    have hb1 := below_grown ((Below.refl _ _).alloc (Nat.le_refl _) _) hgrow (hB _) hown0
    go_wp2
    go_ret
    exact ⟨_, rfl, by simpa using hown', hb1⟩

set_option maxRecDepth 100000 in
set_option maxHeartbeats 1000000 in
theorem exact_any (A : Option Addr) (n c : Nat) (hs : List H3) (w : World) (hr : Rd w w.heap.size 3 A n (cells3 hs)) (hn : (n : Int) ≤ 1000000) :
    Calls Try.prog 48 #[.slice A n c] w fun e w' => ∃ A', e = .returned (.agg #[.slice A' n n]) ∧ w'.ownsRow w.heap.size 67 3 (.slice A' n n) n (cells3 hs) ∧ Below w.heap.size w w' := by
  have HL := Lib.hid hr.len3
  rcases Nat.eq_zero_or_pos n with h0 | h0
  · subst h0
    have hs0 : hs = [] := List.eq_nil_of_length_eq_zero HL.out.symm
    go_enter Try.func48, Try.ntmps48
    go_wp2_with fail
    refine bodyPost_ret (v := .agg #[.slice none 0 0]) (by simp [results, Try.results48, go_sem]) rfl ⟨_, rfl, ?_, ?_⟩
    · subst hs0; exact World.ownsRow_nil _ _ _ _
    · go_grown
  · have h0' : ((n : Int) == 0) = false := by simp; omega
    have hmk := make_held n (by omega)
    obtain ⟨ad, hA, hlt, hc⟩ := hr.2 h0
    have hrow : Row ((w.alloc (.cells #[.slice none 0 0] 29)).alloc (.cells (madeCells #[.int .i64 0, .int .i64 0, .int .i64 0] (n * 3)) 67)) (w.heap.size + 1) 67 (madeCells #[.int .i64 0, .int .i64 0, .int .i64 0] (n * 3)).toList := by
      unfold Row; rw [heap_new_at (by simp)]
    have hbw : Below w.heap.size w ((w.alloc (.cells #[.slice none 0 0] 29)).alloc (.cells (madeCells #[.int .i64 0, .int .i64 0, .int .i64 0] (n * 3)) 67)) := ((Below.refl _ _).alloc (Nat.le_refl _) _).alloc (by simp) _
    have hlen : (cells3 hs).length = (madeCells #[.int .i64 0, .int .i64 0, .int .i64 0] (n * 3)).toList.length := by rw [cells3_len, HL.out]; simp [size_madeCells]
    obtain ⟨W2, hcp, hrow2, hg2⟩ := copy_ex (P := Try.prog) 27 27 3 67 3 Try.underlying27 (by kernel_rfl) (w.heap.size + 1) 0 n n n c n (some ⟨w.heap.size + 1, 0, none⟩) A _ (cells3 hs) _ hrow (Nat.min_self n).symm (by rw [cells3_len, HL.out])
      (fun _ => rfl) (fun _ => ⟨ad, hA, hc.below hbw hlt⟩) (by rw [hlen]; omega) (cells3_one hs)
    rw [splice_all _ _ hlen] at hrow2
    have hb2 : Below (w.heap.size + 1) (w.alloc (.cells #[.slice none 0 0] 29)) W2 := ((Below.refl _ _).alloc (by simp) _).grown hg2 (by simp) (fun k hk => by cases hk; omega)
    have hbf : Below w.heap.size w W2 := below_alloc1 (by simpa using hb2)
    have k1 : W2.cell? ⟨w.heap.size, 0, none⟩ = some (.slice none 0 0) := cs_ hb2 (by omega) (by simp [go_sem])
    have k2 : W2.frozen? ⟨w.heap.size, 0, none⟩ = false := fs_ hb2 (by omega) (by simp [go_sem])
    have hcmx : n ≤ maxLen := by unfold maxLen; omega
    clear hbw hlen hg2 hrow hc hlt
    have HA := Lib.hid hA
    clear hA
    have hres := set_same (u := .slice (some ⟨w.heap.size + 1, 0, none⟩) n n) k1
    go_enter Try.func48, Try.ntmps48
    go_wp2_with (with_reducible refine wpList_copy_run rfl (.tmp 11) (.tmp 12) _ _ rfl _ _ rfl rfl hcp ?_)
    refine bodyPost_ret (v := .agg #[.slice (some ⟨w.heap.size + 1, 0, none⟩) n n]) (by simp [results, Try.results48, go_sem, hres]) rfl ⟨_, rfl, ?_, ?_⟩
    · have ho : W2.ownsRow (w.heap.size + 1) 67 3 (.slice (some ⟨w.heap.size + 1, 0, none⟩) n n) n (cells3 hs) := row_own (Nat.le_refl _) hrow2 (Nat.le_refl _) hcmx (by rw [cells3_len, HL.out]) (List.take_of_length_le (by rw [cells3_len, HL.out]; omega))
      exact own_mono (ownsRow_setCell_other ho (fun h => by simp [Value.ownBlock] at h) _) (Nat.le_succ _)
    · exact hbf.setCell (by simp) _
end Go.Proofs.Ytfdfadebfdmdgaa
