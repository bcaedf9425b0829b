/- fairs.Bound for whatever configuration; the reference's T. -/
import Derived.Test.YtnpnljgjloofkaaGreatDoorFra
namespace Go.Proofs.YtnpnljgjloofkaaGreatDoor
open Go.RowKit

/-- what fairs.Bound tells -/
noncomputable def Cfg.bE (c : Cfg) (z y : Int) : Int := if c.tE z = 0 then if 1 ≤ y ∧ y ≤ 4096 then 0 else 1 else c.tE z
noncomputable def Cfg.bV (c : Cfg) (z y : Int) : Int := if c.bE z y = 0 then y * c.tV z else 0
theorem Cfg.tE_cases (c : Cfg) (z : Int) : c.tE z = 0 ∧ c.err = 0 ∧ c.good ∧ (0 ≤ z ∧ z ≤ 512) ∨ c.tE z = 1 ∨ c.tE z = 7 := by
  rcases c.err_cases2 with ⟨he, hg⟩ | he
  · by_cases h : 0 ≤ z ∧ z ≤ 512
    · exact .inl ⟨by unfold Cfg.tE; rw [if_pos he, if_pos h], he, hg, h⟩
    · exact .inr (.inl (by unfold Cfg.tE; rw [if_pos he, if_neg h]))
  · exact .inr (.inr (by unfold Cfg.tE; rw [if_neg (by omega), he]))
theorem Cfg.tV_le (c : Cfg) (z : Int) : 0 ≤ c.tV z ∧ c.tV z ≤ 3173888 := by
  unfold Cfg.tV
  rcases c.tE_cases z with ⟨h, he, hg, hz⟩ | h | h
  · rw [if_pos h]
    have := tNum_le (bl := c.bl) (sh := c.sh) (z := z) (by unfold Cfg.good at hg; omega) (by unfold Cfg.good at hg; omega) (by omega) (by omega)
    unfold tNum; omega
  · rw [if_neg (by omega)]; omega
  · rw [if_neg (by omega)]; omega
set_option maxRecDepth 100000 in
set_option maxHeartbeats 4000000 in
theorem fB_any (c : Cfg) (hl : c.ms.length = 32) (z y : Int) (w : World) :
    Calls Tryz.prog 6 #[.agg c.cells.toArray, .int .i64 z, .int .i64 y] w fun e w' => e = .returned (.tuple #[.int .i64 (c.bV z y), .int .i64 (c.bE z y)]) ∧ Below w.heap.size w w' := by
  have hlen := c.len2 hl
  have HI := Lib.hid (show (Tryz.prog.info? 35).map (·.size) = some c.cells.toArray.size by rw [List.size_toArray, hlen]; kernel_rfl)
  have HT := fun W => fT_any c hl z W
  have hv := c.tV_le z
  obtain ⟨cs, hcs⟩ : ∃ cs, cs = c.cells := ⟨_, rfl⟩
  rw [← hcs] at HI HT ⊢
  clear hcs hlen
  have b0 : Below w.heap.size w (w.alloc (.cells cs.toArray 35)) := (Below.refl _ _).alloc (Nat.le_refl _) _
  have r0 : (w.alloc (.cells cs.toArray 35)).heap[w.heap.size]? = some (.cells cs.toArray 35 (0, 0)) := heap_alloc_new _ _
  have hx : c.tE z = 0 ∨ c.tE z = 1 ∨ c.tE z = 7 := by rcases c.tE_cases z with ⟨h, _⟩ | h | h <;> omega
  by_cases ht : c.tE z = 0
  rotate_left
  · have hE : c.bE z y = c.tE z := by unfold Cfg.bE; rw [if_neg ht]
    have hV : c.bV z y = 0 := by unfold Cfg.bV; rw [if_neg (by omega)]
    rw [hE, hV]
    have hd : decide (c.tE z = 0) = false := by simpa using ht
    clear hx hE hV hv
    generalize c.tE z = E at HT hd ht ⊢
    generalize c.tV z = V at HT
    go_enter Tryz.func6, Tryz.ntmps6
    go_wp2_with (first | (refine wpList_load_row rfl 35 (.tmp 3) rfl w.heap.size rfl 35 cs.toArray (0, 0) _ r0 Tryz.underlying35 rfl HI.out ?_) | (go_at_call 5; refine (HT _).mono ?_; rintro e w2 ⟨rfl, hb2⟩))
    go_ret2
    exact ⟨rfl, b0.trans (hb2.mono b0.size)⟩
  by_cases h1 : y < 1
  · have hE : c.bE z y = 1 := by unfold Cfg.bE; rw [if_pos ht, if_neg (by omega)]
    have hV : c.bV z y = 0 := by unfold Cfg.bV; rw [if_neg (by omega)]
    rw [hE, hV]
    have hd : decide (y < 1) = true := by simpa using h1
    rw [ht] at HT
    clear h1 hx hE hV hv
    go_enter Tryz.func6, Tryz.ntmps6
    go_wp2_with (first | (refine wpList_load_row rfl 35 (.tmp 3) rfl w.heap.size rfl 35 cs.toArray (0, 0) _ r0 Tryz.underlying35 rfl HI.out ?_) | (go_at_call 5; refine (HT _).mono ?_; rintro e w2 ⟨rfl, hb2⟩))
    go_ret2
    exact ⟨rfl, b0.trans (hb2.mono b0.size)⟩
  have hd : decide (y < 1) = false := by simpa using h1
  by_cases h2 : y > 4096
  · have hE : c.bE z y = 1 := by unfold Cfg.bE; rw [if_pos ht, if_neg (by omega)]
    have hV : c.bV z y = 0 := by unfold Cfg.bV; rw [if_neg (by omega)]
    rw [hE, hV]
    have hd2 : decide (y > 4096) = true := by simpa using h2
    rw [ht] at HT
    clear h1 h2 hx hE hV hv
    go_enter Tryz.func6, Tryz.ntmps6
    go_wp2_with (first | (refine wpList_load_row rfl 35 (.tmp 3) rfl w.heap.size rfl 35 cs.toArray (0, 0) _ r0 Tryz.underlying35 rfl HI.out ?_) | (go_at_call 5; refine (HT _).mono ?_; rintro e w2 ⟨rfl, hb2⟩))
    go_ret2
    exact ⟨rfl, b0.trans (hb2.mono b0.size)⟩
  have hd2 : decide (y > 4096) = false := by simpa using h2
  have hE : c.bE z y = 0 := by unfold Cfg.bE; rw [if_pos ht, if_pos (by omega)]
  have hV : c.bV z y = y * c.tV z := by unfold Cfg.bV; rw [if_pos hE]
  rw [hE, hV]
  rw [ht] at HT
  have e1 : IntKind.i64.wrap (y * c.tV z) = y * c.tV z := by
    have a1 : 0 ≤ y * c.tV z := Int.mul_nonneg (by omega) hv.1
    have a2 : y * c.tV z ≤ 4096 * 3173888 := Int.mul_le_mul (by omega) hv.2 hv.1 (by omega)
    exact IntWalk.i64_in _ (by omega)
  clear h1 h2 hx hE hV hv
  generalize c.tV z = V at HT e1 ⊢
  go_enter Tryz.func6, Tryz.ntmps6
  go_wp2_with (first | (refine wpList_load_row rfl 35 (.tmp 3) rfl w.heap.size rfl 35 cs.toArray (0, 0) _ r0 Tryz.underlying35 rfl HI.out ?_) | (go_at_call 5; refine (HT _).mono ?_; rintro e w2 ⟨rfl, hb2⟩))
  go_ret2
  exact ⟨rfl, b0.trans (hb2.mono b0.size)⟩
end Go.Proofs.YtnpnljgjloofkaaGreatDoor
