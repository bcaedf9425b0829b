/- fairs.T and fairs.Bound, for whatever configuration. -/
import Derived.Test.YtnpnljgjloofkaaGreatDoorCfg
import Derived.Deep.MidRow
namespace Go.Proofs.YtnpnljgjloofkaaGreatDoor
open Go.RowKit

/-- what fairs.T tells -/
noncomputable def Cfg.tE (c : Cfg) (z : Int) : Int := if c.err = 0 then if 0 ≤ z ∧ z ≤ 512 then 0 else 1 else c.err
def tNum (bl sh z : Int) : Int := z * (6 * htH bl + sh + 17) + 12 * z * z
noncomputable def Cfg.tV (c : Cfg) (z : Int) : Int := if c.tE z = 0 then tNum c.bl c.sh z else 0
theorem htH_le (n : Int) : 0 ≤ htH n ∧ htH n ≤ 5 := by
  unfold htH
  split
  · have : hgtN n.toNat ≤ 5 := by unfold hgtN; (repeat' split) <;> omega
    omega
  · omega
theorem tNum_le {bl sh z : Int} (hs : 0 ≤ sh) (hs2 : sh ≤ 8) (h0 : 0 ≤ z) (h1 : z ≤ 512) : 0 ≤ z * (6 * htH bl + sh + 17) ∧ z * (6 * htH bl + sh + 17) ≤ 28160 ∧ 0 ≤ 12 * z * z ∧ 12 * z * z ≤ 3145728 := by
  have hh := htH_le bl
  generalize htH bl = x at hh ⊢
  have a1 : 0 ≤ z * (6 * x + sh + 17) := Int.mul_nonneg h0 (by omega)
  have a2 : z * (6 * x + sh + 17) ≤ 512 * 55 := Int.mul_le_mul h1 (by omega) (by omega) (by omega)
  have a3 : 0 ≤ (12 * z) * z := Int.mul_nonneg (by omega) h0
  have a4 : (12 * z) * z ≤ 6144 * 512 := Int.mul_le_mul (by omega) h1 h0 (by omega)
  exact ⟨a1, by omega, a3, by omega⟩
theorem Cfg.err_cases2 (c : Cfg) : (c.err = 0 ∧ c.good) ∨ c.err = 7 := by
  unfold Cfg.err
  by_cases h : c.good
  · exact .inl ⟨if_pos h, h⟩
  · exact .inr (if_neg h)
theorem Cfg.len2 (c : Cfg) (hl : c.ms.length = 32) : c.cells.length = 39 := by simp [Cfg.cells, cells8_len, hl]
set_option maxRecDepth 100000 in
set_option maxHeartbeats 4000000 in
theorem fT_any (c : Cfg) (hl : c.ms.length = 32) (z : Int) (w : World) :
    Calls Tryz.prog 5 #[.agg c.cells.toArray, .int .i64 z] w fun e w' => e = .returned (.tuple #[.int .i64 (c.tV z), .int .i64 (c.tE z)]) ∧ Below w.heap.size w w' := by
  have hlen := c.len2 hl
  have HI := Lib.hid (show (Tryz.prog.info? 35).map (·.size) = some c.cells.toArray.size by rw [List.size_toArray, hlen]; kernel_rfl)
  have HC := fun W => wCheck_any c hl W
  have HH := fun W => height_any c.bl W
  obtain ⟨cs, hcs⟩ : ∃ cs, cs = c.cells := ⟨_, rfl⟩
  have k0 : cs[0]? = some (.int .i64 c.bl) := by rw [hcs]; rfl
  have k1 : cs[1]? = some (.int .i64 c.sh) := by rw [hcs]; rfl
  rw [← hcs] at HI HC ⊢
  clear hcs hlen
  have b0 : Below w.heap.size w (w.alloc (.cells cs.toArray 35)) := (Below.refl _ _).alloc (Nat.le_refl _) _
  have r0 : (w.alloc (.cells cs.toArray 35)).heap[w.heap.size]? = some (.cells cs.toArray 35 (0, 0)) := heap_alloc_new _ _
  rcases c.err_cases2 with ⟨he, hg⟩ | he
  rotate_left
  · have hE : c.tE z = 7 := by unfold Cfg.tE; rw [if_neg (by omega), he]
    have hV : c.tV z = 0 := by unfold Cfg.tV; rw [if_neg (by omega)]
    rw [hE, hV]
    go_enter Tryz.func5, Tryz.ntmps5
    go_wp2_with (first | (refine wpList_load_row rfl 35 (.tmp 2) rfl w.heap.size rfl 35 cs.toArray (0, 0) _ r0 Tryz.underlying35 rfl HI.out ?_) | (go_at_call 7; refine (HC _).mono ?_; rintro e w2 ⟨rfl, hb2⟩; rw [he]))
    go_ret2
    exact ⟨rfl, b0.trans (hb2.mono b0.size)⟩
  by_cases h1 : z < 0
  · have hE : c.tE z = 1 := by unfold Cfg.tE; rw [if_pos he, if_neg (by omega)]
    have hV : c.tV z = 0 := by unfold Cfg.tV; rw [if_neg (by omega)]
    rw [hE, hV]
    have hd : decide (z < 0) = true := by simpa using h1
    clear h1
    go_enter Tryz.func5, Tryz.ntmps5
    go_wp2_with (first | (refine wpList_load_row rfl 35 (.tmp 2) rfl w.heap.size rfl 35 cs.toArray (0, 0) _ r0 Tryz.underlying35 rfl HI.out ?_) | (go_at_call 7; refine (HC _).mono ?_; rintro e w2 ⟨rfl, hb2⟩; rw [he]))
    go_ret2
    exact ⟨rfl, b0.trans (hb2.mono b0.size)⟩
  have hd : decide (z < 0) = false := by simpa using h1
  by_cases h2 : z > 512
  · have hE : c.tE z = 1 := by unfold Cfg.tE; rw [if_pos he, if_neg (by omega)]
    have hV : c.tV z = 0 := by unfold Cfg.tV; rw [if_neg (by omega)]
    rw [hE, hV]
    have hd2 : decide (z > 512) = true := by simpa using h2
    clear h1 h2
    go_enter Tryz.func5, Tryz.ntmps5
    go_wp2_with (first | (refine wpList_load_row rfl 35 (.tmp 2) rfl w.heap.size rfl 35 cs.toArray (0, 0) _ r0 Tryz.underlying35 rfl HI.out ?_) | (go_at_call 7; refine (HC _).mono ?_; rintro e w2 ⟨rfl, hb2⟩; rw [he]))
    go_ret2
    exact ⟨rfl, b0.trans (hb2.mono b0.size)⟩
  have hd2 : decide (z > 512) = false := by simpa using h2
  have hE : c.tE z = 0 := by unfold Cfg.tE; rw [if_pos he, if_pos (by omega)]
  have hV : c.tV z = tNum c.bl c.sh z := by unfold Cfg.tV; rw [if_pos hE]
  rw [hE, hV]
  have hht : htE c.bl = 0 := hg.1
  have hB := tNum_le (bl := c.bl) (sh := c.sh) (z := z) (by unfold Cfg.good at hg; omega) (by unfold Cfg.good at hg; omega) (by omega) (by omega)
  have hh := htH_le c.bl
  have hs : 1 ≤ c.sh ∧ c.sh ≤ 8 := by unfold Cfg.good at hg; omega
  unfold tNum
  have e1 : IntKind.i64.wrap (6 * htH c.bl) = 6 * htH c.bl := IntWalk.i64_in _ (by omega)
  have e2 : IntKind.i64.wrap (6 * htH c.bl + c.sh) = 6 * htH c.bl + c.sh := IntWalk.i64_in _ (by omega)
  have e3 : IntKind.i64.wrap (6 * htH c.bl + c.sh + 17) = 6 * htH c.bl + c.sh + 17 := IntWalk.i64_in _ (by omega)
  have e4 : IntKind.i64.wrap (z * (6 * htH c.bl + c.sh + 17)) = z * (6 * htH c.bl + c.sh + 17) := IntWalk.i64_in _ (by omega)
  have e5 : IntKind.i64.wrap (12 * z) = 12 * z := IntWalk.i64_in _ (by omega)
  have e6 : IntKind.i64.wrap (12 * z * z) = 12 * z * z := IntWalk.i64_in _ (by omega)
  have e7 : IntKind.i64.wrap (z * (6 * htH c.bl + c.sh + 17) + 12 * z * z) = z * (6 * htH c.bl + c.sh + 17) + 12 * z * z := IntWalk.i64_in _ (by omega)
  clear hB hg h1 h2 hh hs hE hV
  go_enter Tryz.func5, Tryz.ntmps5
  go_wp2_with (first | (refine wpList_load_row rfl 35 (.tmp 2) rfl w.heap.size rfl 35 cs.toArray (0, 0) _ r0 Tryz.underlying35 rfl HI.out ?_) | (go_at_call 7; refine (HC _).mono ?_; rintro e w2 ⟨rfl, hb2⟩; rw [he]; have r2 : Row w2 w.heap.size 35 cs := (hb2.block _ (by simp)).trans r0; have d0 := r2.cell k0; clear r2) | (go_at_call 12; refine (HH _).mono ?_; rintro e w3 ⟨rfl, hb3⟩; rw [hht]; have r3 : Row w3 w.heap.size 35 cs := (hb3.block _ (by have := hb2.size; simp at this; omega)).trans ((hb2.block _ (by simp)).trans r0); have d1 := r3.cell k1; clear r3))
  go_ret2
  exact ⟨rfl, (b0.trans (hb2.mono b0.size)).trans (hb3.mono (b0.trans (hb2.mono b0.size)).size)⟩
end Go.Proofs.YtnpnljgjloofkaaGreatDoor
