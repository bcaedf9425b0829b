/- The reference's Cycle. -/
import Derived.Test.YtfdfadebfdmdgaaLkQ
import Derived.Test.YtfdfadebfdmdgaaLkJ
import Derived.Test.YtfdfadebfdmdgaaRowL
namespace Go.Proofs.Ytfdfadebfdmdgaa
open Go.RowKit

/-- The walk from a start, by at most n steps. -/
def refWalk (f : Int → Int) (s : Int) : Nat → Int → List Int → Option (List Int)
  | 0, _, _ => none
  | n + 1, cur, way => if f cur = s then some way else if f cur < 0 then none else refWalk f s n (f cur) (way ++ [f cur])
def refFrom (f : Int → Int) : Nat → Int → List Int
  | 0, _ => []
  | k + 1, s => match refWalk f s 16 s [s] with
    | some way => way
    | none => refFrom f k (s + 1)
/-- The cycle with the least thread. -/
def refCyc (f : Int → Int) : List Int := refFrom f 16 0

theorem refWalk_hit {f : Int → Int} {s cur : Int} {way : List Int} {k : Nat} (hk : k < 16) (h : f cur = s) : refWalk f s (16 - k) cur way = some way := by
  rw [show 16 - k = (15 - k) + 1 by omega, refWalk, if_pos h]
theorem refWalk_end {f : Int → Int} {s cur : Int} {way : List Int} {k : Nat} (hk : k < 16) (h : ¬ f cur = s) (h2 : f cur < 0) : refWalk f s (16 - k) cur way = none := by
  rw [show 16 - k = (15 - k) + 1 by omega, refWalk, if_neg h, if_pos h2]
theorem refWalk_on {f : Int → Int} {s cur : Int} {way : List Int} {k : Nat} (hk : k < 16) (h : ¬ f cur = s) (h2 : ¬ f cur < 0) : refWalk f s (16 - k) cur way = refWalk f s (16 - (k + 1)) (f cur) (way ++ [f cur]) := by
  rw [show 16 - k = (15 - k) + 1 by omega, refWalk, if_neg h, if_neg h2, show 16 - (k + 1) = 15 - k by omega]
theorem refFrom_hit {f : Int → Int} {s : Nat} {way : List Int} (hs : s < 16) (h : refWalk f s 16 s [(s : Int)] = some way) : refFrom f (16 - s) s = way := by
  rw [show 16 - s = (15 - s) + 1 by omega, refFrom, h]
theorem refFrom_on {f : Int → Int} {s : Nat} (hs : s < 16) (h : refWalk f s 16 s [(s : Int)] = none) : refFrom f (16 - s) s = refFrom f (16 - (s + 1)) ((s + 1 : Nat) : Int) := by
  rw [show 16 - s = (15 - s) + 1 by omega, refFrom, h, show 16 - (s + 1) = 15 - s by omega]; simp

/-- A list of whole numbers comes back. -/
def IntsOut (gs : List Int) (w : World) (e : Ending) (w' : World) : Prop := ∃ A' m c', e = .returned (.slice A' m c') ∧ m ≤ c' ∧ Rd w' w'.heap.size 1 A' m (cells1 gs) ∧ Below w.heap.size w w'

theorem row_int {w : World} {B n c : Nat} {A : Option Addr} {l : List Int} (h : w.ownsRow B 3 1 (.slice A n c) n (cells1 l)) (k : Nat) (x : Int) (hx : l[k]? = some x) : ∃ g, A = some ⟨g, 0, none⟩ ∧ B ≤ g ∧ g < w.heap.size ∧ w.cell? ⟨g, k, none⟩ = some (.int .i64 x) := by
  rcases own_row h with ⟨_, _, _, h0⟩ | ⟨g, L, hA, hB, hrow, _, _, _, hLt⟩
  · rw [cells1, List.map_eq_nil_iff] at h0; subst h0; simp at hx
  · refine ⟨g, hA, hB, hrow.lt, ?_⟩
    have h1 := (hrow.cells 0).take (n * 1) k (.int .i64 x)
    rw [List.drop_zero, hLt] at h1
    have h2 := h1 (by simp [cells1, hx])
    have e : (⟨g, 0, none⟩ : Addr).add k = ⟨g, k, none⟩ := by unfold Addr.add; split <;> simp_all
    rwa [e] at h2

theorem lit_own {w : World} {B g : Nat} {x : Int} (hg : g = w.heap.size) (hB : B ≤ g) : (w.alloc (.cells #[.int .i64 x] 3)).ownsRow B 3 1 (.slice (some ⟨g, 0, none⟩) 1 1) 1 (cells1 [x]) :=
  row_own (L := [.int .i64 x]) hB (heap_new_at hg) (Nat.le_refl _) (by unfold maxLen; omega) rfl rfl

set_option maxRecDepth 100000 in
set_option maxHeartbeats 4000000 in
theorem refCycle_any (A B : Option Addr) (n c m d : Nat) (hs : List H3) (ws : List W3) (w : World) (hr : Rd w w.heap.size 3 A n (cells3 hs)) (hw : Rd w w.heap.size 3 B m (cellsW ws)) (hn : (n : Int) ≤ 1000000) (hm : (m : Int) ≤ 1000000) :
    Calls Try.prog 16 #[.agg #[.slice A n c], .slice B m d] w (IntsOut (refCyc fun th => forF hs th ws) w) := by
  obtain ⟨f, hf⟩ : ∃ f : Int → Int, f = fun th => forF hs th ws := ⟨_, rfl⟩
  rw [← hf]
  have hff : ∀ th, forF hs th ws = f th := fun th => by rw [hf]
  obtain ⟨i0, hi, hz0, hz1', hz2⟩ := info_parts info_int
  clear hf
  go_enter Try.func16, Try.ntmps16
  go_wp2
  go_loopw [5, 6, 7, 8] (fun i _ _ _ wr => ∃ s : Nat, s ≤ 16 ∧ i = .int .i64 s ∧ Hid (refFrom f (16 - s) s = refCyc f) ∧ Below (w.heap.size + 1) (w.alloc (.cells #[.slice A n c] 29)) wr) (fun i _ _ _ _ => 16 - (intOf i).toNat)
  case atStart => exact ⟨0, Nat.zero_le _, rfl, rfl, Below.refl _ _⟩
  case round =>
    obtain ⟨s, hs16, rfl, hF, hb⟩ := hrel
    have hsz : w.heap.size + 1 ≤ wr.heap.size := by have := hb.size; simpa using this
    by_cases hlt : s < 16
    · have hds : decide ((s : Int) < 16) = true := by simp; omega
      go_wp2
      go_loopw [6, 7, 8] (fun v j _ wx => ∃ (k : Nat) (way : List Int) (cur : Int), k ≤ 16 ∧ j = .int .i64 k ∧ way.length = k + 1 ∧ way[k]? = some cur ∧ Hid (refWalk f s (16 - k) cur way = refWalk f s 16 s [(s : Int)]) ∧ wx.ownsRow (w.heap.size + 1) 3 1 v (k + 1) (cells1 way) ∧ Below (w.heap.size + 1) (w.alloc (.cells #[.slice A n c] 29)) wx) (fun _ j _ _ => 16 - (intOf j).toNat)
      case atStart => exact ⟨0, [(s : Int)], s, Nat.zero_le _, rfl, rfl, rfl, rfl, lit_own rfl hsz, hb.alloc hsz _⟩
      case round =>
        obtain ⟨k, way, cur, hk, rfl, hl, hcur, hG, hown, hbx⟩ := hrel
        have h0 : wr.cell? ⟨w.heap.size, 0, none⟩ = some (.slice A n c) := cs_ hbx (by omega) (by simp [go_sem])
        have hbw : Below w.heap.size w wr := below_alloc1 (by simpa using hbx)
        have hz : w.heap.size + 1 ≤ wr.heap.size := by have := hbx.size; simpa using this
        by_cases hlk : k < 16
        · obtain ⟨Av, cv, rfl, hcv, _⟩ := own_slice hown
          obtain ⟨g, rfl, hBg, hgl, hcell⟩ := row_int hown k cur hcur
          have s1 : IntKind.i64.wrap ((k : Int) + 1 - 1) = (k : Int) := by rw [Int.add_sub_cancel]; exact IntWalk.i64_in _ (by omega)
          have s2 : IntKind.i64.wrap (k : Int) = (k : Int) := IntWalk.i64_in _ (by omega)
          have s3 : (k : Int) < (k : Int) + 1 := by omega
          have s4 : (0 : Int) ≤ (k : Int) := by omega
          go_wp2_with fail
          refine still_tail 8 (by kernel_rfl) (by kernel_rfl) ?_
          simp only [List.take_succ_cons, List.take_zero, List.drop_succ_cons, List.drop_zero]
          repeat still_step
          refine wpStill_nil ?_
          clear s1 s2 s3 s4
          go_wp2_with fail
          refine (refFor_any _ _ _ _ _ _ hs ws cur _ ((hr.step hbw).drew) ((hw.step hbw).drew) hn hm).mono ?_
          rintro e w1 ⟨rfl, hb1⟩
          rw [hff]
          have hb2 : Below wr.heap.size wr w1 := below_of_drew hb1
          have hb3 : Below (w.heap.size + 1) (w.alloc (.cells #[.slice A n c] 29)) w1 := hbx.trans (hb2.mono hz)
          have hown1 := own_below hown hb2 (Nat.le_refl _)
          clear h0 hcell
          by_cases he : f cur = (s : Int)
          · have hd : (f cur == (s : Int)) = true := by simpa using he
            have HE := Lib.hid he
            clear he
            go_wp2
            go_ret
            obtain ⟨A', c', hA', hc', hrd⟩ := own_slice hown1
            cases hA'
            exact ⟨_, k + 1, _, rfl, hc', by rw [← hF.out, refFrom_hit hlt (hG.out.symm.trans (refWalk_hit hlk HE.out))]; exact hrd, below_alloc1 (by simpa using hb3)⟩
          · have hd : (f cur == (s : Int)) = false := by simpa using he
            by_cases hn0 : f cur < 0
            · have hN := Lib.hid (refWalk_end (way := way) hlk he hn0)
              clear he
              go_wp2
              go_roundw
              case rel => exact ⟨s + 1, by omega, by go_num, (refFrom_on hlt (hG.out.symm.trans hN.out)).symm.trans hF.out, hb3⟩
              case measure => simp [intOf]; omega
            · have hN := Lib.hid (refWalk_on (way := way) hlk he hn0)
              have hone : ∀ u ∈ [Value.int .i64 (f cur)], u.oneCell' = true := by intro u hu; simp at hu; subst hu; rfl
              have hmx : k + 1 + 1 ≤ maxLen := by unfold maxLen; omega
              have hby : (k + 1 + 1) * 8 ≤ 140737488355328 := by omega
              have hz1 : w.heap.size + 1 ≤ w1.heap.size := Nat.le_trans hz hb2.size
              have hB : ∀ o, w.heap.size + 1 ≤ (w1.alloc o).heap.size := fun o => by simp; omega
              have hbB : ∀ o, Below (w.heap.size + 1) (w.alloc (.cells #[.slice A n c] 29)) (w1.alloc o) := fun o => hb3.alloc hz1 _
              clear he
              go_wp2_with (at_builtin; refine wpList_append_rd _ rfl (.tmp 34) (.tmp 36) _ rfl (w.heap.size + 1) 3 i0 _ 1 8 Try.underlying33 hi hz0 hz1' hz2 rfl (by decide) _ _ _ rfl (hown1.alloc _) _ _ 1 _ [.int .i64 (f cur)] rfl (Rd.lit1 rfl rfl) hone hmx hby (hB _) ?_; intro v' w2 hown' hgrow hat; have hb4 := below_grown (hbB _) hgrow (hB _) (hown1.alloc _); obtain ⟨A2, c2, rfl, hc2, hrd2⟩ := own_slice hown')
              go_roundw
              case rel => exact ⟨k + 1, way ++ [f cur], f cur, by omega, by go_num, by simp [hl], by rw [← hl]; simp, hN.out.symm.trans hG.out, by rw [cells1, List.map_append]; exact hown', hb4⟩
              case measure => simp [intOf]; omega
        · have hk16 : k = 16 := by omega
          have hN : Hid (refWalk f s 16 s [(s : Int)] = none) := by unfold Hid; rw [← hG.out, hk16]; rfl
          clear hk16
          go_wp2
          go_roundw
          case rel => exact ⟨s + 1, by omega, by go_num, (refFrom_on hlt hN.out).symm.trans hF.out, hbx⟩
          case measure => simp [intOf]; omega
    · go_wp2
      go_ret
      have : s = 16 := by omega
      exact ⟨none, 0, 0, rfl, Nat.le_refl _, by rw [← hF.out, this]; exact Rd.none_, below_alloc1 (by simpa using hb)⟩
end Go.Proofs.Ytfdfadebfdmdgaa
