/- The reference's Without and Take. -/
import Derived.Test.YtfdfadebfdmdgaaLkH
import Derived.OneCell
namespace Go.Proofs.Ytfdfadebfdmdgaa
open Go.RowKit

theorem cells3_app (a b : List H3) : cells3 (a ++ b) = cells3 a ++ cells3 b := by simp [cells3]
theorem own_drew {w : World} {B e size n : Nat} {v : Value} {xs : List Value} (h : w.ownsRow B e size v n xs) : w.drew.ownsRow B e size v n xs := h
theorem own_drewN {w : World} {B e size n : Nat} {v : Value} {xs : List Value} (h : w.ownsRow B e size v n xs) (k : Nat) : (w.drewN k).ownsRow B e size v n xs := h

/-- What is kept of a table without a lock and without a thread. -/
def keptB (lv ix th : Int) (h : H3) : Bool := !(h.is lv ix) && (h.th != th)
def withoutF (lv ix th : Int) (hs : List H3) : List H3 := hs.filter (keptB lv ix th)
theorem withoutF_len (lv ix th : Int) (hs : List H3) (k : Nat) : (withoutF lv ix th (hs.take k)).length ≤ k := Nat.le_trans (List.length_filter_le _ _) (by simp; omega)
theorem withoutF_hit (lv ix th : Int) (hs : List H3) (k : Nat) (hk : k < hs.length) (h : keptB lv ix th hs[k] = true) : withoutF lv ix th (hs.take (k + 1)) = withoutF lv ix th (hs.take k) ++ [hs[k]] := by
  rw [take_snoc _ _ hk]; simp only [withoutF, List.filter_append, List.filter_cons, h, if_true, List.filter_nil]
theorem withoutF_miss (lv ix th : Int) (hs : List H3) (k : Nat) (hk : k < hs.length) (h : keptB lv ix th hs[k] = false) : withoutF lv ix th (hs.take (k + 1)) = withoutF lv ix th (hs.take k) := by
  rw [take_snoc _ _ hk]; simp only [withoutF, List.filter_append, List.filter_cons, h]; simp

theorem heap_new_at {w : World} {o : Obj} {g : Nat} (hg : g = w.heap.size) : (w.alloc o).heap[g]? = some o := by subst hg; exact heap_alloc_new _ _

theorem set_same {w : World} {a : Addr} {v u : Value} (h : w.cell? a = some v) : (w.setCell a u).cell? a = some u := by
  simp [World.cell?_setCell_same, h]

/-- The four blocks with which Without and Take begin. -/
def wb (A : Option Addr) (n c : Nat) (lv ix : Int) (w : World) : World :=
  ((w.alloc (.cells #[.slice A n c] 29)).alloc (.cells #[.int .i64 lv, .int .i64 ix] 43)).alloc (.cells #[.slice none 0 0] 29)

set_option maxRecDepth 100000 in
set_option maxHeartbeats 4000000 in
theorem refWithout_any (A : Option Addr) (n c : Nat) (hs : List H3) (lv ix th : Int) (w : World) (hr : Rd w w.heap.size 3 A n (cells3 hs)) (hn : (n : Int) ≤ 1000000) :
    Calls Try.prog 32 #[.agg #[.slice A n c], .agg #[.int .i64 lv, .int .i64 ix], .int .i64 th] w fun e w' => ∃ A' m c', e = .returned (.agg #[.slice A' m c']) ∧ Rd w' w'.heap.size 3 A' m (cells3 (withoutF lv ix th hs)) ∧ Below w.heap.size w w' := by
  have HL := Lib.hid hr.len3
  have hq := lock_neq
  obtain ⟨i0, hi, hz0, hz1, hz2⟩ := info_parts info_held
  go_enter Try.func32, Try.ntmps32
  go_wp2
  go_loopw [8] (fun i wr => ∃ k : Nat, k ≤ n ∧ i = .int .i64 k ∧ Below (w.heap.size + 3) (wb A n c lv ix w) wr ∧ ∃ v, wr.heap[w.heap.size + 1 + 1 + 1]? = some (.cells #[v] 29 (0, 0)) ∧ wr.ownsRow (w.heap.size + 4) 67 3 v (withoutF lv ix th (hs.take k)).length (cells3 (withoutF lv ix th (hs.take k)))) (fun i _ => n - (intOf i).toNat)
  case atStart => exact ⟨0, Nat.zero_le _, rfl, (Below.refl _ _).alloc (by simp [wb]) _, _, heap_new_at (by simp), World.ownsRow_nil _ _ _ _⟩
  case round =>
    obtain ⟨k, hk, rfl, hb, v, hv, hown⟩ := hrel
    have h0 : wr.cell? ⟨w.heap.size, 0, none⟩ = some (.slice A n c) := cs_ hb (by omega) (by simp [wb, go_sem])
    have h1 : wr.cell? ⟨w.heap.size + 1, 0, none⟩ = some (.int .i64 lv) := cs_ hb (by omega) (by simp [wb, go_sem])
    have h2 : wr.cell? ⟨w.heap.size + 1, 1, none⟩ = some (.int .i64 ix) := cs_ hb (by omega) (by simp [wb, go_sem])
    have hbw : Below w.heap.size w wr := by unfold wb at hb; exact below_alloc1 (below_alloc2 (by simpa using hb))
    have hsz : w.heap.size + 3 < wr.heap.size := lt_of_block hv
    by_cases hlt : k < n
    · obtain ⟨ad, rfl, had, c0, c1, c2⟩ := (hr.below hbw (Nat.le_refl _)).at3 (k := k) (by have := HL.out; omega)
      have hm := withoutF_len lv ix th hs k
      have hcv := cell_of_one hv
      have hcf := free_of_one hv
      cases ha : lkB hs[k].lv hs[k].ix lv ix
      · cases hbt : hs[k].th != th
        · have hkp : keptB lv ix th hs[k] = false := by unfold keptB H3.is; rw [ha, hbt]; rfl
          go_wp2
          go_quiet (fail)
          go_wp2
          go_roundw
          case rel => exact ⟨k + 1, by omega, by go_num, below_drewN' hb _, v, hv, by rw [withoutF_miss _ _ _ _ _ _ hkp]; exact hown⟩
          case measure => simp [intOf]; omega
        · have hkp : keptB lv ix th hs[k] = true := by unfold keptB H3.is; rw [ha, hbt]; rfl
          go_wp2
          go_quiet (fail)
          have hsz3 : w.heap.size + 1 + 1 + 1 < wr.heap.size := by omega
          have hsz0 : w.heap.size < wr.heap.size := by omega
          have hadb : (ad.add (k * 3)).block < wr.heap.size := by rw [add_block]; omega
          have q0 : ∀ N o, ((wr.drewN N).alloc o).cell? ⟨w.heap.size, 0, none⟩ = some (.slice (some ad) n c) := fun N o => cs_ ((below_drewN' (Below.refl wr.heap.size wr) N).alloc (Nat.le_refl _) o) hsz0 h0
          have q3 : ∀ N o, ((wr.drewN N).alloc o).cell? ⟨w.heap.size + 1 + 1 + 1, 0, none⟩ = some v := fun N o => cs_ ((below_drewN' (Below.refl wr.heap.size wr) N).alloc (Nat.le_refl _) o) hsz3 hcv
          have qa : ∀ N o, ((wr.drewN N).alloc o).cell? (ad.add (k * 3)) = some (.int .i64 hs[k].lv) := fun N o => (((below_drewN' (Below.refl wr.heap.size wr) N).alloc (Nat.le_refl _) o).cell hadb).trans c0
          have qb : ∀ N o, ((wr.drewN N).alloc o).cell? ⟨(ad.add (k * 3)).block, (ad.add (k * 3)).off + 1, none⟩ = some (.int .i64 hs[k].ix) := fun N o => (((below_drewN' (Below.refl wr.heap.size wr) N).alloc (Nat.le_refl _) o).cell (by exact hadb)).trans c1
          have qc : ∀ N o, ((wr.drewN N).alloc o).cell? ⟨(ad.add (k * 3)).block, (ad.add (k * 3)).off + 2, none⟩ = some (.int .i64 hs[k].th) := fun N o => (((below_drewN' (Below.refl wr.heap.size wr) N).alloc (Nat.le_refl _) o).cell (by exact hadb)).trans c2
          have hone : ∀ u ∈ [Value.int .i64 hs[k].lv, .int .i64 hs[k].ix, .int .i64 hs[k].th], u.oneCell' = true := by intro u hu; simp at hu; rcases hu with rfl | rfl | rfl <;> rfl
          have hmx : (withoutF lv ix th (hs.take k)).length + 1 ≤ maxLen := by unfold maxLen; omega
          have hby : ((withoutF lv ix th (hs.take k)).length + 1) * 24 ≤ 140737488355328 := by omega
          have hB : ∀ N o, w.heap.size + 4 ≤ ((wr.drewN N).alloc o).heap.size := fun N o => by simp; omega
          have hbB : ∀ N o, Below (w.heap.size + 4) wr ((wr.drewN N).alloc o) := fun N o => (below_drewN' (Below.refl _ _) _).alloc hsz _
          go_wp2
          go_region_law (first | (refine step_append_rd _ rfl (.tmp 35) (.tmp 41) _ rfl (w.heap.size + 4) 67 i0 _ 3 24 Try.underlying27 hi hz0 hz1 hz2 rfl (by decide) v _ _ rfl (own_drewN (hown.alloc _) _) _ _ 1 _ [.int .i64 hs[k].lv, .int .i64 hs[k].ix, .int .i64 hs[k].th] rfl (Rd.lit1 rfl rfl) hone hmx hby (hB _ _) ?_; intro v' w1 hown' hgrow hat; have hb1 := below_grown (hbB _ _) hgrow (hB _ _) (own_drewN (hown.alloc _) _); have k1 := cs_ hb1 (by omega) hcv; have k2 := fs_ hb1 (by omega) hcf; obtain ⟨A1, cc1, rfl, hc1, hrd1⟩ := own_slice hown'))
          all_goals
            go_wp2
            go_roundw
            case rel => exact ⟨k + 1, by omega, by go_num, hb.trans ((hb1.mono (by omega)).setCell (by simp) _), _, one_setCell (by rw [hb1.block _ (by omega)]; exact hv), by rw [withoutF_hit _ _ _ _ _ _ hkp, cells3_app, List.length_append]; exact ownsRow_setCell_other hown' (fun h => by have := (hown'.lt _ h).1; simp at this; omega) _⟩
            case measure => simp [intOf]; omega
      · have hkp : keptB lv ix th hs[k] = false := by unfold keptB H3.is; rw [ha]; rfl
        go_wp2
        go_quiet (fail)
        go_wp2
        go_roundw
        case rel => exact ⟨k + 1, by omega, by go_num, below_drewN' hb _, v, hv, by rw [withoutF_miss _ _ _ _ _ _ hkp]; exact hown⟩
        case measure => simp [intOf]; omega
    · have hkl : k = hs.length := by have := HL.out; omega
      rw [hkl, List.take_length] at hown
      have HK := Lib.hid hkl
      clear hkl
      obtain ⟨A', c', rfl, hcc, hrd⟩ := own_slice hown
      have hcv := cell_of_one hv
      have h6 : wr.cell? ⟨w.heap.size + 1 + 1, 0, none⟩ = some (.slice none 0 0) := cs_ hb (by omega) (by simp [wb, go_sem])
      have h6f : wr.frozen? ⟨w.heap.size + 1 + 1, 0, none⟩ = false := fs_ hb (by omega) (by simp [wb, go_sem])
      go_wp2
      have h6s := set_same (u := .slice A' (withoutF lv ix th hs).length c') h6
      refine bodyPost_ret (v := .agg #[.slice A' (withoutF lv ix th hs).length c']) (by simp [results, Try.results32, go_sem, h6s]) rfl ⟨_, _, _, rfl, ?_, ?_⟩
      · exact Rd.of_own (ownsRow_setCell_other hown (fun h => by have := (hown.lt _ h).1; simp at this; omega) _)
      · exact hbw.setCell (by simp; omega) _
end Go.Proofs.Ytfdfadebfdmdgaa
