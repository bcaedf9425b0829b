/- The reference's Take. -/
import Derived.Test.YtfdfadebfdmdgaaLkJ
import Derived.Deep.CutRange
import Derived.Deep.DeepCutAuto
namespace Go.Proofs.Ytfdfadebfdmdgaa
open Go.RowKit

/-- A table into which an element is taken. -/
def takeF (lv ix th : Int) : List H3 → List H3
  | [] => [⟨lv, ix, th⟩]
  | h :: t => if lessB lv ix h.lv h.ix then ⟨lv, ix, th⟩ :: h :: t else h :: takeF lv ix th t
/-- What Take still has to write, before and after the new element has been written. -/
def toTake (lv ix th : Int) (dn : Bool) (hs : List H3) : List H3 := if dn then hs else takeF lv ix th hs
theorem toTake_put {lv ix th : Int} {hs : List H3} {k : Nat} (hk : k < hs.length) (h : lessB lv ix hs[k].lv hs[k].ix = true) : toTake lv ix th false (hs.drop k) = ⟨lv, ix, th⟩ :: toTake lv ix th true (hs.drop k) := by
  rw [List.drop_eq_getElem_cons hk]; simp only [toTake, takeF, h]; simp
theorem toTake_on {lv ix th : Int} {dn : Bool} {hs : List H3} {k : Nat} (hk : k < hs.length) (h : dn = true ∨ lessB lv ix hs[k].lv hs[k].ix = false) : toTake lv ix th dn (hs.drop k) = hs[k] :: toTake lv ix th dn (hs.drop (k + 1)) := by
  rw [List.drop_eq_getElem_cons hk]
  cases dn
  · have h' : lessB lv ix hs[k].lv hs[k].ix = false := by simpa using h
    simp only [toTake, takeF, h']; simp
  · simp [toTake]

/-- A table comes back, whose elements are those of gs; what was there is as it was. -/
def TabOut (gs : List H3) (w : World) (e : Ending) (w' : World) : Prop := ∃ A' m c', e = .returned (.agg #[.slice A' m c']) ∧ Rd w' w'.heap.size 3 A' m (cells3 gs) ∧ Below w.heap.size w w'

def dnI (b : Bool) : Value := .int .i64 (if b then 1 else 0)

set_option maxRecDepth 100000 in
set_option maxHeartbeats 8000000 in
theorem refTake_any (A : Option Addr) (n c : Nat) (hs : List H3) (lv ix th : Int) (w : World) (hr : Rd w w.heap.size 3 A n (cells3 hs)) (hn : (n : Int) ≤ 1000000) :
    Calls Try.prog 37 #[.agg #[.slice A n c], .agg #[.int .i64 lv, .int .i64 ix], .int .i64 th] w (TabOut (takeF lv ix th hs) w) := by
  have HL := Lib.hid hr.len3
  obtain ⟨i0, hi, hz0, hz1, hz2⟩ := info_parts info_held
  go_enter Try.func37, Try.ntmps37
  go_wp2
  go_loopw [8, 9] (fun d i wr => ∃ (k : Nat) (dn : Bool) (out : List H3), k ≤ n ∧ i = .int .i64 k ∧ d = dnI dn ∧ out.length ≤ k + (if dn then 1 else 0) ∧ Hid (out ++ toTake lv ix th dn (hs.drop k) = takeF lv ix th hs) ∧ Below (w.heap.size + 3) (wb A n c lv ix w) wr ∧ ∃ v, wr.heap[w.heap.size + 1 + 1 + 1]? = some (.cells #[v] 29 (0, 0)) ∧ wr.ownsRow (w.heap.size + 4) 67 3 v out.length (cells3 out)) (fun _ i _ => n - (intOf i).toNat)
  case atStart => exact ⟨0, false, [], Nat.zero_le _, rfl, rfl, Nat.le_refl _, rfl, (Below.refl _ _).alloc (by simp [wb]) _, _, heap_new_at (by simp), World.ownsRow_nil _ _ _ _⟩
  case round =>
    obtain ⟨k, dn, out, hk, rfl, rfl, hout, hF, hb, v, hv, hown⟩ := hrel
    have h0 : wr.cell? ⟨w.heap.size, 0, none⟩ = some (.slice A n c) := cs_ hb (by omega) (by simp [wb, go_sem])
    have h1 : wr.cell? ⟨w.heap.size + 1, 0, none⟩ = some (.int .i64 lv) := cs_ hb (by omega) (by simp [wb, go_sem])
    have h2 : wr.cell? ⟨w.heap.size + 1, 1, none⟩ = some (.int .i64 ix) := cs_ hb (by omega) (by simp [wb, go_sem])
    have hbw : Below w.heap.size w wr := by unfold wb at hb; exact below_alloc1 (below_alloc2 (by simpa using hb))
    have hsz : w.heap.size + 3 < wr.heap.size := lt_of_block hv
    by_cases hlt : k < n
    · have hkl : k < hs.length := by have := HL.out; omega
      obtain ⟨ad, rfl, had, c0, c1, c2⟩ := (hr.below hbw (Nat.le_refl _)).at3 hkl
      have hcv := cell_of_one hv
      have hcf := free_of_one hv
      go_upto_region 6 with (fail)
      go_cut [29] (fun s wx => ∃ b : Bool, s = .bool b ∧ Hid (b = (!dn && lessB lv ix hs[k].lv hs[k].ix)) ∧ Below wr.heap.size wr wx)
      case first =>
        cases dn
        · have hd : dnI false = .int .i64 0 := rfl
          rw [hd]
          clear hd
          refine still_tail 10 (by kernel_rfl) (by kernel_rfl) ?_
          simp only [List.take_succ_cons, List.take_zero, List.drop_succ_cons, List.drop_zero]
          repeat still_step
          refine wpStill_nil ?_
          go_wp2_with fail
          cases hl : lessB lv ix hs[k].lv hs[k].ix
          · refine (refLess_no _ _ _ _ _ hl).mono ?_
            rintro e w1 ⟨rfl, hb1⟩
            go_wp2
            go_meet
            case rel => exact ⟨_, rfl, by unfold Hid; rw [hl]; rfl, below_of_drew hb1⟩
          · refine (refLess_yes _ _ _ _ _ hl).mono ?_
            rintro e w1 ⟨rfl, hb1⟩
            go_wp2
            go_meet
            case rel => exact ⟨_, rfl, by unfold Hid; rw [hl]; rfl, below_of_drew hb1⟩
        · have hd : dnI true = .int .i64 1 := rfl
          rw [hd]
          clear hd
          go_quiet (fail)
          go_wp2
          go_meet
          case rel => exact ⟨_, rfl, rfl, below_drewN' (Below.refl _ _) _⟩
      case rest =>
        obtain ⟨b, rfl, hbb, hbx⟩ := hcut
        go_upto_if 29 with (fail)
        have j0 := cs_ hbx (by omega) h0
        have j1 := cs_ hbx (by omega) h1
        have j2 := cs_ hbx (by omega) h2
        have jv : wc.heap[w.heap.size + 1 + 1 + 1]? = some (.cells #[v] 29 (0, 0)) := by rw [hbx.block _ (by omega)]; exact hv
        have jown := own_below hown hbx (Nat.le_refl _)
        have jb : Below (w.heap.size + 3) (wb (some ad) n c lv ix w) wc := hb.trans (hbx.mono (by omega))
        have hsy : w.heap.size + 3 < wc.heap.size := lt_of_block jv
        have kcv := cell_of_one jv
        have kcf := free_of_one jv
        clear h0 h1 h2 c0 c1 c2 hcv hcf hb hown hv
        go_cut [8] (fun s wx => ∃ (dn' : Bool) (out' : List H3), s = dnI dn' ∧ out'.length ≤ k + (if dn' then 1 else 0) ∧ Hid ((dn' = true ∨ lessB lv ix hs[k].lv hs[k].ix = false) ∧ out' ++ toTake lv ix th dn' (hs.drop k) = takeF lv ix th hs) ∧ Below (w.heap.size + 3) (wb (some ad) n c lv ix w) wx ∧ ∃ v', wx.heap[w.heap.size + 1 + 1 + 1]? = some (.cells #[v'] 29 (0, 0)) ∧ wx.ownsRow (w.heap.size + 4) 67 3 v' out'.length (cells3 out'))
        case first =>
          cases b
          · go_wp2
            go_meet
            case rel =>
              refine ⟨dn, out, rfl, hout, ⟨?_, hF.out⟩, jb, v, jv, jown⟩
              have := hbb.out
              cases dn
              · right; simpa using this.symm
              · left; rfl
          · have hdl : dn = false ∧ lessB lv ix hs[k].lv hs[k].ix = true := by
              have := hbb.out
              cases dn
              · exact ⟨rfl, by simpa using this.symm⟩
              · simp at this
            obtain ⟨rfl, hls⟩ := hdl
            have HLS := Lib.hid hls
            have hou : out.length ≤ k := by simpa using hout
            clear hls hbb hout
            have hone : ∀ u ∈ [Value.int .i64 lv, .int .i64 ix, .int .i64 th], u.oneCell' = true := by intro u hu; simp at hu; rcases hu with rfl | rfl | rfl <;> rfl
            have hmx : out.length + 1 ≤ maxLen := by unfold maxLen; omega
            have hby : (out.length + 1) * 24 ≤ 140737488355328 := by omega
            have hB : ∀ o, w.heap.size + 4 ≤ (wc.alloc o).heap.size := fun o => by simp; omega
            have hbB : ∀ o, Below (w.heap.size + 4) wc (wc.alloc o) := fun o => (Below.refl _ _).alloc hsy _
            go_wp2_with (at_builtin; refine wpList_append_rd _ rfl (.tmp 31) (.tmp 35) _ rfl (w.heap.size + 4) 67 i0 _ 3 24 Try.underlying27 hi hz0 hz1 hz2 rfl (by decide) v _ _ rfl (jown.alloc _) _ _ 1 _ [.int .i64 lv, .int .i64 ix, .int .i64 th] rfl (Rd.lit1 rfl rfl) hone hmx hby (hB _) ?_; intro v' w1 hown' hgrow hat; have hb1 := below_grown (hbB _) hgrow (hB _) (jown.alloc _); have k1 := cs_ hb1 (by omega) kcv; have k2 := fs_ hb1 (by omega) kcf; obtain ⟨A1, cc1, rfl, hc1, hrd1⟩ := own_slice hown')
            go_meet
            case rel => exact ⟨true, out ++ [⟨lv, ix, th⟩], rfl, by simp; omega, ⟨.inl rfl, by rw [List.append_assoc, ← hF.out, toTake_put hkl HLS.out]; rfl⟩, jb.trans ((hb1.mono (by omega)).setCell (by simp) _), _, one_setCell (by rw [hb1.block _ (by omega)]; exact jv), by rw [cells3_app, List.length_append]; exact ownsRow_setCell_other hown' (fun h => by have := (hown'.lt _ h).1; simp at this; omega) _⟩
        case rest =>
          clear hbb hout hF jb jv jown hsy kcv kcf hbx j0 j1 j2 hsz hbw
          obtain ⟨dn', out', rfl, hout, hF, hb, v', hv, hown⟩ := hcut
          have h0 : wc.cell? ⟨w.heap.size, 0, none⟩ = some (.slice (some ad) n c) := cs_ hb (by omega) (by simp [wb, go_sem])
          have hbw : Below w.heap.size w wc := by unfold wb at hb; exact below_alloc1 (below_alloc2 (by simpa using hb))
          have hsz3 : w.heap.size + 1 + 1 + 1 < wc.heap.size := lt_of_block hv
          have hsz0 : w.heap.size < wc.heap.size := by omega
          have hcv := cell_of_one hv
          have hcf := free_of_one hv
          obtain ⟨c0, c1, c2⟩ := (hr.below hbw (Nat.le_refl _)).at3s hkl
          have hadb : (ad.add (k * 3)).block < wc.heap.size := by rw [add_block]; omega
          have q0 : ∀ N o, ((wc.drewN N).alloc o).cell? ⟨w.heap.size, 0, none⟩ = some (.slice (some ad) n c) := fun N o => cs_ ((below_drewN' (Below.refl wc.heap.size wc) N).alloc (Nat.le_refl _) o) hsz0 h0
          have q3 : ∀ N o, ((wc.drewN N).alloc o).cell? ⟨w.heap.size + 1 + 1 + 1, 0, none⟩ = some v' := fun N o => cs_ ((below_drewN' (Below.refl wc.heap.size wc) N).alloc (Nat.le_refl _) o) hsz3 hcv
          have qa : ∀ N o, ((wc.drewN N).alloc o).cell? (ad.add (k * 3)) = some (.int .i64 hs[k].lv) := fun N o => (((below_drewN' (Below.refl wc.heap.size wc) N).alloc (Nat.le_refl _) o).cell hadb).trans c0
          have qb : ∀ N o, ((wc.drewN N).alloc o).cell? ⟨(ad.add (k * 3)).block, (ad.add (k * 3)).off + 1, none⟩ = some (.int .i64 hs[k].ix) := fun N o => (((below_drewN' (Below.refl wc.heap.size wc) N).alloc (Nat.le_refl _) o).cell (by exact hadb)).trans c1
          have qc : ∀ N o, ((wc.drewN N).alloc o).cell? ⟨(ad.add (k * 3)).block, (ad.add (k * 3)).off + 2, none⟩ = some (.int .i64 hs[k].th) := fun N o => (((below_drewN' (Below.refl wc.heap.size wc) N).alloc (Nat.le_refl _) o).cell (by exact hadb)).trans c2
          have hone : ∀ u ∈ [Value.int .i64 hs[k].lv, .int .i64 hs[k].ix, .int .i64 hs[k].th], u.oneCell' = true := by intro u hu; simp at hu; rcases hu with rfl | rfl | rfl <;> rfl
          have hou : out'.length ≤ k + 1 := by split at hout <;> omega
          have hmx : out'.length + 1 ≤ maxLen := by unfold maxLen; omega
          have hby : (out'.length + 1) * 24 ≤ 140737488355328 := by omega
          have hB : ∀ N o, w.heap.size + 4 ≤ ((wc.drewN N).alloc o).heap.size := fun N o => by simp; omega
          have hbB : ∀ N o, Below (w.heap.size + 4) wc ((wc.drewN N).alloc o) := fun N o => (below_drewN' (Below.refl _ _) _).alloc hsz3 _
          go_wp2
          go_region_law (first | (refine step_append_rd _ rfl (.tmp 39) (.tmp 45) _ rfl (w.heap.size + 4) 67 i0 _ 3 24 Try.underlying27 hi hz0 hz1 hz2 rfl (by decide) v' _ _ rfl (own_drewN (hown.alloc _) _) _ _ 1 _ [.int .i64 hs[k].lv, .int .i64 hs[k].ix, .int .i64 hs[k].th] rfl (Rd.lit1 rfl rfl) hone hmx hby (hB _ _) ?_; intro v1 w1 hown' hgrow hat; have hb1 := below_grown (hbB _ _) hgrow (hB _ _) (own_drewN (hown.alloc _) _); have k1 := cs_ hb1 (by omega) hcv; have k2 := fs_ hb1 (by omega) hcf; obtain ⟨A1, cc1, rfl, hc1, hrd1⟩ := own_slice hown'))
          all_goals
            go_wp2
            go_roundw
            case rel => exact ⟨k + 1, dn', out' ++ [hs[k]], by omega, by go_num, rfl, by simp; omega, by unfold Hid; rw [List.append_assoc, ← hF.out.2, toTake_on hkl hF.out.1]; rfl, hb.trans ((hb1.mono (by omega)).setCell (by simp) _), _, one_setCell (by rw [hb1.block _ (by omega)]; exact hv), by rw [cells3_app, List.length_append]; exact ownsRow_setCell_other hown' (fun h => by have := (hown'.lt _ h).1; simp at this; omega) _⟩
            case measure => simp [intOf]; omega
    · have hkl : k = hs.length := by have := HL.out; omega
      rw [hkl, List.drop_length] at hF
      have HK := Lib.hid hkl
      clear hkl
      have hcv := cell_of_one hv
      have hcf := free_of_one hv
      have h6 : wr.cell? ⟨w.heap.size + 1 + 1, 0, none⟩ = some (.slice none 0 0) := cs_ hb (by omega) (by simp [wb, go_sem])
      have h6f : wr.frozen? ⟨w.heap.size + 1 + 1, 0, none⟩ = false := fs_ hb (by omega) (by simp [wb, go_sem])
      cases dn
      · have hd : dnI false = .int .i64 0 := rfl
        rw [hd]
        clear hd
        have hou : out.length ≤ k := by simpa using hout
        have hone : ∀ u ∈ [Value.int .i64 lv, .int .i64 ix, .int .i64 th], u.oneCell' = true := by intro u hu; simp at hu; rcases hu with rfl | rfl | rfl <;> rfl
        have hmx : out.length + 1 ≤ maxLen := by unfold maxLen; omega
        have hby : (out.length + 1) * 24 ≤ 140737488355328 := by omega
        have hB : ∀ o, w.heap.size + 4 ≤ (wr.alloc o).heap.size := fun o => by simp; omega
        have hbB : ∀ o, Below (w.heap.size + 4) wr (wr.alloc o) := fun o => (Below.refl _ _).alloc hsz _
        go_wp2_with (at_builtin; refine wpList_append_rd _ rfl (.tmp 51) (.tmp 55) _ rfl (w.heap.size + 4) 67 i0 _ 3 24 Try.underlying27 hi hz0 hz1 hz2 rfl (by decide) v _ _ rfl (hown.alloc _) _ _ 1 _ [.int .i64 lv, .int .i64 ix, .int .i64 th] rfl (Rd.lit1 rfl rfl) hone hmx hby (hB _) ?_; intro v' w1 hown' hgrow hat; have hb1 := below_grown (hbB _) hgrow (hB _) (hown.alloc _); have k1 := cs_ hb1 (by omega) hcv; have k2 := fs_ hb1 (by omega) hcf; have k6 := cs_ hb1 (by omega) h6; have k7 := fs_ hb1 (by omega) h6f; obtain ⟨A1, cc1, rfl, hc1, hrd1⟩ := own_slice hown')
        have hfin : cells3 (takeF lv ix th hs) = cells3 out ++ [.int .i64 lv, .int .i64 ix, .int .i64 th] := by
          rw [← hF.out, cells3_app]; rfl
        have hne : ∀ j, j < w.heap.size + 4 → (Value.slice A1 (out.length + 1) cc1).ownBlock ≠ some j := fun j hj h => by have := (hown'.lt _ h).1; omega
        have o1 := ownsRow_setCell_other hown' (a := ⟨w.heap.size + 1 + 1 + 1, 0, none⟩) (hne _ (by simp)) (.slice A1 (out.length + 1) cc1)
        have o2 := ownsRow_setCell_other o1 (a := ⟨w.heap.size + 1 + 1, 0, none⟩) (hne _ (by simp)) (.slice A1 (out.length + 1) cc1)
        have h6s := set_same (u := .slice A1 (out.length + 1) cc1) ((World.cell?_setCell_other w1 ⟨w.heap.size + 1 + 1 + 1, 0, none⟩ ⟨w.heap.size + 1 + 1, 0, none⟩ (.slice A1 (out.length + 1) cc1) (by simp)).trans k6)
        refine bodyPost_ret (v := .agg #[.slice A1 (out.length + 1) cc1]) (by simp [results, Try.results37, go_sem, h6s]) rfl ⟨_, _, _, rfl, ?_, ?_⟩
        · rw [hfin]; exact Rd.of_own o2
        · exact ((hbw.trans (hb1.mono (by omega))).setCell (by simp; omega) _).setCell (by simp; omega) _
      · have hd : dnI true = .int .i64 1 := rfl
        rw [hd]
        clear hd
        obtain ⟨A', c', rfl, hcc, hrd⟩ := own_slice hown
        have h6s := set_same (u := .slice A' out.length c') h6
        go_wp2
        refine bodyPost_ret (v := .agg #[.slice A' out.length c']) (by simp [results, Try.results37, go_sem, h6s]) rfl ⟨_, _, _, rfl, ?_, ?_⟩
        · have hfin : takeF lv ix th hs = out := by rw [← hF.out]; simp [toTake]
          rw [hfin]; exact Rd.of_own (ownsRow_setCell_other hown (fun h => by have := (hown.lt _ h).1; simp at this; omega) _)
        · exact hbw.setCell (by simp; omega) _
end Go.Proofs.Ytfdfadebfdmdgaa
