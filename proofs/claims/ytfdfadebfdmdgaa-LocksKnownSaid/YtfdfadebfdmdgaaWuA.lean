/- The walk of LocksUpward. -/
import Derived.Test.YtfdfadebfdmdgaaTkY
import Derived.Test.YtfdfadebfdmdgaaWtA
import Derived.Test.YtfdfadebfdmdgaaSerl
namespace Go.Proofs.Ytfdfadebfdmdgaa
open Go.RowKit

theorem upward_lives (A B : Option Addr) (n c m d : Nat) (w : World) (h : m > 20) :
    Calls Try.prog 4 #[.agg #[.slice A n c], .slice B m d] w fun e w' => e = .returned (.bool true) ∧ Below w.heap.size w w' := by
  have hd : decide ((m : Int) > 20) = true := by simp; omega
  go_enter Try.func4, Try.ntmps4
  go_wp2_with (go_at_call 9; refine (lives_any _).mono ?_; rintro e w1 ⟨rfl, hb⟩)
  go_ret
  exact ⟨rfl, below_alloc1 hb⟩

theorem Rd.oneW {w : World} {B n : Nat} {ad : Addr} {hs : List W3} (h : Rd w B 3 (some ad) n (cellsW hs)) {k : Nat} (hk : k < hs.length) : Rd w B 3 (some (ad.add (k * 3))) 1 (cellsW [hs[k]]) := by
  obtain ⟨bd, e, hl, hc⟩ := h.at_ (k := k) (by have := h.lenW; omega)
  cases e
  rw [cellsW_drop, List.drop_eq_getElem_cons hk] at hc
  refine ⟨rfl, fun _ => ⟨_, rfl, by rw [add_block]; exact hl, fun j v hv => hc j v ?_⟩⟩
  have hj : j < 3 := by have := (List.getElem?_eq_some_iff.1 hv).1; simpa [cellsW, W3.cells] using this
  have e2 : cellsW (hs[k] :: hs.drop (k + 1)) = cellsW [hs[k]] ++ cellsW (hs.drop (k + 1)) := by simp only [cellsW, List.flatMap_cons, List.flatMap_nil, List.append_nil]
  rw [e2, List.getElem?_append_left (by simpa [cellsW, W3.cells] using hj)]
  exact hv
theorem filter_snoc {ws : List W3} {p : W3 → Bool} {k : Nat} (hk : k < ws.length) : (ws.take (k + 1)).filter p = (ws.take k).filter p ++ (if p ws[k] then [ws[k]] else []) := by
  rw [take_snoc _ _ hk, List.filter_append]
  cases h : p ws[k] <;> simp [h]
theorem up_one (hs : List H3) (x : W3) : upF hs [x] = upOne hs x := by simp [upF]

set_option maxRecDepth 100000 in
set_option maxHeartbeats 3000000 in
theorem upward_law (A : Option Addr) (n c : Nat) (l0 : List U3) (B : Option Addr) (m d : Nat) (l : List U2) (w : World) (hr : Rd w w.heap.size 3 A n (cellsU l0)) (hl : Rd w w.heap.size 2 B m (cellsV l)) :
    Calls Try.prog 4 #[.agg #[.slice A n c], .slice B m d] w fun e w' => e = .returned (.bool true) ∧ Below w.heap.size w w' := by
  by_cases hbig : m > 20
  · exact upward_lives A B n c m d w hbig
  have hm : m ≤ 20 := by omega
  have hd1 : decide ((m : Int) > 20) = false := by simp; omega
  have HM := Lib.hid hl.lenV
  clear hbig
  obtain ⟨i0, hi, hz0, hz1, hz2⟩ := info_parts info_wait
  go_enter Try.func4, Try.ntmps4
  go_wp2_with fail
  refine (tof_any A n c l0 _ (hr.step ((Below.refl _ _).alloc (Nat.le_refl _) _))).mono ?_
  rintro e w1 ⟨At, nt, ct, rfl, hrt, hb2⟩
  have hb := below_alloc1 hb2
  replace hl := hl.step hb
  clear hb2 hr
  obtain ⟨T, hT⟩ : ∃ T, T = ofU (l0.take 30) := ⟨_, rfl⟩
  rw [← hT] at hrt
  have hg : Good T := by rw [hT]; exact good_ofU _
  have hlen : T.length ≤ 30 := by rw [hT]; exact Nat.le_trans (ofU_len _) (List.length_take_le _ _)
  have hn6 : (nt : Int) ≤ 1000000 := by have := hrt.len3; omega
  clear hT
  obtain ⟨g5, hg5⟩ : ∃ g, g = w1.heap.size := ⟨_, rfl⟩
  go_wp2_with fail
  refine (waits_any At nt ct T B m d l _ (hrt.step ((Below.refl _ _).alloc (Nat.le_refl _) _)) (hl.step ((Below.refl _ _).alloc (Nat.le_refl _) _)) hn6 hm).mono ?_
  rintro e w2 ⟨Aw, nw, cw, rfl, hcw, hw, hb2⟩
  have q5 : w2.cell? ⟨w1.heap.size, 0, none⟩ = some (.slice At nt ct) := cs_ hb2 (lt_alloc _ _) (cell_newest _ _ _ 0 rfl)
  rw [← hg5] at q5 ⊢
  clear hg5 hl
  have hx : Below w1.heap.size w1 w2 := below_alloc1 hb2
  replace hrt := hrt.step hx
  replace hb := hb.trans (hx.mono hb.size)
  clear hx hb2
  have hok0 : WOk T (waitsF T l) := ok_waits hg.2 l
  have hwl0 : (waitsF T l).length ≤ 20 := by have := waitsF_len T l; have := HM.out; omega
  obtain ⟨ws, hws⟩ : ∃ ws, ws = waitsF T l := ⟨_, rfl⟩
  rw [← hws] at hw hok0 hwl0
  have HOK := Lib.hid hok0
  have HWL := Lib.hid hwl0
  have hw6 : (nw : Int) ≤ 1000000 := by have := hw.lenW; omega
  have HW := Lib.hid hw.lenW
  clear hws hok0 hwl0 HM
  go_wp2
  go_loopw [7, 8] (fun v i wr => ∃ k : Nat, k ≤ nw ∧ i = .int .i64 k ∧ wr.ownsRow w2.heap.size 45 3 v ((ws.take k).filter (upOne T)).length (cellsW ((ws.take k).filter (upOne T))) ∧ Below w2.heap.size w2 wr) (fun _ i _ => nw - (intOf i).toNat)
  case atStart => exact ⟨0, Nat.zero_le _, rfl, World.ownsRow_nil _ _ _ _, Below.refl _ _⟩
  case round =>
    obtain ⟨k, hk, rfl, hown, hbr⟩ := hrel
    have r5 := keep_cl hbr q5
    have rrt := hrt.step hbr
    have rw2 := hw.step hbr
    by_cases hlt : k < nw
    · have hkl : k < ws.length := by have := HW.out; omega
      obtain ⟨ad, rfl, had, c0, c1, c2⟩ := rw2.atW hkl
      have hlen2 : ((ws.take k).filter (upOne T)).length ≤ 20 := by have h1 : ((ws.take k).filter (upOne T)).length ≤ (ws.take k).length := List.length_filter_le _ _; have := List.length_take_le k ws; have := HWL.out; have := HW.out; omega
      have hself : Below wr.heap.size wr wr.drew := below_drewN' (Below.refl _ _) 1
      have one : Hid (Rd wr wr.heap.size 3 (some (ad.add (k * 3))) 1 (cellsW [ws[k]])) := rw2.oneW hkl
      have hadd1 : IntKind.i64.wrap ((k : Int) + 1) = (k : Int) + 1 := wrap_in (by omega) (by have := HW.out; have := HWL.out; omega)
      have hsl0 : (0 : Int) ≤ (k : Int) := by omega
      have hsl1 : (k : Int) ≤ (k : Int) + 1 := by omega
      have hsl2 : (k : Int) + 1 ≤ (cw : Int) := by omega
      have hck : ¬ cw = k := by omega
      go_upto_region 9 with (fail)
      refine wp_region_held_drew (S := (fun w' => w'.cell? ⟨g5, 0, none⟩ = some (.slice At nt ct))) (by kernel_rfl) (keep_cl hself r5) (fun hHeld => ?_)
      refine take_run 0 (v := ?_) rfl (by kernel_rfl) (by kernel_rfl) (by kernel_rfl) (fun _ _ _ h => h) rfl ?_ hHeld ?_
      rotate_left
      · intro w hSw; (try dsimp only at hSw); go_simp <;> with_reducible rfl
      try simp only [Act.put, List.setIfInBounds_toArray, List.set_cons_zero, List.set_cons_succ]
      refine take_run 1 (v := ?_) rfl (by kernel_rfl) (by kernel_rfl) (by kernel_rfl) (fun _ _ _ h => h) rfl ?_ hHeld ?_
      rotate_left
      · intro w hSw; (try dsimp only at hSw); go_simp <;> with_reducible rfl
      try simp only [Act.put, List.setIfInBounds_toArray, List.set_cons_zero, List.set_cons_succ]
      refine take_run 2 (v := ?_) rfl (by kernel_rfl) (by kernel_rfl) (by kernel_rfl) (fun _ _ _ h => h) rfl ?_ hHeld ?_
      rotate_left
      · intro w hSw; (try dsimp only at hSw); go_simp <;> with_reducible rfl
      try simp only [Act.put, List.setIfInBounds_toArray, List.set_cons_zero, List.set_cons_succ]
      refine take_run 3 (v := ?_) rfl (by kernel_rfl) (by kernel_rfl) (by kernel_rfl) (fun _ _ _ h => h) rfl ?_ hHeld ?_
      rotate_left
      · intro w hSw; (try dsimp only at hSw); go_simp <;> with_reducible rfl
      try simp only [Act.put, List.setIfInBounds_toArray, List.set_cons_zero, List.set_cons_succ]
      refine take_run 4 (v := ?_) rfl (by kernel_rfl) (by kernel_rfl) (by kernel_rfl) (fun _ _ _ h => h) rfl ?_ hHeld ?_
      rotate_left
      · intro w hSw; (try dsimp only at hSw); go_simp <;> with_reducible rfl
      try simp only [Act.put, List.setIfInBounds_toArray, List.set_cons_zero, List.set_cons_succ]
      refine take_run 5 (v := ?_) rfl (by kernel_rfl) (by kernel_rfl) (by kernel_rfl) (fun _ _ _ h => h) rfl ?_ hHeld ?_
      rotate_left
      · intro w hSw; (try dsimp only at hSw); go_simp <;> with_reducible rfl
      try simp only [Act.put, List.setIfInBounds_toArray, List.set_cons_zero, List.set_cons_succ]
      refine take_call 6 rfl (by kernel_rfl) rfl (fun K hK => ?_)
      go_simp
      refine (refUpward_any _ _ _ _ _ _ T [ws[k]] _ (rrt.step hself) (one.out.step hself) hn6 (by omega)).mono ?_
      rintro e w4 ⟨rfl, hbx⟩
      have hy : Below wr.heap.size wr w4 := below_nx hself hbx
      try dsimp only
      refine hK.out _ _ (keep_cl hy r5) (fun hHeld => ?_)
      clear hK K
      try simp only [Act.put, List.setIfInBounds_toArray, List.set_cons_zero, List.set_cons_succ]
      refine take_run 7 (v := ?_) rfl (by kernel_rfl) (by kernel_rfl) (by kernel_rfl) (fun _ _ _ h => h) rfl ?_ hHeld ?_
      rotate_left
      · intro w hSw; (try dsimp only at hSw); go_simp <;> with_reducible rfl
      try simp only [Act.put, List.setIfInBounds_toArray, List.set_cons_zero, List.set_cons_succ]
      refine wpAnyH_done (by kernel_rfl) ?_ _
      rw [up_one]
      have hx := hy
      replace r5 := keep_cl hx r5
      replace rrt := rrt.step hx
      replace rw2 := rw2.step hx
      have hown1 := own_below hown hx (Nat.le_refl _)
      have hbr1 := hbr.trans (hx.mono hbr.size)
      clear hown hx hself one c0 c1 c2
      obtain ⟨c0, c1, c2⟩ := rw2.atWs hkl
      cases hup : upOne T ws[k]
      · have HU := Lib.hid hup
        clear hup
        go_wp2
        go_roundw
        case rel => exact ⟨k + 1, by omega, by go_num, by rw [filter_snoc hkl, HU.out]; simpa using hown1, hbr1⟩
        case measure => simp [intOf]; omega
      · have HU := Lib.hid hup
        clear hup
        go_wp2_with (at_builtin; refine wpList_append_rd _ rfl (.tmp 32) (.tmp 37) _ rfl w2.heap.size 45 i0 _ 3 24 Try.underlying31 hi hz0 hz1 hz2 rfl (by decide) _ _ _ rfl (hown1.alloc _) _ _ 1 _ [.int .i64 ws[k].th, .int .i64 ws[k].lv, .int .i64 ws[k].ix] rfl (Rd.lit1 ?c0 rfl) ?c1 ?c2 ?c3 ?c4 ?_)
        case c0 => first | rfl | simp
        case c1 => intro u hu; simp at hu; rcases hu with rfl | rfl | rfl <;> rfl
        case c2 => unfold maxLen; omega
        case c3 => omega
        case c4 => have := hbr1.size; simp at this ⊢; omega
        intro v' w5 hown' hgrow hat
        have hb' := below_grown (hbr1.alloc (by simpa using hbr1.size) _) hgrow (by have := hbr1.size; simp at this ⊢; omega) (hown1.alloc _)
        clear hown1 hgrow hat hbr1 hbr
        go_wp2
        go_roundw
        case rel => exact ⟨k + 1, by omega, by go_num, by rw [filter_snoc hkl, HU.out, if_pos rfl, cellsW_app, List.length_append]; exact hown', hb'⟩
        case measure => simp [intOf]; omega
    · have hkw : ws.take k = ws := List.take_of_length_le (by have := HW.out; omega)
      rw [hkw] at hown
      clear hkw
      have hokf : WOk T (ws.filter (upOne T)) := ok_sub HOK.out List.filter_sublist
      have hcw0 : cwF T (ws.filter (upOne T)) = 0 := cw_zero hg hokf
      have hupf : upF T (ws.filter (upOne T)) = true := List.all_eq_true.2 fun x hx => (List.mem_filter.1 hx).2
      have HUB : Hid (upwardB T (ws.filter (upOne T)) = true) := by unfold Hid upwardB; rw [if_pos hcw0]; exact hupf
      have HCY : Hid (cycF T (ws.filter (upOne T)) = []) := by unfold Hid cycF; rw [if_pos hcw0]; exact up_none hupf
      have hfl : (ws.filter (upOne T)).length ≤ 20 := by have h1 : (ws.filter (upOne T)).length ≤ ws.length := List.length_filter_le _ _; have := HWL.out; omega
      clear hokf hcw0 hupf
      obtain ⟨Ak, ck, rfl, hck, hkd⟩ := own_slice hown
      obtain ⟨nk, hnk⟩ : ∃ z, z = (ws.filter (upOne T)).length := ⟨_, rfl⟩
      rw [← hnk] at hkd hck hfl ⊢
      clear hown hnk
      have hnk6 : (nk : Int) ≤ 1000000 := by omega
      have hb2 := hbr
      clear hbr
      replace hb := hb.trans (hb2.mono hb.size)
      clear hb2
      go_wp2_with fail
      refine (upward_any _ _ _ _ _ _ T (ws.filter (upOne T)) _ rrt hkd hn6 hnk6 hck).mono ?_
      rintro e w6 ⟨rfl, hb2⟩
      rw [HUB.out]
      have hx : Below wr.heap.size wr w6 := hb2
      replace r5 := keep_cl hx r5
      replace rrt := rrt.step hx
      replace hkd := hkd.step hx
      replace hb := hb.trans (hx.mono hb.size)
      clear hx hb2
      go_wp2_with fail
      refine (cycle_any _ _ _ _ _ _ T (ws.filter (upOne T)) _ rrt hkd hn6 hnk6 hck).mono ?_
      rintro e w7 ⟨A9, m9, rfl, hc9, hb2⟩
      rw [HCY.out] at hc9
      obtain rfl : m9 = 0 := hc9.len1
      clear hc9
      have hx : Below w6.heap.size w6 w7 := hb2
      replace r5 := keep_cl hx r5
      replace rrt := rrt.step hx
      replace hkd := hkd.step hx
      replace hb := hb.trans (hx.mono hb.size)
      clear hx hb2
      go_wp2_with fail
      refine (lives_any _).mono ?_
      rintro e wL ⟨rfl, hb2⟩
      have hx : Below w7.heap.size w7 wL := hb2
      go_wp2
      go_ret
      exact ⟨rfl, hb.trans (hx.mono hb.size)⟩
end Go.Proofs.Ytfdfadebfdmdgaa
