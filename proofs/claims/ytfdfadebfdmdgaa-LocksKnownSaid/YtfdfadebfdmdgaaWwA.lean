/- The walk of LocksWaits. -/
import Derived.Test.YtfdfadebfdmdgaaTkY
import Derived.Test.YtfdfadebfdmdgaaWtA
import Derived.Test.YtfdfadebfdmdgaaSerl
import Derived.Test.YtfdfadebfdmdgaaLkG
namespace Go.Proofs.Ytfdfadebfdmdgaa
open Go.RowKit

theorem waitslaw_lives (A B : Option Addr) (n c m d : Nat) (w : World) (h : m > 20) :
    Calls Try.prog 3 #[.agg #[.slice A n c], .slice B m d] w fun e w' => e = .returned (.bool true) ∧ Below w.heap.size w w' := by
  have hd : decide ((m : Int) > 20) = true := by simp; omega
  go_enter Try.func3, Try.ntmps3
  go_wp2_with (go_at_call 9; refine (lives_any _).mono ?_; rintro e w1 ⟨rfl, hb⟩)
  go_ret
  exact ⟨rfl, below_alloc1 hb⟩

set_option maxRecDepth 100000 in
set_option maxHeartbeats 8000000 in
theorem waitslaw_law (A : Option Addr) (n c : Nat) (l0 : List U3) (B : Option Addr) (m d : Nat) (l : List U2) (w : World) (hr : Rd w w.heap.size 3 A n (cellsU l0)) (hl : Rd w w.heap.size 2 B m (cellsV l)) :
    Calls Try.prog 3 #[.agg #[.slice A n c], .slice B m d] w fun e w' => e = .returned (.bool true) ∧ Below w.heap.size w w' := by
  by_cases hbig : m > 20
  · exact waitslaw_lives A B n c m d w hbig
  have hm : m ≤ 20 := by omega
  have hd1 : decide ((m : Int) > 20) = false := by simp; omega
  have HM := Lib.hid hl.lenV
  clear hbig
  obtain ⟨i0, hi, hz0, hz1, hz2⟩ := info_parts info_wait
  go_enter Try.func3, Try.ntmps3
  go_wp2_with fail
  refine (tof_any A n c l0 _ (hr.step ((Below.refl _ _).alloc (Nat.le_refl _) _))).mono ?_
  rintro e w1 ⟨At, nt, ct, rfl, hrt, hb2⟩
  have hb := below_alloc1 hb2
  replace hl := hl.step hb
  clear hb2 hr
  obtain ⟨T, hT⟩ : ∃ T, T = ofU (l0.take 30) := ⟨_, rfl⟩
  rw [← hT] at hrt
  have hg : Good T := by rw [hT]; exact good_ofU _
  have hlen : T.length ≤ 30 := by rw [hT]; exact Nat.le_trans (ofU_len _) (List.length_take_le _ _)
  have hn6 : (nt : Int) ≤ 1000000 := by have := hrt.len3; omega
  clear hT
  obtain ⟨g5, hg5⟩ : ∃ g, g = w1.heap.size := ⟨_, rfl⟩
  go_wp2_with fail
  refine (waits_any At nt ct T B m d l _ (hrt.step ((Below.refl _ _).alloc (Nat.le_refl _) _)) (hl.step ((Below.refl _ _).alloc (Nat.le_refl _) _)) hn6 hm).mono ?_
  rintro e w2 ⟨Aw, nw, cw, rfl, hcw, hw, hb2⟩
  have q5 : w2.cell? ⟨w1.heap.size, 0, none⟩ = some (.slice At nt ct) := cs_ hb2 (lt_alloc _ _) (cell_newest _ _ _ 0 rfl)
  rw [← hg5] at q5 ⊢
  clear hg5 hl
  have hx : Below w1.heap.size w1 w2 := below_alloc1 hb2
  replace hrt := hrt.step hx
  replace hb := hb.trans (hx.mono hb.size)
  clear hx hb2
  have hok0 : WOk T (waitsF T l) := ok_waits hg.2 l
  have hwl0 : (waitsF T l).length ≤ 20 := by have := waitsF_len T l; have := HM.out; omega
  obtain ⟨ws, hws⟩ : ∃ ws, ws = waitsF T l := ⟨_, rfl⟩
  rw [← hws] at hw hok0 hwl0
  have HOK := Lib.hid hok0
  have HWL := Lib.hid hwl0
  have hw6 : (nw : Int) ≤ 1000000 := by have := hw.lenW; omega
  have HW := Lib.hid hw.lenW
  clear hws hok0 hwl0 HM
  have HC0 : Hid (cwF T ws = 0) := cw_zero hg HOK.out
  have HCY : Hid (cycF T ws = refCyc fun th => forF T th ws) := by unfold Hid cycF; rw [if_pos HC0.out]
  have HUB : Hid (upwardB T ws = upF T ws) := by unfold Hid upwardB; rw [if_pos HC0.out]
  have hcl := refCyc_len fun th => forF T th ws
  have hnone : Hid (upF T ws = true → (refCyc fun th => forF T th ws) = []) := fun h => up_none h
  have hfree : Hid (ws ≠ [] → (refCyc fun th => forF T th ws) = [] → ∃ y ∈ ws, forF T (ownerF y.lv y.ix T) ws < 0) := fun h h2 => none_free hg HOK.out h h2
  obtain ⟨C, hC⟩ : ∃ C, C = refCyc fun th => forF T th ws := ⟨_, rfl⟩
  rw [← hC] at HCY hcl hnone hfree
  have HCC := Lib.hid hC
  have HCL := Lib.hid hcl
  clear hC hcl
  go_upto_region 5 with (fail)
  have hself : Below w2.heap.size w2 w2.drew := below_drewN' (Below.refl _ _) 1
  refine wp_region_held_drew (S := (fun w' => w'.cell? ⟨g5, 0, none⟩ = some (.slice At nt ct))) (by kernel_rfl) (keep_cl hself q5) (fun hHeld => ?_)
  refine take_run 0 (v := ?_) rfl (by kernel_rfl) (by kernel_rfl) (by kernel_rfl) (fun _ _ _ h => h) rfl ?_ hHeld ?_
  rotate_left
  · intro w hSw; (try dsimp only at hSw); go_simp <;> with_reducible rfl
  try simp only [Act.put, List.setIfInBounds_toArray, List.set_cons_zero, List.set_cons_succ]
  refine take_run 1 (v := ?_) rfl (by kernel_rfl) (by kernel_rfl) (by kernel_rfl) (fun _ _ _ h => h) rfl ?_ hHeld ?_
  rotate_left
  · intro w hSw; (try dsimp only at hSw); go_simp <;> with_reducible rfl
  try simp only [Act.put, List.setIfInBounds_toArray, List.set_cons_zero, List.set_cons_succ]
  refine take_run 3 (v := ?_) rfl (by kernel_rfl) (by kernel_rfl) (by kernel_rfl) (fun _ _ _ h => h) rfl ?_ hHeld ?_
  rotate_left
  · intro w hSw; (try dsimp only at hSw); go_simp <;> with_reducible rfl
  try simp only [Act.put, List.setIfInBounds_toArray, List.set_cons_zero, List.set_cons_succ]
  refine take_run 4 (v := ?_) rfl (by kernel_rfl) (by kernel_rfl) (by kernel_rfl) (fun _ _ _ h => h) rfl ?_ hHeld ?_
  rotate_left
  · intro w hSw; (try dsimp only at hSw); go_simp <;> with_reducible rfl
  try simp only [Act.put, List.setIfInBounds_toArray, List.set_cons_zero, List.set_cons_succ]
  refine take_call 2 rfl (by kernel_rfl) rfl (fun K hK => ?_)
  go_simp
  refine (cycle_any _ _ _ _ _ _ T ws _ (hrt.step hself) (hw.step hself) hn6 hw6 hcw).mono ?_
  rintro e w3 ⟨A1, m1, rfl, hc1, hbx⟩
  rw [HCY.out] at hc1
  have hy1 : Below w2.heap.size w2 w3 := below_nx hself hbx
  try dsimp only
  refine hK.out _ _ (keep_cl hy1 q5) (fun hHeld => ?_)
  clear hK K
  try simp only [Act.put, List.setIfInBounds_toArray, List.set_cons_zero, List.set_cons_succ]
  refine take_call 5 rfl (by kernel_rfl) rfl (fun K hK => ?_)
  go_simp
  refine (upward_any _ _ _ _ _ _ T ws _ (hrt.step hy1) (hw.step hy1) hn6 hw6 hcw).mono ?_
  rintro e w4 ⟨rfl, hbx⟩
  rw [HUB.out]
  have hb2 : Below w2.heap.size w2 w4 := below_nx hy1 hbx
  replace hc1 := hc1.step hbx
  try dsimp only
  refine hK.out _ _ (keep_cl hb2 q5) (fun hHeld => ?_)
  clear hK K
  try simp only [Act.put, List.setIfInBounds_toArray, List.set_cons_zero, List.set_cons_succ]
  refine take_run 6 (v := ?_) rfl (by kernel_rfl) (by kernel_rfl) (by kernel_rfl) (fun _ _ _ h => h) rfl ?_ hHeld ?_
  rotate_left
  · intro w hSw; (try dsimp only at hSw); go_simp <;> with_reducible rfl
  try simp only [Act.put, List.setIfInBounds_toArray, List.set_cons_zero, List.set_cons_succ]
  refine take_run 7 (v := ?_) rfl (by kernel_rfl) (by kernel_rfl) (by kernel_rfl) (fun _ _ _ h => h) rfl ?_ hHeld ?_
  rotate_left
  · intro w hSw; (try dsimp only at hSw); go_simp <;> with_reducible rfl
  try simp only [Act.put, List.setIfInBounds_toArray, List.set_cons_zero, List.set_cons_succ]
  refine wpAnyH_done (by kernel_rfl) ?_ _
  clear hHeld hself hy1 hbx
  have hx : Below w2.heap.size w2 w4 := hb2
  replace q5 := keep_cl hx q5
  replace hrt := hrt.step hx
  replace hw := hw.step hx
  replace hb := hb.trans (hx.mono hb.size)
  clear hx hb2
  have hm1 : (m1 : Int) ≤ 1000000 := by have := hc1.len1; have := HCL.out; omega
  have hm9 : (m1 : Int) ≤ 9223372036854775807 := by omega
  go_wp2_with fail
  refine (checkWaits_any _ _ _ _ _ _ T ws _ hrt hw hn6 hw6 hcw).mono ?_
  rintro e w5 ⟨rfl, hb2⟩
  rw [HC0.out]
  have hx : Below w4.heap.size w4 w5 := hb2
  replace q5 := keep_cl hx q5
  replace hrt := hrt.step hx
  replace hw := hw.step hx
  replace hc1 := hc1.step hx
  replace hb := hb.trans (hx.mono hb.size)
  clear hx hb2
  go_wp2_with fail
  refine (refCycle_any _ _ _ _ _ _ T ws _ hrt hw hn6 hw6).mono ?_
  rintro e w6 ⟨A2, m2, c2, rfl, hmc, hc2, hb2⟩
  rw [← HCC.out] at hc2
  have hx : Below w5.heap.size w5 w6 := hb2
  replace q5 := keep_cl hx q5
  replace hrt := hrt.step hx
  replace hw := hw.step hx
  replace hc1 := hc1.step hx
  replace hb := hb.trans (hx.mono hb.size)
  clear hx hb2
  have hm2 : (m2 : Int) ≤ 1000000 := by have := hc2.len1; have := HCL.out; omega
  go_wp2_with fail
  refine (ints_any A1 A2 m1 m1 m2 c2 _ _ _ hc1 hc2 hm1 hm2 hm9).mono ?_
  rintro e w7 ⟨rfl, hb2⟩
  rw [ints_one]
  have hx : Below w6.heap.size w6 w7 := hb2
  replace q5 := keep_cl hx q5
  replace hrt := hrt.step hx
  replace hw := hw.step hx
  replace hc1 := hc1.step hx
  replace hc2 := hc2.step hx
  replace hb := hb.trans (hx.mono hb.size)
  clear hx hb2
  have HM1 := Lib.hid hc1.len1
  clear hc1 hc2 hm2 hm1 hm9 hmc
  go_wp2_with fail
  refine (refUpward_any _ _ _ _ _ _ T ws _ hrt hw hn6 hw6).mono ?_
  rintro e w8 ⟨rfl, hb2⟩
  have hx : Below w7.heap.size w7 w8 := hb2
  replace q5 := keep_cl hx q5
  replace hrt := hrt.step hx
  replace hw := hw.step hx
  replace hb := hb.trans (hx.mono hb.size)
  clear hx hb2
  have hpass : ∀ u : Bool, Hid (u = true → C = []) → True := fun _ _ => trivial
  clear hpass
  have hm0 : upF T ws = true → m1 = 0 := fun h => by have := hnone.out h; have := HM1.out; rw [hnone.out h] at this; simpa using this
  have HM0 := Lib.hid hm0
  clear hm0
  by_cases hcz : m1 = 0
  · have hCnil : C = [] := by have := HM1.out; rw [hcz] at this; exact List.eq_nil_of_length_eq_zero this.symm
    have HN := Lib.hid hCnil
    clear hCnil
    subst hcz
    by_cases hwz : nw = 0
    · subst hwz
      cases hup : upF T ws
      · go_wp2_with fail
        refine (lives_any _).mono ?_
        rintro e wL ⟨rfl, hb2⟩
        have hx : Below w8.heap.size w8 wL := hb2
        go_wp2
        go_ret
        exact ⟨rfl, hb.trans (hx.mono hb.size)⟩
      · go_wp2_with fail
        refine (lives_any _).mono ?_
        rintro e wL ⟨rfl, hb2⟩
        have hx : Below w8.heap.size w8 wL := hb2
        go_wp2
        go_ret
        exact ⟨rfl, hb.trans (hx.mono hb.size)⟩
    · have hd8 : ((nw : Int) == 0) = false := by simp; omega
      cases hup : upF T ws
      · have HFR := Lib.hid (hfree.out (fun e => hwz (by have := HW.out; rw [e] at this; simpa using this)) HN.out)
        clear hfree
        go_wp2
        go_loopw [9] (fun i wr => ∃ k : Nat, k ≤ nw ∧ i = .int .i64 k ∧ Hid (∀ y ∈ ws.take k, 0 ≤ forF T (ownerF y.lv y.ix T) ws) ∧ Below w8.heap.size w8 wr) (fun i _ => nw - (intOf i).toNat)
        case atStart => exact ⟨0, Nat.zero_le _, rfl, (fun y hy => by simp at hy), Below.refl _ _⟩
        case round =>
          obtain ⟨k, hk, rfl, hF, hbr⟩ := hrel
          have r5 := keep_cl hbr q5
          have rrt := hrt.step hbr
          have rrw := hw.step hbr
          by_cases hlt : k < nw
          · have hkl : k < ws.length := by have := HW.out; omega
            obtain ⟨ad, rfl, had, c0, c1, c2⟩ := rrw.atW hkl
            have hself : Below wr.heap.size wr wr.drew := below_drewN' (Below.refl _ _) 1
            go_upto_region 13 with (fail)
            refine wp_region_held_drew (S := (fun w' => w'.cell? ⟨g5, 0, none⟩ = some (.slice At nt ct) ∧ w'.cell? ⟨(ad.add (k * 3)).block, (ad.add (k * 3)).off + 1, none⟩ = some (.int .i64 ws[k].lv) ∧ w'.cell? ⟨(ad.add (k * 3)).block, (ad.add (k * 3)).off + 2, none⟩ = some (.int .i64 ws[k].ix))) (by kernel_rfl) ⟨keep_cl hself r5, keep_cl hself c1, keep_cl hself c2⟩ (fun hHeld => ?_)
            refine take_run 0 (v := ?_) rfl (by kernel_rfl) (by kernel_rfl) (by kernel_rfl) (fun _ _ _ h => h) rfl ?_ hHeld ?_
            rotate_left
            · intro w hSw; (try dsimp only at hSw); go_simp <;> with_reducible rfl
            try simp only [Act.put, List.setIfInBounds_toArray, List.set_cons_zero, List.set_cons_succ]
            refine take_run 1 (v := ?_) rfl (by kernel_rfl) (by kernel_rfl) (by kernel_rfl) (fun _ _ _ h => h) rfl ?_ hHeld ?_
            rotate_left
            · intro w hSw; (try dsimp only at hSw); go_simp <;> with_reducible rfl
            try simp only [Act.put, List.setIfInBounds_toArray, List.set_cons_zero, List.set_cons_succ]
            refine take_run 2 (v := ?_) rfl (by kernel_rfl) (by kernel_rfl) (by kernel_rfl) (fun _ _ _ h => h) rfl ?_ hHeld ?_
            rotate_left
            · intro w hSw; (try dsimp only at hSw); go_simp <;> with_reducible rfl
            try simp only [Act.put, List.setIfInBounds_toArray, List.set_cons_zero, List.set_cons_succ]
            refine take_run 3 (v := ?_) rfl (by kernel_rfl) (by kernel_rfl) (by kernel_rfl) (fun _ _ _ h => h) rfl ?_ hHeld ?_
            rotate_left
            · intro w hSw; (try dsimp only at hSw); go_simp <;> with_reducible rfl
            try simp only [Act.put, List.setIfInBounds_toArray, List.set_cons_zero, List.set_cons_succ]
            refine take_run 4 (v := ?_) rfl (by kernel_rfl) (by kernel_rfl) (by kernel_rfl) (fun _ _ _ h => h) rfl ?_ hHeld ?_
            rotate_left
            · intro w hSw; (try dsimp only at hSw); go_simp <;> with_reducible rfl
            try simp only [Act.put, List.setIfInBounds_toArray, List.set_cons_zero, List.set_cons_succ]
            refine take_run 5 (v := ?_) rfl (by kernel_rfl) (by kernel_rfl) (by kernel_rfl) (fun _ _ _ h => h) rfl ?_ hHeld ?_
            rotate_left
            · intro w hSw; (try dsimp only at hSw); go_simp <;> with_reducible rfl
            try simp only [Act.put, List.setIfInBounds_toArray, List.set_cons_zero, List.set_cons_succ]
            refine take_run 6 (v := ?_) rfl (by kernel_rfl) (by kernel_rfl) (by kernel_rfl) (fun _ _ _ h => h) rfl ?_ hHeld ?_
            rotate_left
            · intro w hSw; (try dsimp only at hSw); go_simp <;> with_reducible rfl
            try simp only [Act.put, List.setIfInBounds_toArray, List.set_cons_zero, List.set_cons_succ]
            refine take_run 7 (v := ?_) rfl (by kernel_rfl) (by kernel_rfl) (by kernel_rfl) (fun _ _ _ h => h) rfl ?_ hHeld ?_
            rotate_left
            · intro w hSw; (try dsimp only at hSw); go_simp <;> with_reducible rfl
            try simp only [Act.put, List.setIfInBounds_toArray, List.set_cons_zero, List.set_cons_succ]
            refine take_call 8 rfl (by kernel_rfl) rfl (fun K hK => ?_)
            go_simp
            refine (refOwner_any _ _ _ T _ _ _ (rrt.step hself) hn6).mono ?_
            rintro e w9 ⟨rfl, hbx⟩
            have hy1 : Below wr.heap.size wr w9 := below_nx hself hbx
            try dsimp only
            refine hK.out _ _ ⟨keep_cl hy1 r5, keep_cl hy1 c1, keep_cl hy1 c2⟩ (fun hHeld => ?_)
            clear hK K
            try simp only [Act.put, List.setIfInBounds_toArray, List.set_cons_zero, List.set_cons_succ]
            refine take_call 9 rfl (by kernel_rfl) rfl (fun K hK => ?_)
            go_simp
            refine (refFor_any _ _ _ _ _ _ T ws _ _ (rrt.step hy1) (rrw.step hy1) hn6 hw6).mono ?_
            rintro e w10 ⟨rfl, hbx⟩
            have hy2 : Below wr.heap.size wr w10 := below_nx hy1 hbx
            try dsimp only
            refine hK.out _ _ ⟨keep_cl hy2 r5, keep_cl hy2 c1, keep_cl hy2 c2⟩ (fun hHeld => ?_)
            clear hK K
            try simp only [Act.put, List.setIfInBounds_toArray, List.set_cons_zero, List.set_cons_succ]
            refine take_run 10 (v := ?_) rfl (by kernel_rfl) (by kernel_rfl) (by kernel_rfl) (fun _ _ _ h => h) rfl ?_ hHeld ?_
            rotate_left
            · intro w hSw; (try dsimp only at hSw); go_simp <;> with_reducible rfl
            try simp only [Act.put, List.setIfInBounds_toArray, List.set_cons_zero, List.set_cons_succ]
            refine wpAnyH_done (by kernel_rfl) ?_ _
            have hb3 := hbr.trans (hy2.mono hbr.size)
            clear hHeld hself hy1 hy2 hbx c0 c1 c2 rrt rrw r5 hbr
            cases hlo : decide (forF T (ownerF ws[k].lv ws[k].ix T) ws < 0)
            · have hno : ¬ forF T (ownerF ws[k].lv ws[k].ix T) ws < 0 := by simpa using hlo
              have HS := Lib.hid hno
              clear hno
              go_wp2
              go_roundw
              case rel =>
                first | refine ⟨k + 1, by omega, by go_num, ?_, hb3⟩ | refine ⟨k + 1, by omega, by omega, ?_⟩
                intro y hy
                rw [take_snoc _ _ hkl] at hy
                rcases List.mem_append.1 hy with hy | hy
                · exact hF.out y hy
                · rw [List.mem_singleton.1 hy]; have := HS.out; omega
              case measure => simp [intOf]; omega
            · replace hb := hb.trans (hb3.mono hb.size)
              go_wp2_with fail
              refine (lives_any _).mono ?_
              rintro e wL ⟨rfl, hb2⟩
              have hx : Below w10.heap.size w10 wL := hb2
              go_wp2
              go_ret
              exact ⟨rfl, hb.trans (hx.mono hb.size)⟩
          · exfalso
            have hkw : ws.take k = ws := List.take_of_length_le (by have := HW.out; omega)
            obtain ⟨y, hy, hy2⟩ := HFR.out
            have := hF.out y (by rw [hkw]; exact hy)
            omega
      · have HFR := Lib.hid (hfree.out (fun e => hwz (by have := HW.out; rw [e] at this; simpa using this)) HN.out)
        clear hfree
        go_wp2
        go_loopw [9] (fun i wr => ∃ k : Nat, k ≤ nw ∧ i = .int .i64 k ∧ Hid (∀ y ∈ ws.take k, 0 ≤ forF T (ownerF y.lv y.ix T) ws) ∧ Below w8.heap.size w8 wr) (fun i _ => nw - (intOf i).toNat)
        case atStart => exact ⟨0, Nat.zero_le _, rfl, (fun y hy => by simp at hy), Below.refl _ _⟩
        case round =>
          obtain ⟨k, hk, rfl, hF, hbr⟩ := hrel
          have r5 := keep_cl hbr q5
          have rrt := hrt.step hbr
          have rrw := hw.step hbr
          by_cases hlt : k < nw
          · have hkl : k < ws.length := by have := HW.out; omega
            obtain ⟨ad, rfl, had, c0, c1, c2⟩ := rrw.atW hkl
            have hself : Below wr.heap.size wr wr.drew := below_drewN' (Below.refl _ _) 1
            go_upto_region 13 with (fail)
            refine wp_region_held_drew (S := (fun w' => w'.cell? ⟨g5, 0, none⟩ = some (.slice At nt ct) ∧ w'.cell? ⟨(ad.add (k * 3)).block, (ad.add (k * 3)).off + 1, none⟩ = some (.int .i64 ws[k].lv) ∧ w'.cell? ⟨(ad.add (k * 3)).block, (ad.add (k * 3)).off + 2, none⟩ = some (.int .i64 ws[k].ix))) (by kernel_rfl) ⟨keep_cl hself r5, keep_cl hself c1, keep_cl hself c2⟩ (fun hHeld => ?_)
            refine take_run 0 (v := ?_) rfl (by kernel_rfl) (by kernel_rfl) (by kernel_rfl) (fun _ _ _ h => h) rfl ?_ hHeld ?_
            rotate_left
            · intro w hSw; (try dsimp only at hSw); go_simp <;> with_reducible rfl
            try simp only [Act.put, List.setIfInBounds_toArray, List.set_cons_zero, List.set_cons_succ]
            refine take_run 1 (v := ?_) rfl (by kernel_rfl) (by kernel_rfl) (by kernel_rfl) (fun _ _ _ h => h) rfl ?_ hHeld ?_
            rotate_left
            · intro w hSw; (try dsimp only at hSw); go_simp <;> with_reducible rfl
            try simp only [Act.put, List.setIfInBounds_toArray, List.set_cons_zero, List.set_cons_succ]
            refine take_run 2 (v := ?_) rfl (by kernel_rfl) (by kernel_rfl) (by kernel_rfl) (fun _ _ _ h => h) rfl ?_ hHeld ?_
            rotate_left
            · intro w hSw; (try dsimp only at hSw); go_simp <;> with_reducible rfl
            try simp only [Act.put, List.setIfInBounds_toArray, List.set_cons_zero, List.set_cons_succ]
            refine take_run 3 (v := ?_) rfl (by kernel_rfl) (by kernel_rfl) (by kernel_rfl) (fun _ _ _ h => h) rfl ?_ hHeld ?_
            rotate_left
            · intro w hSw; (try dsimp only at hSw); go_simp <;> with_reducible rfl
            try simp only [Act.put, List.setIfInBounds_toArray, List.set_cons_zero, List.set_cons_succ]
            refine take_run 4 (v := ?_) rfl (by kernel_rfl) (by kernel_rfl) (by kernel_rfl) (fun _ _ _ h => h) rfl ?_ hHeld ?_
            rotate_left
            · intro w hSw; (try dsimp only at hSw); go_simp <;> with_reducible rfl
            try simp only [Act.put, List.setIfInBounds_toArray, List.set_cons_zero, List.set_cons_succ]
            refine take_run 5 (v := ?_) rfl (by kernel_rfl) (by kernel_rfl) (by kernel_rfl) (fun _ _ _ h => h) rfl ?_ hHeld ?_
            rotate_left
            · intro w hSw; (try dsimp only at hSw); go_simp <;> with_reducible rfl
            try simp only [Act.put, List.setIfInBounds_toArray, List.set_cons_zero, List.set_cons_succ]
            refine take_run 6 (v := ?_) rfl (by kernel_rfl) (by kernel_rfl) (by kernel_rfl) (fun _ _ _ h => h) rfl ?_ hHeld ?_
            rotate_left
            · intro w hSw; (try dsimp only at hSw); go_simp <;> with_reducible rfl
            try simp only [Act.put, List.setIfInBounds_toArray, List.set_cons_zero, List.set_cons_succ]
            refine take_run 7 (v := ?_) rfl (by kernel_rfl) (by kernel_rfl) (by kernel_rfl) (fun _ _ _ h => h) rfl ?_ hHeld ?_
            rotate_left
            · intro w hSw; (try dsimp only at hSw); go_simp <;> with_reducible rfl
            try simp only [Act.put, List.setIfInBounds_toArray, List.set_cons_zero, List.set_cons_succ]
            refine take_call 8 rfl (by kernel_rfl) rfl (fun K hK => ?_)
            go_simp
            refine (refOwner_any _ _ _ T _ _ _ (rrt.step hself) hn6).mono ?_
            rintro e w9 ⟨rfl, hbx⟩
            have hy1 : Below wr.heap.size wr w9 := below_nx hself hbx
            try dsimp only
            refine hK.out _ _ ⟨keep_cl hy1 r5, keep_cl hy1 c1, keep_cl hy1 c2⟩ (fun hHeld => ?_)
            clear hK K
            try simp only [Act.put, List.setIfInBounds_toArray, List.set_cons_zero, List.set_cons_succ]
            refine take_call 9 rfl (by kernel_rfl) rfl (fun K hK => ?_)
            go_simp
            refine (refFor_any _ _ _ _ _ _ T ws _ _ (rrt.step hy1) (rrw.step hy1) hn6 hw6).mono ?_
            rintro e w10 ⟨rfl, hbx⟩
            have hy2 : Below wr.heap.size wr w10 := below_nx hy1 hbx
            try dsimp only
            refine hK.out _ _ ⟨keep_cl hy2 r5, keep_cl hy2 c1, keep_cl hy2 c2⟩ (fun hHeld => ?_)
            clear hK K
            try simp only [Act.put, List.setIfInBounds_toArray, List.set_cons_zero, List.set_cons_succ]
            refine take_run 10 (v := ?_) rfl (by kernel_rfl) (by kernel_rfl) (by kernel_rfl) (fun _ _ _ h => h) rfl ?_ hHeld ?_
            rotate_left
            · intro w hSw; (try dsimp only at hSw); go_simp <;> with_reducible rfl
            try simp only [Act.put, List.setIfInBounds_toArray, List.set_cons_zero, List.set_cons_succ]
            refine wpAnyH_done (by kernel_rfl) ?_ _
            have hb3 := hbr.trans (hy2.mono hbr.size)
            clear hHeld hself hy1 hy2 hbx c0 c1 c2 rrt rrw r5 hbr
            cases hlo : decide (forF T (ownerF ws[k].lv ws[k].ix T) ws < 0)
            · have hno : ¬ forF T (ownerF ws[k].lv ws[k].ix T) ws < 0 := by simpa using hlo
              have HS := Lib.hid hno
              clear hno
              go_wp2
              go_roundw
              case rel =>
                first | refine ⟨k + 1, by omega, by go_num, ?_, hb3⟩ | refine ⟨k + 1, by omega, by omega, ?_⟩
                intro y hy
                rw [take_snoc _ _ hkl] at hy
                rcases List.mem_append.1 hy with hy | hy
                · exact hF.out y hy
                · rw [List.mem_singleton.1 hy]; have := HS.out; omega
              case measure => simp [intOf]; omega
            · replace hb := hb.trans (hb3.mono hb.size)
              go_wp2_with fail
              refine (lives_any _).mono ?_
              rintro e wL ⟨rfl, hb2⟩
              have hx : Below w10.heap.size w10 wL := hb2
              go_wp2
              go_ret
              exact ⟨rfl, hb.trans (hx.mono hb.size)⟩
          · exfalso
            have hkw : ws.take k = ws := List.take_of_length_le (by have := HW.out; omega)
            obtain ⟨y, hy, hy2⟩ := HFR.out
            have := hF.out y (by rw [hkw]; exact hy)
            omega
  · have hupn : upF T ws = false := by
      cases hup : upF T ws
      · rfl
      · exact absurd (HM0.out hup) hcz
    have hd9 : decide ((m1 : Int) > 0) = true := by simp; omega
    go_wp2_with fail
    refine (lives_any _).mono ?_
    rintro e wL ⟨rfl, hb2⟩
    have hx : Below w8.heap.size w8 wL := hb2
    go_wp2
    go_ret
    exact ⟨rfl, hb.trans (hx.mono hb.size)⟩
end Go.Proofs.Ytfdfadebfdmdgaa
