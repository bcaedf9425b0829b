/- The walk of LocksTake. -/
import Derived.Test.YtfdfadebfdmdgaaTkP
import Derived.Test.YtfdfadebfdmdgaaTkB
import Derived.Test.YtfdfadebfdmdgaaLvA
import Derived.Test.YtfdfadebfdmdgaaLkP
import Derived.Test.YtfdfadebfdmdgaaLkI
import Derived.Test.YtfdfadebfdmdgaaSerl
import Derived.Deep.CutRange
import Derived.Deep.DeepCutAuto
import Derived.Deep.RegionHeld3
namespace Go.Proofs.Ytfdfadebfdmdgaa
open Go.RowKit

theorem same_yes1 {n : Nat} {a b : List H3} (h : a = b) : b2i (decide (n = n) && decide (a = b)) = 1 := by subst h; simp [b2i]
theorem al2 {B : Nat} {a w : World} {o p : Obj} (h : Below B a w) (hB : B ≤ w.heap.size) : Below B a ((w.alloc o).alloc p) := (h.alloc hB o).alloc (by simp; omega) p

set_option maxRecDepth 100000 in
set_option maxHeartbeats 8000000 in
theorem takelaw_any (A : Option Addr) (n c : Nat) (l : List U3) (ua ub : U3) (w : World) (hr : Rd w w.heap.size 3 A n (cellsU l)) :
    Calls Try.prog 6 #[.agg #[.slice A n c], .agg #[.int .u8 ua.a, .int .u8 ua.b, .int .u8 ua.c], .agg #[.int .u8 ub.a, .int .u8 ub.b, .int .u8 ub.c]] w fun e w' => e = .returned (.bool true) ∧ Below w.heap.size w w' := by
  obtain ⟨b, hbd⟩ : ∃ b, b = w.heap.size := ⟨_, rfl⟩
  go_enter Try.func6, Try.ntmps6
  go_wp2_with fail
  refine (tof_any A n c l _ (hr.step (below_alloc2 (below_alloc1 (Below.refl _ _))))).mono ?_
  rintro e w1 ⟨At, nt, ct, rfl, hrt, hb2⟩
  have q40 : w1.cell? ⟨b + 1, 0, none⟩ = some (.int .u8 ua.a) := by rw [hbd]; exact cs_ hb2 (by simp) (by simp [go_sem])
  have q41 : w1.cell? ⟨b + 1, 1, none⟩ = some (.int .u8 ua.b) := by rw [hbd]; exact cs_ hb2 (by simp) (by simp [go_sem])
  have q42 : w1.cell? ⟨b + 1, 2, none⟩ = some (.int .u8 ua.c) := by rw [hbd]; exact cs_ hb2 (by simp) (by simp [go_sem])
  have q50 : w1.cell? ⟨b + 1 + 1, 0, none⟩ = some (.int .u8 ub.a) := by rw [hbd]; exact cs_ hb2 (by simp) (by simp [go_sem])
  have q51 : w1.cell? ⟨b + 1 + 1, 1, none⟩ = some (.int .u8 ub.b) := by rw [hbd]; exact cs_ hb2 (by simp) (by simp [go_sem])
  have q52 : w1.cell? ⟨b + 1 + 1, 2, none⟩ = some (.int .u8 ub.c) := by rw [hbd]; exact cs_ hb2 (by simp) (by simp [go_sem])
  have hb := below_alloc2 (below_alloc1 hb2)
  rw [← hbd]
  clear hb2 hbd hr
  obtain ⟨T, hT⟩ : ∃ T, T = ofU (l.take 30) := ⟨_, rfl⟩
  rw [← hT] at hrt
  have hg : Good T := by rw [hT]; exact good_ofU _
  have hlen : T.length ≤ 30 := by rw [hT]; exact Nat.le_trans (ofU_len _) (List.length_take_le _ _)
  clear hT
  obtain ⟨wz, hwz⟩ : ∃ wz, wz = w1.alloc (.cells #[.slice At nt ct] 29) := ⟨_, rfl⟩
  obtain ⟨g7, hg7⟩ : ∃ g, g = w1.heap.size := ⟨_, rfl⟩
  go_upto_region 2 with (fail)
  rw [← hwz, ← hg7]
  have hx : Below w1.heap.size w1 wz := by rw [hwz]; exact (Below.refl _ _).alloc (Nat.le_refl _) _
  have q7 : wz.cell? ⟨g7, 0, none⟩ = some (.slice At nt ct) := by rw [hwz, hg7]; exact cell_newest _ _ _ 0 rfl
  replace hrt := hrt.step hx
  replace q40 := keep_cl hx q40
  replace q41 := keep_cl hx q41
  replace q42 := keep_cl hx q42
  replace q50 := keep_cl hx q50
  replace q51 := keep_cl hx q51
  replace q52 := keep_cl hx q52
  replace hb := hb.trans (hx.mono hb.size)
  clear hx hwz hg7
  have l1 : b + 1 < wz.heap.size := lt_of_cell q40
  have l2 : b + 1 + 1 < wz.heap.size := lt_of_cell q50
  have n1 : wz.heap.size ≠ b + 1 := by omega
  have n2 : wz.heap.size ≠ b + 1 + 1 := by omega
  have n0 : wz.heap.size ≠ b := by omega
  have ha1 := ua.ha
  have ha2 := ua.hb
  have ha3 := ua.hc
  have hb1 := ub.ha
  have hb2 := ub.hb
  have hb3 := ub.hc
  have hs1 : Below wz.heap.size wz wz.drew := below_drewN' (Below.refl _ _) 1
  have hs2 : ∀ o, Below wz.heap.size wz (wz.alloc o).drew := fun o => below_drewN' ((Below.refl _ wz).alloc (Nat.le_refl _) o) 1
  have hs3 : ∀ o p, Below wz.heap.size wz ((wz.alloc o).alloc p).drew := fun o p => below_drewN' (al2 (Below.refl _ wz) (Nat.le_refl _)) 1
  go_cut [8, 9] (fun s8 s9 wx => ∃ g8 g9, s8 = .pointer (some ⟨g8, 0, none⟩) ∧ s9 = .pointer (some ⟨g9, 0, none⟩) ∧ wx.cell? ⟨g8, 0, none⟩ = some (.int .i64 (levF ua.a)) ∧ wx.cell? ⟨g8, 1, none⟩ = some (.int .i64 ua.b) ∧ wx.cell? ⟨g9, 0, none⟩ = some (.int .i64 (levF ub.a)) ∧ wx.cell? ⟨g9, 1, none⟩ = some (.int .i64 ub.b) ∧ Below wz.heap.size wz wx)
  case first =>
    go_region_held3 (fun w' => w'.cell? ⟨b + 1, 0, none⟩ = some (.int .u8 ua.a) ∧ w'.cell? ⟨b + 1, 1, none⟩ = some (.int .u8 ua.b) ∧ w'.cell? ⟨b + 1 + 1, 0, none⟩ = some (.int .u8 ub.a) ∧ w'.cell? ⟨b + 1 + 1, 1, none⟩ = some (.int .u8 ub.b)) (go_keep) (first
      | (go_at_call 21; refine (lock_any _ _ ?_ ?_ _).mono ?_; (exact ha1); (exact ha2); rintro e wa ⟨rfl, hbx⟩; have hya : Below wz.heap.size wz wa := below_nx (by first | exact hs1 | exact hs2 _ | exact hs3 _ _) hbx; have p0 := keep_cl hya q40; have p1 := keep_cl hya q41; have p2 := keep_cl hya q50; have p3 := keep_cl hya q51; have na0 : wa.heap.size ≠ b := (by have := hya.size; omega); have na1 : wa.heap.size ≠ b + 1 := (by have := hya.size; omega); have na2 : wa.heap.size ≠ b + 1 + 1 := (by have := hya.size; omega); (try (have x0 : wa.cell? ⟨wz.heap.size, 0, none⟩ = some (.int .i64 0) := cs_ hbx (by first | (simp; done) | (simp; omega) | fail) (by first | (simp [go_sem]; done) | fail); have x1 : wa.cell? ⟨wz.heap.size, 1, none⟩ = some (.int .i64 0) := cs_ hbx (by first | (simp; done) | (simp; omega) | fail) (by first | (simp [go_sem]; done) | fail); have x2 : wa.frozen? ⟨wz.heap.size, 0, none⟩ = false := fs_ hbx (by first | (simp; done) | (simp; omega) | fail) (by first | (simp [go_sem]; done) | fail); have x3 : wa.frozen? ⟨wz.heap.size, 1, none⟩ = false := fs_ hbx (by first | (simp; done) | (simp; omega) | fail) (by first | (simp [go_sem]; done) | fail); have xl : wz.heap.size < wa.heap.size := lt_of_cell x0)); (try (have y0 : wa.cell? ⟨wz.heap.size + 1, 0, none⟩ = some (.int .i64 0) := cs_ hbx (by first | (simp; done) | (simp; omega) | fail) (by first | (simp [go_sem]; done) | fail); have y1 : wa.cell? ⟨wz.heap.size + 1, 1, none⟩ = some (.int .i64 0) := cs_ hbx (by first | (simp; done) | (simp; omega) | fail) (by first | (simp [go_sem]; done) | fail); have y2 : wa.frozen? ⟨wz.heap.size + 1, 0, none⟩ = false := fs_ hbx (by first | (simp; done) | (simp; omega) | fail) (by first | (simp [go_sem]; done) | fail); have y3 : wa.frozen? ⟨wz.heap.size + 1, 1, none⟩ = false := fs_ hbx (by first | (simp; done) | (simp; omega) | fail) (by first | (simp [go_sem]; done) | fail); have yl : wz.heap.size + 1 < wa.heap.size := lt_of_cell y0)); (try (have dx : wz.heap.size ≠ wa.heap.size := (by first | (have := lt_of_cell x0; simp at this; omega) | fail))); (try (have dy : wz.heap.size + 1 ≠ wa.heap.size := (by first | (have := lt_of_cell y0; simp at this; omega) | fail))))
      | (go_at_call 21; refine (lock_any _ _ ?_ ?_ _).mono ?_; (exact hb1); (exact hb2); rintro e wb ⟨rfl, hbx⟩; have hst : Below wa.heap.size wa wb := (by first | exact hbx | exact below_alloc1 hbx | exact below_alloc2 hbx); have hyb : Below wz.heap.size wz wb := below_nx hya hst; have p4 := keep_cl hyb q40; have p5 := keep_cl hyb q41; have p6 := keep_cl hyb q50; have p7 := keep_cl hyb q51; have nb0 : wb.heap.size ≠ b := (by have := hyb.size; omega); have nb1 : wb.heap.size ≠ b + 1 := (by have := hyb.size; omega); have nb2 : wb.heap.size ≠ b + 1 + 1 := (by have := hyb.size; omega); (try (have xk0 := keep_cl hst x0; have xk1 := keep_cl hst x1; have xk2 := fs_ hst (lt_of_cell x0) x2; have xk3 := fs_ hst (lt_of_cell x0) x3; have xkl : wz.heap.size < wb.heap.size := lt_of_cell xk0)); (try (have yk0 := keep_cl hst y0; have yk1 := keep_cl hst y1; have yk2 := fs_ hst (lt_of_cell y0) y2; have yk3 := fs_ hst (lt_of_cell y0) y3; have ykl : wz.heap.size + 1 < wb.heap.size := lt_of_cell yk0)); (try (have z0 : wb.cell? ⟨wa.heap.size, 0, none⟩ = some (.int .i64 0) := cs_ hbx (by first | (simp; done) | (simp; omega) | fail) (by first | (simp [go_sem]; done) | fail); have z1 : wb.cell? ⟨wa.heap.size, 1, none⟩ = some (.int .i64 0) := cs_ hbx (by first | (simp; done) | (simp; omega) | fail) (by first | (simp [go_sem]; done) | fail); have z2 : wb.frozen? ⟨wa.heap.size, 0, none⟩ = false := fs_ hbx (by first | (simp; done) | (simp; omega) | fail) (by first | (simp [go_sem]; done) | fail); have z3 : wb.frozen? ⟨wa.heap.size, 1, none⟩ = false := fs_ hbx (by first | (simp; done) | (simp; omega) | fail) (by first | (simp [go_sem]; done) | fail); have zl : wa.heap.size < wb.heap.size := lt_of_cell z0)); (try (have u0 : wb.cell? ⟨wa.heap.size + 1, 0, none⟩ = some (.int .i64 0) := cs_ hbx (by first | (simp; done) | (simp; omega) | fail) (by first | (simp [go_sem]; done) | fail); have u1 : wb.cell? ⟨wa.heap.size + 1, 1, none⟩ = some (.int .i64 0) := cs_ hbx (by first | (simp; done) | (simp; omega) | fail) (by first | (simp [go_sem]; done) | fail); have u2 : wb.frozen? ⟨wa.heap.size + 1, 0, none⟩ = false := fs_ hbx (by first | (simp; done) | (simp; omega) | fail) (by first | (simp [go_sem]; done) | fail); have u3 : wb.frozen? ⟨wa.heap.size + 1, 1, none⟩ = false := fs_ hbx (by first | (simp; done) | (simp; omega) | fail) (by first | (simp [go_sem]; done) | fail); have ul : wa.heap.size + 1 < wb.heap.size := lt_of_cell u0)); (try (have ex : wz.heap.size ≠ wb.heap.size := (by first | (have := lt_of_cell xk0; simp at this; omega) | fail))); (try (have ey : wz.heap.size + 1 ≠ wb.heap.size := (by first | (have := lt_of_cell yk0; simp at this; omega) | fail))); (try (have ez : wa.heap.size ≠ wb.heap.size := (by first | (have := lt_of_cell z0; simp at this; omega) | fail))); (try (have eu : wa.heap.size + 1 ≠ wb.heap.size := (by first | (have := lt_of_cell u0; simp at this; omega) | fail)))))
    all_goals
      go_wp2
      go_meet
      case rel =>
        have sa := hya.size
        have sb := hyb.size
        refine ⟨_, _, rfl, rfl, ?_, ?_, ?_, ?_, ?_⟩
        · go_simp
        · go_simp
        · go_simp
        · go_simp
        · repeat (first | exact hyb | refine Below.setCell ?_ (by first | (simp; done) | (simp; omega) | omega) _ | refine Below.alloc ?_ (by first | (simp; done) | (simp; omega) | omega) _)
  case rest =>
    obtain ⟨g8, g9, rfl, rfl, q80, q81, q90, q91, hx⟩ := hcut
    replace hrt := hrt.step hx
    replace q7 := keep_cl hx q7
    replace q42 := keep_cl hx q42
    replace q52 := keep_cl hx q52
    replace hb := hb.trans (hx.mono hb.size)
    clear hx q40 q41 q50 q51 l1 l2 n0 n1 n2 hs1 hs2 hs3 ha1 ha2 hb1 hb2
    obtain ⟨w2, hw2⟩ : ∃ w2, w2 = wc := ⟨_, rfl⟩
    rw [← hw2] at hrt q7 q42 q52 q80 q81 q90 q91 hb ⊢
    clear hw2
    go_upto_region 3 with (fail)
    go_cut [10, 11] (fun s10 s11 wx => s10 = .int .i64 ((ua.c : Int) % 16) ∧ s11 = .int .i64 ((ub.c : Int) % 16) ∧ Below w2.heap.size w2 wx)
    case first =>
      go_quiet (fail)
      go_wp2
      go_meet
      case rel => exact ⟨rfl, rfl, below_drewN' (Below.refl _ _) _⟩
    case rest =>
      obtain ⟨rfl, rfl, hb2⟩ := hcut
      obtain ⟨w3, hw3⟩ : ∃ w3, w3 = wc := ⟨_, rfl⟩
      rw [← hw3] at hb2 ⊢
      clear hw3 q42 q52
      have hx : Below w2.heap.size w2 w3 := hb2
      replace q7 := keep_cl hx q7
      replace q80 := keep_cl hx q80
      replace q81 := keep_cl hx q81
      replace q90 := keep_cl hx q90
      replace q91 := keep_cl hx q91
      replace hrt := hrt.step hx
      replace hb := hb.trans (hx.mono hb.size)
      clear hx hb2
      obtain ⟨lv1, e1⟩ : ∃ z, z = levF ua.a := ⟨_, rfl⟩
      obtain ⟨ix1, e2⟩ : ∃ z : Int, z = ua.b := ⟨_, rfl⟩
      obtain ⟨p1, e3⟩ : ∃ z : Int, z = (ua.c : Int) % 16 := ⟨_, rfl⟩
      obtain ⟨lv2, e4⟩ : ∃ z, z = levF ub.a := ⟨_, rfl⟩
      obtain ⟨ix2, e5⟩ : ∃ z : Int, z = ub.b := ⟨_, rfl⟩
      obtain ⟨p2, e6⟩ : ∃ z : Int, z = (ub.c : Int) % 16 := ⟨_, rfl⟩
      have hv1 : validB lv1 ix1 p1 = true := by rw [e1, e2, e3]; exact valid_u ua
      have hv2 : validB lv2 ix2 p2 = true := by rw [e4, e5, e6]; exact valid_u ub
      rw [← e1] at q80
      rw [← e2] at q81
      rw [← e4] at q90
      rw [← e5] at q91
      rw [← e3, ← e6]
      clear e1 e2 e3 e4 e5 e6 ha3 hb3
      have HV1 := Lib.hid hv1
      have HV2 := Lib.hid hv2
      have hr1 : Hid (readyF T lv1 ix1 p1 = 0) := good_ready hg hv1
      have hr2 : Hid (readyF T lv2 ix2 p2 = 0) := good_ready hg hv2
      clear hv1 hv2
      have hq := lock_eql
      have hqn := lock_neq
      have hnt : (nt : Int) ≤ 60 := by have := hrt.len3; omega
      have hn6 : (nt : Int) ≤ 1000000 := by omega
      have hn9 : (nt : Int) ≤ 999999 := by omega
      clear hnt
      cases hh : heldB lv1 ix1 T
      · have HH := Lib.hid hh
        clear hh
        have HT : Hid (takeE T lv1 ix1 p1 = 0) := by unfold Hid takeE; rw [if_pos hr1.out, HH.out]; rfl
        have HG : Hid (takeG T lv1 ix1 p1 = takeF lv1 ix1 p1 T) := by unfold Hid takeG; rw [if_pos hr1.out, HH.out]; exact ins_take _ _ _ _ HH.out
        have hgU : Good (takeF lv1 ix1 p1 T) := good_take hg HV1.out HH.out
        have hUl : (takeF lv1 ix1 p1 T).length ≤ 31 := by rw [takeF_len]; omega
        have hfree : Hid (withoutF lv1 ix1 (-1) (takeF lv1 ix1 p1 T) = T) := without_take hg HH.out
        have hheldU : heldB lv1 ix1 (takeF lv1 ix1 p1 T) = true := held_taken _ _ _ _
        have hok : freeOk (takeF lv1 ix1 p1 T) lv1 ix1 p1 = true := by unfold freeOk who; rw [hheldU, if_pos rfl, owner_taken HH.out]; simp
        have HF : Hid (freeE (takeF lv1 ix1 p1 T) lv1 ix1 p1 = 0) := by unfold Hid freeE; rw [if_pos (good_ready hgU HV1.out), hok]; rfl
        have HV : Hid (freeG (takeF lv1 ix1 p1 T) lv1 ix1 p1 = T) := by unfold Hid freeG; rw [if_pos (good_ready hgU HV1.out), hok]; exact (checked_free (check_good hgU) hheldU).trans hfree.out
        have hneU : Hid (¬ takeF lv1 ix1 p1 T = T) := fun e => by have := congrArg List.length e; rw [takeF_len] at this; omega
        clear hheldU hok hfree
        obtain ⟨U, hU⟩ : ∃ U, U = takeF lv1 ix1 p1 T := ⟨_, rfl⟩
        rw [← hU] at HG hgU hUl HF HV hneU
        have HU := Lib.hid hU
        clear hU
        go_wp2_with fail
        refine (take_any _ _ _ T lv1 ix1 p1 _ hrt hn9).mono ?_
        rintro e w4 ⟨A1, m1, rfl, hu, hb2⟩
        rw [HT.out]
        rw [HG.out] at hu
        have hx : Below w3.heap.size w3 w4 := hb2
        replace q7 := keep_cl hx q7
        replace q80 := keep_cl hx q80
        replace q81 := keep_cl hx q81
        replace q90 := keep_cl hx q90
        replace q91 := keep_cl hx q91
        replace hrt := hrt.step hx
        replace hb := hb.trans (hx.mono hb.size)
        clear hx hb2
        have lq7 := lt_of_cell q7
        have lq80 := lt_of_cell q80
        have lq90 := lt_of_cell q90
        obtain ⟨g12, hg12⟩ : ∃ g, g = w4.heap.size := ⟨_, rfl⟩
        go_wp2_with fail
        refine (has_any _ _ _ T _ _ _ (hrt.step ((Below.refl _ _).alloc (Nat.le_refl _) _)) hn6).mono ?_
        rintro e w5 ⟨rfl, hb2⟩
        rw [HH.out, show b2i false = 0 from rfl]
        have q12 : w5.cell? ⟨w4.heap.size, 0, none⟩ = some (.slice A1 m1 m1) := cs_ hb2 (lt_alloc _ _) (cell_newest _ _ _ 0 rfl)
        rw [← hg12] at q12 ⊢
        clear hg12
        clear lq7 lq80 lq90
        have hx : Below w4.heap.size w4 w5 := below_alloc1 hb2
        replace q7 := keep_cl hx q7
        replace q80 := keep_cl hx q80
        replace q81 := keep_cl hx q81
        replace q90 := keep_cl hx q90
        replace q91 := keep_cl hx q91
        replace hrt := hrt.step hx
        replace hu := hu.step hx
        replace hb := hb.trans (hx.mono hb.size)
        clear hx hb2
        have hm1 : (m1 : Int) ≤ 60 := by have := hu.len3; omega
        have hm6 : (m1 : Int) ≤ 1000000 := by omega
        have hm9 : (m1 : Int) ≤ 999999 := by omega
        clear hm1
        go_wp2_with fail
        refine (free_any _ _ _ U lv1 ix1 p1 _ hu hm6).mono ?_
        rintro e w6 ⟨A2, m2, rfl, hv, hb2⟩
        rw [HF.out]
        rw [HV.out] at hv
        have hx : Below w5.heap.size w5 w6 := hb2
        replace q7 := keep_cl hx q7
        replace q80 := keep_cl hx q80
        replace q81 := keep_cl hx q81
        replace q90 := keep_cl hx q90
        replace q91 := keep_cl hx q91
        replace q12 := keep_cl hx q12
        replace hrt := hrt.step hx
        replace hu := hu.step hx
        replace hb := hb.trans (hx.mono hb.size)
        clear hx hb2
        have lq7 := lt_of_cell q7
        have lq80 := lt_of_cell q80
        have lq90 := lt_of_cell q90
        have lq12 := lt_of_cell q12
        have hm2 : (m2 : Int) ≤ 1000000 := by have := hv.len3; omega
        go_wp2_with fail
        refine (same_any A2 At m2 m2 nt ct T T _ (hv.step ((Below.refl _ _).alloc (Nat.le_refl _) _)) (hrt.step ((Below.refl _ _).alloc (Nat.le_refl _) _)) hm2 hn6).mono ?_
        rintro e w7 ⟨rfl, hb2⟩
        rw [same_yes1 rfl]
        clear hm2
        clear lq7 lq80 lq90 lq12
        have hx : Below w6.heap.size w6 w7 := below_alloc1 hb2
        replace q7 := keep_cl hx q7
        replace q80 := keep_cl hx q80
        replace q81 := keep_cl hx q81
        replace q90 := keep_cl hx q90
        replace q91 := keep_cl hx q91
        replace q12 := keep_cl hx q12
        replace hrt := hrt.step hx
        replace hu := hu.step hx
        replace hv := hv.step hx
        replace hb := hb.trans (hx.mono hb.size)
        clear hx hb2
        clear hv
        go_upto_region 12 with (fail)
        have hself : Below w7.heap.size w7 w7.drew := below_drewN' (Below.refl _ _) 1
        refine wp_region_held_drew (S := (fun w' => w'.cell? ⟨g12, 0, none⟩ = some (.slice A1 m1 m1))) (by kernel_rfl) (keep_cl hself q12) (fun hHeld => ?_)
        refine take_run 0 (v := ?_) rfl (by kernel_rfl) (by kernel_rfl) (by kernel_rfl) (fun _ _ _ h => h) rfl ?_ hHeld ?_
        rotate_left
        · intro w hSw; (try dsimp only at hSw); go_simp <;> with_reducible rfl
        try simp only [Act.put, List.setIfInBounds_toArray, List.set_cons_zero, List.set_cons_succ]
        refine take_run 1 (v := ?_) rfl (by kernel_rfl) (by kernel_rfl) (by kernel_rfl) (fun _ _ _ h => h) rfl ?_ hHeld ?_
        rotate_left
        · intro w hSw; (try dsimp only at hSw); go_simp <;> with_reducible rfl
        try simp only [Act.put, List.setIfInBounds_toArray, List.set_cons_zero, List.set_cons_succ]
        refine take_run 3 (v := ?_) rfl (by kernel_rfl) (by kernel_rfl) (by kernel_rfl) (fun _ _ _ h => h) rfl ?_ hHeld ?_
        rotate_left
        · intro w hSw; (try dsimp only at hSw); go_simp <;> with_reducible rfl
        try simp only [Act.put, List.setIfInBounds_toArray, List.set_cons_zero, List.set_cons_succ]
        refine take_run 4 (v := ?_) rfl (by kernel_rfl) (by kernel_rfl) (by kernel_rfl) (fun _ _ _ h => h) rfl ?_ hHeld ?_
        rotate_left
        · intro w hSw; (try dsimp only at hSw); go_simp <;> with_reducible rfl
        try simp only [Act.put, List.setIfInBounds_toArray, List.set_cons_zero, List.set_cons_succ]
        refine take_call 2 rfl (by kernel_rfl) rfl (fun K hK => ?_)
        go_simp
        refine (of_any _ _ _ U _ _ (hu.step hself) hm6).mono ?_
        rintro e w8 ⟨A3, m3, rfl, ho, hbx⟩
        have hy1 : Below w7.heap.size w7 w8 := below_nx hself hbx
        try dsimp only
        refine hK.out _ _ (keep_cl hy1 q12) (fun hHeld => ?_)
        clear hK K
        try simp only [Act.put, List.setIfInBounds_toArray, List.set_cons_zero, List.set_cons_succ]
        refine take_call 5 rfl (by kernel_rfl) rfl (fun K hK => ?_)
        go_simp
        refine (refOf_any _ _ _ U _ _ (hu.step hy1) hm6).mono ?_
        rintro e w9 ⟨A4, m4, c4, rfl, hp, hbx⟩
        have hb2 : Below w7.heap.size w7 w9 := below_nx hy1 hbx
        replace ho := ho.step hbx
        try dsimp only
        refine hK.out _ _ (keep_cl hb2 q12) (fun hHeld => ?_)
        clear hK K
        try simp only [Act.put, List.setIfInBounds_toArray, List.set_cons_zero, List.set_cons_succ]
        refine take_run 6 (v := ?_) rfl (by kernel_rfl) (by kernel_rfl) (by kernel_rfl) (fun _ _ _ h => h) rfl ?_ hHeld ?_
        rotate_left
        · intro w hSw; (try dsimp only at hSw); go_simp <;> with_reducible rfl
        try simp only [Act.put, List.setIfInBounds_toArray, List.set_cons_zero, List.set_cons_succ]
        refine take_run 7 (v := ?_) rfl (by kernel_rfl) (by kernel_rfl) (by kernel_rfl) (fun _ _ _ h => h) rfl ?_ hHeld ?_
        rotate_left
        · intro w hSw; (try dsimp only at hSw); go_simp <;> with_reducible rfl
        try simp only [Act.put, List.setIfInBounds_toArray, List.set_cons_zero, List.set_cons_succ]
        refine wpAnyH_done (by kernel_rfl) ?_ _
        clear hHeld hself hy1 hbx
        have hx : Below w7.heap.size w7 w9 := hb2
        replace q7 := keep_cl hx q7
        replace q80 := keep_cl hx q80
        replace q81 := keep_cl hx q81
        replace q90 := keep_cl hx q90
        replace q91 := keep_cl hx q91
        replace q12 := keep_cl hx q12
        replace hrt := hrt.step hx
        replace hu := hu.step hx
        replace hb := hb.trans (hx.mono hb.size)
        clear hx hb2
        have HO := Lib.hid ho.len2
        obtain rfl : m3 = m4 := ho.len2.trans hp.len2.symm
        have hd : (m3 != m3) = false := by simp
        have ho3 : m3 ≤ 31 := by have := ho.len2; have := ofF_len p1 U; omega
        have hoo := ho
        have hpp := hp
        clear ho hp
        have ho := Lib.hid hoo
        have hp := Lib.hid hpp
        clear hoo hpp
        go_wp2
        go_loopw [18] (fun i wr => ∃ k : Nat, k ≤ m3 ∧ i = .int .i64 k ∧ Below w9.heap.size w9 wr) (fun i _ => m3 - (intOf i).toNat)
        case atStart => exact ⟨0, Nat.zero_le _, rfl, Below.refl _ _⟩
        case round =>
          obtain ⟨k, hk, rfl, hbr⟩ := hrel
          by_cases hlt : k < m3
          · obtain ⟨ad3, rfl, _, d0, d1⟩ := (ho.out.step hbr).at2 (k := k) (by have := HO.out; omega)
            obtain ⟨ad4, rfl, _, d2, d3⟩ := (hp.out.step hbr).at2 (k := k) (by have := HO.out; omega)
            have hkk : lkB (ofF p1 U)[k].1 (ofF p1 U)[k].2 (ofF p1 U)[k].1 (ofF p1 U)[k].2 = true := by unfold lkB; simp
            go_wp2_with fail
            go_quiet (fail)
            go_wp2
            go_roundw
            case rel => exact ⟨k + 1, by omega, by go_num, below_drewN' hbr _⟩
            case measure => simp [intOf]; omega
          · have hb2 := hbr
            clear hbr
            have hx : Below w9.heap.size w9 wr := hb2
            replace q7 := keep_cl hx q7
            replace q80 := keep_cl hx q80
            replace q81 := keep_cl hx q81
            replace q90 := keep_cl hx q90
            replace q91 := keep_cl hx q91
            replace q12 := keep_cl hx q12
            replace hrt := hrt.step hx
            replace hu := hu.step hx
            replace hb := hb.trans (hx.mono hb.size)
            clear hx hb2
            cases hlk : lkB lv1 ix1 lv2 ix2
            · have hnk : ¬ (lv1 = lv2 ∧ ix1 = ix2) := by unfold lkB at hlk; simpa using hlk
              have HN := Lib.hid hnk
              clear hnk
              cases hm : heldB lv2 ix2 T
              · have HM := Lib.hid hm
                clear hm
                have hmU : heldB lv2 ix2 U = false := by rw [HU.out, held_take _ _ _ _ _ _ HN.out]; exact HM.out
                have hT2 : Hid (takeE U lv2 ix2 p2 = 0) := by unfold Hid takeE; rw [if_pos (good_ready hgU HV2.out), hmU]; rfl
                have hG2 : Hid (takeG U lv2 ix2 p2 = takeF lv2 ix2 p2 U) := by unfold Hid takeG; rw [if_pos (good_ready hgU HV2.out), hmU]; exact ins_take _ _ _ _ hmU
                have hT3 : Hid (takeE T lv2 ix2 p2 = 0) := by unfold Hid takeE; rw [if_pos hr2.out, HM.out]; rfl
                have hG3 : Hid (takeG T lv2 ix2 p2 = takeF lv2 ix2 p2 T) := by unfold Hid takeG; rw [if_pos hr2.out, HM.out]; exact ins_take _ _ _ _ HM.out
                have hgW : Good (takeF lv2 ix2 p2 T) := good_take hg HV2.out HM.out
                have hne2 : ¬ (lv2 = lv1 ∧ ix2 = ix1) := fun e => HN.out ⟨e.1.symm, e.2.symm⟩
                have hmW : heldB lv1 ix1 (takeF lv2 ix2 p2 T) = false := by rw [held_take _ _ _ _ _ _ hne2]; exact HH.out
                have hT4 : Hid (takeE (takeF lv2 ix2 p2 T) lv1 ix1 p1 = 0) := by unfold Hid takeE; rw [if_pos (good_ready hgW HV1.out), hmW]; rfl
                have hG4 : Hid (takeG (takeF lv2 ix2 p2 T) lv1 ix1 p1 = takeF lv1 ix1 p1 (takeF lv2 ix2 p2 T)) := by unfold Hid takeG; rw [if_pos (good_ready hgW HV1.out), hmW]; exact ins_take _ _ _ _ hmW
                have hcomm : Hid (takeF lv2 ix2 p2 U = takeF lv1 ix1 p1 (takeF lv2 ix2 p2 T)) := by unfold Hid; rw [HU.out]; exact take_comm hg HV1.out HV2.out HH.out HM.out HN.out
                have hVl : (takeF lv2 ix2 p2 U).length ≤ 32 := by rw [takeF_len]; omega
                have hWl : (takeF lv2 ix2 p2 T).length ≤ 31 := by rw [takeF_len]; omega
                clear hmU hne2 hmW
                obtain ⟨V, hV⟩ : ∃ V, V = takeF lv2 ix2 p2 U := ⟨_, rfl⟩
                obtain ⟨Wt, hW⟩ : ∃ Wt, Wt = takeF lv2 ix2 p2 T := ⟨_, rfl⟩
                obtain ⟨Y, hY⟩ : ∃ Y, Y = takeF lv1 ix1 p1 Wt := ⟨_, rfl⟩
                rw [← hW] at hG3 hgW hT4 hG4 hcomm hWl
                rw [← hV] at hG2 hcomm hVl
                rw [← hY] at hG4 hcomm
                clear hV hW hY
                have lq7 := lt_of_cell q7
                have lq80 := lt_of_cell q80
                have lq90 := lt_of_cell q90
                have lq12 := lt_of_cell q12
                go_wp2_with fail
                refine (has_any _ _ _ T _ _ _ hrt hn6).mono ?_
                rintro e w10 ⟨rfl, hb2⟩
                rw [HM.out, show b2i false = 0 from rfl]
                clear lq7 lq80 lq90 lq12
                have hx : Below wr.heap.size wr w10 := hb2
                replace q7 := keep_cl hx q7
                replace q80 := keep_cl hx q80
                replace q81 := keep_cl hx q81
                replace q90 := keep_cl hx q90
                replace q91 := keep_cl hx q91
                replace q12 := keep_cl hx q12
                replace hrt := hrt.step hx
                replace hu := hu.step hx
                replace hb := hb.trans (hx.mono hb.size)
                clear hx hb2
                go_wp2_with fail
                refine (take_any _ _ _ U lv2 ix2 p2 _ hu hm9).mono ?_
                rintro e w11 ⟨A5, m5, rfl, hz, hb2⟩
                rw [hT2.out]
                rw [hG2.out] at hz
                have hx : Below w10.heap.size w10 w11 := hb2
                replace q7 := keep_cl hx q7
                replace q80 := keep_cl hx q80
                replace q81 := keep_cl hx q81
                replace q90 := keep_cl hx q90
                replace q91 := keep_cl hx q91
                replace q12 := keep_cl hx q12
                replace hrt := hrt.step hx
                replace hu := hu.step hx
                replace hb := hb.trans (hx.mono hb.size)
                clear hx hb2
                have lq7 := lt_of_cell q7
                have lq80 := lt_of_cell q80
                have lq90 := lt_of_cell q90
                have lq12 := lt_of_cell q12
                obtain ⟨g19, hg19⟩ : ∃ g, g = w11.heap.size := ⟨_, rfl⟩
                go_wp2_with fail
                refine (take_any _ _ _ T lv2 ix2 p2 _ (hrt.step ((Below.refl _ _).alloc (Nat.le_refl _) _)) hn9).mono ?_
                rintro e w12 ⟨A6, m6, rfl, hy, hb2⟩
                rw [hT3.out]
                rw [hG3.out] at hy
                have q19 : w12.cell? ⟨w11.heap.size, 0, none⟩ = some (.slice A5 m5 m5) := cs_ hb2 (lt_alloc _ _) (cell_newest _ _ _ 0 rfl)
                rw [← hg19] at q19 ⊢
                clear hg19
                clear lq7 lq80 lq90 lq12
                have hx : Below w11.heap.size w11 w12 := below_alloc1 hb2
                replace q7 := keep_cl hx q7
                replace q80 := keep_cl hx q80
                replace q81 := keep_cl hx q81
                replace q90 := keep_cl hx q90
                replace q91 := keep_cl hx q91
                replace q12 := keep_cl hx q12
                replace hrt := hrt.step hx
                replace hu := hu.step hx
                replace hz := hz.step hx
                replace hb := hb.trans (hx.mono hb.size)
                clear hx hb2
                have lq7 := lt_of_cell q7
                have lq80 := lt_of_cell q80
                have lq90 := lt_of_cell q90
                have lq12 := lt_of_cell q12
                have lq19 := lt_of_cell q19
                have hm69 : (m6 : Int) ≤ 999999 := by have := hy.len3; omega
                obtain ⟨g21, hg21⟩ : ∃ g, g = w12.heap.size := ⟨_, rfl⟩
                go_wp2_with fail
                refine (take_any _ _ _ Wt lv1 ix1 p1 _ (hy.step ((Below.refl _ _).alloc (Nat.le_refl _) _)) hm69).mono ?_
                rintro e w13 ⟨A7, m7, rfl, hx7, hb2⟩
                rw [hT4.out]
                rw [hG4.out, ← hcomm.out] at hx7
                clear hm69 hg21
                clear lq7 lq80 lq90 lq12 lq19
                have hx : Below w12.heap.size w12 w13 := below_alloc1 hb2
                replace q7 := keep_cl hx q7
                replace q80 := keep_cl hx q80
                replace q81 := keep_cl hx q81
                replace q90 := keep_cl hx q90
                replace q91 := keep_cl hx q91
                replace q12 := keep_cl hx q12
                replace q19 := keep_cl hx q19
                replace hrt := hrt.step hx
                replace hu := hu.step hx
                replace hz := hz.step hx
                replace hy := hy.step hx
                replace hb := hb.trans (hx.mono hb.size)
                clear hx hb2
                have lq7 := lt_of_cell q7
                have lq80 := lt_of_cell q80
                have lq90 := lt_of_cell q90
                have lq12 := lt_of_cell q12
                have lq19 := lt_of_cell q19
                have hm5 : (m5 : Int) ≤ 1000000 := by have := hz.len3; omega
                have hm7 : (m7 : Int) ≤ 1000000 := by have := hx7.len3; omega
                go_wp2_with fail
                refine (same_any A5 A7 m5 m5 m7 m7 V V _ (hz.step ((Below.refl _ _).alloc (Nat.le_refl _) _)) (hx7.step ((Below.refl _ _).alloc (Nat.le_refl _) _)) hm5 hm7).mono ?_
                rintro e w14 ⟨rfl, hb2⟩
                rw [same_yes1 rfl]
                have q23 : w14.cell? ⟨w13.heap.size, 0, none⟩ = some (.slice A7 m7 m7) := cs_ hb2 (lt_alloc _ _) (cell_newest _ _ _ 0 rfl)
                clear lq7 lq80 lq90 lq12 lq19
                have hx : Below w13.heap.size w13 w14 := below_alloc1 hb2
                replace q7 := keep_cl hx q7
                replace q80 := keep_cl hx q80
                replace q81 := keep_cl hx q81
                replace q90 := keep_cl hx q90
                replace q91 := keep_cl hx q91
                replace q12 := keep_cl hx q12
                replace q19 := keep_cl hx q19
                replace hrt := hrt.step hx
                replace hu := hu.step hx
                replace hz := hz.step hx
                replace hy := hy.step hx
                replace hx7 := hx7.step hx
                replace hb := hb.trans (hx.mono hb.size)
                clear hx hb2
                go_wp2_with fail
                refine (lsame_any _ _ _ _ _ _ V V _ hz hx7 hm5 hm7).mono ?_
                rintro e w15 ⟨rfl, hb2⟩
                rw [show decide (V = V) = true from by simp]
                clear q23
                have hx : Below w14.heap.size w14 w15 := hb2
                replace q7 := keep_cl hx q7
                replace q80 := keep_cl hx q80
                replace q81 := keep_cl hx q81
                replace q90 := keep_cl hx q90
                replace q91 := keep_cl hx q91
                replace q12 := keep_cl hx q12
                replace q19 := keep_cl hx q19
                replace hrt := hrt.step hx
                replace hu := hu.step hx
                replace hz := hz.step hx
                replace hy := hy.step hx
                replace hx7 := hx7.step hx
                replace hb := hb.trans (hx.mono hb.size)
                clear hx hb2
                go_wp2_with fail
                refine (lsame_any _ _ _ _ _ _ U T _ hu hrt hm6 hn6).mono ?_
                rintro e w16 ⟨rfl, hb2⟩
                rw [show decide (U = T) = false from by simpa using hneU.out]
                have hx : Below w15.heap.size w15 w16 := hb2
                replace q7 := keep_cl hx q7
                replace q80 := keep_cl hx q80
                replace q81 := keep_cl hx q81
                replace q90 := keep_cl hx q90
                replace q91 := keep_cl hx q91
                replace q12 := keep_cl hx q12
                replace q19 := keep_cl hx q19
                replace hrt := hrt.step hx
                replace hu := hu.step hx
                replace hz := hz.step hx
                replace hy := hy.step hx
                replace hx7 := hx7.step hx
                replace hb := hb.trans (hx.mono hb.size)
                clear hx hb2
                go_wp2_with fail
                refine (lives_any _).mono ?_
                rintro e wL ⟨rfl, hb2⟩
                have hx : Below w16.heap.size w16 wL := hb2
                go_wp2
                go_ret
                exact ⟨rfl, hb.trans (hx.mono hb.size)⟩
              · have HM := Lib.hid hm
                clear hm
                have lq7 := lt_of_cell q7
                have lq80 := lt_of_cell q80
                have lq90 := lt_of_cell q90
                have lq12 := lt_of_cell q12
                go_wp2_with fail
                refine (has_any _ _ _ T _ _ _ hrt hn6).mono ?_
                rintro e w10 ⟨rfl, hb2⟩
                rw [HM.out, show b2i true = 1 from rfl]
                clear lq7 lq80 lq90 lq12
                have hx : Below wr.heap.size wr w10 := hb2
                replace q7 := keep_cl hx q7
                replace q80 := keep_cl hx q80
                replace q81 := keep_cl hx q81
                replace q90 := keep_cl hx q90
                replace q91 := keep_cl hx q91
                replace q12 := keep_cl hx q12
                replace hrt := hrt.step hx
                replace hu := hu.step hx
                replace hb := hb.trans (hx.mono hb.size)
                clear hx hb2
                go_wp2_with fail
                refine (lives_any _).mono ?_
                rintro e wL ⟨rfl, hb2⟩
                have hx : Below w10.heap.size w10 wL := hb2
                go_wp2
                go_ret
                exact ⟨rfl, hb.trans (hx.mono hb.size)⟩
            · go_wp2_with fail
              refine (lives_any _).mono ?_
              rintro e wL ⟨rfl, hb2⟩
              have hx : Below wr.heap.size wr wL := hb2
              go_wp2
              go_ret
              exact ⟨rfl, hb.trans (hx.mono hb.size)⟩
      · have HH := Lib.hid hh
        clear hh
        have HT : Hid (takeE T lv1 ix1 p1 = 14) := by unfold Hid takeE; rw [if_pos hr1.out, HH.out]; rfl
        have HG : Hid (takeG T lv1 ix1 p1 = []) := by unfold Hid takeG; rw [if_pos hr1.out, HH.out]; rfl
        go_wp2_with fail
        refine (take_any _ _ _ T lv1 ix1 p1 _ hrt hn9).mono ?_
        rintro e w4 ⟨A1, m1, rfl, hu, hb2⟩
        rw [HT.out]
        rw [HG.out] at hu
        have hx : Below w3.heap.size w3 w4 := hb2
        replace q7 := keep_cl hx q7
        replace q80 := keep_cl hx q80
        replace q81 := keep_cl hx q81
        replace q90 := keep_cl hx q90
        replace q91 := keep_cl hx q91
        replace hrt := hrt.step hx
        replace hb := hb.trans (hx.mono hb.size)
        clear hx hb2
        have lq7 := lt_of_cell q7
        have lq80 := lt_of_cell q80
        have lq90 := lt_of_cell q90
        go_wp2_with fail
        refine (has_any _ _ _ T _ _ _ (hrt.step ((Below.refl _ _).alloc (Nat.le_refl _) _)) hn6).mono ?_
        rintro e w5 ⟨rfl, hb2⟩
        rw [HH.out, show b2i true = 1 from rfl]
        have hx : Below w4.heap.size w4 w5 := below_alloc1 hb2
        replace q7 := keep_cl hx q7
        replace q80 := keep_cl hx q80
        replace q81 := keep_cl hx q81
        replace q90 := keep_cl hx q90
        replace q91 := keep_cl hx q91
        replace hrt := hrt.step hx
        replace hb := hb.trans (hx.mono hb.size)
        clear hx hb2
        go_wp2_with fail
        refine (lives_any _).mono ?_
        rintro e wL ⟨rfl, hb2⟩
        have hx : Below w5.heap.size w5 wL := hb2
        go_wp2
        go_ret
        exact ⟨rfl, hb.trans (hx.mono hb.size)⟩
end Go.Proofs.Ytfdfadebfdmdgaa
