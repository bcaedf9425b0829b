/- ExtractsCollision holds of every argument. -/
import Derived.Test.YtpobkoiaidgedaaDoorSjE
namespace Go.Proofs.YtpobkoiaidgedaaDoor
open Go.RowKit

set_option maxRecDepth 100000 in
set_option maxHeartbeats 16000000 in
theorem law_collision (v : Value) (es1 es2 : List DE) (es3 es4 : List ME) (w : World) (hG : Glob w) (hv : ArgT w v es1 es2 es3 es4) :
    Calls Tryd.prog 3 #[v] w fun e w' => e = .returned (.bool true) ∧ Below w.heap.size w w' := by
  have HG := Lib.hid hG
  have HV := Lib.hid hv
  obtain ⟨A1, A2, A3, A4, n1, c1, n2, c2, n3, c3, n4, c4, rfl, _⟩ := hv.out
  clear hG hv
  go_enter Tryd.func3, Tryd.ntmps3
  go_upto_region 1 with (fail)
  have ba := (Below.refl w.heap.size w).alloc (Nat.le_refl _) (.cells #[Value.slice A1 n1 c1, .slice A2 n2 c2, .slice A3 n3 c3, .slice A4 n4 c4] 25)
  have HVa := Lib.hid (HV.out.step ba)
  have BA := Lib.hid ba
  clear ba
  go_wp2_with (fail)
  refine (tOf_arg _ HVa.out).mono ?_
  rintro er w2 ⟨va, vb, vc, vd, xa, xc, rfl, ra, rb, rc, rd, sac, sbd, hb⟩
  obtain ⟨la, hla⟩ : ∃ la, la = (es1.take 8).map DE.dig := ⟨_, rfl⟩
  obtain ⟨lc, hlc⟩ : ∃ lc, lc = (es2.take 8).map DE.dig := ⟨_, rfl⟩
  have hlan : la.length < 1000000 := by rw [hla, List.length_map, List.length_take]; omega
  have hlcn : lc.length < 1000000 := by rw [hlc, List.length_map, List.length_take]; omega
  rw [← hla] at ra
  rw [← hlc] at rc
  have HT1 := Lib.hid (trace_one ra rb rc rd)
  have DA := Lib.hid ra.digs
  have DC := Lib.hid rc.digs
  have B2 := Lib.hid (BA.out.trans (hb.mono BA.out.size))
  have HLA := Lib.hid hlan
  have HLC := Lib.hid hlcn
  have S3 : Hid (Row (w2.alloc (.cells zTr.toArray 30)) w2.heap.size 30 zTr) := Lib.hid (heap_alloc_new _ _)
  have HIF : Hid ((Tryd.prog.info? 30).map (·.size) = some [va, vb, vc, vd, Value.slice none 0 0].length) := Lib.hid (by kernel_rfl)
  have HIF2 : Hid ((Tryd.prog.info? 30).map (·.size) = some [va, vb, vc, vd, Value.slice none 0 0].toArray.size) := Lib.hid (by kernel_rfl)
  clear hla hlc ra rb rc rd sac sbd hb hlan hlcn HVa HV BA
  go_upto_region 2 with (refine Row.store (g := w2.heap.size) (t := 30) (L := zTr) (M := [va, vb, vc, vd, .slice none 0 0]) S3.out rfl 30 (.tmp 3) (.tmp 10) rfl rfl rfl HIF.out rfl HT1.out ?_; rintro w3 hw3 rt; have b23 : Below w2.heap.size w2 w3 := (by rw [hw3]; exact ((Below.refl _ _).alloc (Nat.le_refl _) _).grown (grown_setRow _ _ _) (by simp) (fun k hk => by cases hk; exact Nat.le_refl _)); clear hw3)
  obtain ⟨gt, hgt⟩ : ∃ g, g = w2.heap.size := ⟨_, rfl⟩
  rw [← hgt] at rt ⊢
  have RT := Lib.hid rt
  have B3 := Lib.hid (B2.out.trans (b23.mono B2.out.size))
  have DA3 := Lib.hid (DA.out.step b23)
  have DC3 := Lib.hid (DC.out.step b23)
  clear hgt rt b23 S3 B2 DA DC
  go_wp2_with (refine wpList_load_row rfl 30 (.tmp 3) rfl gt rfl 30 [va, vb, vc, vd, Value.slice none 0 0].toArray (0, 0) _ RT.out Tryd.underlying30 rfl HIF2.out ?_)
  refine (refCollision_any la lc xa xc va vb vc vd _ w3 HLA.out HLC.out DA3.out DC3.out).mono ?_
  rintro er wr ⟨hres, hbr⟩
  have RTr := Lib.hid (RT.out.step hbr)
  have Br := Lib.hid (B3.out.trans (hbr.mono B3.out.size))
  have DAr := Lib.hid (DA3.out.step hbr)
  have DCr := Lib.hid (DC3.out.step hbr)
  clear RT B3 DA3 DC3 hbr
  rcases hres with ⟨k, i, y, x, hl, hm, hc, hn1, hn2, rfl⟩ | ⟨hall, rfl⟩
  · have HY := Lib.hid hl
    have HX := Lib.hid hm
    have HC := Lib.hid hc
    have HN1 := Lib.hid hn1
    have HN2 := Lib.hid hn2
    clear hl hm hc hn1 hn2
    go_wp2_with (refine wpList_load_row rfl 30 (.tmp 3) rfl gt rfl 30 [va, vb, vc, vd, Value.slice none 0 0].toArray (0, 0) _ RTr.out Tryd.underlying30 rfl HIF2.out ?_)
    refine (collision_any la lc xa xc va vb vc vd _ wr (HG.out.step Br.out) HLA.out HLC.out DAr.out DCr.out).mono ?_
    intro er w4 hres
    obtain ⟨A1', A2', c1', c2', rfl, hr1, hr2, hb4⟩ := col_found HY.out HX.out HC.out HN1.out HN2.out hres
    clear hres
    have RT4 := Lib.hid (RTr.out.step hb4)
    have B4 := Lib.hid (Br.out.trans (hb4.mono Br.out.size))
    have DA4 := Lib.hid (DAr.out.step hb4)
    have DC4 := Lib.hid (DCr.out.step hb4)
    have HG4 := Lib.hid (HG.out.step B4.out)
    have HR1 := Lib.hid hr1
    have HR2 := Lib.hid hr2
    clear RTr Br DAr DCr hb4 hr1 hr2
    obtain ⟨xcs, hxc, hxis⟩ := DA4.out.2.1 i x HX.out
    obtain ⟨ycs, hyc, hyis⟩ := DC4.out.2.1 k y HY.out
    have hin : i < la.length := (List.getElem?_eq_some_iff.1 HX.out).1
    have hkn : k < lc.length := (List.getElem?_eq_some_iff.1 HY.out).1
    obtain ⟨gm, ca, hva, _, hrg⟩ := own_elem DA4.out.2.2 DA4.out.lens i xcs hxc hin
    obtain ⟨gl, cc, hvc, _, hrl⟩ := own_elem DC4.out.2.2 DC4.out.lens k ycs hyc hkn
    subst hva
    subst hvc
    obtain ⟨_, _, Ax, cx, rfl, _, _, hrx⟩ := hxis
    obtain ⟨_, _, Ay, cy, rfl, _, _, hry⟩ := hyis
    have cm : w4.cell? ⟨gm, i * 33, none⟩ = some (.slice Ax x.b.length cx) := hrg 0 _ rfl
    have cl : w4.cell? ⟨gl, k * 33, none⟩ = some (.slice Ay y.b.length cy) := hrl 0 _ rfl
    have ct0 : w4.cell? ⟨gt, 0, none⟩ = some (.slice (some ⟨gm, 0, none⟩) la.length ca) := RT4.out.cell rfl
    have ct2 : w4.cell? ⟨gt, 2, none⟩ = some (.slice (some ⟨gl, 0, none⟩) lc.length cc) := RT4.out.cell rfl
    have HRX := Lib.hid hrx
    have HRY := Lib.hid hry
    have hi0 : (0 : Int) ≤ (i : Int) := by omega
    have hk0 : (0 : Int) ≤ (k : Int) := by omega
    have hi1 : (i : Int) < (la.length : Int) := by omega
    have hk1 : (k : Int) < (lc.length : Int) := by omega
    have hlt0 : ¬ (i : Int) < 0 := by omega
    have hd0 : decide ((i : Int) < 0) = false := by simp
    clear hxc hyc hrg hrl hrx hry
    go_upto_region 6 with (fail)
    refine wp_region_held_drew (S := (fun w => w.cell? ⟨gt, 0, none⟩ = some (.slice (some ⟨gm, 0, none⟩) la.length ca) ∧ w.cell? ⟨gt, 2, none⟩ = some (.slice (some ⟨gl, 0, none⟩) lc.length cc) ∧ w.cell? ⟨gm, i * 33, none⟩ = some (.slice Ax x.b.length cx) ∧ w.cell? ⟨gl, k * 33, none⟩ = some (.slice Ay y.b.length cy) ∧ (convert 34 9 (.slice A1' x.b.length c1')).run Tryd.prog w = .ok (.string (strB x.b)) w ∧ (convert 34 9 (.slice Ax x.b.length cx)).run Tryd.prog w = .ok (.string (strB x.b)) w ∧ (convert 34 9 (.slice A2' y.b.length c2')).run Tryd.prog w = .ok (.string (strB y.b)) w ∧ (convert 34 9 (.slice Ay y.b.length cy)).run Tryd.prog w = .ok (.string (strB y.b)) w)) (by kernel_rfl) ⟨ct0, ct2, cm, cl, conv8 HR1.out, conv8 HRX.out, conv8 HR2.out, conv8 HRY.out⟩ (fun hHeld => ?_)
    refine take_run 0 (v := ?_) rfl (by kernel_rfl) (by kernel_rfl) (by kernel_rfl) (fun _ _ _ h => h) rfl ?_ hHeld ?_
    rotate_left
    · intro w hSw; (try dsimp only at hSw); go_simp <;> with_reducible rfl
    try simp only [Act.put, List.setIfInBounds_toArray, List.set_cons_zero, List.set_cons_succ]
    refine take_run 1 (v := ?_) rfl (by kernel_rfl) (by kernel_rfl) (by kernel_rfl) (fun _ _ _ h => h) rfl ?_ hHeld ?_
    rotate_left
    · intro w hSw; (try dsimp only at hSw); go_simp <;> with_reducible rfl
    try simp only [Act.put, List.setIfInBounds_toArray, List.set_cons_zero, List.set_cons_succ]
    refine take_run 2 (v := ?_) rfl (by kernel_rfl) (by kernel_rfl) (by kernel_rfl) (fun _ _ _ h => h) rfl ?_ hHeld ?_
    rotate_left
    · intro w hSw; (try dsimp only at hSw); go_simp <;> with_reducible rfl
    try simp only [Act.put, List.setIfInBounds_toArray, List.set_cons_zero, List.set_cons_succ]
    refine take_run 3 (v := ?_) rfl (by kernel_rfl) (by kernel_rfl) (by kernel_rfl) (fun _ _ _ h => h) rfl ?_ hHeld ?_
    rotate_left
    · intro w hSw; (try dsimp only at hSw); go_simp <;> with_reducible rfl
    try simp only [Act.put, List.setIfInBounds_toArray, List.set_cons_zero, List.set_cons_succ]
    refine take_run 4 (v := ?_) rfl (by kernel_rfl) (by kernel_rfl) (by kernel_rfl) (fun _ _ _ h => h) rfl ?_ hHeld ?_
    rotate_left
    · intro w hSw; (try dsimp only at hSw); go_simp <;> with_reducible rfl
    try simp only [Act.put, List.setIfInBounds_toArray, List.set_cons_zero, List.set_cons_succ]
    refine take_run 5 (v := ?_) rfl (by kernel_rfl) (by kernel_rfl) (by kernel_rfl) (fun _ _ _ h => h) rfl ?_ hHeld ?_
    rotate_left
    · intro w hSw; (try dsimp only at hSw); go_simp <;> with_reducible rfl
    try simp only [Act.put, List.setIfInBounds_toArray, List.set_cons_zero, List.set_cons_succ]
    refine take_run 6 (v := ?_) rfl (by kernel_rfl) (by kernel_rfl) (by kernel_rfl) (fun _ _ _ h => h) rfl ?_ hHeld ?_
    rotate_left
    · intro w hSw; (try dsimp only at hSw); go_simp <;> with_reducible rfl
    try simp only [Act.put, List.setIfInBounds_toArray, List.set_cons_zero, List.set_cons_succ]
    refine take_run 7 (v := ?_) rfl (by kernel_rfl) (by kernel_rfl) (by kernel_rfl) (fun _ _ _ h => h) rfl ?_ hHeld ?_
    rotate_left
    · intro w hSw; (try dsimp only at hSw); go_simp <;> with_reducible rfl
    try simp only [Act.put, List.setIfInBounds_toArray, List.set_cons_zero, List.set_cons_succ]
    refine take_run 8 (v := ?_) rfl (by kernel_rfl) (by kernel_rfl) (by kernel_rfl) (fun _ _ _ h => h) rfl ?_ hHeld ?_
    rotate_left
    · intro w hSw; (try dsimp only at hSw); go_simp <;> with_reducible rfl
    try simp only [Act.put, List.setIfInBounds_toArray, List.set_cons_zero, List.set_cons_succ]
    refine take_run 9 (v := ?_) rfl (by kernel_rfl) (by kernel_rfl) (by kernel_rfl) (fun _ _ _ h => h) rfl ?_ hHeld ?_
    rotate_left
    · intro w hSw; (try dsimp only at hSw); go_simp <;> with_reducible rfl
    try simp only [Act.put, List.setIfInBounds_toArray, List.set_cons_zero, List.set_cons_succ]
    refine take_run 10 (v := ?_) rfl (by kernel_rfl) (by kernel_rfl) (by kernel_rfl) (fun _ _ _ h => h) rfl ?_ hHeld ?_
    rotate_left
    · intro w hSw; (try dsimp only at hSw); go_simp <;> with_reducible rfl
    try simp only [Act.put, List.setIfInBounds_toArray, List.set_cons_zero, List.set_cons_succ]
    refine take_run 11 (v := ?_) rfl (by kernel_rfl) (by kernel_rfl) (by kernel_rfl) (fun _ _ _ h => h) rfl ?_ hHeld ?_
    rotate_left
    · intro w hSw; (try dsimp only at hSw); go_simp <;> with_reducible rfl
    try simp only [Act.put, List.setIfInBounds_toArray, List.set_cons_zero, List.set_cons_succ]
    refine take_run 12 (v := ?_) rfl (by kernel_rfl) (by kernel_rfl) (by kernel_rfl) (fun _ _ _ h => h) rfl ?_ hHeld ?_
    rotate_left
    · intro w hSw; (try dsimp only at hSw); go_simp <;> with_reducible rfl
    try simp only [Act.put, List.setIfInBounds_toArray, List.set_cons_zero, List.set_cons_succ]
    refine take_run 13 (v := ?_) rfl (by kernel_rfl) (by kernel_rfl) (by kernel_rfl) (fun _ _ _ h => h) rfl ?_ hHeld ?_
    rotate_left
    · intro w hSw; (try dsimp only at hSw); go_simp <;> with_reducible rfl
    try simp only [Act.put, List.setIfInBounds_toArray, List.set_cons_zero, List.set_cons_succ]
    refine take_run 14 (v := ?_) rfl (by kernel_rfl) (by kernel_rfl) (by kernel_rfl) (fun _ _ _ h => h) rfl ?_ hHeld ?_
    rotate_left
    · intro w hSw; (try dsimp only at hSw); go_simp <;> with_reducible rfl
    try simp only [Act.put, List.setIfInBounds_toArray, List.set_cons_zero, List.set_cons_succ]
    refine take_run 15 (v := ?_) rfl (by kernel_rfl) (by kernel_rfl) (by kernel_rfl) (fun _ _ _ h => h) rfl ?_ hHeld ?_
    rotate_left
    · intro w hSw; (try dsimp only at hSw); go_simp <;> with_reducible rfl
    try simp only [Act.put, List.setIfInBounds_toArray, List.set_cons_zero, List.set_cons_succ]
    refine take_run 16 (v := ?_) rfl (by kernel_rfl) (by kernel_rfl) (by kernel_rfl) (fun _ _ _ h => h) rfl ?_ hHeld ?_
    rotate_left
    · intro w hSw; (try dsimp only at hSw); go_simp <;> with_reducible rfl
    try simp only [Act.put, List.setIfInBounds_toArray, List.set_cons_zero, List.set_cons_succ]
    refine take_run 17 (v := ?_) rfl (by kernel_rfl) (by kernel_rfl) (by kernel_rfl) (fun _ _ _ h => h) rfl ?_ hHeld ?_
    rotate_left
    · intro w hSw; (try dsimp only at hSw); go_simp <;> with_reducible rfl
    try simp only [Act.put, List.setIfInBounds_toArray, List.set_cons_zero, List.set_cons_succ]
    refine take_run 18 (v := ?_) rfl (by kernel_rfl) (by kernel_rfl) (by kernel_rfl) (fun _ _ _ h => h) rfl ?_ hHeld ?_
    rotate_left
    · intro w hSw; (try dsimp only at hSw); go_simp <;> with_reducible rfl
    try simp only [Act.put, List.setIfInBounds_toArray, List.set_cons_zero, List.set_cons_succ]
    refine take_run 19 (v := ?_) rfl (by kernel_rfl) (by kernel_rfl) (by kernel_rfl) (fun _ _ _ h => h) rfl ?_ hHeld ?_
    rotate_left
    · intro w hSw; (try dsimp only at hSw); go_simp <;> with_reducible rfl
    try simp only [Act.put, List.setIfInBounds_toArray, List.set_cons_zero, List.set_cons_succ]
    refine take_run 20 (v := ?_) rfl (by kernel_rfl) (by kernel_rfl) (by kernel_rfl) (fun _ _ _ h => h) rfl ?_ hHeld ?_
    rotate_left
    · intro w hSw; (try dsimp only at hSw); go_simp <;> with_reducible rfl
    try simp only [Act.put, List.setIfInBounds_toArray, List.set_cons_zero, List.set_cons_succ]
    refine take_run 21 (v := ?_) rfl (by kernel_rfl) (by kernel_rfl) (by kernel_rfl) (fun _ _ _ h => h) rfl ?_ hHeld ?_
    rotate_left
    · intro w hSw; (try dsimp only at hSw); go_simp <;> with_reducible rfl
    try simp only [Act.put, List.setIfInBounds_toArray, List.set_cons_zero, List.set_cons_succ]
    refine take_run 22 (v := ?_) rfl (by kernel_rfl) (by kernel_rfl) (by kernel_rfl) (fun _ _ _ h => h) rfl ?_ hHeld ?_
    rotate_left
    · intro w hSw; (try dsimp only at hSw); go_simp <;> with_reducible rfl
    try simp only [Act.put, List.setIfInBounds_toArray, List.set_cons_zero, List.set_cons_succ]
    refine take_run 23 (v := ?_) rfl (by kernel_rfl) (by kernel_rfl) (by kernel_rfl) (fun _ _ _ h => h) rfl ?_ hHeld ?_
    rotate_left
    · intro w hSw; (try dsimp only at hSw); go_simp <;> with_reducible rfl
    try simp only [Act.put, List.setIfInBounds_toArray, List.set_cons_zero, List.set_cons_succ]
    refine take_run 24 (v := ?_) rfl (by kernel_rfl) (by kernel_rfl) (by kernel_rfl) (fun _ _ _ h => h) rfl ?_ hHeld ?_
    rotate_left
    · intro w hSw; (try dsimp only at hSw); go_simp <;> with_reducible rfl
    try simp only [Act.put, List.setIfInBounds_toArray, List.set_cons_zero, List.set_cons_succ]
    refine take_run 25 (v := ?_) rfl (by kernel_rfl) (by kernel_rfl) (by kernel_rfl) (fun _ _ _ h => h) rfl ?_ hHeld ?_
    rotate_left
    · intro w hSw; (try dsimp only at hSw); go_simp <;> with_reducible rfl
    try simp only [Act.put, List.setIfInBounds_toArray, List.set_cons_zero, List.set_cons_succ]
    refine take_call 26 rfl (by kernel_rfl) rfl (fun K hK => ?_)
    go_simp
    refine (lives_any _ (show Glob w4.drew from HG4.out)).mono ?_
    rintro er w5 ⟨rfl, hbx⟩
    have y5 : Below w4.heap.size w4 w5 := below_of_drew hbx
    clear hbx
    try dsimp only
    try clear hHeld
    refine hK.out _ _ ⟨keep_cl y5 ct0, keep_cl y5 ct2, keep_cl y5 cm, keep_cl y5 cl, conv8 (HR1.out.step y5), conv8 (HRX.out.step y5), conv8 (HR2.out.step y5), conv8 (HRY.out.step y5)⟩ (fun hHeld => ?_)
    clear hK K
    try simp only [Act.put, List.setIfInBounds_toArray, List.set_cons_zero, List.set_cons_succ]
    refine take_run 27 (v := ?_) rfl (by kernel_rfl) (by kernel_rfl) (by kernel_rfl) (fun _ _ _ h => h) rfl ?_ hHeld ?_
    rotate_left
    · intro w hSw; (try dsimp only at hSw); go_simp <;> with_reducible rfl
    try simp only [Act.put, List.setIfInBounds_toArray, List.set_cons_zero, List.set_cons_succ]
    refine take_run 28 (v := ?_) rfl (by kernel_rfl) (by kernel_rfl) (by kernel_rfl) (fun _ _ _ h => h) rfl ?_ hHeld ?_
    rotate_left
    · intro w hSw; (try dsimp only at hSw); go_simp <;> with_reducible rfl
    try simp only [Act.put, List.setIfInBounds_toArray, List.set_cons_zero, List.set_cons_succ]
    refine wpAnyH_done (by kernel_rfl) ?_ _
    try clear hHeld
    go_wp2
    go_ret
    exact ⟨ret_bool (by simp), B4.out.trans (y5.mono B4.out.size)⟩
  · have HALL := Lib.hid hall
    clear hall
    go_wp2_with (refine wpList_load_row rfl 30 (.tmp 3) rfl gt rfl 30 [va, vb, vc, vd, Value.slice none 0 0].toArray (0, 0) _ RTr.out Tryd.underlying30 rfl HIF2.out ?_)
    refine (collision_any la lc xa xc va vb vc vd _ wr (HG.out.step Br.out) HLA.out HLC.out DAr.out DCr.out).mono ?_
    intro er w4 hres
    obtain ⟨rfl, hb4⟩ := hres.none_ HALL.out
    have B4 := Lib.hid (Br.out.trans (hb4.mono Br.out.size))
    have HG4 := Lib.hid (HG.out.step B4.out)
    clear hres hb4 RTr Br DAr DCr
    go_wp2_with (fail)
    refine (lives_any w4 HG4.out).mono ?_
    rintro er w5 ⟨rfl, hb5⟩
    have B5 := Lib.hid (B4.out.trans (hb5.mono B4.out.size))
    clear hb5
    go_wp2
    go_ret
    exact ⟨rfl, B5.out⟩
end Go.Proofs.YtpobkoiaidgedaaDoor
