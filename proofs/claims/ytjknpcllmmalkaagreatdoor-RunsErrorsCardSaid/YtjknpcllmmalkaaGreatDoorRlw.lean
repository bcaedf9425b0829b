/- The law on errors of runs: walked over contracts. -/
import Derived.Test.YtjknpcllmmalkaaGreatDoorRer
import Derived.Test.YtjknpcllmmalkaaGreatDoorOsc
namespace Go.Proofs.YtjknpcllmmalkaaGreatDoor
open Go.RowKit

/-- what the walk wants of the closed parts -/
structure RerOk (SmAt : Nat → Nat → World → List Value → Prop) (OkW : World → Prop) : Prop where
  step : ∀ {w w' : World}, OkW w → Below w.heap.size w w' → OkW w'
  lives : ∀ w, OkW w → Calls Tryz.prog 4 #[] w fun e w' => e = .returned (.bool true) ∧ Below w.heap.size w w'
  same : ∀ w, OkW w → Calls Tryz.prog 9 #[.agg resC.toArray, .agg resC.toArray] w fun e w' => e = .returned (.int .i64 1) ∧ Below w.heap.size w w'
  small : ∀ w, OkW w → Calls Tryz.prog 12 #[.slice none 0 0] w fun e w' => ∃ cs : List Value, e = .returned (.agg cs.toArray) ∧ SmAt w.heap.size w'.heap.size w' cs ∧ Below w.heap.size w w'
  len : ∀ {B T w cs}, SmAt B T w cs → cs.length = 41
  tle : ∀ {B T w cs}, SmAt B T w cs → T ≤ w.heap.size
  below : ∀ {B T w w' cs}, SmAt B T w cs → Below w.heap.size w w' → SmAt B T w' cs
  begin_ : ∀ {B T w cs}, SmAt B T w cs → Calls Tryz.prog 17 #[.agg cs.toArray] w fun e w' => (∃ m n : Nat, e = .returned (.tuple #[.pointer (some ⟨m, 0, none⟩), .int .i64 0]) ∧
    (w'.cell? ⟨m, 0, none⟩ = some (.pointer (some ⟨n, 0, none⟩)) ∧ m < w'.heap.size) ∧ (w'.cell? ⟨n, 140, none⟩ = some (.int .i64 0) ∧ n < w'.heap.size)) ∧ Below (min B w.heap.size) w w' ∧ ∀ k, T ≤ k → k < w.heap.size → w'.heap[k]? = w.heap[k]?
section
variable {SmAt : Nat → Nat → World → List Value → Prop} {OkW : World → Prop}
set_option maxRecDepth 100000 in
set_option maxHeartbeats 2000000 in
theorem world_small (ok : RerOk SmAt OkW) {B T : Nat} {w : World} {cs : List Value} (hs : SmAt B T w cs) :
    Calls Tryz.prog 6 #[.agg cs.toArray] w fun e w' => (∃ n : Nat, e = .returned (.tuple #[.pointer (some ⟨n, 0, none⟩), .int .i64 0]) ∧ w'.cell? ⟨n, 140, none⟩ = some (.int .i64 0) ∧ n < w'.heap.size) ∧ Below (min B w.heap.size) w w' := by
  have hlen := ok.len hs
  have HI := Lib.hid (show (Tryz.prog.info? 30).map (·.size) = some cs.toArray.size by rw [List.size_toArray, hlen]; kernel_rfl)
  have b0 : Below w.heap.size w (w.alloc (.cells cs.toArray 30)) := (Below.refl _ _).alloc (Nat.le_refl _) _
  have r0 : (w.alloc (.cells cs.toArray 30)).heap[w.heap.size]? = some (.cells cs.toArray 30 (0, 0)) := heap_alloc_new _ _
  have hC := ok.begin_ (ok.below hs b0)
  clear hs hlen
  go_enter Tryz.func6, Tryz.ntmps6
  go_wp2_with (first | (refine wpList_load_row rfl 30 (.tmp 1) rfl w.heap.size rfl 30 cs.toArray (0, 0) _ r0 Tryz.underlying30 rfl HI.out ?_) | (go_at_call 17; refine hC.mono ?_; rintro e w2 ⟨⟨m, n, rfl, ⟨c1, hm⟩, c2, hn⟩, hb2, _⟩))
  go_ret2
  exact ⟨⟨n, rfl, c2, hn⟩, (b0.mono (Nat.min_le_right _ _)).trans (hb2.mono (by simp; omega))⟩
set_option maxRecDepth 100000 in
set_option maxHeartbeats 4000000 in
theorem complete_small (ok : RerOk SmAt OkW) {B T : Nat} {w : World} {cs : List Value} (hs : SmAt B T w cs) (fuel : Int) (hf : ¬ (0 ≤ fuel ∧ fuel ≤ 1048576)) :
    Calls Tryz.prog 8 #[.agg cs.toArray, .int .i64 fuel] w fun e w' => e = .returned (.tuple #[.agg resC.toArray, .int .i64 1]) ∧ Below (min B w.heap.size) w w' := by
  have hlen := ok.len hs
  have HI := Lib.hid (show (Tryz.prog.info? 30).map (·.size) = some cs.toArray.size by rw [List.size_toArray, hlen]; kernel_rfl)
  go_enter Tryz.func8, Tryz.ntmps8
  go_upto_region 1 with (fail)
  change Code.wp _ _ _ _ ((w.alloc (.cells cs.toArray 30)).alloc (.cells resC.toArray 51))
  obtain ⟨w1, hw1⟩ : ∃ w1, w1 = (w.alloc (.cells cs.toArray 30)).alloc (.cells resC.toArray 51) := ⟨_, rfl⟩
  rw [← hw1]
  have b1 : Below w.heap.size w w1 := by rw [hw1]; exact ((Below.refl _ _).alloc (Nat.le_refl _) _).alloc (by simp) _
  have r0 : w1.heap[w.heap.size]? = some (.cells cs.toArray 30 (0, 0)) := by rw [hw1]; exact (heap_alloc_old _ _ (by simp)).trans (heap_alloc_new _ _)
  have r1 : Row w1 (w.heap.size + 1) 51 resC := by
    have hsz : (w.alloc (.cells cs.toArray 30)).heap.size = w.heap.size + 1 := by simp
    rw [hw1, ← hsz]; exact heap_alloc_new _ _
  have hs1 : w.heap.size + 1 < w1.heap.size := by rw [hw1]; simp
  have hC := ok.begin_ (ok.below hs b1)
  have htl := ok.tle hs
  clear hw1 hs hlen
  go_upto_region 6 with (first | (refine wpList_load_row rfl 30 (.tmp 2) rfl w.heap.size rfl 30 cs.toArray (0, 0) _ r0 Tryz.underlying30 rfl HI.out ?_) | (go_at_call 17; refine hC.mono ?_; rintro e w2 ⟨⟨m, n, rfl, ⟨c1, hm⟩, c2, hn⟩, hb2, hkp⟩; have b2 : Below (min B w.heap.size) w w2 := (b1.mono (Nat.min_le_right _ _)).trans (hb2.mono (by omega)); have r2 : Row w2 (w.heap.size + 1) 51 resC := (hkp _ (by omega) hs1).trans r1; have hs2 := Nat.lt_of_lt_of_le hs1 hb2.size; clear r1) | (go_at_call 10; refine (finish_bad _ fuel hf _).mono ?_; rintro e w4 ⟨rfl, hb4⟩; have r4 : Row w4 (w.heap.size + 1) 51 resC := (hb4.block _ hs2).trans r2; have b4 := b2.trans (hb4.mono (Nat.le_trans (Nat.min_le_right _ _) b2.size)); clear r2))
  refine wp_region_lit ?_
  refine wpList_build_is rfl 51 #[] rfl resC.toArray (by rw [Array.map_empty]; exact resC_build) ?_
  go_wp2_with (refine Row.store (g := w.heap.size + 1) (t := 51) (L := resC) (M := resC) r4 rfl 51 (.tmp 4) (.tmp 30) rfl rfl rfl resC_info rfl resC_one ?_; rintro w5 hw5 r5; have b5 : Below (min B w.heap.size) w w5 := (by rw [hw5]; exact b4.grown (grown_setRow _ _ _) (Nat.le_trans (Nat.min_le_right _ _) b4.size) (fun k hk => by cases hk; omega)); clear hw5)
  exact bodyPost_ret (v := .tuple #[.agg resC.toArray, .int .i64 1]) (results_two Tryz.results8 _ _ (w.heap.size + 1) 51 resC.toArray (0, 0) _ rfl r5 Tryz.underlying51 rfl resC_inf2) rfl ⟨rfl, b5⟩
set_option maxRecDepth 100000 in
set_option maxHeartbeats 8000000 in
theorem law_rer {SmAt : Nat → Nat → World → List Value → Prop} {OkW : World → Prop} (ok : RerOk SmAt OkW) (s : ScrV) (fuel : Int) (w : World) (hO : OkW w) (hk : s.c.ms.length = 32) (hp : Progs w s.pA s.pn s.pl) (ha : Acts w s.aA s.an s.al) :
    Calls Tryz.prog 3 #[.agg s.cells.toArray, .int .i64 fuel] w fun e w' => e = .returned (.bool true) ∧ Below w.heap.size w w' := by
  have hlen := s.len hk
  have hcl := s.c.len hk
  have HI := Lib.hid (show (Tryz.prog.info? 30).map (·.size) = some s.cells.toArray.size by rw [List.size_toArray, hlen]; kernel_rfl)
  have HC := fun (W : World) (hb : Below w.heap.size w W) => sCheck_any s hk W (hp.step hb) (ha.step hb)
  have HW := fun (W : World) (hb : Below w.heap.size w W) (he : s.err ≠ 0) => world_bad s hk W (hp.step hb) (ha.step hb) he
  have HR := fun (W : World) (hb : Below w.heap.size w W) (he : s.err ≠ 0) => run_bad s hk W (hp.step hb) (ha.step hb) he
  have HM := fun (W : World) (hb : Below w.heap.size w W) (he : s.err ≠ 0) => complete_bad s hk fuel W (hp.step hb) (ha.step hb) he
  have HL := fun (W : World) (hb : Below w.heap.size w W) => ok.lives W (ok.step hO hb)
  have HZ := fun (W : World) (hb : Below w.heap.size w W) => ok.same W (ok.step hO hb)
  have HS := fun (W : World) (hb : Below w.heap.size w W) => ok.small W (ok.step hO hb)
  have HP := Lib.hid hp
  have HPL := Lib.hid hp.1.lenP
  have k39 : s.cells[39]? = some (.slice s.pA s.pn s.pc) := by rw [ScrV.cells, List.getElem?_append_right (by omega), hcl]; rfl
  have k40 : s.cells[40]? = some (.slice s.aA s.an s.ac) := by rw [ScrV.cells, List.getElem?_append_right (by omega), hcl]; rfl
  generalize hcs : s.cells = cs at HC HW HR HM HI k39 k40 ⊢
  generalize hE : s.err = E at HC HW HR HM
  clear hcs hE hk ha hlen hp hcl
  obtain ⟨g, hg⟩ : ∃ g, g = w.heap.size := ⟨_, rfl⟩
  obtain ⟨w1, hw1⟩ : ∃ w1, w1 = w.alloc (.cells cs.toArray 30) := ⟨_, rfl⟩
  have b1 : Below w.heap.size w w1 := by rw [hw1]; exact (Below.refl _ _).alloc (Nat.le_refl _) _
  have r1 : w1.heap[g]? = some (.cells cs.toArray 30 (0, 0)) := by rw [hw1, hg]; exact heap_alloc_new _ _
  have hgl : g < w1.heap.size := (Array.getElem?_eq_some_iff.1 r1).1
  have d39 : w1.cell? ⟨g, 39, none⟩ = some (.slice s.pA s.pn s.pc) := Row.cell r1 k39
  have d40 : w1.cell? ⟨g, 40, none⟩ = some (.slice s.aA s.an s.ac) := Row.cell r1 k40
  go_enter Tryz.func3, Tryz.ntmps3
  go_upto_region 1 with (fail)
  rw [← hw1, ← hg]
  have HGL := Lib.hid hgl
  clear hw1 hg hgl
  by_cases h1 : (s.pn : Int) > 10
  · have hd : decide ((s.pn : Int) > 10) = true := by simpa using h1
    go_wp2_with (go_at_call 4; refine (HL _ b1).mono ?_; rintro e wl ⟨rfl, hbl⟩)
    go_ret
    exact ⟨rfl, b1.trans (hbl.mono b1.size)⟩
  have hd1 : decide ((s.pn : Int) > 10) = false := by simpa using h1
  by_cases h2 : (s.an : Int) > 150
  · have hd : decide ((s.an : Int) > 150) = true := by simpa using h2
    go_wp2_with (go_at_call 4; refine (HL _ b1).mono ?_; rintro e wl ⟨rfl, hbl⟩)
    go_ret
    exact ⟨rfl, b1.trans (hbl.mono b1.size)⟩
  have hd2 : decide ((s.an : Int) > 150) = false := by simpa using h2
  have HN := Lib.hid h1
  clear h1 h2
  go_wp2
  go_loopw [5] (fun i wr => ∃ k : Nat, k ≤ s.pn ∧ i = .int .i64 k ∧ Hid (wr = w1)) (fun i _ => s.pn - (intOf i).toNat)
  case atStart => exact ⟨0, Nat.zero_le _, rfl, rfl⟩
  case round =>
    obtain ⟨k, hk, rfl, hWR⟩ := hrel
    have hwr := hWR.out
    rw [hwr]
    clear hWR hwr
    by_cases hlt : k < s.pn
    · have hk2 : k < s.pl.length := by have := HPL.out; omega
      obtain ⟨ad, hA, had, c0⟩ := (HP.out.step b1).1.atP hk2
      rw [hA] at d39
      by_cases h3 : (s.pl[k].n : Int) > 10
      · have hd3 : decide ((s.pl[k].n : Int) > 10) = true := by simpa using h3
        go_wp2_with (go_at_call 4; refine (HL _ b1).mono ?_; rintro e wl ⟨rfl, hbl⟩)
        go_ret
        exact ⟨rfl, b1.trans (hbl.mono b1.size)⟩
      · have hd3 : decide ((s.pl[k].n : Int) > 10) = false := by simpa using h3
        have hwk : wrap64 ((k : Int) + 1) = ((k + 1 : Nat) : Int) := by
          have := HN.out
          unfold wrap64; omega
        go_wp2
        go_roundw
        case rel => exact ⟨k + 1, Nat.succ_le_of_lt hlt, by rw [hwk], by first | rfl | (unfold Hid; trivial)⟩
        case measure => rw [hwk]; exact meas_step _ _ hlt
    · go_upto_region 9 with (first | (refine wpList_load_row rfl 30 (.tmp 2) rfl g rfl 30 cs.toArray (0, 0) _ r1 Tryz.underlying30 rfl HI.out ?_) | (go_at_call 5; refine (HC _ b1).mono ?_; rintro e w2 ⟨rfl, hb2⟩))
      have b2 : Below w.heap.size w w2 := b1.trans (hb2.mono b1.size)
      have r2 : w2.heap[g]? = some (.cells cs.toArray 30 (0, 0)) := (hb2.block _ HGL.out).trans r1
      clear hb2 d39 d40 r1 b1
      by_cases he : E = 0
      · subst he
        go_upto_region 19 with (first | (go_at_call 10; refine (finish_nil fuel _).mono ?_; rintro e wf ⟨rfl, hbf⟩; have bf := b2.trans (hbf.mono b2.size)) | (go_at_call 11; refine (of_nil fuel _).mono ?_; rintro e wo ⟨rfl, hbo⟩; have bo := bf.trans (hbo.mono bf.size)) | (refine Row.store (g := wo.heap.size) (t := 51) (L := resC) (M := resC) (heap_alloc_new _ _) rfl 51 (.tmp 15) (.tmp 103) rfl rfl rfl resC_info rfl resC_one ?_; rintro w15 hw15 r15; have b15 : Below w.heap.size w w15 := (by rw [hw15]; exact (bo.alloc bo.size _).grown (grown_setRow _ _ _) (bo.alloc bo.size _).size (fun k hk => by cases hk; exact bo.size)); clear hw15) | (refine wpList_wantR rfl (exec_loadR 51 (.tmp 15) rfl _ rfl 51 resC.toArray (0, 0) _ r15 Tryz.underlying51 rfl resC_inf2) ?_) | (go_at_call 9; refine (HZ _ b15).mono ?_; rintro e ws ⟨rfl, hbs⟩; have bs := b15.trans (hbs.mono b15.size)))
        by_cases hfu : 0 ≤ fuel ∧ fuel ≤ 1048576
        · have hd5 : decide (fuel ≥ 0) = true := by simp; omega
          have hd6 : decide (fuel ≤ 1048576) = true := by simp; omega
          clear hfu
          go_wp2_with (go_at_call 4; refine (HL _ bs).mono ?_; rintro e wl ⟨rfl, hbl⟩)
          go_ret
          exact ⟨rfl, bs.trans (hbl.mono bs.size)⟩
        · by_cases h5 : fuel ≥ 0
          · have hd5 : decide (fuel ≥ 0) = true := by simpa using h5
            have hd6 : decide (fuel ≤ 1048576) = false := by simp; omega
            clear h5
            go_upto_region 24 with (first | (go_at_call 12; refine (HS _ bs).mono ?_; rintro e wa ⟨cs2, rfl, hsm, hba⟩; have ba := bs.trans (hba.mono bs.size)) | (go_at_call 6; refine (world_small ok hsm).mono ?_; rintro e wb ⟨⟨n, rfl, c2, hn⟩, hbb⟩; have bb := ba.trans (hbb.mono (Nat.le_min.2 ⟨bs.size, ba.size⟩))) | (go_at_call 10; refine (finish_bad _ fuel hfu _).mono ?_; rintro e wc ⟨rfl, hbc⟩; have bc := bb.trans (hbc.mono bb.size); have hnc := Nat.lt_of_lt_of_le hn hbc.size) | (go_at_call 12; refine (HS _ bc).mono ?_; rintro e wd ⟨cs3, rfl, hsm3, hbd⟩; have bd := bc.trans (hbd.mono bc.size); have hnd := Nat.lt_of_lt_of_le hnc hbd.size) | (go_at_call 8; refine (complete_small ok hsm3 fuel hfu).mono ?_; rintro e we ⟨rfl, hbe⟩; have be := bd.trans (hbe.mono (Nat.le_min.2 ⟨bc.size, bd.size⟩))) | (refine Row.store (g := we.heap.size) (t := 51) (L := resC) (M := resC) (heap_alloc_new _ _) rfl 51 (.tmp 20) (.tmp 144) rfl rfl rfl resC_info rfl resC_one ?_; rintro w20 hw20 r20; have b20 : Below w.heap.size w w20 := (by rw [hw20]; exact (be.alloc be.size _).grown (grown_setRow _ _ _) (be.alloc be.size _).size (fun k hk => by cases hk; exact be.size)); have n20 : Below we.heap.size we w20 := (by rw [hw20]; exact ((Below.refl _ _).alloc (Nat.le_refl _) _).grown (grown_setRow _ _ _) (by simp) (fun k hk => by cases hk; exact Nat.le_refl _)); have c140 : w20.cell? ⟨n, 140, none⟩ = some (.int .i64 0) := (n20.cell (p := ⟨n, 140, none⟩) (Nat.lt_of_lt_of_le hnd hbe.size)).trans ((hbe.cell (p := ⟨n, 140, none⟩) (Nat.lt_min.2 ⟨hnc, hnd⟩)).trans ((hbd.cell (p := ⟨n, 140, none⟩) hnc).trans ((hbc.cell (p := ⟨n, 140, none⟩) hn).trans c2))); clear hw20))
            go_wp2_with (first | (refine wpList_wantR rfl (exec_loadR 51 (.tmp 20) rfl _ rfl 51 resC.toArray (0, 0) _ r20 Tryz.underlying51 rfl resC_inf2) ?_) | (go_at_call 9; refine (HZ _ b20).mono ?_; rintro e wz ⟨rfl, hbz⟩; have bz := b20.trans (hbz.mono b20.size)) | (go_at_call 4; refine (HL _ bz).mono ?_; rintro e wl ⟨rfl, hbl⟩))
            go_ret
            exact ⟨rfl, bz.trans (hbl.mono bz.size)⟩
          · have hd5 : decide (fuel ≥ 0) = false := by simpa using h5
            clear h5
            go_upto_region 24 with (first | (go_at_call 12; refine (HS _ bs).mono ?_; rintro e wa ⟨cs2, rfl, hsm, hba⟩; have ba := bs.trans (hba.mono bs.size)) | (go_at_call 6; refine (world_small ok hsm).mono ?_; rintro e wb ⟨⟨n, rfl, c2, hn⟩, hbb⟩; have bb := ba.trans (hbb.mono (Nat.le_min.2 ⟨bs.size, ba.size⟩))) | (go_at_call 10; refine (finish_bad _ fuel hfu _).mono ?_; rintro e wc ⟨rfl, hbc⟩; have bc := bb.trans (hbc.mono bb.size); have hnc := Nat.lt_of_lt_of_le hn hbc.size) | (go_at_call 12; refine (HS _ bc).mono ?_; rintro e wd ⟨cs3, rfl, hsm3, hbd⟩; have bd := bc.trans (hbd.mono bc.size); have hnd := Nat.lt_of_lt_of_le hnc hbd.size) | (go_at_call 8; refine (complete_small ok hsm3 fuel hfu).mono ?_; rintro e we ⟨rfl, hbe⟩; have be := bd.trans (hbe.mono (Nat.le_min.2 ⟨bc.size, bd.size⟩))) | (refine Row.store (g := we.heap.size) (t := 51) (L := resC) (M := resC) (heap_alloc_new _ _) rfl 51 (.tmp 20) (.tmp 144) rfl rfl rfl resC_info rfl resC_one ?_; rintro w20 hw20 r20; have b20 : Below w.heap.size w w20 := (by rw [hw20]; exact (be.alloc be.size _).grown (grown_setRow _ _ _) (be.alloc be.size _).size (fun k hk => by cases hk; exact be.size)); have n20 : Below we.heap.size we w20 := (by rw [hw20]; exact ((Below.refl _ _).alloc (Nat.le_refl _) _).grown (grown_setRow _ _ _) (by simp) (fun k hk => by cases hk; exact Nat.le_refl _)); have c140 : w20.cell? ⟨n, 140, none⟩ = some (.int .i64 0) := (n20.cell (p := ⟨n, 140, none⟩) (Nat.lt_of_lt_of_le hnd hbe.size)).trans ((hbe.cell (p := ⟨n, 140, none⟩) (Nat.lt_min.2 ⟨hnc, hnd⟩)).trans ((hbd.cell (p := ⟨n, 140, none⟩) hnc).trans ((hbc.cell (p := ⟨n, 140, none⟩) hn).trans c2))); clear hw20))
            go_wp2_with (first | (refine wpList_wantR rfl (exec_loadR 51 (.tmp 20) rfl _ rfl 51 resC.toArray (0, 0) _ r20 Tryz.underlying51 rfl resC_inf2) ?_) | (go_at_call 9; refine (HZ _ b20).mono ?_; rintro e wz ⟨rfl, hbz⟩; have bz := b20.trans (hbz.mono b20.size)) | (go_at_call 4; refine (HL _ bz).mono ?_; rintro e wl ⟨rfl, hbl⟩))
            go_ret
            exact ⟨rfl, bz.trans (hbl.mono bz.size)⟩
      · have hd4 : decide (E = 0) = false := by simpa using he
        go_upto_region 13 with (first | (refine wpList_load_row rfl 30 (.tmp 2) rfl g rfl 30 cs.toArray (0, 0) _ r2 Tryz.underlying30 rfl HI.out ?_) | (go_at_call 6; refine (HW _ b2 he).mono ?_; rintro e w3 ⟨rfl, hb3⟩; have b3 := b2.trans (hb3.mono b2.size); have r3 := (hb3.block _ (Array.getElem?_eq_some_iff.1 r2).1).trans r2) | (refine wpList_load_row rfl 30 (.tmp 2) rfl g rfl 30 cs.toArray (0, 0) _ r3 Tryz.underlying30 rfl HI.out ?_) | (go_at_call 7; refine (HR _ b3 he).mono ?_; rintro e w4 ⟨rfl, hb4⟩; have b4 := b3.trans (hb4.mono b3.size); have r4 := (hb4.block _ (Array.getElem?_eq_some_iff.1 r3).1).trans r3) | (refine Row.store (g := w4.heap.size) (t := 51) (L := resC) (M := resC) (heap_alloc_new _ _) rfl 51 (.tmp 9) (.tmp 60) rfl rfl rfl resC_info rfl resC_one ?_; rintro w9 hw9 r9; have b9 : Below w.heap.size w w9 := (by rw [hw9]; exact (b4.alloc b4.size _).grown (grown_setRow _ _ _) (b4.alloc b4.size _).size (fun k hk => by cases hk; exact b4.size)); have n9 : Below w4.heap.size w4 w9 := (by rw [hw9]; exact ((Below.refl _ _).alloc (Nat.le_refl _) _).grown (grown_setRow _ _ _) (by simp) (fun k hk => by cases hk; exact Nat.le_refl _)); have r5 : w9.heap[g]? = some (.cells cs.toArray 30 (0, 0)) := (n9.block _ (Array.getElem?_eq_some_iff.1 r4).1).trans r4; clear hw9) | (refine wpList_load_row rfl 30 (.tmp 2) rfl g rfl 30 cs.toArray (0, 0) _ r5 Tryz.underlying30 rfl HI.out ?_) | (go_at_call 8; refine (HM _ b9 he).mono ?_; rintro e w6 ⟨rfl, hb6⟩; have b6 := b9.trans (hb6.mono b9.size); have r6 := (hb6.block _ (Array.getElem?_eq_some_iff.1 r5).1).trans r5; have q9 : Row w6 w4.heap.size 51 resC := (hb6.block _ (Array.getElem?_eq_some_iff.1 r9).1).trans r9) | (refine Row.store (g := w6.heap.size) (t := 51) (L := resC) (M := resC) (heap_alloc_new _ _) rfl 51 (.tmp 11) (.tmp 66) rfl rfl rfl resC_info rfl resC_one ?_; rintro w11 hw11 r11; have b11 : Below w.heap.size w w11 := (by rw [hw11]; exact (b6.alloc b6.size _).grown (grown_setRow _ _ _) (b6.alloc b6.size _).size (fun k hk => by cases hk; exact b6.size)); have n11 : Below w6.heap.size w6 w11 := (by rw [hw11]; exact ((Below.refl _ _).alloc (Nat.le_refl _) _).grown (grown_setRow _ _ _) (by simp) (fun k hk => by cases hk; exact Nat.le_refl _)); have r7 : w11.heap[g]? = some (.cells cs.toArray 30 (0, 0)) := (n11.block _ (Array.getElem?_eq_some_iff.1 r6).1).trans r6; clear hw11))
        have p9 : Row w11 w4.heap.size 51 resC := (n11.block _ (Array.getElem?_eq_some_iff.1 q9).1).trans q9
        obtain ⟨g9, hg9⟩ : ∃ x, x = w4.heap.size := ⟨_, rfl⟩
        obtain ⟨g11, hg11⟩ : ∃ x, x = w6.heap.size := ⟨_, rfl⟩
        rw [← hg9] at p9 ⊢
        rw [← hg11] at r11 ⊢
        clear hg9 hg11 n11 n9 q9 r9 hb3 hb4 hb6 r2 r3 r4 r5 r6 b2 b3 b4 b6 b9
        refine wp_region_held_drew (S := (fun W => Row W g9 51 resC ∧ Row W g11 51 resC)) (by kernel_rfl) ⟨p9, r11⟩ (fun hHeld => ?_)
        refine take_run 0 (v := ?_) rfl (by kernel_rfl) (by kernel_rfl) (by kernel_rfl) (fun _ _ _ h => h) rfl ?_ hHeld ?_
        rotate_left
        · intro w hSw; (try dsimp only at hSw); go_simp <;> with_reducible rfl
        try simp only [Act.put, List.setIfInBounds_toArray, List.set_cons_zero, List.set_cons_succ]
        refine take_run 1 (v := ?_) rfl (by kernel_rfl) (by kernel_rfl) (by kernel_rfl) (fun _ _ _ h => h) rfl ?_ hHeld ?_
        rotate_left
        · intro w hSw; (try dsimp only at hSw); go_simp <;> with_reducible rfl
        try simp only [Act.put, List.setIfInBounds_toArray, List.set_cons_zero, List.set_cons_succ]
        refine take_run 2 (v := ?_) rfl (by kernel_rfl) (by kernel_rfl) (by kernel_rfl) (fun _ _ _ h => h) rfl ?_ hHeld ?_
        rotate_left
        · intro w hSw; (try dsimp only at hSw); go_simp <;> with_reducible rfl
        try simp only [Act.put, List.setIfInBounds_toArray, List.set_cons_zero, List.set_cons_succ]
        refine take_run 3 (v := ?_) rfl (by kernel_rfl) (by kernel_rfl) (by kernel_rfl) (fun _ _ _ h => h) rfl ?_ hHeld ?_
        rotate_left
        · intro w hSw; (try dsimp only at hSw); go_simp <;> with_reducible rfl
        try simp only [Act.put, List.setIfInBounds_toArray, List.set_cons_zero, List.set_cons_succ]
        refine take_run 4 (v := ?_) rfl (by kernel_rfl) (by kernel_rfl) (by kernel_rfl) (fun _ _ _ h => h) rfl ?_ hHeld ?_
        rotate_left
        · intro w hSw; (try dsimp only at hSw); go_simp <;> with_reducible rfl
        try simp only [Act.put, List.setIfInBounds_toArray, List.set_cons_zero, List.set_cons_succ]
        refine take_run 5 (v := ?_) rfl (by kernel_rfl) (by kernel_rfl) (by kernel_rfl) (fun _ _ _ h => h) rfl ?_ hHeld ?_
        rotate_left
        · intro w hSw; (try dsimp only at hSw); go_simp <;> with_reducible rfl
        try simp only [Act.put, List.setIfInBounds_toArray, List.set_cons_zero, List.set_cons_succ]
        refine take_run 6 (v := ?_) rfl (by kernel_rfl) (by kernel_rfl) (by kernel_rfl) (fun _ _ _ h => h) rfl ?_ hHeld ?_
        rotate_left
        · intro w hSw; (try dsimp only at hSw); go_simp <;> with_reducible rfl
        try simp only [Act.put, List.setIfInBounds_toArray, List.set_cons_zero, List.set_cons_succ]
        refine take_run 7 (v := ?_) rfl (by kernel_rfl) (by kernel_rfl) (by kernel_rfl) (fun _ _ _ h => h) rfl ?_ hHeld ?_
        rotate_left
        · intro w hSw; (try dsimp only at hSw); go_simp <;> with_reducible rfl
        try simp only [Act.put, List.setIfInBounds_toArray, List.set_cons_zero, List.set_cons_succ]
        refine take_run 8 (v := ?_) rfl (by kernel_rfl) (by kernel_rfl) (by kernel_rfl) (fun _ _ _ h => h) rfl ?_ hHeld ?_
        rotate_left
        · intro w hSw; (try dsimp only at hSw); go_simp <;> with_reducible rfl
        try simp only [Act.put, List.setIfInBounds_toArray, List.set_cons_zero, List.set_cons_succ]
        refine take_run 9 (v := ?_) rfl (by kernel_rfl) (by kernel_rfl) (by kernel_rfl) (fun _ _ _ h => h) rfl ?_ hHeld ?_
        rotate_left
        · intro w hSw; (try dsimp only at hSw); go_simp <;> with_reducible rfl
        try simp only [Act.put, List.setIfInBounds_toArray, List.set_cons_zero, List.set_cons_succ]
        refine take_run 10 (v := ?_) rfl (by kernel_rfl) (by kernel_rfl) (by kernel_rfl) (fun _ _ _ h => h) rfl ?_ hHeld ?_
        rotate_left
        · intro w hSw; (try dsimp only at hSw); go_simp <;> with_reducible rfl
        try simp only [Act.put, List.setIfInBounds_toArray, List.set_cons_zero, List.set_cons_succ]
        refine take_run 11 (v := ?_) rfl (by kernel_rfl) (by kernel_rfl) (by kernel_rfl) (fun _ _ _ h => h) rfl ?_ hHeld ?_
        rotate_left
        · intro w hSw; (try dsimp only at hSw); go_simp <;> with_reducible rfl
        try simp only [Act.put, List.setIfInBounds_toArray, List.set_cons_zero, List.set_cons_succ]
        refine take_run 12 (v := ?_) rfl (by kernel_rfl) (by kernel_rfl) (by kernel_rfl) (fun _ _ _ h => h) rfl ?_ hHeld ?_
        rotate_left
        · intro w hSw; (try dsimp only at hSw); go_simp <;> with_reducible rfl
        try simp only [Act.put, List.setIfInBounds_toArray, List.set_cons_zero, List.set_cons_succ]
        refine take_run 13 (v := ?_) rfl (by kernel_rfl) (by kernel_rfl) (by kernel_rfl) (fun _ _ _ h => h) rfl ?_ hHeld ?_
        rotate_left
        · intro w hSw; (try dsimp only at hSw); go_simp <;> with_reducible rfl
        try simp only [Act.put, List.setIfInBounds_toArray, List.set_cons_zero, List.set_cons_succ]
        refine take_run 14 (v := ?_) rfl (by kernel_rfl) (by kernel_rfl) (by kernel_rfl) (fun _ _ _ h => h) rfl ?_ hHeld ?_
        rotate_left
        · intro w hSw; (try dsimp only at hSw); go_simp <;> with_reducible rfl
        try simp only [Act.put, List.setIfInBounds_toArray, List.set_cons_zero, List.set_cons_succ]
        refine take_run 15 (v := ?_) rfl (by kernel_rfl) (by kernel_rfl) (by kernel_rfl) (fun _ _ _ h => h) rfl ?_ hHeld ?_
        rotate_left
        · intro w hSw; (try dsimp only at hSw); go_simp <;> with_reducible rfl
        try simp only [Act.put, List.setIfInBounds_toArray, List.set_cons_zero, List.set_cons_succ]
        refine take_run 16 (v := ?_) rfl (by kernel_rfl) (by kernel_rfl) (by kernel_rfl) (fun _ _ _ h => h) rfl ?_ hHeld ?_
        rotate_left
        · intro w hSw; (try dsimp only at hSw); go_simp <;> with_reducible rfl
        try simp only [Act.put, List.setIfInBounds_toArray, List.set_cons_zero, List.set_cons_succ]
        refine take_run 17 (v := ?_) rfl (by kernel_rfl) (by kernel_rfl) (by kernel_rfl) (fun _ _ _ h => h) rfl ?_ hHeld ?_
        rotate_left
        · intro w hSw; (try dsimp only at hSw); go_simp <;> with_reducible rfl
        try simp only [Act.put, List.setIfInBounds_toArray, List.set_cons_zero, List.set_cons_succ]
        refine take_run 18 (v := (.agg resC.toArray)) rfl (by kernel_rfl) (by kernel_rfl) (by kernel_rfl) (fun _ _ _ h => h) rfl ?_ hHeld ?_
        · intro w hSw; (try dsimp only at hSw); exact exec_loadR 51 (.tmp 9) rfl g9 rfl 51 resC.toArray (0, 0) _ hSw.1 Tryz.underlying51 rfl resC_inf2
        try simp only [Act.put, List.setIfInBounds_toArray, List.set_cons_zero, List.set_cons_succ]
        refine take_run 19 (v := ?_) rfl (by kernel_rfl) (by kernel_rfl) (by kernel_rfl) (fun _ _ _ h => h) rfl ?_ hHeld ?_
        rotate_left
        · intro w hSw; (try dsimp only at hSw); go_simp <;> with_reducible rfl
        try simp only [Act.put, List.setIfInBounds_toArray, List.set_cons_zero, List.set_cons_succ]
        refine take_run 21 (v := (.agg resC.toArray)) rfl (by kernel_rfl) (by kernel_rfl) (by kernel_rfl) (fun _ _ _ h => h) rfl ?_ hHeld ?_
        · intro w hSw; (try dsimp only at hSw); exact exec_loadR 51 (.tmp 11) rfl g11 rfl 51 resC.toArray (0, 0) _ hSw.2 Tryz.underlying51 rfl resC_inf2
        try simp only [Act.put, List.setIfInBounds_toArray, List.set_cons_zero, List.set_cons_succ]
        refine take_run 22 (v := ?_) rfl (by kernel_rfl) (by kernel_rfl) (by kernel_rfl) (fun _ _ _ h => h) rfl ?_ hHeld ?_
        rotate_left
        · intro w hSw; (try dsimp only at hSw); go_simp <;> with_reducible rfl
        try simp only [Act.put, List.setIfInBounds_toArray, List.set_cons_zero, List.set_cons_succ]
        refine take_call 20 rfl (by kernel_rfl) rfl (fun K hK => ?_)
        go_simp
        refine (HZ w11.drew ⟨b11.os, b11.tape, b11.output, b11.size, b11.block⟩).mono ?_
        rintro e w20 ⟨rfl, hbx⟩
        have yw20 : Below w11.heap.size w11 w20 := below_of_drew hbx
        have bw20 := b11.trans (yw20.mono b11.size)
        clear hbx
        try dsimp only
        try clear hHeld
        refine hK.out _ _ ⟨(yw20.block _ (Array.getElem?_eq_some_iff.1 p9).1).trans p9, (yw20.block _ (Array.getElem?_eq_some_iff.1 r11).1).trans r11⟩ (fun hHeld => ?_)
        clear hK K
        try simp only [Act.put, List.setIfInBounds_toArray, List.set_cons_zero, List.set_cons_succ]
        refine take_call 23 rfl (by kernel_rfl) rfl (fun K hK => ?_)
        go_simp
        refine (HZ w20 ⟨bw20.os, bw20.tape, bw20.output, bw20.size, bw20.block⟩).mono ?_
        rintro e w23 ⟨rfl, hbx⟩
        have yw23 : Below w20.heap.size w20 w23 := hbx
        have bw23 := bw20.trans (yw23.mono bw20.size)
        clear hbx
        try dsimp only
        try clear hHeld
        refine hK.out _ _ ⟨(yw23.block _ (Nat.lt_of_lt_of_le (Array.getElem?_eq_some_iff.1 p9).1 yw20.size)).trans ((yw20.block _ (Array.getElem?_eq_some_iff.1 p9).1).trans p9), (yw23.block _ (Nat.lt_of_lt_of_le (Array.getElem?_eq_some_iff.1 r11).1 yw20.size)).trans ((yw20.block _ (Array.getElem?_eq_some_iff.1 r11).1).trans r11)⟩ (fun hHeld => ?_)
        clear hK K
        try simp only [Act.put, List.setIfInBounds_toArray, List.set_cons_zero, List.set_cons_succ]
        refine take_run 24 (v := ?_) rfl (by kernel_rfl) (by kernel_rfl) (by kernel_rfl) (fun _ _ _ h => h) rfl ?_ hHeld ?_
        rotate_left
        · intro w hSw; (try dsimp only at hSw); go_simp <;> with_reducible rfl
        try simp only [Act.put, List.setIfInBounds_toArray, List.set_cons_zero, List.set_cons_succ]
        refine take_run 25 (v := ?_) rfl (by kernel_rfl) (by kernel_rfl) (by kernel_rfl) (fun _ _ _ h => h) rfl ?_ hHeld ?_
        rotate_left
        · intro w hSw; (try dsimp only at hSw); go_simp <;> with_reducible rfl
        try simp only [Act.put, List.setIfInBounds_toArray, List.set_cons_zero, List.set_cons_succ]
        refine take_run 26 (v := ?_) rfl (by kernel_rfl) (by kernel_rfl) (by kernel_rfl) (fun _ _ _ h => h) rfl ?_ hHeld ?_
        rotate_left
        · intro w hSw; (try dsimp only at hSw); go_simp <;> with_reducible rfl
        try simp only [Act.put, List.setIfInBounds_toArray, List.set_cons_zero, List.set_cons_succ]
        refine wpAnyH_done (by kernel_rfl) ?_ _
        try clear hHeld
        go_upto_region 19 with (first | (go_at_call 10; refine (finish_nil fuel _).mono ?_; rintro e wf ⟨rfl, hbf⟩; have bf := bw23.trans (hbf.mono bw23.size)) | (go_at_call 11; refine (of_nil fuel _).mono ?_; rintro e wo ⟨rfl, hbo⟩; have bo := bf.trans (hbo.mono bf.size)) | (refine Row.store (g := wo.heap.size) (t := 51) (L := resC) (M := resC) (heap_alloc_new _ _) rfl 51 (.tmp 15) (.tmp 103) rfl rfl rfl resC_info rfl resC_one ?_; rintro w15 hw15 r15; have b15 : Below w.heap.size w w15 := (by rw [hw15]; exact (bo.alloc bo.size _).grown (grown_setRow _ _ _) (bo.alloc bo.size _).size (fun k hk => by cases hk; exact bo.size)); clear hw15) | (refine wpList_wantR rfl (exec_loadR 51 (.tmp 15) rfl _ rfl 51 resC.toArray (0, 0) _ r15 Tryz.underlying51 rfl resC_inf2) ?_) | (go_at_call 9; refine (HZ _ b15).mono ?_; rintro e ws ⟨rfl, hbs⟩; have bs := b15.trans (hbs.mono b15.size)))
        by_cases hfu : 0 ≤ fuel ∧ fuel ≤ 1048576
        · have hd5 : decide (fuel ≥ 0) = true := by simp; omega
          have hd6 : decide (fuel ≤ 1048576) = true := by simp; omega
          clear hfu
          go_wp2_with (go_at_call 4; refine (HL _ bs).mono ?_; rintro e wl ⟨rfl, hbl⟩)
          go_ret
          exact ⟨rfl, bs.trans (hbl.mono bs.size)⟩
        · by_cases h5 : fuel ≥ 0
          · have hd5 : decide (fuel ≥ 0) = true := by simpa using h5
            have hd6 : decide (fuel ≤ 1048576) = false := by simp; omega
            clear h5
            go_upto_region 24 with (first | (go_at_call 12; refine (HS _ bs).mono ?_; rintro e wa ⟨cs2, rfl, hsm, hba⟩; have ba := bs.trans (hba.mono bs.size)) | (go_at_call 6; refine (world_small ok hsm).mono ?_; rintro e wb ⟨⟨n, rfl, c2, hn⟩, hbb⟩; have bb := ba.trans (hbb.mono (Nat.le_min.2 ⟨bs.size, ba.size⟩))) | (go_at_call 10; refine (finish_bad _ fuel hfu _).mono ?_; rintro e wc ⟨rfl, hbc⟩; have bc := bb.trans (hbc.mono bb.size); have hnc := Nat.lt_of_lt_of_le hn hbc.size) | (go_at_call 12; refine (HS _ bc).mono ?_; rintro e wd ⟨cs3, rfl, hsm3, hbd⟩; have bd := bc.trans (hbd.mono bc.size); have hnd := Nat.lt_of_lt_of_le hnc hbd.size) | (go_at_call 8; refine (complete_small ok hsm3 fuel hfu).mono ?_; rintro e we ⟨rfl, hbe⟩; have be := bd.trans (hbe.mono (Nat.le_min.2 ⟨bc.size, bd.size⟩))) | (refine Row.store (g := we.heap.size) (t := 51) (L := resC) (M := resC) (heap_alloc_new _ _) rfl 51 (.tmp 20) (.tmp 144) rfl rfl rfl resC_info rfl resC_one ?_; rintro w20 hw20 r20; have b20 : Below w.heap.size w w20 := (by rw [hw20]; exact (be.alloc be.size _).grown (grown_setRow _ _ _) (be.alloc be.size _).size (fun k hk => by cases hk; exact be.size)); have n20 : Below we.heap.size we w20 := (by rw [hw20]; exact ((Below.refl _ _).alloc (Nat.le_refl _) _).grown (grown_setRow _ _ _) (by simp) (fun k hk => by cases hk; exact Nat.le_refl _)); have c140 : w20.cell? ⟨n, 140, none⟩ = some (.int .i64 0) := (n20.cell (p := ⟨n, 140, none⟩) (Nat.lt_of_lt_of_le hnd hbe.size)).trans ((hbe.cell (p := ⟨n, 140, none⟩) (Nat.lt_min.2 ⟨hnc, hnd⟩)).trans ((hbd.cell (p := ⟨n, 140, none⟩) hnc).trans ((hbc.cell (p := ⟨n, 140, none⟩) hn).trans c2))); clear hw20))
            go_wp2_with (first | (refine wpList_wantR rfl (exec_loadR 51 (.tmp 20) rfl _ rfl 51 resC.toArray (0, 0) _ r20 Tryz.underlying51 rfl resC_inf2) ?_) | (go_at_call 9; refine (HZ _ b20).mono ?_; rintro e wz ⟨rfl, hbz⟩; have bz := b20.trans (hbz.mono b20.size)) | (go_at_call 4; refine (HL _ bz).mono ?_; rintro e wl ⟨rfl, hbl⟩))
            go_ret
            exact ⟨rfl, bz.trans (hbl.mono bz.size)⟩
          · have hd5 : decide (fuel ≥ 0) = false := by simpa using h5
            clear h5
            go_upto_region 24 with (first | (go_at_call 12; refine (HS _ bs).mono ?_; rintro e wa ⟨cs2, rfl, hsm, hba⟩; have ba := bs.trans (hba.mono bs.size)) | (go_at_call 6; refine (world_small ok hsm).mono ?_; rintro e wb ⟨⟨n, rfl, c2, hn⟩, hbb⟩; have bb := ba.trans (hbb.mono (Nat.le_min.2 ⟨bs.size, ba.size⟩))) | (go_at_call 10; refine (finish_bad _ fuel hfu _).mono ?_; rintro e wc ⟨rfl, hbc⟩; have bc := bb.trans (hbc.mono bb.size); have hnc := Nat.lt_of_lt_of_le hn hbc.size) | (go_at_call 12; refine (HS _ bc).mono ?_; rintro e wd ⟨cs3, rfl, hsm3, hbd⟩; have bd := bc.trans (hbd.mono bc.size); have hnd := Nat.lt_of_lt_of_le hnc hbd.size) | (go_at_call 8; refine (complete_small ok hsm3 fuel hfu).mono ?_; rintro e we ⟨rfl, hbe⟩; have be := bd.trans (hbe.mono (Nat.le_min.2 ⟨bc.size, bd.size⟩))) | (refine Row.store (g := we.heap.size) (t := 51) (L := resC) (M := resC) (heap_alloc_new _ _) rfl 51 (.tmp 20) (.tmp 144) rfl rfl rfl resC_info rfl resC_one ?_; rintro w20 hw20 r20; have b20 : Below w.heap.size w w20 := (by rw [hw20]; exact (be.alloc be.size _).grown (grown_setRow _ _ _) (be.alloc be.size _).size (fun k hk => by cases hk; exact be.size)); have n20 : Below we.heap.size we w20 := (by rw [hw20]; exact ((Below.refl _ _).alloc (Nat.le_refl _) _).grown (grown_setRow _ _ _) (by simp) (fun k hk => by cases hk; exact Nat.le_refl _)); have c140 : w20.cell? ⟨n, 140, none⟩ = some (.int .i64 0) := (n20.cell (p := ⟨n, 140, none⟩) (Nat.lt_of_lt_of_le hnd hbe.size)).trans ((hbe.cell (p := ⟨n, 140, none⟩) (Nat.lt_min.2 ⟨hnc, hnd⟩)).trans ((hbd.cell (p := ⟨n, 140, none⟩) hnc).trans ((hbc.cell (p := ⟨n, 140, none⟩) hn).trans c2))); clear hw20))
            go_wp2_with (first | (refine wpList_wantR rfl (exec_loadR 51 (.tmp 20) rfl _ rfl 51 resC.toArray (0, 0) _ r20 Tryz.underlying51 rfl resC_inf2) ?_) | (go_at_call 9; refine (HZ _ b20).mono ?_; rintro e wz ⟨rfl, hbz⟩; have bz := b20.trans (hbz.mono b20.size)) | (go_at_call 4; refine (HL _ bz).mono ?_; rintro e wl ⟨rfl, hbl⟩))
            go_ret
            exact ⟨rfl, bz.trans (hbl.mono bz.size)⟩
end
end Go.Proofs.YtjknpcllmmalkaaGreatDoor
