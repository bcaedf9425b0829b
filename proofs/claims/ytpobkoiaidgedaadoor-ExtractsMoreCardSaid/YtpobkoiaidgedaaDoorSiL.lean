/- The reference's Collision. -/
import Derived.Test.YtpobkoiaidgedaaDoorSiK
namespace Go.Proofs.YtpobkoiaidgedaaDoor
open Go.RowKit

theorem Row.mid1 {w : World} {g : Nat} {t : TypeId} {v : Value} {d : List B8} (h : Row w g t (v :: cells8 d)) : w.rangeAt g 1 (cells8 d) := by
  have e : v :: cells8 d = [v] ++ (cells8 d ++ []) := by simp
  rw [e] at h
  exact h.mid rfl
/-- Do the bytes of x, made, collide with y, loaded? -/
def colB (x y : Dig) : Bool := decide (shaF y.b = y.d) && (!decide (x.b = y.b) && decide (shaF x.b = y.d))
/-- Elements of a row with their bytes. -/
def Digs (w : World) (v : Value) (l : List Dig) (xs : List (List Value)) : Prop :=
  xs.length = l.length ∧ (∀ (i : Nat) (x : Dig), l[i]? = some x → ∃ cs, xs[i]? = some cs ∧ DigIs w w.heap.size x cs) ∧ w.ownsRow 0 41 33 v l.length xs.flatten
theorem Digs.step {w w' : World} {v : Value} {l : List Dig} {xs : List (List Value)} (h : Digs w v l xs) (hb : Below w.heap.size w w') : Digs w' v l xs :=
  ⟨h.1, fun i x hx => by obtain ⟨cs, h1, h2⟩ := h.2.1 i x hx; exact ⟨cs, h1, h2.step hb⟩, own_below h.2.2 hb (Nat.le_refl _)⟩
theorem Digs.lens {w : World} {v : Value} {l : List Dig} {xs : List (List Value)} (h : Digs w v l xs) : ∀ c ∈ xs, c.length = 33 := by
  intro c hc
  obtain ⟨i, hi⟩ := List.getElem?_of_mem hc
  have hil : i < l.length := by rw [← h.1]; exact (List.getElem?_eq_some_iff.1 hi).1
  obtain ⟨cs, h1, h2⟩ := h.2.1 i l[i] (List.getElem?_eq_getElem hil)
  rw [hi] at h1
  cases h1
  exact h2.len
/-- The first collision's places, or -1 and -1. -/
def RColP (lm ll : List Dig) (w : World) (e : Ending) (w' : World) : Prop :=
  ((∃ (k i : Nat) (y x : Dig), ll[k]? = some y ∧ lm[i]? = some x ∧ colB x y = true ∧ (∀ (j : Nat) (z : Dig), j < i → lm[j]? = some z → colB z y = false) ∧ (∀ (j : Nat) (y' : Dig), j < k → ll[j]? = some y' → ∀ z ∈ lm, colB z y' = false) ∧ e = .returned (.tuple #[.int .i64 (i : Int), .int .i64 (k : Int)])) ∨ ((∀ y ∈ ll, ∀ z ∈ lm, colB z y = false) ∧ e = .returned (.tuple #[.int .i64 (-1), .int .i64 (-1)]))) ∧ Below w.heap.size w w'

set_option maxRecDepth 100000 in
set_option maxHeartbeats 8000000 in
theorem refCollision_any (lm ll : List Dig) (xm xl : List (List Value)) (vm vs vl vf vp : Value) (w : World) (hln : lm.length < 1000000) (hfn : ll.length < 1000000) (hdm : Digs w vm lm xm) (hdl : Digs w vl ll xl) :
    Calls Tryd.prog 7 #[.agg #[vm, vs, vl, vf, vp]] w (RColP lm ll w) := by
  obtain ⟨Am, cm, hvm, _, _⟩ := own_slice hdm.2.2
  obtain ⟨Al, cl, hvl, _, _⟩ := own_slice hdl.2.2
  have HVM := Lib.hid hvm
  have HVL := Lib.hid hvl
  obtain ⟨nm, hnm⟩ : ∃ n, n = lm.length := ⟨_, rfl⟩
  obtain ⟨nl, hnl⟩ : ∃ n, n = ll.length := ⟨_, rfl⟩
  have hnmI : (nm : Int) < 1000000 := by omega
  have hnlI : (nl : Int) < 1000000 := by omega
  rw [hvm, hvl, ← hnm, ← hnl]
  have HNM := Lib.hid hnm
  have HNL := Lib.hid hnl
  clear hln hfn hvm hvl hnm hnl
  go_enter Tryd.func7, Tryd.ntmps7
  go_upto_region 1 with (fail)
  obtain ⟨wz, hwz⟩ : ∃ wz, wz = (w.alloc (.cells #[.slice Am nm cm, vs, .slice Al nl cl, vf, vp] 30)) := ⟨_, rfl⟩
  obtain ⟨g1, h1⟩ : ∃ g, g = w.heap.size := ⟨_, rfl⟩
  have hb : Below w.heap.size w wz := by rw [hwz]; exact (Below.refl _ _).alloc (Nat.le_refl _) _
  have r1z : Row wz g1 30 [.slice Am nm cm, vs, .slice Al nl cl, vf, vp] := by rw [hwz, h1]; exact heap_alloc_new _ _
  have HDM := Lib.hid (hdm.step hb)
  have HDL := Lib.hid (hdl.step hb)
  have HB := Lib.hid hb
  have R1Z := Lib.hid r1z
  rw [← hwz, ← h1]
  clear hwz h1 hdm hdl hb r1z
  go_wp2
  go_loopw [4, 5, 6] (fun i _ _ wr => ∃ q : Nat, q ≤ nl ∧ i = .int .i64 (q : Int) ∧ (∀ (j : Nat) (y' : Dig), j < q → ll[j]? = some y' → ∀ z ∈ lm, colB z y' = false) ∧ Below wz.heap.size wz wr) (fun i _ _ _ => nl - (intOf i).toNat)
  case atStart => exact ⟨0, Nat.zero_le _, rfl, fun j y h => absurd h (Nat.not_lt_zero _), Below.refl _ _⟩
  case round =>
    obtain ⟨q, hq, rfl, hno, hbz⟩ := hrel
    have HNO := Lib.hid hno
    clear hno
    have r1 := R1Z.out.below hbz R1Z.out.lt
    have c3 : wr.cell? ⟨g1, 2, none⟩ = some (.slice Al nl cl) := r1.cell rfl
    by_cases hlt : q < nl
    · have hd : decide ((q : Int) < (nl : Int)) = true := by simp; omega
      have hqn : (q : Int) < (nl : Int) := by omega
      obtain ⟨y, hyq⟩ : ∃ y, ll[q]? = some y := ⟨_, List.getElem?_eq_getElem (by rw [← HNL.out]; exact hlt)⟩
      obtain ⟨ycs, hyc, hyis⟩ := HDL.out.2.1 q y hyq
      obtain ⟨gl, cp, hvs, hgs, hrg⟩ := own_elem HDL.out.2.2 HDL.out.lens q ycs hyc (by rw [← HNL.out]; exact hlt)
      have hA : Al = some ⟨gl, 0, none⟩ ∧ cl = cp := by
        have h := HVL.out.symm.trans hvs
        injection h with a b c
        exact ⟨a, c⟩
      obtain ⟨rfl, rfl⟩ := hA
      obtain ⟨hyd, hyb, Ay, cy, rfl, hyc1, hyc2, hry⟩ := hyis
      have hrgw : wr.rangeAt gl (q * 33) (.slice Ay y.b.length cy :: cells8 y.d) := fun j u hu => (hbz.cell (p := ⟨gl, q * 33 + j, none⟩) hgs).trans (hrg j u hu)
      have hlen : (Value.slice Ay y.b.length cy :: cells8 y.d).length = 33 := by simp [cells8_len, hyd]
      have HMC := Lib.hid (show (Tryd.prog.info? 41).map (·.size) = some (Value.slice Ay y.b.length cy :: cells8 y.d).length by rw [hlen]; kernel_rfl)
      have HZC := Lib.hid (show zDig.length = (Value.slice Ay y.b.length cy :: cells8 y.d).length by rw [hlen]; rfl)
      have HC1 : Hid ((Value.slice Ay y.b.length cy :: cells8 y.d).toArray.all (·.oneCell') = true) := Lib.hid (all_oneCell_toArray (by
        intro v hv
        rcases List.mem_cons.1 hv with rfl | hv
        · rfl
        · exact cells8_ones _ _ hv))
      have HI39 := Lib.hid (show (Tryd.prog.info? 39).map (·.size) = some (cells8 y.d).length by rw [cells8_len, hyd]; kernel_rfl)
      have S0 : Hid (Row (wr.alloc (.cells zDig.toArray 41)) wr.heap.size 41 zDig) := Lib.hid (heap_alloc_new _ _)
      have HRG := Lib.hid hrgw
      have HYQ := Lib.hid hyq
      have HYD := Lib.hid hyd
      have HYB := Lib.hid hyb
      have HRYZ := Lib.hid hry
      clear hgs hrg hrgw hvs hyq r1 hyc hlen hyd hyb hyc1 hyc2 hry
      go_upto_region 5 with (first
        | (refine wpList_load_mid rfl 41 (.tmp 17) rfl gl (q * 33) rfl (.slice Ay y.b.length cy :: cells8 y.d) _ HRG.out Tryd.underlying41 rfl HMC.out ?_)
        | (refine Row.store (g := wr.heap.size) (t := 41) (L := zDig) (M := (.slice Ay y.b.length cy :: cells8 y.d)) S0.out rfl 41 (.tmp 5) (.tmp 18) rfl rfl rfl HMC.out HZC.out HC1.out ?_; rintro w2 hw2 r5; have b12 : Below wr.heap.size wr w2 := (by rw [hw2]; exact ((Below.refl _ _).alloc (Nat.le_refl _) _).grown (grown_setRow _ _ _) (by simp) (fun k hk => by cases hk; exact Nat.le_refl _)); clear hw2))
      obtain ⟨g5, hg5⟩ : ∃ g, g = wr.heap.size := ⟨_, rfl⟩
      rw [← hg5] at r5 ⊢
      have bz2 := hbz.trans (b12.mono hbz.size)
      have c5 : w2.cell? ⟨g5, 0, none⟩ = some (.slice Ay y.b.length cy) := r5.cell rfl
      have HRY := Lib.hid ((HRYZ.out.below bz2 (Nat.le_refl _)).mono bz2.size)
      have R5 := Lib.hid r5
      have hneq := fun w => neq_digest w (shaF y.b) y.d (shaF_len _) HYD.out
      obtain ⟨by0, hby⟩ : ∃ b, b = decide (shaF y.b = y.d) := ⟨_, rfl⟩
      rw [← hby] at hneq
      have HBY := Lib.hid hby
      clear hg5 S0 b12 hbz HRG c3 hd r5 hby
      try simp only [Act.put]
      refine wp_region_held_drew (S := (fun w => w.cell? ⟨g5, 0, none⟩ = some (.slice Ay y.b.length cy) ∧ Row w g5 41 (.slice Ay y.b.length cy :: cells8 y.d))) (by kernel_rfl) ⟨c5, R5.out⟩ (fun hHeld => ?_)
      refine take_run 0 (v := ?_) rfl (by kernel_rfl) (by kernel_rfl) (by kernel_rfl) (fun _ _ _ h => h) rfl ?_ hHeld ?_
      rotate_left
      · intro w hSw; (try dsimp only at hSw); go_simp <;> with_reducible rfl
      try simp only [Act.put, List.setIfInBounds_toArray, List.set_cons_zero, List.set_cons_succ]
      refine take_run 1 (v := ?_) rfl (by kernel_rfl) (by kernel_rfl) (by kernel_rfl) (fun _ _ _ h => h) rfl ?_ hHeld ?_
      rotate_left
      · intro w hSw; (try dsimp only at hSw); go_simp <;> with_reducible rfl
      try simp only [Act.put, List.setIfInBounds_toArray, List.set_cons_zero, List.set_cons_succ]
      refine take_run 3 (v := ?_) rfl (by kernel_rfl) (by kernel_rfl) (by kernel_rfl) (fun _ _ _ h => h) rfl ?_ hHeld ?_
      rotate_left
      · intro w hSw; (try dsimp only at hSw); go_simp <;> with_reducible rfl
      try simp only [Act.put, List.setIfInBounds_toArray, List.set_cons_zero, List.set_cons_succ]
      refine take_run 4 (v := (.agg (cells8 y.d).toArray)) rfl (by kernel_rfl) (by kernel_rfl) (by kernel_rfl) (fun _ _ _ h => h) rfl ?_ hHeld ?_
      · intro w hSw; (try dsimp only at hSw); exact exec_load_mid 39 (.tmp 22) rfl g5 1 rfl (cells8 y.d) _ (hSw.2.mid1) Tryd.underlying39 rfl HI39.out
      try simp only [Act.put, List.setIfInBounds_toArray, List.set_cons_zero, List.set_cons_succ]
      refine take_call 2 rfl (by kernel_rfl) rfl (fun K hK => ?_)
      go_simp
      refine (refSum_any Ay _ cy y.b w2.drew (Rd.drew HRY.out) (by have := HYB.out; omega)).mono ?_
      rintro e w3 ⟨rfl, hbx⟩
      have y3 : Below w2.heap.size w2 w3 := below_of_drew hbx
      clear hbx
      try dsimp only
      try clear hHeld
      refine hK.out _ _ ⟨keep_cl y3 c5, R5.out.step y3⟩ (fun hHeld => ?_)
      clear hK K
      try simp only [Act.put, List.setIfInBounds_toArray, List.set_cons_zero, List.set_cons_succ]
      refine take_run 5 (v := ?_) rfl (by kernel_rfl) (by kernel_rfl) (by kernel_rfl) (fun _ _ _ h => h) rfl ?_ hHeld ?_
      rotate_left
      · intro w hSw; (try dsimp only at hSw); go_simp <;> with_reducible rfl
      try simp only [Act.put, List.setIfInBounds_toArray, List.set_cons_zero, List.set_cons_succ]
      refine wpAnyH_done (by kernel_rfl) ?_ _
      try clear hHeld
      have bz3 := bz2.trans (y3.mono bz2.size)
      have r53 := R5.out.step y3
      have hneq0 : True := trivial
      clear hneq c5 bz2 y3 HRY R5 hneq0
      cases by0 with
      | false =>
        have HF : Hid (∀ z ∈ lm, colB z y = false) := by
          unfold Hid; intro z _; unfold colB; rw [← HBY.out]; rfl
        simp only [Bool.not_false]
        go_wp2
        go_roundw
        case rel => exact ⟨q + 1, by omega, by go_num, fun j y' hj hy => by
          rcases Nat.lt_or_ge j q with h | h
          · exact HNO.out j y' h hy
          · have e : j = q := by omega
            subst e
            have := hy.symm.trans HYQ.out
            cases this; exact HF.out, bz3⟩
        case measure => simp [intOf]; omega
      | true =>
        simp only [Bool.not_true]
        go_wp2
        obtain ⟨wo, hwo⟩ : ∃ wo : World, wo = wr := ⟨_, rfl⟩
        clear hwo
        go_loopw [6] (fun v wr => ∃ i : Nat, i ≤ nm ∧ v = .int .i64 (i : Int) ∧ (∀ (j : Nat) (z : Dig), j < i → lm[j]? = some z → colB z y = false) ∧ Row wr g5 41 (.slice Ay y.b.length cy :: cells8 y.d) ∧ Below wz.heap.size wz wr) (fun v _ => nm - (intOf v).toNat)
        case atStart => exact ⟨0, Nat.zero_le _, rfl, fun j y h => absurd h (Nat.not_lt_zero _), r53, bz3⟩
        case round =>
          clear r53 bz3
          obtain ⟨i, hi, rfl, hni, r5, hbz⟩ := hrel
          have HNI := Lib.hid hni
          have r1 := R1Z.out.below hbz R1Z.out.lt
          have c1 : wr.cell? ⟨g1, 0, none⟩ = some (.slice Am nm cm) := r1.cell rfl
          clear hni
          by_cases hit : i < nm
          · have hd : decide ((i : Int) < (nm : Int)) = true := by simp; omega
            have hin : (i : Int) < (nm : Int) := by omega
            obtain ⟨x, hxi⟩ : ∃ x, lm[i]? = some x := ⟨_, List.getElem?_eq_getElem (by rw [← HNM.out]; exact hit)⟩
            obtain ⟨xcs, hxc, hxis⟩ := HDM.out.2.1 i x hxi
            obtain ⟨gm, cp, hvs, hgs, hrg⟩ := own_elem HDM.out.2.2 HDM.out.lens i xcs hxc (by rw [← HNM.out]; exact hit)
            have hA : Am = some ⟨gm, 0, none⟩ ∧ cm = cp := by
              have h := HVM.out.symm.trans hvs
              injection h with a b c
              exact ⟨a, c⟩
            obtain ⟨rfl, rfl⟩ := hA
            obtain ⟨hxd, hxb, Ax, cx, rfl, hxc1, hxc2, hrx⟩ := hxis
            have cxx : wr.cell? ⟨gm, i * 33, none⟩ = some (.slice Ax x.b.length cx) := (hbz.cell (p := ⟨gm, i * 33, none⟩) hgs).trans (hrg 0 _ rfl)
            have c5 : wr.cell? ⟨g5, 0, none⟩ = some (.slice Ay y.b.length cy) := r5.cell rfl
            have HRX := Lib.hid ((hrx.below hbz (Nat.le_refl _)).mono hbz.size)
            have HRYW := Lib.hid ((HRYZ.out.below hbz (Nat.le_refl _)).mono hbz.size)
            have R5W := Lib.hid r5
            have HXB := Lib.hid hxb
            have HXI := Lib.hid hxi
            have heql := fun w => eql_digest w (shaF x.b) y.d (shaF_len _) HYD.out
            obtain ⟨sx, hsx⟩ : ∃ b, b = decide (shaF x.b = y.d) := ⟨_, rfl⟩
            rw [← hsx] at heql
            have hbeq := strB_beq x.b y.b
            obtain ⟨eb, heb⟩ : ∃ b, b = decide (x.b = y.b) := ⟨_, rfl⟩
            rw [← heb] at hbeq
            have HCB : Hid (colB x y = (!eb && sx)) := by unfold Hid colB; rw [← HBY.out, ← heb, ← hsx]; rfl
            clear hxi hxc hvs hgs hrg hxd hxb hxc1 hxc2 hrx r1 r5 hsx heb
            go_upto_region 9 with (fail)
            cases eb with
            | true =>
              clear heql
              refine wp_region_held_drew (S := (fun w => w.cell? ⟨g1, 0, none⟩ = some (.slice (some ⟨gm, 0, none⟩) nm cm) ∧ w.cell? ⟨gm, i * 33, none⟩ = some (.slice Ax x.b.length cx) ∧ w.cell? ⟨g5, 0, none⟩ = some (.slice Ay y.b.length cy) ∧ (convert 34 9 (.slice Ax x.b.length cx)).run Tryd.prog w = .ok (.string (strB x.b)) w ∧ (convert 34 9 (.slice Ay y.b.length cy)).run Tryd.prog w = .ok (.string (strB y.b)) w ∧ Row w g5 41 (.slice Ay y.b.length cy :: cells8 y.d))) (by kernel_rfl) ⟨c1, cxx, c5, conv8 HRX.out, conv8 HRYW.out, R5W.out⟩ (fun hHeld => ?_)
              refine take_run 0 (v := ?_) rfl (by kernel_rfl) (by kernel_rfl) (by kernel_rfl) (fun _ _ _ h => h) rfl ?_ hHeld ?_
              rotate_left
              · intro w hSw; (try dsimp only at hSw); go_simp <;> with_reducible rfl
              try simp only [Act.put, List.setIfInBounds_toArray, List.set_cons_zero, List.set_cons_succ]
              refine take_run 1 (v := ?_) rfl (by kernel_rfl) (by kernel_rfl) (by kernel_rfl) (fun _ _ _ h => h) rfl ?_ hHeld ?_
              rotate_left
              · intro w hSw; (try dsimp only at hSw); go_simp <;> with_reducible rfl
              try simp only [Act.put, List.setIfInBounds_toArray, List.set_cons_zero, List.set_cons_succ]
              refine take_run 2 (v := ?_) rfl (by kernel_rfl) (by kernel_rfl) (by kernel_rfl) (fun _ _ _ h => h) rfl ?_ hHeld ?_
              rotate_left
              · intro w hSw; (try dsimp only at hSw); go_simp <;> with_reducible rfl
              try simp only [Act.put, List.setIfInBounds_toArray, List.set_cons_zero, List.set_cons_succ]
              refine take_run 3 (v := ?_) rfl (by kernel_rfl) (by kernel_rfl) (by kernel_rfl) (fun _ _ _ h => h) rfl ?_ hHeld ?_
              rotate_left
              · intro w hSw; (try dsimp only at hSw); go_simp <;> with_reducible rfl
              try simp only [Act.put, List.setIfInBounds_toArray, List.set_cons_zero, List.set_cons_succ]
              refine take_run 4 (v := ?_) rfl (by kernel_rfl) (by kernel_rfl) (by kernel_rfl) (fun _ _ _ h => h) rfl ?_ hHeld ?_
              rotate_left
              · intro w hSw; (try dsimp only at hSw); go_simp <;> with_reducible rfl
              try simp only [Act.put, List.setIfInBounds_toArray, List.set_cons_zero, List.set_cons_succ]
              refine take_run 5 (v := ?_) rfl (by kernel_rfl) (by kernel_rfl) (by kernel_rfl) (fun _ _ _ h => h) rfl ?_ hHeld ?_
              rotate_left
              · intro w hSw; (try dsimp only at hSw); go_simp <;> with_reducible rfl
              try simp only [Act.put, List.setIfInBounds_toArray, List.set_cons_zero, List.set_cons_succ]
              refine take_run 6 (v := ?_) rfl (by kernel_rfl) (by kernel_rfl) (by kernel_rfl) (fun _ _ _ h => h) rfl ?_ hHeld ?_
              rotate_left
              · intro w hSw; (try dsimp only at hSw); go_simp <;> with_reducible rfl
              try simp only [Act.put, List.setIfInBounds_toArray, List.set_cons_zero, List.set_cons_succ]
              refine take_run 7 (v := ?_) rfl (by kernel_rfl) (by kernel_rfl) (by kernel_rfl) (fun _ _ _ h => h) rfl ?_ hHeld ?_
              rotate_left
              · intro w hSw; (try dsimp only at hSw); go_simp <;> with_reducible rfl
              try simp only [Act.put, List.setIfInBounds_toArray, List.set_cons_zero, List.set_cons_succ]
              refine take_run 8 (v := ?_) rfl (by kernel_rfl) (by kernel_rfl) (by kernel_rfl) (fun _ _ _ h => h) rfl ?_ hHeld ?_
              rotate_left
              · intro w hSw; (try dsimp only at hSw); go_simp <;> with_reducible rfl
              try simp only [Act.put, List.setIfInBounds_toArray, List.set_cons_zero, List.set_cons_succ]
              refine take_run 9 (v := ?_) rfl (by kernel_rfl) (by kernel_rfl) (by kernel_rfl) (fun _ _ _ h => h) rfl ?_ hHeld ?_
              rotate_left
              · intro w hSw; (try dsimp only at hSw); go_simp <;> with_reducible rfl
              try simp only [Act.put, List.setIfInBounds_toArray, List.set_cons_zero, List.set_cons_succ]
              refine take_run 10 (v := ?_) rfl (by kernel_rfl) (by kernel_rfl) (by kernel_rfl) (fun _ _ _ h => h) rfl ?_ hHeld ?_
              rotate_left
              · intro w hSw; (try dsimp only at hSw); go_simp <;> with_reducible rfl
              try simp only [Act.put, List.setIfInBounds_toArray, List.set_cons_zero, List.set_cons_succ]
              refine take_run 11 (v := ?_) rfl (by kernel_rfl) (by kernel_rfl) (by kernel_rfl) (fun _ _ _ h => h) rfl ?_ hHeld ?_
              rotate_left
              · intro w hSw; (try dsimp only at hSw); go_simp <;> with_reducible rfl
              try simp only [Act.put, List.setIfInBounds_toArray, List.set_cons_zero, List.set_cons_succ]
              refine take_skip 12 rfl (by kernel_rfl) (by kernel_rfl) (by kernel_rfl) (fun _ _ _ h => h) rfl hHeld ?_
              simp only [Act.put, List.setIfInBounds_toArray, List.set_cons_zero, List.set_cons_succ]
              refine take_skip 13 rfl (by kernel_rfl) (by kernel_rfl) (by kernel_rfl) (fun _ _ _ h => h) rfl hHeld ?_
              simp only [Act.put, List.setIfInBounds_toArray, List.set_cons_zero, List.set_cons_succ]
              refine take_skip 14 rfl (by kernel_rfl) (by kernel_rfl) (by kernel_rfl) (fun _ _ _ h => h) rfl hHeld ?_
              simp only [Act.put, List.setIfInBounds_toArray, List.set_cons_zero, List.set_cons_succ]
              refine take_skip 15 rfl (by kernel_rfl) (by kernel_rfl) (by kernel_rfl) (fun _ _ _ h => h) rfl hHeld ?_
              simp only [Act.put, List.setIfInBounds_toArray, List.set_cons_zero, List.set_cons_succ]
              refine take_skip 16 rfl (by kernel_rfl) (by kernel_rfl) (by kernel_rfl) (fun _ _ _ h => h) rfl hHeld ?_
              simp only [Act.put, List.setIfInBounds_toArray, List.set_cons_zero, List.set_cons_succ]
              refine take_skip 17 rfl (by kernel_rfl) (by kernel_rfl) (by kernel_rfl) (fun _ _ _ h => h) rfl hHeld ?_
              simp only [Act.put, List.setIfInBounds_toArray, List.set_cons_zero, List.set_cons_succ]
              refine take_skip 18 rfl (by kernel_rfl) (by kernel_rfl) (by kernel_rfl) (fun _ _ _ h => h) rfl hHeld ?_
              simp only [Act.put, List.setIfInBounds_toArray, List.set_cons_zero, List.set_cons_succ]
              refine take_skip 19 rfl (by kernel_rfl) (by kernel_rfl) (by kernel_rfl) (fun _ _ _ h => h) rfl hHeld ?_
              simp only [Act.put, List.setIfInBounds_toArray, List.set_cons_zero, List.set_cons_succ]
              refine take_skip 20 rfl (by kernel_rfl) (by kernel_rfl) (by kernel_rfl) (fun _ _ _ h => h) rfl hHeld ?_
              simp only [Act.put, List.setIfInBounds_toArray, List.set_cons_zero, List.set_cons_succ]
              refine take_skip 21 rfl (by kernel_rfl) (by kernel_rfl) (by kernel_rfl) (fun _ _ _ h => h) rfl hHeld ?_
              simp only [Act.put, List.setIfInBounds_toArray, List.set_cons_zero, List.set_cons_succ]
              refine take_run 22 (v := ?_) rfl (by kernel_rfl) (by kernel_rfl) (by kernel_rfl) (fun _ _ _ h => h) rfl ?_ hHeld ?_
              rotate_left
              · intro w hSw; (try dsimp only at hSw); go_simp <;> with_reducible rfl
              try simp only [Act.put, List.setIfInBounds_toArray, List.set_cons_zero, List.set_cons_succ]
              refine wpAnyH_done (by kernel_rfl) ?_ _
              try clear hHeld
              go_wp2
              go_roundw
              case rel => exact ⟨i + 1, by omega, by go_num, fun j z hj hz => by
                rcases Nat.lt_or_ge j i with h | h
                · exact HNI.out j z h hz
                · have e : j = i := by omega
                  subst e
                  have := hz.symm.trans HXI.out
                  cases this; rw [HCB.out]; rfl, R5W.out, below_drewN' hbz 1⟩
              case measure => simp [intOf]; omega
            | false =>
              refine wp_region_held_drew (S := (fun w => w.cell? ⟨g1, 0, none⟩ = some (.slice (some ⟨gm, 0, none⟩) nm cm) ∧ w.cell? ⟨gm, i * 33, none⟩ = some (.slice Ax x.b.length cx) ∧ w.cell? ⟨g5, 0, none⟩ = some (.slice Ay y.b.length cy) ∧ (convert 34 9 (.slice Ax x.b.length cx)).run Tryd.prog w = .ok (.string (strB x.b)) w ∧ (convert 34 9 (.slice Ay y.b.length cy)).run Tryd.prog w = .ok (.string (strB y.b)) w ∧ Row w g5 41 (.slice Ay y.b.length cy :: cells8 y.d))) (by kernel_rfl) ⟨c1, cxx, c5, conv8 HRX.out, conv8 HRYW.out, R5W.out⟩ (fun hHeld => ?_)
              refine take_run 0 (v := ?_) rfl (by kernel_rfl) (by kernel_rfl) (by kernel_rfl) (fun _ _ _ h => h) rfl ?_ hHeld ?_
              rotate_left
              · intro w hSw; (try dsimp only at hSw); go_simp <;> with_reducible rfl
              try simp only [Act.put, List.setIfInBounds_toArray, List.set_cons_zero, List.set_cons_succ]
              refine take_run 1 (v := ?_) rfl (by kernel_rfl) (by kernel_rfl) (by kernel_rfl) (fun _ _ _ h => h) rfl ?_ hHeld ?_
              rotate_left
              · intro w hSw; (try dsimp only at hSw); go_simp <;> with_reducible rfl
              try simp only [Act.put, List.setIfInBounds_toArray, List.set_cons_zero, List.set_cons_succ]
              refine take_run 2 (v := ?_) rfl (by kernel_rfl) (by kernel_rfl) (by kernel_rfl) (fun _ _ _ h => h) rfl ?_ hHeld ?_
              rotate_left
              · intro w hSw; (try dsimp only at hSw); go_simp <;> with_reducible rfl
              try simp only [Act.put, List.setIfInBounds_toArray, List.set_cons_zero, List.set_cons_succ]
              refine take_run 3 (v := ?_) rfl (by kernel_rfl) (by kernel_rfl) (by kernel_rfl) (fun _ _ _ h => h) rfl ?_ hHeld ?_
              rotate_left
              · intro w hSw; (try dsimp only at hSw); go_simp <;> with_reducible rfl
              try simp only [Act.put, List.setIfInBounds_toArray, List.set_cons_zero, List.set_cons_succ]
              refine take_run 4 (v := ?_) rfl (by kernel_rfl) (by kernel_rfl) (by kernel_rfl) (fun _ _ _ h => h) rfl ?_ hHeld ?_
              rotate_left
              · intro w hSw; (try dsimp only at hSw); go_simp <;> with_reducible rfl
              try simp only [Act.put, List.setIfInBounds_toArray, List.set_cons_zero, List.set_cons_succ]
              refine take_run 5 (v := ?_) rfl (by kernel_rfl) (by kernel_rfl) (by kernel_rfl) (fun _ _ _ h => h) rfl ?_ hHeld ?_
              rotate_left
              · intro w hSw; (try dsimp only at hSw); go_simp <;> with_reducible rfl
              try simp only [Act.put, List.setIfInBounds_toArray, List.set_cons_zero, List.set_cons_succ]
              refine take_run 6 (v := ?_) rfl (by kernel_rfl) (by kernel_rfl) (by kernel_rfl) (fun _ _ _ h => h) rfl ?_ hHeld ?_
              rotate_left
              · intro w hSw; (try dsimp only at hSw); go_simp <;> with_reducible rfl
              try simp only [Act.put, List.setIfInBounds_toArray, List.set_cons_zero, List.set_cons_succ]
              refine take_run 7 (v := ?_) rfl (by kernel_rfl) (by kernel_rfl) (by kernel_rfl) (fun _ _ _ h => h) rfl ?_ hHeld ?_
              rotate_left
              · intro w hSw; (try dsimp only at hSw); go_simp <;> with_reducible rfl
              try simp only [Act.put, List.setIfInBounds_toArray, List.set_cons_zero, List.set_cons_succ]
              refine take_run 8 (v := ?_) rfl (by kernel_rfl) (by kernel_rfl) (by kernel_rfl) (fun _ _ _ h => h) rfl ?_ hHeld ?_
              rotate_left
              · intro w hSw; (try dsimp only at hSw); go_simp <;> with_reducible rfl
              try simp only [Act.put, List.setIfInBounds_toArray, List.set_cons_zero, List.set_cons_succ]
              refine take_run 9 (v := ?_) rfl (by kernel_rfl) (by kernel_rfl) (by kernel_rfl) (fun _ _ _ h => h) rfl ?_ hHeld ?_
              rotate_left
              · intro w hSw; (try dsimp only at hSw); go_simp <;> with_reducible rfl
              try simp only [Act.put, List.setIfInBounds_toArray, List.set_cons_zero, List.set_cons_succ]
              refine take_run 10 (v := ?_) rfl (by kernel_rfl) (by kernel_rfl) (by kernel_rfl) (fun _ _ _ h => h) rfl ?_ hHeld ?_
              rotate_left
              · intro w hSw; (try dsimp only at hSw); go_simp <;> with_reducible rfl
              try simp only [Act.put, List.setIfInBounds_toArray, List.set_cons_zero, List.set_cons_succ]
              refine take_run 11 (v := ?_) rfl (by kernel_rfl) (by kernel_rfl) (by kernel_rfl) (fun _ _ _ h => h) rfl ?_ hHeld ?_
              rotate_left
              · intro w hSw; (try dsimp only at hSw); go_simp <;> with_reducible rfl
              try simp only [Act.put, List.setIfInBounds_toArray, List.set_cons_zero, List.set_cons_succ]
              refine take_run 12 (v := ?_) rfl (by kernel_rfl) (by kernel_rfl) (by kernel_rfl) (fun _ _ _ h => h) rfl ?_ hHeld ?_
              rotate_left
              · intro w hSw; (try dsimp only at hSw); go_simp <;> with_reducible rfl
              try simp only [Act.put, List.setIfInBounds_toArray, List.set_cons_zero, List.set_cons_succ]
              refine take_run 13 (v := ?_) rfl (by kernel_rfl) (by kernel_rfl) (by kernel_rfl) (fun _ _ _ h => h) rfl ?_ hHeld ?_
              rotate_left
              · intro w hSw; (try dsimp only at hSw); go_simp <;> with_reducible rfl
              try simp only [Act.put, List.setIfInBounds_toArray, List.set_cons_zero, List.set_cons_succ]
              refine take_run 14 (v := ?_) rfl (by kernel_rfl) (by kernel_rfl) (by kernel_rfl) (fun _ _ _ h => h) rfl ?_ hHeld ?_
              rotate_left
              · intro w hSw; (try dsimp only at hSw); go_simp <;> with_reducible rfl
              try simp only [Act.put, List.setIfInBounds_toArray, List.set_cons_zero, List.set_cons_succ]
              refine take_run 15 (v := ?_) rfl (by kernel_rfl) (by kernel_rfl) (by kernel_rfl) (fun _ _ _ h => h) rfl ?_ hHeld ?_
              rotate_left
              · intro w hSw; (try dsimp only at hSw); go_simp <;> with_reducible rfl
              try simp only [Act.put, List.setIfInBounds_toArray, List.set_cons_zero, List.set_cons_succ]
              refine take_run 16 (v := ?_) rfl (by kernel_rfl) (by kernel_rfl) (by kernel_rfl) (fun _ _ _ h => h) rfl ?_ hHeld ?_
              rotate_left
              · intro w hSw; (try dsimp only at hSw); go_simp <;> with_reducible rfl
              try simp only [Act.put, List.setIfInBounds_toArray, List.set_cons_zero, List.set_cons_succ]
              refine take_run 17 (v := ?_) rfl (by kernel_rfl) (by kernel_rfl) (by kernel_rfl) (fun _ _ _ h => h) rfl ?_ hHeld ?_
              rotate_left
              · intro w hSw; (try dsimp only at hSw); go_simp <;> with_reducible rfl
              try simp only [Act.put, List.setIfInBounds_toArray, List.set_cons_zero, List.set_cons_succ]
              refine take_run 19 (v := ?_) rfl (by kernel_rfl) (by kernel_rfl) (by kernel_rfl) (fun _ _ _ h => h) rfl ?_ hHeld ?_
              rotate_left
              · intro w hSw; (try dsimp only at hSw); go_simp <;> with_reducible rfl
              try simp only [Act.put, List.setIfInBounds_toArray, List.set_cons_zero, List.set_cons_succ]
              refine take_run 20 (v := (.agg (cells8 y.d).toArray)) rfl (by kernel_rfl) (by kernel_rfl) (by kernel_rfl) (fun _ _ _ h => h) rfl ?_ hHeld ?_
              · intro w hSw; (try dsimp only at hSw); exact exec_load_mid 39 (.tmp 51) rfl g5 1 rfl (cells8 y.d) _ (hSw.2.2.2.2.2.mid1) Tryd.underlying39 rfl HI39.out
              try simp only [Act.put, List.setIfInBounds_toArray, List.set_cons_zero, List.set_cons_succ]
              refine take_call 18 rfl (by kernel_rfl) rfl (fun K hK => ?_)
              go_simp
              refine (refSum_any Ax _ cx x.b wr.drew (Rd.drew HRX.out) (by have := HXB.out; omega)).mono ?_
              rintro e w3 ⟨rfl, hbx⟩
              have y3 : Below wr.heap.size wr w3 := below_of_drew hbx
              clear hbx
              try dsimp only
              try clear hHeld
              refine hK.out _ _ ⟨keep_cl y3 c1, keep_cl y3 cxx, keep_cl y3 c5, conv8 (HRX.out.step y3), conv8 (HRYW.out.step y3), R5W.out.step y3⟩ (fun hHeld => ?_)
              clear hK K
              try simp only [Act.put, List.setIfInBounds_toArray, List.set_cons_zero, List.set_cons_succ]
              refine take_run 21 (v := ?_) rfl (by kernel_rfl) (by kernel_rfl) (by kernel_rfl) (fun _ _ _ h => h) rfl ?_ hHeld ?_
              rotate_left
              · intro w hSw; (try dsimp only at hSw); go_simp <;> with_reducible rfl
              try simp only [Act.put, List.setIfInBounds_toArray, List.set_cons_zero, List.set_cons_succ]
              refine take_run 22 (v := ?_) rfl (by kernel_rfl) (by kernel_rfl) (by kernel_rfl) (fun _ _ _ h => h) rfl ?_ hHeld ?_
              rotate_left
              · intro w hSw; (try dsimp only at hSw); go_simp <;> with_reducible rfl
              try simp only [Act.put, List.setIfInBounds_toArray, List.set_cons_zero, List.set_cons_succ]
              refine wpAnyH_done (by kernel_rfl) ?_ _
              try clear hHeld
              have b3 := hbz.trans (y3.mono hbz.size)
              have r53 := R5W.out.step y3
              clear heql hbeq
              cases sx with
              | true =>
                go_wp2
                refine bodyPost_ret (v := .tuple #[.int .i64 (i : Int), .int .i64 (q : Int)]) (by simp [results, Tryd.results7, go_sem]) rfl ⟨.inl ⟨q, i, y, x, HYQ.out, HXI.out, by rw [HCB.out]; rfl, HNI.out, HNO.out, rfl⟩, HB.out.trans (b3.mono HB.out.size)⟩
              | false =>
                go_wp2
                go_roundw
                case rel => exact ⟨i + 1, by omega, by go_num, fun j z hj hz => by
                  rcases Nat.lt_or_ge j i with h | h
                  · exact HNI.out j z h hz
                  · have e : j = i := by omega
                    subst e
                    have := hz.symm.trans HXI.out
                    cases this; rw [HCB.out]; rfl, r53, b3⟩
                case measure => simp [intOf]; omega
          · have hin : i = nm := by omega
            have hd : decide ((i : Int) < (nm : Int)) = false := by simp; omega
            have HF : Hid (∀ z ∈ lm, colB z y = false) := by
              unfold Hid; intro z hz
              obtain ⟨j, hj⟩ := List.getElem?_of_mem hz
              exact HNI.out j z (by rw [hin, HNM.out]; exact (List.getElem?_eq_some_iff.1 hj).1) hj
            clear hin r1
            go_wp2
            go_roundw
            case rel => exact ⟨q + 1, by omega, by go_num, fun j y' hj hy => by
              rcases Nat.lt_or_ge j q with h | h
              · exact HNO.out j y' h hy
              · have e : j = q := by omega
                subst e
                have := hy.symm.trans HYQ.out
                cases this; exact HF.out, hbz⟩
            case measure => simp [intOf]; omega
    · have hqn : q = nl := by omega
      have hd : decide ((q : Int) < (nl : Int)) = false := by simp; omega
      have HQ := Lib.hid hqn
      clear hqn r1
      go_wp2
      refine bodyPost_ret (v := .tuple #[.int .i64 (-1), .int .i64 (-1)]) (by simp [results, Tryd.results7, go_sem]) rfl ⟨.inr ⟨fun y hy z hz => ?_, rfl⟩, HB.out.trans (hbz.mono HB.out.size)⟩
      obtain ⟨j, hj⟩ := List.getElem?_of_mem hy
      exact HNO.out j y (by rw [HQ.out, HNL.out]; exact (List.getElem?_eq_some_iff.1 hj).1) hj z hz
end Go.Proofs.YtpobkoiaidgedaaDoor
