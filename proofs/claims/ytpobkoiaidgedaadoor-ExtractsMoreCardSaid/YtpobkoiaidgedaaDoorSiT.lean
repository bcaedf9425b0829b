/- ExtractsMore holds of every two arguments. -/
import Derived.Test.YtpobkoiaidgedaaDoorSjE
namespace Go.Proofs.YtpobkoiaidgedaaDoor
open Go.RowKit

theorem zero_ok' : Msg.zero.ok := ⟨by decide, by decide, rfl, rfl⟩
theorem ColP.bool {lm ll : List Dig} {w w' : World} {e : Ending} (h : ColP lm ll w e w') : ∃ (v1 v2 : Value) (a : Bool), e = .returned (.tuple #[v1, v2, .bool a]) ∧ (a = true → ∃ y ∈ ll, ∃ x ∈ lm, colB x y = true) ∧ (a = false → ∀ y ∈ ll, ∀ x ∈ lm, colB x y = false) ∧ Below w.heap.size w w' := by
  obtain ⟨h | h, hb⟩ := h
  · obtain ⟨k, i, y, x, A1, A2, c1, c2, h1, h2, h3, _, _, he, _, _⟩ := h
    exact ⟨_, _, true, he, fun _ => ⟨y, List.mem_of_getElem? h1, x, List.mem_of_getElem? h2, h3⟩, fun h => (by cases h), hb⟩
  · exact ⟨_, _, false, h.2, fun h => (by cases h), fun _ => h.1, hb⟩
theorem ForgP.bool {mk : List B8} {ls lf : List Msg} {w w' : World} {e : Ending} (h : ForgP mk ls lf w e w') (hf : ∀ x ∈ lf, x.ok) : ∃ (m : Msg) (b : Bool), e = .returned (.tuple #[.agg m.cells.toArray, .bool b]) ∧ m.ok ∧ (b = true → m ∈ lf ∧ forgB mk ls m = true) ∧ (b = false → ∀ y ∈ lf, forgB mk ls y = false) ∧ Below w.heap.size w w' := by
  obtain ⟨h | h, hb⟩ := h
  · obtain ⟨k, x, h1, h2, _, he⟩ := h
    exact ⟨x, true, he, hf x (List.mem_of_getElem? h1), fun _ => ⟨List.mem_of_getElem? h1, h2⟩, fun h => (by cases h), hb⟩
  · exact ⟨Msg.zero, false, h.2, zero_ok', fun h => (by cases h), fun _ => h.1, hb⟩
theorem forgB_app (mk : List B8) (ls lu : List Msg) (x : Msg) (h : forgB mk (ls ++ lu) x = true) : forgB mk ls x = true := by
  unfold forgB at h ⊢
  rw [List.any_append] at h
  simp only [Bool.and_eq_true, Bool.not_eq_true', Bool.or_eq_false_iff] at h ⊢
  exact ⟨h.1, h.2.1⟩
theorem same_symm (a b : Msg) : a.same b = b.same a := by
  unfold Msg.same
  have h1 : decide (a.i = b.i) = decide (b.i = a.i) := by rw [decide_eq_decide]; exact eq_comm
  have h2 : decide (a.x = b.x ∧ a.v = b.v) = decide (b.x = a.x ∧ b.v = a.v) := by rw [decide_eq_decide]; exact ⟨fun h => ⟨h.1.symm, h.2.symm⟩, fun h => ⟨h.1.symm, h.2.symm⟩⟩
  have h3 : decide (a.d = b.d) = decide (b.d = a.d) := by rw [decide_eq_decide]; exact eq_comm
  rw [h1, h2, h3]
theorem forgB_last (mk : List B8) (ls : List Msg) (m n : Msg) (h : forgB mk (ls ++ [m]) n = true) : n.same m = false := by
  unfold forgB at h
  rw [List.any_append] at h
  simp only [Bool.and_eq_true, Bool.not_eq_true', Bool.or_eq_false_iff] at h
  rw [same_symm]
  have := h.2.2
  simpa using this

/-- The other trace: its block, its rows that are read. -/
structure USt (w : World) (B g : Nat) (ua ub uc ud : Value) (lua : List Dig) (xua : List (List Value)) (lub : List Msg) : Prop where
  row : Row w g 30 [ua, ub, uc, ud, .slice none 0 0]
  a : RowD w B ua lua xua
  b : RowM w B ub lub
theorem USt.step {w w' : World} {B g : Nat} {ua ub uc ud : Value} {lua : List Dig} {xua : List (List Value)} {lub : List Msg} (h : USt w B g ua ub uc ud lua xua lub) (hb : Below w.heap.size w w') : USt w' B g ua ub uc ud lua xua lub :=
  ⟨h.row.step hb, h.a.below hb (Nat.le_refl _), h.b.below hb (Nat.le_refl _)⟩
/-- Behind the two stores both traces lie in their blocks. -/
theorem two_traces {w wA wB : World} {B g6 g7 : Nat} {va vb vc vd ua ub uc ud : Value} {la lc lua : List Dig} {xa xc xua : List (List Value)} {lb ld lub : List Msg}
    (r6 : Row w g6 30 zTr) (r7 : Row w g7 30 zTr) (hne : g6 ≠ g7) (ra : RowD w B va la xa) (rb : RowM w B vb lb) (rc : RowD w B vc lc xc) (rd : RowM w B vd ld) (sac : Sep va vc) (sbd : Sep vb vd) (qa : RowD w B ua lua xua) (qb : RowM w B ub lub)
    (rA : Row wA g6 30 [va, vb, vc, vd, .slice none 0 0]) (gA : w.grownBy wA (some g6)) (rB : Row wB g7 30 [ua, ub, uc, ud, .slice none 0 0]) (gB : wA.grownBy wB (some g7)) :
    TSt wB B g6 va vb vc vd la lc xa xc lb ld ∧ USt wB B g7 ua ub uc ud lua xua lub := by
  have h8 : ∀ v b, Own8 w B v b → v.ownBlock = none ∨ v.ownBlock ≠ some g6 := fun v b o => .inr (own_off o r6 (by decide))
  have r7A := row_k r7 gA hne.symm
  have k8 : ∀ v b, Own8 wA B v b → v.ownBlock = none ∨ v.ownBlock ≠ some g7 := fun v b o => .inr (own_off o r7A (by decide))
  have stepD : ∀ {v l x}, RowD w B v l x → RowD wB B v l x := fun h => by
    have h1 := h.kept gA h8 (.inr (own_off h.2.2 r6 (by decide)))
    exact h1.kept gB k8 (.inr (own_off h1.2.2 r7A (by decide)))
  have stepM : ∀ {v l}, RowM w B v l → RowM wB B v l := fun h => by
    have h1 := h.kept gA (.inr (own_off h.2 r6 (by decide)))
    exact h1.kept gB (.inr (own_off h1.2 r7A (by decide)))
  exact ⟨⟨row_k rA gB hne, stepD ra, stepM rb, stepD rc, stepM rd, sac, sbd⟩, ⟨rB, stepD qa, stepM qb⟩⟩
/-- An append to a row of the first trace leaves the other one's messages. -/
theorem u_kept {w w' wB : World} {B g6 g7 i : Nat} {v v' ub uc ud ua : Value} {lub : List Msg} {t : TypeId} {L : List Value} (r7 : Row w g7 30 [ua, ub, uc, ud, .slice none 0 0]) (hb : RowM w B ub lub)
    (gB : w.grownBy wB v.ownBlock) (h7 : v.ownBlock ≠ some g7) (hs : ub.ownBlock = none ∨ ub.ownBlock ≠ v.ownBlock) (r6 : Row wB g6 t L) (ht : 54 ≠ t) (hne : g7 ≠ g6) (hw : w' = wB.setCell ⟨g6, i, none⟩ v') :
    Row w' g7 30 [ua, ub, uc, ud, .slice none 0 0] ∧ RowM w' B ub lub := by
  subst hw
  have gS := setCell_grown wB g6 i v'
  have k := hb.kept gB hs
  exact ⟨row_k (row_keep r7 gB (fun e => h7 e.symm)) gS hne, k.kept gS (.inr (own_off k.2 r6 ht))⟩

theorem take_three {P : Program} {l : List Oper} {Q : Exit → Act → World → Prop} {md : Region.Mode} {S : World → Prop} (i j k : Nat) {oi oj ok : Oper} {resti restj restk : List Oper} {fuel : Nat} {listed : Array Bool} {a : Act} {w : World} (hi : l.drop i = oi :: resti) (hj : l.drop j = oj :: restj) (hk : l.drop k = ok :: restk)
    (hr : Region.ready md l.toArray listed = [i, j, k]) (hwi : Region.wanted oi (yielded l.toArray a.tmps) = true) (hwj : Region.wanted oj (yielded l.toArray a.tmps) = true) (hwk : Region.wanted ok (yielded l.toArray a.tmps) = true)
    (h1 : ∀ K' : Act → World → Prop, Shut (∀ a w, S w → (S w → wpAnyH P md l.toArray Q S fuel (listed.setIfInBounds i true) a w) → K' a w) → Oper.wp P oi a w K' Q)
    (h2 : ∀ K' : Act → World → Prop, Shut (∀ a w, S w → (S w → wpAnyH P md l.toArray Q S fuel (listed.setIfInBounds j true) a w) → K' a w) → Oper.wp P oj a w K' Q)
    (h3 : ∀ K' : Act → World → Prop, Shut (∀ a w, S w → (S w → wpAnyH P md l.toArray Q S fuel (listed.setIfInBounds k true) a w) → K' a w) → Oper.wp P ok a w K' Q) : wpAnyH P md l.toArray Q S (fuel + 1) listed a w :=
  wpAnyH_ready hr (by simp) (AllReadyH.cons (at_drop hi) (fun K hK => by rw [if_pos hwi]; exact h1 K hK) (AllReadyH.cons (at_drop hj) (fun K hK => by rw [if_pos hwj]; exact h2 K hK) (AllReadyH.cons (at_drop hk) (fun K hK => by rw [if_pos hwk]; exact h3 K hK) AllReadyH.nil)))
theorem one_list {w : World} {B : Nat} {va vb vc vd : Value} {la lc : List Dig} {xa xc : List (List Value)} {lb ld : List Msg} (ha : RowD w B va la xa) (hb : RowM w B vb lb) (hc : RowD w B vc lc xc) (hd : RowM w B vd ld) :
    ∀ v ∈ [va, vb, vc, vd, Value.slice none 0 0], v.oneCell' = true := by
  intro v hv
  obtain ⟨_, _, ha, _⟩ := own_slice ha.2.2
  obtain ⟨_, _, hb, _⟩ := own_slice hb.2
  obtain ⟨_, _, hc, _⟩ := own_slice hc.2.2
  obtain ⟨_, _, hd, _⟩ := own_slice hd.2
  simp only [List.mem_cons, List.not_mem_nil, or_false] at hv
  rcases hv with e | e | e | e | e
  · rw [e, ha]; rfl
  · rw [e, hb]; rfl
  · rw [e, hc]; rfl
  · rw [e, hd]; rfl
  · rw [e]; rfl

theorem rowD_one {w : World} {B : Nat} {v : Value} {l : List Dig} {xs : List (List Value)} (h : RowD w B v l xs) : ∀ u ∈ xs.flatten, u.oneCell' = true := by
  intro u hu
  obtain ⟨c, hc, hu⟩ := List.mem_flatten.1 hu
  obtain ⟨i, hi⟩ := List.getElem?_of_mem hc
  have hil : i < l.length := by rw [← h.1]; exact (List.getElem?_eq_some_iff.1 hi).1
  obtain ⟨cs, h1, h2⟩ := h.2.1 i l[i] (List.getElem?_eq_getElem hil)
  rw [hi] at h1
  cases h1
  exact h2.is.one u hu
theorem rowM_one (l : List Msg) : ∀ u ∈ (l.map Msg.cells).flatten, u.oneCell' = true := by
  intro u hu
  obtain ⟨c, hc, hu⟩ := List.mem_flatten.1 hu
  obtain ⟨x, _, rfl⟩ := List.mem_map.1 hc
  exact Msg.one x u hu

set_option maxRecDepth 100000 in
set_option maxHeartbeats 64000000 in
theorem law_more (v v' : Value) (es1 es2 : List DE) (es3 es4 : List ME) (fs1 fs2 : List DE) (fs3 fs4 : List ME) (w : World) (hG : Glob w) (hv : ArgT w v es1 es2 es3 es4) (hv' : ArgT w v' fs1 fs2 fs3 fs4) :
    Calls Tryd.prog 5 #[v, v'] w fun e w' => e = .returned (.bool true) ∧ Below w.heap.size w w' := by
  have HG := Lib.hid hG
  have HV := Lib.hid hv
  have HV' := Lib.hid hv'
  obtain ⟨A1, A2, A3, A4, n1, c1, n2, c2, n3, c3, n4, c4, rfl, _⟩ := hv.out
  obtain ⟨D1, D2, D3, D4, m1, d1, m2, d2, m3, d3, m4, d4, rfl, _⟩ := hv'.out
  clear hG hv hv'
  obtain ⟨ss1, hss1⟩ : ∃ ss1 : List Value, ss1 = [.slice A1 n1 c1, .slice A2 n2 c2, .slice A3 n3 c3, .slice A4 n4 c4] := ⟨_, rfl⟩
  obtain ⟨ss2, hss2⟩ : ∃ ss2 : List Value, ss2 = [.slice D1 m1 d1, .slice D2 m2 d2, .slice D3 m3 d3, .slice D4 m4 d4] := ⟨_, rfl⟩
  have HS1 := Lib.hid hss1
  have HS2 := Lib.hid hss2
  have HW1 : Hid (ArgT w (.agg ss1.toArray) es1 es2 es3 es4) := Lib.hid (by rw [hss1]; exact HV.out)
  have HW2 : Hid (ArgT w (.agg ss2.toArray) fs1 fs2 fs3 fs4) := Lib.hid (by rw [hss2]; exact HV'.out)
  have HI4a := Lib.hid (show (Tryd.prog.info? 25).map (·.size) = some ss1.toArray.size by rw [hss1]; kernel_rfl)
  have HI4b := Lib.hid (show (Tryd.prog.info? 25).map (·.size) = some ss2.toArray.size by rw [hss2]; kernel_rfl)
  clear hss1 hss2 HV HV'
  obtain ⟨z, hz⟩ : ∃ z : List B8, z = List.replicate 32 0 := ⟨_, rfl⟩
  have HB := Lib.hid (show Tryd.prog.built 43 [] = some (cells8 z).toArray by rw [hz]; exact build_key0)
  have HZ : Hid (z.length = 32) := Lib.hid (by rw [hz]; exact key0_len)
  clear hz
  go_enter Tryd.func5, Tryd.ntmps5
  go_upto_region 1 with (fail)
  change Code.wp _ _ _ _ ((w.alloc (.cells [Value.slice A1 n1 c1, .slice A2 n2 c2, .slice A3 n3 c3, .slice A4 n4 c4].toArray 25)).alloc (.cells [Value.slice D1 m1 d1, .slice D2 m2 d2, .slice D3 m3 d3, .slice D4 m4 d4].toArray 25))
  rw [← HS1.out, ← HS2.out]
  obtain ⟨wz, hwz⟩ : ∃ wz, wz = ((w.alloc (.cells ss1.toArray 25)).alloc (.cells ss2.toArray 25)) := ⟨_, rfl⟩
  obtain ⟨g3, hg3⟩ : ∃ g, g = w.heap.size + 1 := ⟨_, rfl⟩
  obtain ⟨g2, hg2⟩ : ∃ g, g = w.heap.size := ⟨_, rfl⟩
  have hbz : Below w.heap.size w wz := by rw [hwz]; exact below_alloc2 (Below.refl _ _)
  have r2z : Row wz g2 25 ss1 := by rw [hwz, hg2, Row, ((Below.refl _ _).alloc (Nat.le_refl _) _).block w.heap.size (by simp)]; exact heap_alloc_new _ _
  have r3z : Row wz g3 25 ss2 := by rw [hwz, hg3]; exact heap_new_at (by simp)
  rw [← hwz, ← hg3, ← hg2]
  have R2z := Lib.hid r2z
  have R3z := Lib.hid r3z
  have Bz := Lib.hid hbz
  clear hwz hg2 hg3 r2z r3z hbz
  go_wp2_with (refine wpList_build_as rfl _ _ rfl _ _ HB.out (by kernel_rfl) ?_)
  refine (volume_any z HZ.out wz (HG.out.step Bz.out)).mono ?_
  rintro er wv ⟨rfl, hbv⟩
  obtain ⟨ek, hek⟩ : ∃ ek, ek = encF z := ⟨_, rfl⟩
  obtain ⟨mk, hmk⟩ : ∃ mk, mk = macF z := ⟨_, rfl⟩
  have hvf : volF z = ek ++ mk := by rw [hek, hmk]; rfl
  have HEK : Hid (ek.length = 16) := Lib.hid (by rw [hek]; exact encF_len z)
  have HMK : Hid (mk.length = 32) := Lib.hid (by rw [hmk]; exact macF_len z)
  have hkl : (cells8 (ek ++ mk)).length = 48 := by rw [cells8_len, List.length_append, HEK.out, HMK.out]
  have HIV := Lib.hid (show (Tryd.prog.info? 58).map (·.size) = some (cells8 (ek ++ mk)).length by rw [hkl]; kernel_rfl)
  have HIV2 := Lib.hid (show (Tryd.prog.info? 58).map (·.size) = some (cells8 (ek ++ mk)).toArray.size by rw [List.size_toArray, hkl]; kernel_rfl)
  have HZV := Lib.hid (show (cells8 (List.replicate 48 0)).length = (cells8 (ek ++ mk)).length by rw [cells8_len, hkl]; rfl)
  rw [hvf]
  have S1 : Hid (Row (wv.alloc (.cells (cells8 (List.replicate 48 0)).toArray 58)) wv.heap.size 58 (cells8 (List.replicate 48 0))) := Lib.hid (heap_alloc_new _ _)
  have R2v := Lib.hid (R2z.out.step hbv)
  have R3v := Lib.hid (R3z.out.step hbv)
  have Bv := Lib.hid (Bz.out.trans (hbv.mono Bz.out.size))
  clear hek hmk hvf hkl hbv R2z R3z Bz
  go_upto_region 2 with (refine Row.store (g := wv.heap.size) (t := 58) (L := cells8 (List.replicate 48 0)) (M := cells8 (ek ++ mk)) S1.out rfl 58 (.tmp 5) (.tmp 21) rfl rfl rfl HIV.out HZV.out (cells8_one _) ?_; rintro w1 hw1 rk; have bv1 : Below wv.heap.size wv w1 := (by rw [hw1]; exact ((Below.refl _ _).alloc (Nat.le_refl _) _).grown (grown_setRow _ _ _) (by simp) (fun k hk => by cases hk; exact Nat.le_refl _)); clear hw1)
  obtain ⟨gk, hgk⟩ : ∃ g, g = wv.heap.size := ⟨_, rfl⟩
  rw [← hgk] at rk ⊢
  have RK1 := Lib.hid rk
  have R2 := Lib.hid (R2v.out.step bv1)
  have R3 := Lib.hid (R3v.out.step bv1)
  have B1 := Lib.hid (Bv.out.trans (bv1.mono Bv.out.size))
  have HA1 := Lib.hid (HW1.out.step B1.out)
  have HA2 := Lib.hid (HW2.out.step B1.out)
  have HIF : Hid ((Tryd.prog.info? 30).map (·.size) = some 5) := Lib.hid (by kernel_rfl)
  clear hgk rk bv1 S1 R2v R3v Bv HW1 HW2
  obtain ⟨la, hla⟩ : ∃ la, la = (es1.take 8).map DE.dig := ⟨_, rfl⟩
  obtain ⟨lc, hlc⟩ : ∃ lc, lc = (es2.take 8).map DE.dig := ⟨_, rfl⟩
  obtain ⟨lb, hlb⟩ : ∃ lb, lb = (es3.take 8).map (ME.msg mk0) := ⟨_, rfl⟩
  obtain ⟨ld, hld⟩ : ∃ ld, ld = (es4.take 8).map (ME.msg mk0) := ⟨_, rfl⟩
  obtain ⟨lua, hlua⟩ : ∃ la, la = (fs1.take 8).map DE.dig := ⟨_, rfl⟩
  obtain ⟨lub, hlub⟩ : ∃ lb, lb = (fs3.take 8).map (ME.msg mk0) := ⟨_, rfl⟩
  have LA : Hid (la.length ≤ 8) := Lib.hid (by rw [hla, List.length_map, List.length_take]; omega)
  have LC : Hid (lc.length ≤ 8) := Lib.hid (by rw [hlc, List.length_map, List.length_take]; omega)
  have LB : Hid (lb.length ≤ 8) := Lib.hid (by rw [hlb, List.length_map, List.length_take]; omega)
  have LD : Hid (ld.length ≤ 8) := Lib.hid (by rw [hld, List.length_map, List.length_take]; omega)
  have LUA : Hid (lua.length ≤ 8) := Lib.hid (by rw [hlua, List.length_map, List.length_take]; omega)
  have LUB : Hid (lub.length ≤ 8) := Lib.hid (by rw [hlub, List.length_map, List.length_take]; omega)
  have HLL : Hid ((es1.take 8).map DE.dig = la ∧ (es2.take 8).map DE.dig = lc ∧ (es3.take 8).map (ME.msg mk0) = lb ∧ (es4.take 8).map (ME.msg mk0) = ld ∧ (fs1.take 8).map DE.dig = lua ∧ (fs3.take 8).map (ME.msg mk0) = lub) := ⟨hla.symm, hlc.symm, hlb.symm, hld.symm, hlua.symm, hlub.symm⟩
  clear hla hlc hlb hld hlua hlub
  try simp only [Act.put]
  go_cut [6, 7] (fun s6 s7 wx => ∃ (g6 g7 : Nat) (va vb vc vd ua ub uc ud : Value) (xa xc ya : List (List Value)), s6 = .pointer (some ⟨g6, 0, none⟩) ∧ s7 = .pointer (some ⟨g7, 0, none⟩) ∧ g6 ≠ g7 ∧ w1.heap.size ≤ g6 ∧ TSt wx w1.heap.size g6 va vb vc vd la lc xa xc lb ld ∧ USt wx w1.heap.size g7 ua ub uc ud lua ya lub ∧ Below w1.heap.size w1 wx)
  case first =>
    obtain ⟨e1, e2, e3, e4, e5, e6⟩ := HLL.out
    subst e1 e2 e3 e4 e5 e6
    have b0 : Below w1.heap.size w1 w1.drew := below_drewN' (Below.refl _ _) 1
    refine wp_region_held_drew (S := (fun w => Row w g2 25 ss1 ∧ Row w g3 25 ss2)) (by kernel_rfl) ⟨R2.out, R3.out⟩ (fun hHeld => ?_)
    refine take_run 0 (v := (.agg ss1.toArray)) rfl (by kernel_rfl) (by kernel_rfl) (by kernel_rfl) (fun _ _ _ h => h) rfl ?_ hHeld ?_
    · intro w hSw; (try dsimp only at hSw); exact exec_load_row 25 (.tmp 2) rfl g2 rfl 25 ss1.toArray (0, 0) _ hSw.1 Tryd.underlying25 rfl HI4a.out
    try simp only [Act.put, List.setIfInBounds_toArray, List.set_cons_zero, List.set_cons_succ]
    refine take_run 2 (v := (.agg ss2.toArray)) rfl (by kernel_rfl) (by kernel_rfl) (by kernel_rfl) (fun _ _ _ h => h) rfl ?_ hHeld ?_
    · intro w hSw; (try dsimp only at hSw); exact exec_load_row 25 (.tmp 3) rfl g3 rfl 25 ss2.toArray (0, 0) _ hSw.2 Tryd.underlying25 rfl HI4b.out
    try simp only [Act.put, List.setIfInBounds_toArray, List.set_cons_zero, List.set_cons_succ]
    refine take_three 1 4 5 rfl rfl rfl (by kernel_rfl) rfl rfl rfl (fun K hK => ?_) (fun K hK => ?_) (fun K hK => ?_)
    · go_simp
      refine (tOf_arg _ (HA1.out.step b0)).mono ?_
      rintro er w_1 ⟨va, vb, vc, vd, xa, xc, rfl, rva, rvb, rvc, rvd, svac, svbd, hx⟩
      have b_1 : Below w1.heap.size w1 w_1 := Below.trans b0 (Below.mono hx (Below.size b0))
      have rva := RowD.mono rva (Below.size b0)
      have rvb := RowM.mono rvb (Below.size b0)
      have rvc := RowD.mono rvc (Below.size b0)
      have rvd := RowM.mono rvd (Below.size b0)
      clear hx
      try dsimp only
      try clear hHeld
      refine hK.out _ _ ⟨R2.out.below b_1 R2.out.lt, R3.out.below b_1 R3.out.lt⟩ (fun hHeld => ?_)
      clear hK K
      try simp only [Act.put, List.setIfInBounds_toArray, List.set_cons_zero, List.set_cons_succ]
      refine take_three 3 4 5 rfl rfl rfl (by kernel_rfl) rfl rfl rfl (fun K hK => ?_) (fun K hK => ?_) (fun K hK => ?_)
      · go_simp
        refine (tOf_arg _ (HA2.out.step b_1)).mono ?_
        rintro er w_2 ⟨ua, ub, uc, ud, ya, yc, rfl, rua, rub, ruc, rud, suac, subd, hx⟩
        have b_2 : Below w1.heap.size w1 w_2 := Below.trans b_1 (Below.mono hx (Below.size b_1))
        have rua := RowD.mono rua (Below.size b_1)
        have rub := RowM.mono rub (Below.size b_1)
        have ruc := RowD.mono ruc (Below.size b_1)
        have rud := RowM.mono rud (Below.size b_1)
        have rva := RowD.below rva hx (Nat.le_refl _)
        have rvb := RowM.below rvb hx (Nat.le_refl _)
        have rvc := RowD.below rvc hx (Nat.le_refl _)
        have rvd := RowM.below rvd hx (Nat.le_refl _)
        clear hx
        try dsimp only
        try clear hHeld
        refine hK.out _ _ ⟨R2.out.below b_2 R2.out.lt, R3.out.below b_2 R3.out.lt⟩ (fun hHeld => ?_)
        clear hK K
        try simp only [Act.put, List.setIfInBounds_toArray, List.set_cons_zero, List.set_cons_succ]
        refine take_two 4 5 rfl rfl (by kernel_rfl) rfl rfl (fun K hK => ?_) (fun K hK => ?_)
        · have b_3 : Below w1.heap.size w1 (w_2.alloc (.cells zTr.toArray 30)) := Below.alloc b_2 (Below.size b_2) _
          have r6 : Row (w_2.alloc (.cells zTr.toArray 30)) w_2.heap.size 30 zTr := heap_alloc_new _ _
          have hx : Below (World.heap w_2).size w_2 (w_2.alloc (.cells zTr.toArray 30)) := Below.alloc (Below.refl _ _) (Nat.le_refl _) _
          go_simp
          try clear hHeld
          refine hK.out _ (w_2.alloc (.cells zTr.toArray 30)) ⟨R2.out.below b_3 R2.out.lt, R3.out.below b_3 R3.out.lt⟩ (fun hHeld => ?_)
          clear hK K
          try simp only [Act.put, List.setIfInBounds_toArray, List.set_cons_zero, List.set_cons_succ]
          obtain ⟨w_3, hwa⟩ : ∃ wa, wa = (w_2.alloc (.cells zTr.toArray 30)) := ⟨_, rfl⟩
          obtain ⟨g6, hga⟩ : ∃ g, g = w_2.heap.size := ⟨_, rfl⟩
          rw [← hwa] at b_3 r6 hx hHeld ⊢
          rw [← hga] at r6 ⊢
          have hlg6 : w1.heap.size ≤ g6 := by rw [hga]; first | exact Below.size b_2 | exact Nat.le_refl _
          have rva := RowD.below rva hx (Nat.le_refl _)
          have rvb := RowM.below rvb hx (Nat.le_refl _)
          have rvc := RowD.below rvc hx (Nat.le_refl _)
          have rvd := RowM.below rvd hx (Nat.le_refl _)
          have rua := RowD.below rua hx (Nat.le_refl _)
          have rub := RowM.below rub hx (Nat.le_refl _)
          have ruc := RowD.below ruc hx (Nat.le_refl _)
          have rud := RowM.below rud hx (Nat.le_refl _)
          clear hwa hga hx
          refine take_call 5 rfl (by kernel_rfl) rfl (fun K hK => ?_)
          have b_4 : Below w1.heap.size w1 (w_3.alloc (.cells zTr.toArray 30)) := Below.alloc b_3 (Below.size b_3) _
          have r7 : Row (w_3.alloc (.cells zTr.toArray 30)) w_3.heap.size 30 zTr := heap_alloc_new _ _
          have hx : Below (World.heap w_3).size w_3 (w_3.alloc (.cells zTr.toArray 30)) := Below.alloc (Below.refl _ _) (Nat.le_refl _) _
          go_simp
          try clear hHeld
          refine hK.out _ (w_3.alloc (.cells zTr.toArray 30)) ⟨R2.out.below b_4 R2.out.lt, R3.out.below b_4 R3.out.lt⟩ (fun hHeld => ?_)
          clear hK K
          try simp only [Act.put, List.setIfInBounds_toArray, List.set_cons_zero, List.set_cons_succ]
          obtain ⟨w_4, hwa⟩ : ∃ wa, wa = (w_3.alloc (.cells zTr.toArray 30)) := ⟨_, rfl⟩
          obtain ⟨g7, hga⟩ : ∃ g, g = w_3.heap.size := ⟨_, rfl⟩
          rw [← hwa] at b_4 r7 hx hHeld ⊢
          rw [← hga] at r7 ⊢
          have hlg7 : w1.heap.size ≤ g7 := by rw [hga]; first | exact Below.size b_3 | exact Nat.le_refl _
          have hne67 : g6 ≠ g7 := by rw [hga]; first | exact Nat.ne_of_lt (Row.lt r6) | exact (Nat.ne_of_lt (Row.lt r6)).symm
          have rva := RowD.below rva hx (Nat.le_refl _)
          have rvb := RowM.below rvb hx (Nat.le_refl _)
          have rvc := RowD.below rvc hx (Nat.le_refl _)
          have rvd := RowM.below rvd hx (Nat.le_refl _)
          have rua := RowD.below rua hx (Nat.le_refl _)
          have rub := RowM.below rub hx (Nat.le_refl _)
          have ruc := RowD.below ruc hx (Nat.le_refl _)
          have rud := RowM.below rud hx (Nat.le_refl _)
          have r6 := Row.step r6 hx
          clear hwa hga hx
          refine take_call 6 rfl (by kernel_rfl) rfl (fun K hK => ?_)
          refine wp_store_whole 30 (.tmp 6) (.tmp 23) rfl g6 30 zTr [va, vb, vc, vd, .slice none 0 0] rfl rfl r6 HIF.out rfl (one_list rva rvb rvc rvd) ?_
          intro wA qg6 gqg6
          have bA : Below w1.heap.size w1 wA := Below.grown b_4 gqg6 (Below.size b_4) (fun k hk => by cases hk; exact hlg6)
          try dsimp only
          try clear hHeld
          refine hK.out _ _ ⟨R2.out.below bA R2.out.lt, R3.out.below bA R3.out.lt⟩ (fun hHeld => ?_)
          clear hK K
          try simp only [Act.put]
          have r7A := row_k r7 gqg6 hne67.symm
          refine take_call 7 rfl (by kernel_rfl) rfl (fun K hK => ?_)
          refine wp_store_whole 30 (.tmp 7) (.tmp 25) rfl g7 30 zTr [ua, ub, uc, ud, .slice none 0 0] rfl rfl r7A HIF.out rfl (one_list rua rub ruc rud) ?_
          intro wB qg7 gqg7
          have bB : Below w1.heap.size w1 wB := Below.grown bA gqg7 (Below.size bA) (fun k hk => by cases hk; exact hlg7)
          try dsimp only
          try clear hHeld
          refine hK.out _ _ ⟨R2.out.below bB R2.out.lt, R3.out.below bB R3.out.lt⟩ (fun hHeld => ?_)
          clear hK K
          try simp only [Act.put]
          have HTU := two_traces r6 r7 hne67 rva rvb rvc rvd svac svbd rua rub qg6 gqg6 qg7 gqg7
          refine wpAnyH_done (by kernel_rfl) ?_ _
          try clear hHeld
          go_wp2
          go_meet
          case rel => exact ⟨g6, g7, va, vb, vc, vd, ua, ub, uc, ud, xa, xc, ya, rfl, rfl, hne67, hlg6, HTU.1, HTU.2, bB⟩
        · have b_3 : Below w1.heap.size w1 (w_2.alloc (.cells zTr.toArray 30)) := Below.alloc b_2 (Below.size b_2) _
          have r7 : Row (w_2.alloc (.cells zTr.toArray 30)) w_2.heap.size 30 zTr := heap_alloc_new _ _
          have hx : Below (World.heap w_2).size w_2 (w_2.alloc (.cells zTr.toArray 30)) := Below.alloc (Below.refl _ _) (Nat.le_refl _) _
          go_simp
          try clear hHeld
          refine hK.out _ (w_2.alloc (.cells zTr.toArray 30)) ⟨R2.out.below b_3 R2.out.lt, R3.out.below b_3 R3.out.lt⟩ (fun hHeld => ?_)
          clear hK K
          try simp only [Act.put, List.setIfInBounds_toArray, List.set_cons_zero, List.set_cons_succ]
          obtain ⟨w_3, hwa⟩ : ∃ wa, wa = (w_2.alloc (.cells zTr.toArray 30)) := ⟨_, rfl⟩
          obtain ⟨g7, hga⟩ : ∃ g, g = w_2.heap.size := ⟨_, rfl⟩
          rw [← hwa] at b_3 r7 hx hHeld ⊢
          rw [← hga] at r7 ⊢
          have hlg7 : w1.heap.size ≤ g7 := by rw [hga]; first | exact Below.size b_2 | exact Nat.le_refl _
          have rva := RowD.below rva hx (Nat.le_refl _)
          have rvb := RowM.below rvb hx (Nat.le_refl _)
          have rvc := RowD.below rvc hx (Nat.le_refl _)
          have rvd := RowM.below rvd hx (Nat.le_refl _)
          have rua := RowD.below rua hx (Nat.le_refl _)
          have rub := RowM.below rub hx (Nat.le_refl _)
          have ruc := RowD.below ruc hx (Nat.le_refl _)
          have rud := RowM.below rud hx (Nat.le_refl _)
          clear hwa hga hx
          refine take_call 4 rfl (by kernel_rfl) rfl (fun K hK => ?_)
          have b_4 : Below w1.heap.size w1 (w_3.alloc (.cells zTr.toArray 30)) := Below.alloc b_3 (Below.size b_3) _
          have r6 : Row (w_3.alloc (.cells zTr.toArray 30)) w_3.heap.size 30 zTr := heap_alloc_new _ _
          have hx : Below (World.heap w_3).size w_3 (w_3.alloc (.cells zTr.toArray 30)) := Below.alloc (Below.refl _ _) (Nat.le_refl _) _
          go_simp
          try clear hHeld
          refine hK.out _ (w_3.alloc (.cells zTr.toArray 30)) ⟨R2.out.below b_4 R2.out.lt, R3.out.below b_4 R3.out.lt⟩ (fun hHeld => ?_)
          clear hK K
          try simp only [Act.put, List.setIfInBounds_toArray, List.set_cons_zero, List.set_cons_succ]
          obtain ⟨w_4, hwa⟩ : ∃ wa, wa = (w_3.alloc (.cells zTr.toArray 30)) := ⟨_, rfl⟩
          obtain ⟨g6, hga⟩ : ∃ g, g = w_3.heap.size := ⟨_, rfl⟩
          rw [← hwa] at b_4 r6 hx hHeld ⊢
          rw [← hga] at r6 ⊢
          have hlg6 : w1.heap.size ≤ g6 := by rw [hga]; first | exact Below.size b_3 | exact Nat.le_refl _
          have hne67 : g6 ≠ g7 := by rw [hga]; first | exact Nat.ne_of_lt (Row.lt r7) | exact (Nat.ne_of_lt (Row.lt r7)).symm
          have rva := RowD.below rva hx (Nat.le_refl _)
          have rvb := RowM.below rvb hx (Nat.le_refl _)
          have rvc := RowD.below rvc hx (Nat.le_refl _)
          have rvd := RowM.below rvd hx (Nat.le_refl _)
          have rua := RowD.below rua hx (Nat.le_refl _)
          have rub := RowM.below rub hx (Nat.le_refl _)
          have ruc := RowD.below ruc hx (Nat.le_refl _)
          have rud := RowM.below rud hx (Nat.le_refl _)
          have r7 := Row.step r7 hx
          clear hwa hga hx
          refine take_call 6 rfl (by kernel_rfl) rfl (fun K hK => ?_)
          refine wp_store_whole 30 (.tmp 6) (.tmp 23) rfl g6 30 zTr [va, vb, vc, vd, .slice none 0 0] rfl rfl r6 HIF.out rfl (one_list rva rvb rvc rvd) ?_
          intro wA qg6 gqg6
          have bA : Below w1.heap.size w1 wA := Below.grown b_4 gqg6 (Below.size b_4) (fun k hk => by cases hk; exact hlg6)
          try dsimp only
          try clear hHeld
          refine hK.out _ _ ⟨R2.out.below bA R2.out.lt, R3.out.below bA R3.out.lt⟩ (fun hHeld => ?_)
          clear hK K
          try simp only [Act.put]
          have r7A := row_k r7 gqg6 hne67.symm
          refine take_call 7 rfl (by kernel_rfl) rfl (fun K hK => ?_)
          refine wp_store_whole 30 (.tmp 7) (.tmp 25) rfl g7 30 zTr [ua, ub, uc, ud, .slice none 0 0] rfl rfl r7A HIF.out rfl (one_list rua rub ruc rud) ?_
          intro wB qg7 gqg7
          have bB : Below w1.heap.size w1 wB := Below.grown bA gqg7 (Below.size bA) (fun k hk => by cases hk; exact hlg7)
          try dsimp only
          try clear hHeld
          refine hK.out _ _ ⟨R2.out.below bB R2.out.lt, R3.out.below bB R3.out.lt⟩ (fun hHeld => ?_)
          clear hK K
          try simp only [Act.put]
          have HTU := two_traces r6 r7 hne67 rva rvb rvc rvd svac svbd rua rub qg6 gqg6 qg7 gqg7
          refine wpAnyH_done (by kernel_rfl) ?_ _
          try clear hHeld
          go_wp2
          go_meet
          case rel => exact ⟨g6, g7, va, vb, vc, vd, ua, ub, uc, ud, xa, xc, ya, rfl, rfl, hne67, hlg6, HTU.1, HTU.2, bB⟩
      · have b_2 : Below w1.heap.size w1 (w_1.alloc (.cells zTr.toArray 30)) := Below.alloc b_1 (Below.size b_1) _
        have r6 : Row (w_1.alloc (.cells zTr.toArray 30)) w_1.heap.size 30 zTr := heap_alloc_new _ _
        have hx : Below (World.heap w_1).size w_1 (w_1.alloc (.cells zTr.toArray 30)) := Below.alloc (Below.refl _ _) (Nat.le_refl _) _
        go_simp
        try clear hHeld
        refine hK.out _ (w_1.alloc (.cells zTr.toArray 30)) ⟨R2.out.below b_2 R2.out.lt, R3.out.below b_2 R3.out.lt⟩ (fun hHeld => ?_)
        clear hK K
        try simp only [Act.put, List.setIfInBounds_toArray, List.set_cons_zero, List.set_cons_succ]
        obtain ⟨w_2, hwa⟩ : ∃ wa, wa = (w_1.alloc (.cells zTr.toArray 30)) := ⟨_, rfl⟩
        obtain ⟨g6, hga⟩ : ∃ g, g = w_1.heap.size := ⟨_, rfl⟩
        rw [← hwa] at b_2 r6 hx hHeld ⊢
        rw [← hga] at r6 ⊢
        have hlg6 : w1.heap.size ≤ g6 := by rw [hga]; first | exact Below.size b_1 | exact Nat.le_refl _
        have rva := RowD.below rva hx (Nat.le_refl _)
        have rvb := RowM.below rvb hx (Nat.le_refl _)
        have rvc := RowD.below rvc hx (Nat.le_refl _)
        have rvd := RowM.below rvd hx (Nat.le_refl _)
        clear hwa hga hx
        refine take_two 3 5 rfl rfl (by kernel_rfl) rfl rfl (fun K hK => ?_) (fun K hK => ?_)
        · go_simp
          refine (tOf_arg _ (HA2.out.step b_2)).mono ?_
          rintro er w_3 ⟨ua, ub, uc, ud, ya, yc, rfl, rua, rub, ruc, rud, suac, subd, hx⟩
          have b_3 : Below w1.heap.size w1 w_3 := Below.trans b_2 (Below.mono hx (Below.size b_2))
          have rua := RowD.mono rua (Below.size b_2)
          have rub := RowM.mono rub (Below.size b_2)
          have ruc := RowD.mono ruc (Below.size b_2)
          have rud := RowM.mono rud (Below.size b_2)
          have rva := RowD.below rva hx (Nat.le_refl _)
          have rvb := RowM.below rvb hx (Nat.le_refl _)
          have rvc := RowD.below rvc hx (Nat.le_refl _)
          have rvd := RowM.below rvd hx (Nat.le_refl _)
          have r6 := Row.step r6 hx
          clear hx
          try dsimp only
          try clear hHeld
          refine hK.out _ _ ⟨R2.out.below b_3 R2.out.lt, R3.out.below b_3 R3.out.lt⟩ (fun hHeld => ?_)
          clear hK K
          try simp only [Act.put, List.setIfInBounds_toArray, List.set_cons_zero, List.set_cons_succ]
          refine take_call 5 rfl (by kernel_rfl) rfl (fun K hK => ?_)
          have b_4 : Below w1.heap.size w1 (w_3.alloc (.cells zTr.toArray 30)) := Below.alloc b_3 (Below.size b_3) _
          have r7 : Row (w_3.alloc (.cells zTr.toArray 30)) w_3.heap.size 30 zTr := heap_alloc_new _ _
          have hx : Below (World.heap w_3).size w_3 (w_3.alloc (.cells zTr.toArray 30)) := Below.alloc (Below.refl _ _) (Nat.le_refl _) _
          go_simp
          try clear hHeld
          refine hK.out _ (w_3.alloc (.cells zTr.toArray 30)) ⟨R2.out.below b_4 R2.out.lt, R3.out.below b_4 R3.out.lt⟩ (fun hHeld => ?_)
          clear hK K
          try simp only [Act.put, List.setIfInBounds_toArray, List.set_cons_zero, List.set_cons_succ]
          obtain ⟨w_4, hwa⟩ : ∃ wa, wa = (w_3.alloc (.cells zTr.toArray 30)) := ⟨_, rfl⟩
          obtain ⟨g7, hga⟩ : ∃ g, g = w_3.heap.size := ⟨_, rfl⟩
          rw [← hwa] at b_4 r7 hx hHeld ⊢
          rw [← hga] at r7 ⊢
          have hlg7 : w1.heap.size ≤ g7 := by rw [hga]; first | exact Below.size b_3 | exact Nat.le_refl _
          have hne67 : g6 ≠ g7 := by rw [hga]; first | exact Nat.ne_of_lt (Row.lt r6) | exact (Nat.ne_of_lt (Row.lt r6)).symm
          have rva := RowD.below rva hx (Nat.le_refl _)
          have rvb := RowM.below rvb hx (Nat.le_refl _)
          have rvc := RowD.below rvc hx (Nat.le_refl _)
          have rvd := RowM.below rvd hx (Nat.le_refl _)
          have r6 := Row.step r6 hx
          have rua := RowD.below rua hx (Nat.le_refl _)
          have rub := RowM.below rub hx (Nat.le_refl _)
          have ruc := RowD.below ruc hx (Nat.le_refl _)
          have rud := RowM.below rud hx (Nat.le_refl _)
          clear hwa hga hx
          refine take_call 6 rfl (by kernel_rfl) rfl (fun K hK => ?_)
          refine wp_store_whole 30 (.tmp 6) (.tmp 23) rfl g6 30 zTr [va, vb, vc, vd, .slice none 0 0] rfl rfl r6 HIF.out rfl (one_list rva rvb rvc rvd) ?_
          intro wA qg6 gqg6
          have bA : Below w1.heap.size w1 wA := Below.grown b_4 gqg6 (Below.size b_4) (fun k hk => by cases hk; exact hlg6)
          try dsimp only
          try clear hHeld
          refine hK.out _ _ ⟨R2.out.below bA R2.out.lt, R3.out.below bA R3.out.lt⟩ (fun hHeld => ?_)
          clear hK K
          try simp only [Act.put]
          have r7A := row_k r7 gqg6 hne67.symm
          refine take_call 7 rfl (by kernel_rfl) rfl (fun K hK => ?_)
          refine wp_store_whole 30 (.tmp 7) (.tmp 25) rfl g7 30 zTr [ua, ub, uc, ud, .slice none 0 0] rfl rfl r7A HIF.out rfl (one_list rua rub ruc rud) ?_
          intro wB qg7 gqg7
          have bB : Below w1.heap.size w1 wB := Below.grown bA gqg7 (Below.size bA) (fun k hk => by cases hk; exact hlg7)
          try dsimp only
          try clear hHeld
          refine hK.out _ _ ⟨R2.out.below bB R2.out.lt, R3.out.below bB R3.out.lt⟩ (fun hHeld => ?_)
          clear hK K
          try simp only [Act.put]
          have HTU := two_traces r6 r7 hne67 rva rvb rvc rvd svac svbd rua rub qg6 gqg6 qg7 gqg7
          refine wpAnyH_done (by kernel_rfl) ?_ _
          try clear hHeld
          go_wp2
          go_meet
          case rel => exact ⟨g6, g7, va, vb, vc, vd, ua, ub, uc, ud, xa, xc, ya, rfl, rfl, hne67, hlg6, HTU.1, HTU.2, bB⟩
        · have b_3 : Below w1.heap.size w1 (w_2.alloc (.cells zTr.toArray 30)) := Below.alloc b_2 (Below.size b_2) _
          have r7 : Row (w_2.alloc (.cells zTr.toArray 30)) w_2.heap.size 30 zTr := heap_alloc_new _ _
          have hx : Below (World.heap w_2).size w_2 (w_2.alloc (.cells zTr.toArray 30)) := Below.alloc (Below.refl _ _) (Nat.le_refl _) _
          go_simp
          try clear hHeld
          refine hK.out _ (w_2.alloc (.cells zTr.toArray 30)) ⟨R2.out.below b_3 R2.out.lt, R3.out.below b_3 R3.out.lt⟩ (fun hHeld => ?_)
          clear hK K
          try simp only [Act.put, List.setIfInBounds_toArray, List.set_cons_zero, List.set_cons_succ]
          obtain ⟨w_3, hwa⟩ : ∃ wa, wa = (w_2.alloc (.cells zTr.toArray 30)) := ⟨_, rfl⟩
          obtain ⟨g7, hga⟩ : ∃ g, g = w_2.heap.size := ⟨_, rfl⟩
          rw [← hwa] at b_3 r7 hx hHeld ⊢
          rw [← hga] at r7 ⊢
          have hlg7 : w1.heap.size ≤ g7 := by rw [hga]; first | exact Below.size b_2 | exact Nat.le_refl _
          have hne67 : g6 ≠ g7 := by rw [hga]; first | exact Nat.ne_of_lt (Row.lt r6) | exact (Nat.ne_of_lt (Row.lt r6)).symm
          have rva := RowD.below rva hx (Nat.le_refl _)
          have rvb := RowM.below rvb hx (Nat.le_refl _)
          have rvc := RowD.below rvc hx (Nat.le_refl _)
          have rvd := RowM.below rvd hx (Nat.le_refl _)
          have r6 := Row.step r6 hx
          clear hwa hga hx
          refine take_call 3 rfl (by kernel_rfl) rfl (fun K hK => ?_)
          go_simp
          refine (tOf_arg _ (HA2.out.step b_3)).mono ?_
          rintro er w_4 ⟨ua, ub, uc, ud, ya, yc, rfl, rua, rub, ruc, rud, suac, subd, hx⟩
          have b_4 : Below w1.heap.size w1 w_4 := Below.trans b_3 (Below.mono hx (Below.size b_3))
          have rua := RowD.mono rua (Below.size b_3)
          have rub := RowM.mono rub (Below.size b_3)
          have ruc := RowD.mono ruc (Below.size b_3)
          have rud := RowM.mono rud (Below.size b_3)
          have rva := RowD.below rva hx (Nat.le_refl _)
          have rvb := RowM.below rvb hx (Nat.le_refl _)
          have rvc := RowD.below rvc hx (Nat.le_refl _)
          have rvd := RowM.below rvd hx (Nat.le_refl _)
          have r6 := Row.step r6 hx
          have r7 := Row.step r7 hx
          clear hx
          try dsimp only
          try clear hHeld
          refine hK.out _ _ ⟨R2.out.below b_4 R2.out.lt, R3.out.below b_4 R3.out.lt⟩ (fun hHeld => ?_)
          clear hK K
          try simp only [Act.put, List.setIfInBounds_toArray, List.set_cons_zero, List.set_cons_succ]
          refine take_call 6 rfl (by kernel_rfl) rfl (fun K hK => ?_)
          refine wp_store_whole 30 (.tmp 6) (.tmp 23) rfl g6 30 zTr [va, vb, vc, vd, .slice none 0 0] rfl rfl r6 HIF.out rfl (one_list rva rvb rvc rvd) ?_
          intro wA qg6 gqg6
          have bA : Below w1.heap.size w1 wA := Below.grown b_4 gqg6 (Below.size b_4) (fun k hk => by cases hk; exact hlg6)
          try dsimp only
          try clear hHeld
          refine hK.out _ _ ⟨R2.out.below bA R2.out.lt, R3.out.below bA R3.out.lt⟩ (fun hHeld => ?_)
          clear hK K
          try simp only [Act.put]
          have r7A := row_k r7 gqg6 hne67.symm
          refine take_call 7 rfl (by kernel_rfl) rfl (fun K hK => ?_)
          refine wp_store_whole 30 (.tmp 7) (.tmp 25) rfl g7 30 zTr [ua, ub, uc, ud, .slice none 0 0] rfl rfl r7A HIF.out rfl (one_list rua rub ruc rud) ?_
          intro wB qg7 gqg7
          have bB : Below w1.heap.size w1 wB := Below.grown bA gqg7 (Below.size bA) (fun k hk => by cases hk; exact hlg7)
          try dsimp only
          try clear hHeld
          refine hK.out _ _ ⟨R2.out.below bB R2.out.lt, R3.out.below bB R3.out.lt⟩ (fun hHeld => ?_)
          clear hK K
          try simp only [Act.put]
          have HTU := two_traces r6 r7 hne67 rva rvb rvc rvd svac svbd rua rub qg6 gqg6 qg7 gqg7
          refine wpAnyH_done (by kernel_rfl) ?_ _
          try clear hHeld
          go_wp2
          go_meet
          case rel => exact ⟨g6, g7, va, vb, vc, vd, ua, ub, uc, ud, xa, xc, ya, rfl, rfl, hne67, hlg6, HTU.1, HTU.2, bB⟩
      · have b_2 : Below w1.heap.size w1 (w_1.alloc (.cells zTr.toArray 30)) := Below.alloc b_1 (Below.size b_1) _
        have r7 : Row (w_1.alloc (.cells zTr.toArray 30)) w_1.heap.size 30 zTr := heap_alloc_new _ _
        have hx : Below (World.heap w_1).size w_1 (w_1.alloc (.cells zTr.toArray 30)) := Below.alloc (Below.refl _ _) (Nat.le_refl _) _
        go_simp
        try clear hHeld
        refine hK.out _ (w_1.alloc (.cells zTr.toArray 30)) ⟨R2.out.below b_2 R2.out.lt, R3.out.below b_2 R3.out.lt⟩ (fun hHeld => ?_)
        clear hK K
        try simp only [Act.put, List.setIfInBounds_toArray, List.set_cons_zero, List.set_cons_succ]
        obtain ⟨w_2, hwa⟩ : ∃ wa, wa = (w_1.alloc (.cells zTr.toArray 30)) := ⟨_, rfl⟩
        obtain ⟨g7, hga⟩ : ∃ g, g = w_1.heap.size := ⟨_, rfl⟩
        rw [← hwa] at b_2 r7 hx hHeld ⊢
        rw [← hga] at r7 ⊢
        have hlg7 : w1.heap.size ≤ g7 := by rw [hga]; first | exact Below.size b_1 | exact Nat.le_refl _
        have rva := RowD.below rva hx (Nat.le_refl _)
        have rvb := RowM.below rvb hx (Nat.le_refl _)
        have rvc := RowD.below rvc hx (Nat.le_refl _)
        have rvd := RowM.below rvd hx (Nat.le_refl _)
        clear hwa hga hx
        refine take_two 3 4 rfl rfl (by kernel_rfl) rfl rfl (fun K hK => ?_) (fun K hK => ?_)
        · go_simp
          refine (tOf_arg _ (HA2.out.step b_2)).mono ?_
          rintro er w_3 ⟨ua, ub, uc, ud, ya, yc, rfl, rua, rub, ruc, rud, suac, subd, hx⟩
          have b_3 : Below w1.heap.size w1 w_3 := Below.trans b_2 (Below.mono hx (Below.size b_2))
          have rua := RowD.mono rua (Below.size b_2)
          have rub := RowM.mono rub (Below.size b_2)
          have ruc := RowD.mono ruc (Below.size b_2)
          have rud := RowM.mono rud (Below.size b_2)
          have rva := RowD.below rva hx (Nat.le_refl _)
          have rvb := RowM.below rvb hx (Nat.le_refl _)
          have rvc := RowD.below rvc hx (Nat.le_refl _)
          have rvd := RowM.below rvd hx (Nat.le_refl _)
          have r7 := Row.step r7 hx
          clear hx
          try dsimp only
          try clear hHeld
          refine hK.out _ _ ⟨R2.out.below b_3 R2.out.lt, R3.out.below b_3 R3.out.lt⟩ (fun hHeld => ?_)
          clear hK K
          try simp only [Act.put, List.setIfInBounds_toArray, List.set_cons_zero, List.set_cons_succ]
          refine take_call 4 rfl (by kernel_rfl) rfl (fun K hK => ?_)
          have b_4 : Below w1.heap.size w1 (w_3.alloc (.cells zTr.toArray 30)) := Below.alloc b_3 (Below.size b_3) _
          have r6 : Row (w_3.alloc (.cells zTr.toArray 30)) w_3.heap.size 30 zTr := heap_alloc_new _ _
          have hx : Below (World.heap w_3).size w_3 (w_3.alloc (.cells zTr.toArray 30)) := Below.alloc (Below.refl _ _) (Nat.le_refl _) _
          go_simp
          try clear hHeld
          refine hK.out _ (w_3.alloc (.cells zTr.toArray 30)) ⟨R2.out.below b_4 R2.out.lt, R3.out.below b_4 R3.out.lt⟩ (fun hHeld => ?_)
          clear hK K
          try simp only [Act.put, List.setIfInBounds_toArray, List.set_cons_zero, List.set_cons_succ]
          obtain ⟨w_4, hwa⟩ : ∃ wa, wa = (w_3.alloc (.cells zTr.toArray 30)) := ⟨_, rfl⟩
          obtain ⟨g6, hga⟩ : ∃ g, g = w_3.heap.size := ⟨_, rfl⟩
          rw [← hwa] at b_4 r6 hx hHeld ⊢
          rw [← hga] at r6 ⊢
          have hlg6 : w1.heap.size ≤ g6 := by rw [hga]; first | exact Below.size b_3 | exact Nat.le_refl _
          have hne67 : g6 ≠ g7 := by rw [hga]; first | exact Nat.ne_of_lt (Row.lt r7) | exact (Nat.ne_of_lt (Row.lt r7)).symm
          have rva := RowD.below rva hx (Nat.le_refl _)
          have rvb := RowM.below rvb hx (Nat.le_refl _)
          have rvc := RowD.below rvc hx (Nat.le_refl _)
          have rvd := RowM.below rvd hx (Nat.le_refl _)
          have r7 := Row.step r7 hx
          have rua := RowD.below rua hx (Nat.le_refl _)
          have rub := RowM.below rub hx (Nat.le_refl _)
          have ruc := RowD.below ruc hx (Nat.le_refl _)
          have rud := RowM.below rud hx (Nat.le_refl _)
          clear hwa hga hx
          refine take_call 6 rfl (by kernel_rfl) rfl (fun K hK => ?_)
          refine wp_store_whole 30 (.tmp 6) (.tmp 23) rfl g6 30 zTr [va, vb, vc, vd, .slice none 0 0] rfl rfl r6 HIF.out rfl (one_list rva rvb rvc rvd) ?_
          intro wA qg6 gqg6
          have bA : Below w1.heap.size w1 wA := Below.grown b_4 gqg6 (Below.size b_4) (fun k hk => by cases hk; exact hlg6)
          try dsimp only
          try clear hHeld
          refine hK.out _ _ ⟨R2.out.below bA R2.out.lt, R3.out.below bA R3.out.lt⟩ (fun hHeld => ?_)
          clear hK K
          try simp only [Act.put]
          have r7A := row_k r7 gqg6 hne67.symm
          refine take_call 7 rfl (by kernel_rfl) rfl (fun K hK => ?_)
          refine wp_store_whole 30 (.tmp 7) (.tmp 25) rfl g7 30 zTr [ua, ub, uc, ud, .slice none 0 0] rfl rfl r7A HIF.out rfl (one_list rua rub ruc rud) ?_
          intro wB qg7 gqg7
          have bB : Below w1.heap.size w1 wB := Below.grown bA gqg7 (Below.size bA) (fun k hk => by cases hk; exact hlg7)
          try dsimp only
          try clear hHeld
          refine hK.out _ _ ⟨R2.out.below bB R2.out.lt, R3.out.below bB R3.out.lt⟩ (fun hHeld => ?_)
          clear hK K
          try simp only [Act.put]
          have HTU := two_traces r6 r7 hne67 rva rvb rvc rvd svac svbd rua rub qg6 gqg6 qg7 gqg7
          refine wpAnyH_done (by kernel_rfl) ?_ _
          try clear hHeld
          go_wp2
          go_meet
          case rel => exact ⟨g6, g7, va, vb, vc, vd, ua, ub, uc, ud, xa, xc, ya, rfl, rfl, hne67, hlg6, HTU.1, HTU.2, bB⟩
        · have b_3 : Below w1.heap.size w1 (w_2.alloc (.cells zTr.toArray 30)) := Below.alloc b_2 (Below.size b_2) _
          have r6 : Row (w_2.alloc (.cells zTr.toArray 30)) w_2.heap.size 30 zTr := heap_alloc_new _ _
          have hx : Below (World.heap w_2).size w_2 (w_2.alloc (.cells zTr.toArray 30)) := Below.alloc (Below.refl _ _) (Nat.le_refl _) _
          go_simp
          try clear hHeld
          refine hK.out _ (w_2.alloc (.cells zTr.toArray 30)) ⟨R2.out.below b_3 R2.out.lt, R3.out.below b_3 R3.out.lt⟩ (fun hHeld => ?_)
          clear hK K
          try simp only [Act.put, List.setIfInBounds_toArray, List.set_cons_zero, List.set_cons_succ]
          obtain ⟨w_3, hwa⟩ : ∃ wa, wa = (w_2.alloc (.cells zTr.toArray 30)) := ⟨_, rfl⟩
          obtain ⟨g6, hga⟩ : ∃ g, g = w_2.heap.size := ⟨_, rfl⟩
          rw [← hwa] at b_3 r6 hx hHeld ⊢
          rw [← hga] at r6 ⊢
          have hlg6 : w1.heap.size ≤ g6 := by rw [hga]; first | exact Below.size b_2 | exact Nat.le_refl _
          have hne67 : g6 ≠ g7 := by rw [hga]; first | exact Nat.ne_of_lt (Row.lt r7) | exact (Nat.ne_of_lt (Row.lt r7)).symm
          have rva := RowD.below rva hx (Nat.le_refl _)
          have rvb := RowM.below rvb hx (Nat.le_refl _)
          have rvc := RowD.below rvc hx (Nat.le_refl _)
          have rvd := RowM.below rvd hx (Nat.le_refl _)
          have r7 := Row.step r7 hx
          clear hwa hga hx
          refine take_call 3 rfl (by kernel_rfl) rfl (fun K hK => ?_)
          go_simp
          refine (tOf_arg _ (HA2.out.step b_3)).mono ?_
          rintro er w_4 ⟨ua, ub, uc, ud, ya, yc, rfl, rua, rub, ruc, rud, suac, subd, hx⟩
          have b_4 : Below w1.heap.size w1 w_4 := Below.trans b_3 (Below.mono hx (Below.size b_3))
          have rua := RowD.mono rua (Below.size b_3)
          have rub := RowM.mono rub (Below.size b_3)
          have ruc := RowD.mono ruc (Below.size b_3)
          have rud := RowM.mono rud (Below.size b_3)
          have rva := RowD.below rva hx (Nat.le_refl _)
          have rvb := RowM.below rvb hx (Nat.le_refl _)
          have rvc := RowD.below rvc hx (Nat.le_refl _)
          have rvd := RowM.below rvd hx (Nat.le_refl _)
          have r7 := Row.step r7 hx
          have r6 := Row.step r6 hx
          clear hx
          try dsimp only
          try clear hHeld
          refine hK.out _ _ ⟨R2.out.below b_4 R2.out.lt, R3.out.below b_4 R3.out.lt⟩ (fun hHeld => ?_)
          clear hK K
          try simp only [Act.put, List.setIfInBounds_toArray, List.set_cons_zero, List.set_cons_succ]
          refine take_call 6 rfl (by kernel_rfl) rfl (fun K hK => ?_)
          refine wp_store_whole 30 (.tmp 6) (.tmp 23) rfl g6 30 zTr [va, vb, vc, vd, .slice none 0 0] rfl rfl r6 HIF.out rfl (one_list rva rvb rvc rvd) ?_
          intro wA qg6 gqg6
          have bA : Below w1.heap.size w1 wA := Below.grown b_4 gqg6 (Below.size b_4) (fun k hk => by cases hk; exact hlg6)
          try dsimp only
          try clear hHeld
          refine hK.out _ _ ⟨R2.out.below bA R2.out.lt, R3.out.below bA R3.out.lt⟩ (fun hHeld => ?_)
          clear hK K
          try simp only [Act.put]
          have r7A := row_k r7 gqg6 hne67.symm
          refine take_call 7 rfl (by kernel_rfl) rfl (fun K hK => ?_)
          refine wp_store_whole 30 (.tmp 7) (.tmp 25) rfl g7 30 zTr [ua, ub, uc, ud, .slice none 0 0] rfl rfl r7A HIF.out rfl (one_list rua rub ruc rud) ?_
          intro wB qg7 gqg7
          have bB : Below w1.heap.size w1 wB := Below.grown bA gqg7 (Below.size bA) (fun k hk => by cases hk; exact hlg7)
          try dsimp only
          try clear hHeld
          refine hK.out _ _ ⟨R2.out.below bB R2.out.lt, R3.out.below bB R3.out.lt⟩ (fun hHeld => ?_)
          clear hK K
          try simp only [Act.put]
          have HTU := two_traces r6 r7 hne67 rva rvb rvc rvd svac svbd rua rub qg6 gqg6 qg7 gqg7
          refine wpAnyH_done (by kernel_rfl) ?_ _
          try clear hHeld
          go_wp2
          go_meet
          case rel => exact ⟨g6, g7, va, vb, vc, vd, ua, ub, uc, ud, xa, xc, ya, rfl, rfl, hne67, hlg6, HTU.1, HTU.2, bB⟩
    · have b_1 : Below w1.heap.size w1 (w1.drew.alloc (.cells zTr.toArray 30)) := Below.alloc b0 (Below.size b0) _
      have r6 : Row (w1.drew.alloc (.cells zTr.toArray 30)) w1.heap.size 30 zTr := heap_alloc_new _ _
      have hx : Below (World.heap w1.drew).size w1.drew (w1.drew.alloc (.cells zTr.toArray 30)) := Below.alloc (Below.refl _ _) (Nat.le_refl _) _
      go_simp
      try clear hHeld
      refine hK.out _ (w1.drew.alloc (.cells zTr.toArray 30)) ⟨R2.out.below b_1 R2.out.lt, R3.out.below b_1 R3.out.lt⟩ (fun hHeld => ?_)
      clear hK K
      try simp only [Act.put, List.setIfInBounds_toArray, List.set_cons_zero, List.set_cons_succ]
      obtain ⟨w_1, hwa⟩ : ∃ wa, wa = (w1.drew.alloc (.cells zTr.toArray 30)) := ⟨_, rfl⟩
      obtain ⟨g6, hga⟩ : ∃ g, g = w1.heap.size := ⟨_, rfl⟩
      rw [← hwa] at b_1 r6 hx hHeld ⊢
      rw [← hga] at r6 ⊢
      have hlg6 : w1.heap.size ≤ g6 := by rw [hga]; first | exact Below.size b0 | exact Nat.le_refl _
      clear hwa hga hx
      refine take_two 1 5 rfl rfl (by kernel_rfl) rfl rfl (fun K hK => ?_) (fun K hK => ?_)
      · go_simp
        refine (tOf_arg _ (HA1.out.step b_1)).mono ?_
        rintro er w_2 ⟨va, vb, vc, vd, xa, xc, rfl, rva, rvb, rvc, rvd, svac, svbd, hx⟩
        have b_2 : Below w1.heap.size w1 w_2 := Below.trans b_1 (Below.mono hx (Below.size b_1))
        have rva := RowD.mono rva (Below.size b_1)
        have rvb := RowM.mono rvb (Below.size b_1)
        have rvc := RowD.mono rvc (Below.size b_1)
        have rvd := RowM.mono rvd (Below.size b_1)
        have r6 := Row.step r6 hx
        clear hx
        try dsimp only
        try clear hHeld
        refine hK.out _ _ ⟨R2.out.below b_2 R2.out.lt, R3.out.below b_2 R3.out.lt⟩ (fun hHeld => ?_)
        clear hK K
        try simp only [Act.put, List.setIfInBounds_toArray, List.set_cons_zero, List.set_cons_succ]
        refine take_two 3 5 rfl rfl (by kernel_rfl) rfl rfl (fun K hK => ?_) (fun K hK => ?_)
        · go_simp
          refine (tOf_arg _ (HA2.out.step b_2)).mono ?_
          rintro er w_3 ⟨ua, ub, uc, ud, ya, yc, rfl, rua, rub, ruc, rud, suac, subd, hx⟩
          have b_3 : Below w1.heap.size w1 w_3 := Below.trans b_2 (Below.mono hx (Below.size b_2))
          have rua := RowD.mono rua (Below.size b_2)
          have rub := RowM.mono rub (Below.size b_2)
          have ruc := RowD.mono ruc (Below.size b_2)
          have rud := RowM.mono rud (Below.size b_2)
          have r6 := Row.step r6 hx
          have rva := RowD.below rva hx (Nat.le_refl _)
          have rvb := RowM.below rvb hx (Nat.le_refl _)
          have rvc := RowD.below rvc hx (Nat.le_refl _)
          have rvd := RowM.below rvd hx (Nat.le_refl _)
          clear hx
          try dsimp only
          try clear hHeld
          refine hK.out _ _ ⟨R2.out.below b_3 R2.out.lt, R3.out.below b_3 R3.out.lt⟩ (fun hHeld => ?_)
          clear hK K
          try simp only [Act.put, List.setIfInBounds_toArray, List.set_cons_zero, List.set_cons_succ]
          refine take_call 5 rfl (by kernel_rfl) rfl (fun K hK => ?_)
          have b_4 : Below w1.heap.size w1 (w_3.alloc (.cells zTr.toArray 30)) := Below.alloc b_3 (Below.size b_3) _
          have r7 : Row (w_3.alloc (.cells zTr.toArray 30)) w_3.heap.size 30 zTr := heap_alloc_new _ _
          have hx : Below (World.heap w_3).size w_3 (w_3.alloc (.cells zTr.toArray 30)) := Below.alloc (Below.refl _ _) (Nat.le_refl _) _
          go_simp
          try clear hHeld
          refine hK.out _ (w_3.alloc (.cells zTr.toArray 30)) ⟨R2.out.below b_4 R2.out.lt, R3.out.below b_4 R3.out.lt⟩ (fun hHeld => ?_)
          clear hK K
          try simp only [Act.put, List.setIfInBounds_toArray, List.set_cons_zero, List.set_cons_succ]
          obtain ⟨w_4, hwa⟩ : ∃ wa, wa = (w_3.alloc (.cells zTr.toArray 30)) := ⟨_, rfl⟩
          obtain ⟨g7, hga⟩ : ∃ g, g = w_3.heap.size := ⟨_, rfl⟩
          rw [← hwa] at b_4 r7 hx hHeld ⊢
          rw [← hga] at r7 ⊢
          have hlg7 : w1.heap.size ≤ g7 := by rw [hga]; first | exact Below.size b_3 | exact Nat.le_refl _
          have hne67 : g6 ≠ g7 := by rw [hga]; first | exact Nat.ne_of_lt (Row.lt r6) | exact (Nat.ne_of_lt (Row.lt r6)).symm
          have r6 := Row.step r6 hx
          have rva := RowD.below rva hx (Nat.le_refl _)
          have rvb := RowM.below rvb hx (Nat.le_refl _)
          have rvc := RowD.below rvc hx (Nat.le_refl _)
          have rvd := RowM.below rvd hx (Nat.le_refl _)
          have rua := RowD.below rua hx (Nat.le_refl _)
          have rub := RowM.below rub hx (Nat.le_refl _)
          have ruc := RowD.below ruc hx (Nat.le_refl _)
          have rud := RowM.below rud hx (Nat.le_refl _)
          clear hwa hga hx
          refine take_call 6 rfl (by kernel_rfl) rfl (fun K hK => ?_)
          refine wp_store_whole 30 (.tmp 6) (.tmp 23) rfl g6 30 zTr [va, vb, vc, vd, .slice none 0 0] rfl rfl r6 HIF.out rfl (one_list rva rvb rvc rvd) ?_
          intro wA qg6 gqg6
          have bA : Below w1.heap.size w1 wA := Below.grown b_4 gqg6 (Below.size b_4) (fun k hk => by cases hk; exact hlg6)
          try dsimp only
          try clear hHeld
          refine hK.out _ _ ⟨R2.out.below bA R2.out.lt, R3.out.below bA R3.out.lt⟩ (fun hHeld => ?_)
          clear hK K
          try simp only [Act.put]
          have r7A := row_k r7 gqg6 hne67.symm
          refine take_call 7 rfl (by kernel_rfl) rfl (fun K hK => ?_)
          refine wp_store_whole 30 (.tmp 7) (.tmp 25) rfl g7 30 zTr [ua, ub, uc, ud, .slice none 0 0] rfl rfl r7A HIF.out rfl (one_list rua rub ruc rud) ?_
          intro wB qg7 gqg7
          have bB : Below w1.heap.size w1 wB := Below.grown bA gqg7 (Below.size bA) (fun k hk => by cases hk; exact hlg7)
          try dsimp only
          try clear hHeld
          refine hK.out _ _ ⟨R2.out.below bB R2.out.lt, R3.out.below bB R3.out.lt⟩ (fun hHeld => ?_)
          clear hK K
          try simp only [Act.put]
          have HTU := two_traces r6 r7 hne67 rva rvb rvc rvd svac svbd rua rub qg6 gqg6 qg7 gqg7
          refine wpAnyH_done (by kernel_rfl) ?_ _
          try clear hHeld
          go_wp2
          go_meet
          case rel => exact ⟨g6, g7, va, vb, vc, vd, ua, ub, uc, ud, xa, xc, ya, rfl, rfl, hne67, hlg6, HTU.1, HTU.2, bB⟩
        · have b_3 : Below w1.heap.size w1 (w_2.alloc (.cells zTr.toArray 30)) := Below.alloc b_2 (Below.size b_2) _
          have r7 : Row (w_2.alloc (.cells zTr.toArray 30)) w_2.heap.size 30 zTr := heap_alloc_new _ _
          have hx : Below (World.heap w_2).size w_2 (w_2.alloc (.cells zTr.toArray 30)) := Below.alloc (Below.refl _ _) (Nat.le_refl _) _
          go_simp
          try clear hHeld
          refine hK.out _ (w_2.alloc (.cells zTr.toArray 30)) ⟨R2.out.below b_3 R2.out.lt, R3.out.below b_3 R3.out.lt⟩ (fun hHeld => ?_)
          clear hK K
          try simp only [Act.put, List.setIfInBounds_toArray, List.set_cons_zero, List.set_cons_succ]
          obtain ⟨w_3, hwa⟩ : ∃ wa, wa = (w_2.alloc (.cells zTr.toArray 30)) := ⟨_, rfl⟩
          obtain ⟨g7, hga⟩ : ∃ g, g = w_2.heap.size := ⟨_, rfl⟩
          rw [← hwa] at b_3 r7 hx hHeld ⊢
          rw [← hga] at r7 ⊢
          have hlg7 : w1.heap.size ≤ g7 := by rw [hga]; first | exact Below.size b_2 | exact Nat.le_refl _
          have hne67 : g6 ≠ g7 := by rw [hga]; first | exact Nat.ne_of_lt (Row.lt r6) | exact (Nat.ne_of_lt (Row.lt r6)).symm
          have r6 := Row.step r6 hx
          have rva := RowD.below rva hx (Nat.le_refl _)
          have rvb := RowM.below rvb hx (Nat.le_refl _)
          have rvc := RowD.below rvc hx (Nat.le_refl _)
          have rvd := RowM.below rvd hx (Nat.le_refl _)
          clear hwa hga hx
          refine take_call 3 rfl (by kernel_rfl) rfl (fun K hK => ?_)
          go_simp
          refine (tOf_arg _ (HA2.out.step b_3)).mono ?_
          rintro er w_4 ⟨ua, ub, uc, ud, ya, yc, rfl, rua, rub, ruc, rud, suac, subd, hx⟩
          have b_4 : Below w1.heap.size w1 w_4 := Below.trans b_3 (Below.mono hx (Below.size b_3))
          have rua := RowD.mono rua (Below.size b_3)
          have rub := RowM.mono rub (Below.size b_3)
          have ruc := RowD.mono ruc (Below.size b_3)
          have rud := RowM.mono rud (Below.size b_3)
          have r6 := Row.step r6 hx
          have rva := RowD.below rva hx (Nat.le_refl _)
          have rvb := RowM.below rvb hx (Nat.le_refl _)
          have rvc := RowD.below rvc hx (Nat.le_refl _)
          have rvd := RowM.below rvd hx (Nat.le_refl _)
          have r7 := Row.step r7 hx
          clear hx
          try dsimp only
          try clear hHeld
          refine hK.out _ _ ⟨R2.out.below b_4 R2.out.lt, R3.out.below b_4 R3.out.lt⟩ (fun hHeld => ?_)
          clear hK K
          try simp only [Act.put, List.setIfInBounds_toArray, List.set_cons_zero, List.set_cons_succ]
          refine take_call 6 rfl (by kernel_rfl) rfl (fun K hK => ?_)
          refine wp_store_whole 30 (.tmp 6) (.tmp 23) rfl g6 30 zTr [va, vb, vc, vd, .slice none 0 0] rfl rfl r6 HIF.out rfl (one_list rva rvb rvc rvd) ?_
          intro wA qg6 gqg6
          have bA : Below w1.heap.size w1 wA := Below.grown b_4 gqg6 (Below.size b_4) (fun k hk => by cases hk; exact hlg6)
          try dsimp only
          try clear hHeld
          refine hK.out _ _ ⟨R2.out.below bA R2.out.lt, R3.out.below bA R3.out.lt⟩ (fun hHeld => ?_)
          clear hK K
          try simp only [Act.put]
          have r7A := row_k r7 gqg6 hne67.symm
          refine take_call 7 rfl (by kernel_rfl) rfl (fun K hK => ?_)
          refine wp_store_whole 30 (.tmp 7) (.tmp 25) rfl g7 30 zTr [ua, ub, uc, ud, .slice none 0 0] rfl rfl r7A HIF.out rfl (one_list rua rub ruc rud) ?_
          intro wB qg7 gqg7
          have bB : Below w1.heap.size w1 wB := Below.grown bA gqg7 (Below.size bA) (fun k hk => by cases hk; exact hlg7)
          try dsimp only
          try clear hHeld
          refine hK.out _ _ ⟨R2.out.below bB R2.out.lt, R3.out.below bB R3.out.lt⟩ (fun hHeld => ?_)
          clear hK K
          try simp only [Act.put]
          have HTU := two_traces r6 r7 hne67 rva rvb rvc rvd svac svbd rua rub qg6 gqg6 qg7 gqg7
          refine wpAnyH_done (by kernel_rfl) ?_ _
          try clear hHeld
          go_wp2
          go_meet
          case rel => exact ⟨g6, g7, va, vb, vc, vd, ua, ub, uc, ud, xa, xc, ya, rfl, rfl, hne67, hlg6, HTU.1, HTU.2, bB⟩
      · have b_2 : Below w1.heap.size w1 (w_1.alloc (.cells zTr.toArray 30)) := Below.alloc b_1 (Below.size b_1) _
        have r7 : Row (w_1.alloc (.cells zTr.toArray 30)) w_1.heap.size 30 zTr := heap_alloc_new _ _
        have hx : Below (World.heap w_1).size w_1 (w_1.alloc (.cells zTr.toArray 30)) := Below.alloc (Below.refl _ _) (Nat.le_refl _) _
        go_simp
        try clear hHeld
        refine hK.out _ (w_1.alloc (.cells zTr.toArray 30)) ⟨R2.out.below b_2 R2.out.lt, R3.out.below b_2 R3.out.lt⟩ (fun hHeld => ?_)
        clear hK K
        try simp only [Act.put, List.setIfInBounds_toArray, List.set_cons_zero, List.set_cons_succ]
        obtain ⟨w_2, hwa⟩ : ∃ wa, wa = (w_1.alloc (.cells zTr.toArray 30)) := ⟨_, rfl⟩
        obtain ⟨g7, hga⟩ : ∃ g, g = w_1.heap.size := ⟨_, rfl⟩
        rw [← hwa] at b_2 r7 hx hHeld ⊢
        rw [← hga] at r7 ⊢
        have hlg7 : w1.heap.size ≤ g7 := by rw [hga]; first | exact Below.size b_1 | exact Nat.le_refl _
        have hne67 : g6 ≠ g7 := by rw [hga]; first | exact Nat.ne_of_lt (Row.lt r6) | exact (Nat.ne_of_lt (Row.lt r6)).symm
        have r6 := Row.step r6 hx
        clear hwa hga hx
        refine take_call 1 rfl (by kernel_rfl) rfl (fun K hK => ?_)
        go_simp
        refine (tOf_arg _ (HA1.out.step b_2)).mono ?_
        rintro er w_3 ⟨va, vb, vc, vd, xa, xc, rfl, rva, rvb, rvc, rvd, svac, svbd, hx⟩
        have b_3 : Below w1.heap.size w1 w_3 := Below.trans b_2 (Below.mono hx (Below.size b_2))
        have rva := RowD.mono rva (Below.size b_2)
        have rvb := RowM.mono rvb (Below.size b_2)
        have rvc := RowD.mono rvc (Below.size b_2)
        have rvd := RowM.mono rvd (Below.size b_2)
        have r6 := Row.step r6 hx
        have r7 := Row.step r7 hx
        clear hx
        try dsimp only
        try clear hHeld
        refine hK.out _ _ ⟨R2.out.below b_3 R2.out.lt, R3.out.below b_3 R3.out.lt⟩ (fun hHeld => ?_)
        clear hK K
        try simp only [Act.put, List.setIfInBounds_toArray, List.set_cons_zero, List.set_cons_succ]
        refine take_call 3 rfl (by kernel_rfl) rfl (fun K hK => ?_)
        go_simp
        refine (tOf_arg _ (HA2.out.step b_3)).mono ?_
        rintro er w_4 ⟨ua, ub, uc, ud, ya, yc, rfl, rua, rub, ruc, rud, suac, subd, hx⟩
        have b_4 : Below w1.heap.size w1 w_4 := Below.trans b_3 (Below.mono hx (Below.size b_3))
        have rua := RowD.mono rua (Below.size b_3)
        have rub := RowM.mono rub (Below.size b_3)
        have ruc := RowD.mono ruc (Below.size b_3)
        have rud := RowM.mono rud (Below.size b_3)
        have r6 := Row.step r6 hx
        have r7 := Row.step r7 hx
        have rva := RowD.below rva hx (Nat.le_refl _)
        have rvb := RowM.below rvb hx (Nat.le_refl _)
        have rvc := RowD.below rvc hx (Nat.le_refl _)
        have rvd := RowM.below rvd hx (Nat.le_refl _)
        clear hx
        try dsimp only
        try clear hHeld
        refine hK.out _ _ ⟨R2.out.below b_4 R2.out.lt, R3.out.below b_4 R3.out.lt⟩ (fun hHeld => ?_)
        clear hK K
        try simp only [Act.put, List.setIfInBounds_toArray, List.set_cons_zero, List.set_cons_succ]
        refine take_call 6 rfl (by kernel_rfl) rfl (fun K hK => ?_)
        refine wp_store_whole 30 (.tmp 6) (.tmp 23) rfl g6 30 zTr [va, vb, vc, vd, .slice none 0 0] rfl rfl r6 HIF.out rfl (one_list rva rvb rvc rvd) ?_
        intro wA qg6 gqg6
        have bA : Below w1.heap.size w1 wA := Below.grown b_4 gqg6 (Below.size b_4) (fun k hk => by cases hk; exact hlg6)
        try dsimp only
        try clear hHeld
        refine hK.out _ _ ⟨R2.out.below bA R2.out.lt, R3.out.below bA R3.out.lt⟩ (fun hHeld => ?_)
        clear hK K
        try simp only [Act.put]
        have r7A := row_k r7 gqg6 hne67.symm
        refine take_call 7 rfl (by kernel_rfl) rfl (fun K hK => ?_)
        refine wp_store_whole 30 (.tmp 7) (.tmp 25) rfl g7 30 zTr [ua, ub, uc, ud, .slice none 0 0] rfl rfl r7A HIF.out rfl (one_list rua rub ruc rud) ?_
        intro wB qg7 gqg7
        have bB : Below w1.heap.size w1 wB := Below.grown bA gqg7 (Below.size bA) (fun k hk => by cases hk; exact hlg7)
        try dsimp only
        try clear hHeld
        refine hK.out _ _ ⟨R2.out.below bB R2.out.lt, R3.out.below bB R3.out.lt⟩ (fun hHeld => ?_)
        clear hK K
        try simp only [Act.put]
        have HTU := two_traces r6 r7 hne67 rva rvb rvc rvd svac svbd rua rub qg6 gqg6 qg7 gqg7
        refine wpAnyH_done (by kernel_rfl) ?_ _
        try clear hHeld
        go_wp2
        go_meet
        case rel => exact ⟨g6, g7, va, vb, vc, vd, ua, ub, uc, ud, xa, xc, ya, rfl, rfl, hne67, hlg6, HTU.1, HTU.2, bB⟩
    · have b_1 : Below w1.heap.size w1 (w1.drew.alloc (.cells zTr.toArray 30)) := Below.alloc b0 (Below.size b0) _
      have r7 : Row (w1.drew.alloc (.cells zTr.toArray 30)) w1.heap.size 30 zTr := heap_alloc_new _ _
      have hx : Below (World.heap w1.drew).size w1.drew (w1.drew.alloc (.cells zTr.toArray 30)) := Below.alloc (Below.refl _ _) (Nat.le_refl _) _
      go_simp
      try clear hHeld
      refine hK.out _ (w1.drew.alloc (.cells zTr.toArray 30)) ⟨R2.out.below b_1 R2.out.lt, R3.out.below b_1 R3.out.lt⟩ (fun hHeld => ?_)
      clear hK K
      try simp only [Act.put, List.setIfInBounds_toArray, List.set_cons_zero, List.set_cons_succ]
      obtain ⟨w_1, hwa⟩ : ∃ wa, wa = (w1.drew.alloc (.cells zTr.toArray 30)) := ⟨_, rfl⟩
      obtain ⟨g7, hga⟩ : ∃ g, g = w1.heap.size := ⟨_, rfl⟩
      rw [← hwa] at b_1 r7 hx hHeld ⊢
      rw [← hga] at r7 ⊢
      have hlg7 : w1.heap.size ≤ g7 := by rw [hga]; first | exact Below.size b0 | exact Nat.le_refl _
      clear hwa hga hx
      refine take_two 1 4 rfl rfl (by kernel_rfl) rfl rfl (fun K hK => ?_) (fun K hK => ?_)
      · go_simp
        refine (tOf_arg _ (HA1.out.step b_1)).mono ?_
        rintro er w_2 ⟨va, vb, vc, vd, xa, xc, rfl, rva, rvb, rvc, rvd, svac, svbd, hx⟩
        have b_2 : Below w1.heap.size w1 w_2 := Below.trans b_1 (Below.mono hx (Below.size b_1))
        have rva := RowD.mono rva (Below.size b_1)
        have rvb := RowM.mono rvb (Below.size b_1)
        have rvc := RowD.mono rvc (Below.size b_1)
        have rvd := RowM.mono rvd (Below.size b_1)
        have r7 := Row.step r7 hx
        clear hx
        try dsimp only
        try clear hHeld
        refine hK.out _ _ ⟨R2.out.below b_2 R2.out.lt, R3.out.below b_2 R3.out.lt⟩ (fun hHeld => ?_)
        clear hK K
        try simp only [Act.put, List.setIfInBounds_toArray, List.set_cons_zero, List.set_cons_succ]
        refine take_two 3 4 rfl rfl (by kernel_rfl) rfl rfl (fun K hK => ?_) (fun K hK => ?_)
        · go_simp
          refine (tOf_arg _ (HA2.out.step b_2)).mono ?_
          rintro er w_3 ⟨ua, ub, uc, ud, ya, yc, rfl, rua, rub, ruc, rud, suac, subd, hx⟩
          have b_3 : Below w1.heap.size w1 w_3 := Below.trans b_2 (Below.mono hx (Below.size b_2))
          have rua := RowD.mono rua (Below.size b_2)
          have rub := RowM.mono rub (Below.size b_2)
          have ruc := RowD.mono ruc (Below.size b_2)
          have rud := RowM.mono rud (Below.size b_2)
          have r7 := Row.step r7 hx
          have rva := RowD.below rva hx (Nat.le_refl _)
          have rvb := RowM.below rvb hx (Nat.le_refl _)
          have rvc := RowD.below rvc hx (Nat.le_refl _)
          have rvd := RowM.below rvd hx (Nat.le_refl _)
          clear hx
          try dsimp only
          try clear hHeld
          refine hK.out _ _ ⟨R2.out.below b_3 R2.out.lt, R3.out.below b_3 R3.out.lt⟩ (fun hHeld => ?_)
          clear hK K
          try simp only [Act.put, List.setIfInBounds_toArray, List.set_cons_zero, List.set_cons_succ]
          refine take_call 4 rfl (by kernel_rfl) rfl (fun K hK => ?_)
          have b_4 : Below w1.heap.size w1 (w_3.alloc (.cells zTr.toArray 30)) := Below.alloc b_3 (Below.size b_3) _
          have r6 : Row (w_3.alloc (.cells zTr.toArray 30)) w_3.heap.size 30 zTr := heap_alloc_new _ _
          have hx : Below (World.heap w_3).size w_3 (w_3.alloc (.cells zTr.toArray 30)) := Below.alloc (Below.refl _ _) (Nat.le_refl _) _
          go_simp
          try clear hHeld
          refine hK.out _ (w_3.alloc (.cells zTr.toArray 30)) ⟨R2.out.below b_4 R2.out.lt, R3.out.below b_4 R3.out.lt⟩ (fun hHeld => ?_)
          clear hK K
          try simp only [Act.put, List.setIfInBounds_toArray, List.set_cons_zero, List.set_cons_succ]
          obtain ⟨w_4, hwa⟩ : ∃ wa, wa = (w_3.alloc (.cells zTr.toArray 30)) := ⟨_, rfl⟩
          obtain ⟨g6, hga⟩ : ∃ g, g = w_3.heap.size := ⟨_, rfl⟩
          rw [← hwa] at b_4 r6 hx hHeld ⊢
          rw [← hga] at r6 ⊢
          have hlg6 : w1.heap.size ≤ g6 := by rw [hga]; first | exact Below.size b_3 | exact Nat.le_refl _
          have hne67 : g6 ≠ g7 := by rw [hga]; first | exact Nat.ne_of_lt (Row.lt r7) | exact (Nat.ne_of_lt (Row.lt r7)).symm
          have r7 := Row.step r7 hx
          have rva := RowD.below rva hx (Nat.le_refl _)
          have rvb := RowM.below rvb hx (Nat.le_refl _)
          have rvc := RowD.below rvc hx (Nat.le_refl _)
          have rvd := RowM.below rvd hx (Nat.le_refl _)
          have rua := RowD.below rua hx (Nat.le_refl _)
          have rub := RowM.below rub hx (Nat.le_refl _)
          have ruc := RowD.below ruc hx (Nat.le_refl _)
          have rud := RowM.below rud hx (Nat.le_refl _)
          clear hwa hga hx
          refine take_call 6 rfl (by kernel_rfl) rfl (fun K hK => ?_)
          refine wp_store_whole 30 (.tmp 6) (.tmp 23) rfl g6 30 zTr [va, vb, vc, vd, .slice none 0 0] rfl rfl r6 HIF.out rfl (one_list rva rvb rvc rvd) ?_
          intro wA qg6 gqg6
          have bA : Below w1.heap.size w1 wA := Below.grown b_4 gqg6 (Below.size b_4) (fun k hk => by cases hk; exact hlg6)
          try dsimp only
          try clear hHeld
          refine hK.out _ _ ⟨R2.out.below bA R2.out.lt, R3.out.below bA R3.out.lt⟩ (fun hHeld => ?_)
          clear hK K
          try simp only [Act.put]
          have r7A := row_k r7 gqg6 hne67.symm
          refine take_call 7 rfl (by kernel_rfl) rfl (fun K hK => ?_)
          refine wp_store_whole 30 (.tmp 7) (.tmp 25) rfl g7 30 zTr [ua, ub, uc, ud, .slice none 0 0] rfl rfl r7A HIF.out rfl (one_list rua rub ruc rud) ?_
          intro wB qg7 gqg7
          have bB : Below w1.heap.size w1 wB := Below.grown bA gqg7 (Below.size bA) (fun k hk => by cases hk; exact hlg7)
          try dsimp only
          try clear hHeld
          refine hK.out _ _ ⟨R2.out.below bB R2.out.lt, R3.out.below bB R3.out.lt⟩ (fun hHeld => ?_)
          clear hK K
          try simp only [Act.put]
          have HTU := two_traces r6 r7 hne67 rva rvb rvc rvd svac svbd rua rub qg6 gqg6 qg7 gqg7
          refine wpAnyH_done (by kernel_rfl) ?_ _
          try clear hHeld
          go_wp2
          go_meet
          case rel => exact ⟨g6, g7, va, vb, vc, vd, ua, ub, uc, ud, xa, xc, ya, rfl, rfl, hne67, hlg6, HTU.1, HTU.2, bB⟩
        · have b_3 : Below w1.heap.size w1 (w_2.alloc (.cells zTr.toArray 30)) := Below.alloc b_2 (Below.size b_2) _
          have r6 : Row (w_2.alloc (.cells zTr.toArray 30)) w_2.heap.size 30 zTr := heap_alloc_new _ _
          have hx : Below (World.heap w_2).size w_2 (w_2.alloc (.cells zTr.toArray 30)) := Below.alloc (Below.refl _ _) (Nat.le_refl _) _
          go_simp
          try clear hHeld
          refine hK.out _ (w_2.alloc (.cells zTr.toArray 30)) ⟨R2.out.below b_3 R2.out.lt, R3.out.below b_3 R3.out.lt⟩ (fun hHeld => ?_)
          clear hK K
          try simp only [Act.put, List.setIfInBounds_toArray, List.set_cons_zero, List.set_cons_succ]
          obtain ⟨w_3, hwa⟩ : ∃ wa, wa = (w_2.alloc (.cells zTr.toArray 30)) := ⟨_, rfl⟩
          obtain ⟨g6, hga⟩ : ∃ g, g = w_2.heap.size := ⟨_, rfl⟩
          rw [← hwa] at b_3 r6 hx hHeld ⊢
          rw [← hga] at r6 ⊢
          have hlg6 : w1.heap.size ≤ g6 := by rw [hga]; first | exact Below.size b_2 | exact Nat.le_refl _
          have hne67 : g6 ≠ g7 := by rw [hga]; first | exact Nat.ne_of_lt (Row.lt r7) | exact (Nat.ne_of_lt (Row.lt r7)).symm
          have r7 := Row.step r7 hx
          have rva := RowD.below rva hx (Nat.le_refl _)
          have rvb := RowM.below rvb hx (Nat.le_refl _)
          have rvc := RowD.below rvc hx (Nat.le_refl _)
          have rvd := RowM.below rvd hx (Nat.le_refl _)
          clear hwa hga hx
          refine take_call 3 rfl (by kernel_rfl) rfl (fun K hK => ?_)
          go_simp
          refine (tOf_arg _ (HA2.out.step b_3)).mono ?_
          rintro er w_4 ⟨ua, ub, uc, ud, ya, yc, rfl, rua, rub, ruc, rud, suac, subd, hx⟩
          have b_4 : Below w1.heap.size w1 w_4 := Below.trans b_3 (Below.mono hx (Below.size b_3))
          have rua := RowD.mono rua (Below.size b_3)
          have rub := RowM.mono rub (Below.size b_3)
          have ruc := RowD.mono ruc (Below.size b_3)
          have rud := RowM.mono rud (Below.size b_3)
          have r7 := Row.step r7 hx
          have rva := RowD.below rva hx (Nat.le_refl _)
          have rvb := RowM.below rvb hx (Nat.le_refl _)
          have rvc := RowD.below rvc hx (Nat.le_refl _)
          have rvd := RowM.below rvd hx (Nat.le_refl _)
          have r6 := Row.step r6 hx
          clear hx
          try dsimp only
          try clear hHeld
          refine hK.out _ _ ⟨R2.out.below b_4 R2.out.lt, R3.out.below b_4 R3.out.lt⟩ (fun hHeld => ?_)
          clear hK K
          try simp only [Act.put, List.setIfInBounds_toArray, List.set_cons_zero, List.set_cons_succ]
          refine take_call 6 rfl (by kernel_rfl) rfl (fun K hK => ?_)
          refine wp_store_whole 30 (.tmp 6) (.tmp 23) rfl g6 30 zTr [va, vb, vc, vd, .slice none 0 0] rfl rfl r6 HIF.out rfl (one_list rva rvb rvc rvd) ?_
          intro wA qg6 gqg6
          have bA : Below w1.heap.size w1 wA := Below.grown b_4 gqg6 (Below.size b_4) (fun k hk => by cases hk; exact hlg6)
          try dsimp only
          try clear hHeld
          refine hK.out _ _ ⟨R2.out.below bA R2.out.lt, R3.out.below bA R3.out.lt⟩ (fun hHeld => ?_)
          clear hK K
          try simp only [Act.put]
          have r7A := row_k r7 gqg6 hne67.symm
          refine take_call 7 rfl (by kernel_rfl) rfl (fun K hK => ?_)
          refine wp_store_whole 30 (.tmp 7) (.tmp 25) rfl g7 30 zTr [ua, ub, uc, ud, .slice none 0 0] rfl rfl r7A HIF.out rfl (one_list rua rub ruc rud) ?_
          intro wB qg7 gqg7
          have bB : Below w1.heap.size w1 wB := Below.grown bA gqg7 (Below.size bA) (fun k hk => by cases hk; exact hlg7)
          try dsimp only
          try clear hHeld
          refine hK.out _ _ ⟨R2.out.below bB R2.out.lt, R3.out.below bB R3.out.lt⟩ (fun hHeld => ?_)
          clear hK K
          try simp only [Act.put]
          have HTU := two_traces r6 r7 hne67 rva rvb rvc rvd svac svbd rua rub qg6 gqg6 qg7 gqg7
          refine wpAnyH_done (by kernel_rfl) ?_ _
          try clear hHeld
          go_wp2
          go_meet
          case rel => exact ⟨g6, g7, va, vb, vc, vd, ua, ub, uc, ud, xa, xc, ya, rfl, rfl, hne67, hlg6, HTU.1, HTU.2, bB⟩
      · have b_2 : Below w1.heap.size w1 (w_1.alloc (.cells zTr.toArray 30)) := Below.alloc b_1 (Below.size b_1) _
        have r6 : Row (w_1.alloc (.cells zTr.toArray 30)) w_1.heap.size 30 zTr := heap_alloc_new _ _
        have hx : Below (World.heap w_1).size w_1 (w_1.alloc (.cells zTr.toArray 30)) := Below.alloc (Below.refl _ _) (Nat.le_refl _) _
        go_simp
        try clear hHeld
        refine hK.out _ (w_1.alloc (.cells zTr.toArray 30)) ⟨R2.out.below b_2 R2.out.lt, R3.out.below b_2 R3.out.lt⟩ (fun hHeld => ?_)
        clear hK K
        try simp only [Act.put, List.setIfInBounds_toArray, List.set_cons_zero, List.set_cons_succ]
        obtain ⟨w_2, hwa⟩ : ∃ wa, wa = (w_1.alloc (.cells zTr.toArray 30)) := ⟨_, rfl⟩
        obtain ⟨g6, hga⟩ : ∃ g, g = w_1.heap.size := ⟨_, rfl⟩
        rw [← hwa] at b_2 r6 hx hHeld ⊢
        rw [← hga] at r6 ⊢
        have hlg6 : w1.heap.size ≤ g6 := by rw [hga]; first | exact Below.size b_1 | exact Nat.le_refl _
        have hne67 : g6 ≠ g7 := by rw [hga]; first | exact Nat.ne_of_lt (Row.lt r7) | exact (Nat.ne_of_lt (Row.lt r7)).symm
        have r7 := Row.step r7 hx
        clear hwa hga hx
        refine take_call 1 rfl (by kernel_rfl) rfl (fun K hK => ?_)
        go_simp
        refine (tOf_arg _ (HA1.out.step b_2)).mono ?_
        rintro er w_3 ⟨va, vb, vc, vd, xa, xc, rfl, rva, rvb, rvc, rvd, svac, svbd, hx⟩
        have b_3 : Below w1.heap.size w1 w_3 := Below.trans b_2 (Below.mono hx (Below.size b_2))
        have rva := RowD.mono rva (Below.size b_2)
        have rvb := RowM.mono rvb (Below.size b_2)
        have rvc := RowD.mono rvc (Below.size b_2)
        have rvd := RowM.mono rvd (Below.size b_2)
        have r7 := Row.step r7 hx
        have r6 := Row.step r6 hx
        clear hx
        try dsimp only
        try clear hHeld
        refine hK.out _ _ ⟨R2.out.below b_3 R2.out.lt, R3.out.below b_3 R3.out.lt⟩ (fun hHeld => ?_)
        clear hK K
        try simp only [Act.put, List.setIfInBounds_toArray, List.set_cons_zero, List.set_cons_succ]
        refine take_call 3 rfl (by kernel_rfl) rfl (fun K hK => ?_)
        go_simp
        refine (tOf_arg _ (HA2.out.step b_3)).mono ?_
        rintro er w_4 ⟨ua, ub, uc, ud, ya, yc, rfl, rua, rub, ruc, rud, suac, subd, hx⟩
        have b_4 : Below w1.heap.size w1 w_4 := Below.trans b_3 (Below.mono hx (Below.size b_3))
        have rua := RowD.mono rua (Below.size b_3)
        have rub := RowM.mono rub (Below.size b_3)
        have ruc := RowD.mono ruc (Below.size b_3)
        have rud := RowM.mono rud (Below.size b_3)
        have r7 := Row.step r7 hx
        have r6 := Row.step r6 hx
        have rva := RowD.below rva hx (Nat.le_refl _)
        have rvb := RowM.below rvb hx (Nat.le_refl _)
        have rvc := RowD.below rvc hx (Nat.le_refl _)
        have rvd := RowM.below rvd hx (Nat.le_refl _)
        clear hx
        try dsimp only
        try clear hHeld
        refine hK.out _ _ ⟨R2.out.below b_4 R2.out.lt, R3.out.below b_4 R3.out.lt⟩ (fun hHeld => ?_)
        clear hK K
        try simp only [Act.put, List.setIfInBounds_toArray, List.set_cons_zero, List.set_cons_succ]
        refine take_call 6 rfl (by kernel_rfl) rfl (fun K hK => ?_)
        refine wp_store_whole 30 (.tmp 6) (.tmp 23) rfl g6 30 zTr [va, vb, vc, vd, .slice none 0 0] rfl rfl r6 HIF.out rfl (one_list rva rvb rvc rvd) ?_
        intro wA qg6 gqg6
        have bA : Below w1.heap.size w1 wA := Below.grown b_4 gqg6 (Below.size b_4) (fun k hk => by cases hk; exact hlg6)
        try dsimp only
        try clear hHeld
        refine hK.out _ _ ⟨R2.out.below bA R2.out.lt, R3.out.below bA R3.out.lt⟩ (fun hHeld => ?_)
        clear hK K
        try simp only [Act.put]
        have r7A := row_k r7 gqg6 hne67.symm
        refine take_call 7 rfl (by kernel_rfl) rfl (fun K hK => ?_)
        refine wp_store_whole 30 (.tmp 7) (.tmp 25) rfl g7 30 zTr [ua, ub, uc, ud, .slice none 0 0] rfl rfl r7A HIF.out rfl (one_list rua rub ruc rud) ?_
        intro wB qg7 gqg7
        have bB : Below w1.heap.size w1 wB := Below.grown bA gqg7 (Below.size bA) (fun k hk => by cases hk; exact hlg7)
        try dsimp only
        try clear hHeld
        refine hK.out _ _ ⟨R2.out.below bB R2.out.lt, R3.out.below bB R3.out.lt⟩ (fun hHeld => ?_)
        clear hK K
        try simp only [Act.put]
        have HTU := two_traces r6 r7 hne67 rva rvb rvc rvd svac svbd rua rub qg6 gqg6 qg7 gqg7
        refine wpAnyH_done (by kernel_rfl) ?_ _
        try clear hHeld
        go_wp2
        go_meet
        case rel => exact ⟨g6, g7, va, vb, vc, vd, ua, ub, uc, ud, xa, xc, ya, rfl, rfl, hne67, hlg6, HTU.1, HTU.2, bB⟩
  case rest =>
    obtain ⟨g6, g7, va, vb, vc, vd, ua, ub, uc, ud, xa, xc, ya, rfl, rfl, hne, hg6, ts, us, hb⟩ := hcut
    rename World => w2
    have T := Lib.hid ts
    have U := Lib.hid us
    have RK := Lib.hid (RK1.out.below hb RK1.out.lt)
    have BB := Lib.hid (B1.out.trans (hb.mono B1.out.size))
    have NE := Lib.hid hne
    have HG6 : Hid (w.heap.size ≤ g6) := Lib.hid (Nat.le_trans B1.out.size hg6)
    have HB1 : Hid (w.heap.size ≤ w1.heap.size) := Lib.hid B1.out.size
    have BS : Hid (w1.heap.size ≤ w2.heap.size) := Lib.hid hb.size
    clear ts us hb hne hg6 RK1 B1 R2 R3 HA1 HA2 HLL
    go_wp2_with (refine wpList_load_row rfl 30 (.tmp 6) rfl g6 rfl 30 [va, vb, vc, vd, Value.slice none 0 0].toArray (0, 0) _ T.out.row Tryd.underlying30 rfl HIF.out ?_)
    refine (collision_any (la) lc (xa) xc (va) (vb) (vc) (vd) _ w2 (HG.out.step BB.out) (by have := LA.out; omega) (by have := LC.out; omega) T.out.a.digs T.out.c.digs).mono ?_
    intro er w3 hres
    obtain ⟨p1, p2, a, rfl, ha1, ha0, hbx⟩ := hres.bool
    clear hres
    have Hha1 := Lib.hid ha1
    have Hha0 := Lib.hid ha0
    clear ha1 ha0
    have T_1 := Lib.hid (T.out.step hbx)
    have U_1 := Lib.hid (U.out.step hbx)
    have RK_1 := Lib.hid (RK.out.step hbx)
    have BB_1 := Lib.hid (BB.out.trans (hbx.mono BB.out.size))
    have BS_1 := Lib.hid (Nat.le_trans BS.out (Below.size hbx))
    clear T U RK BB BS
    clear hbx
    go_wp2_with (first
      | (refine wpList_load_row rfl 30 (.tmp 6) rfl g6 rfl 30 [va, vb, vc, vd, Value.slice none 0 0].toArray (0, 0) _ T_1.out.row Tryd.underlying30 rfl HIF.out ?_)
      | (refine wpList_load_row rfl 58 (.tmp 5) rfl gk rfl 58 (cells8 (ek ++ mk)).toArray (0, 0) _ RK_1.out Tryd.underlying58 rfl HIV2.out ?_))
    refine (forgery_any ek mk (lb) ld (va) (vb) (vc) (vd) _ w3 HEK.out HMK.out T_1.out.b.1 T_1.out.d.1 (by have := LB.out; omega) (by have := LD.out; omega) (HG.out.step BB_1.out) (own_mono T_1.out.b.2 (Nat.zero_le _)) (own_mono T_1.out.d.2 (Nat.zero_le _))).mono ?_
    intro er w4 hres
    obtain ⟨m, b, rfl, hmo, hb1, hb0, hbx⟩ := hres.bool T_1.out.d.1
    clear hres
    have Hhmo := Lib.hid hmo
    have Hhb1 := Lib.hid hb1
    have Hhb0 := Lib.hid hb0
    clear hmo hb1 hb0
    have T_2 := Lib.hid (T_1.out.step hbx)
    have U_2 := Lib.hid (U_1.out.step hbx)
    have RK_2 := Lib.hid (RK_1.out.step hbx)
    have BB_2 := Lib.hid (BB_1.out.trans (hbx.mono BB_1.out.size))
    have BS_2 := Lib.hid (Nat.le_trans BS_1.out (Below.size hbx))
    clear T_1 U_1 RK_1 BB_1 BS_1
    clear hbx
    have HImx := Lib.hid (show (Tryd.prog.info? 54).map (·.size) = some m.cells.length by rw [Msg.len Hhmo.out]; kernel_rfl)
    have HIm2 := Lib.hid (show (Tryd.prog.info? 54).map (·.size) = some m.cells.toArray.size by rw [List.size_toArray, Msg.len Hhmo.out]; kernel_rfl)
    have HZm := Lib.hid (show Msg.zero.cells.length = m.cells.length by rw [Msg.len Hhmo.out]; rfl)
    have HAm := Lib.hid (all_oneCell_toArray (Msg.one m))
    have N0 : ∀ e, vb.ownBlock = some e → e < w4.heap.size := fun e he => (World.ownsRow.lt T_2.out.b.2 e he).2
    have SX : Hid (Row (w4.alloc (.cells Msg.zero.cells.toArray 54)) w4.heap.size 54 Msg.zero.cells) := Lib.hid (heap_alloc_new _ _)
    go_upto_region 5 with (refine Row.store (g := w4.heap.size) (t := 54) (L := Msg.zero.cells) (M := m.cells) SX.out rfl 54 (.tmp 11) (.tmp 36) rfl rfl rfl HImx.out HZm.out HAm.out ?_; rintro w5 hw5 r11; have b_w5 : Below w4.heap.size w4 w5 := (by rw [hw5]; exact ((Below.refl _ _).alloc (Nat.le_refl _) _).grown (grown_setRow _ _ _) (by simp) (fun k hk => by cases hk; exact Nat.le_refl _)); clear hw5)
    obtain ⟨g11, hg11⟩ : ∃ g, g = w4.heap.size := ⟨_, rfl⟩
    rw [← hg11] at r11 ⊢
    have N11 : Hid (vb.ownBlock ≠ some g11) := Lib.hid (by rw [hg11]; exact fun e => absurd (N0 _ e) (Nat.lt_irrefl _))
    have NE11 : Hid (g11 ≠ g6) := Lib.hid (row_ne r11 (T_2.out.row.step b_w5) (by decide))
    have T_3 := Lib.hid (T_2.out.step b_w5)
    have U_3 := Lib.hid (U_2.out.step b_w5)
    have RK_3 := Lib.hid (RK_2.out.step b_w5)
    have BB_3 := Lib.hid (BB_2.out.trans (b_w5.mono BB_2.out.size))
    have BS_3 := Lib.hid (Nat.le_trans BS_2.out (Below.size b_w5))
    clear T_2 U_2 RK_2 BB_2 BS_2
    have R11 := Lib.hid r11
    clear N0 hg11 SX r11 b_w5
    obtain ⟨Au, cu, hua, hcu, hru⟩ := own_slice U_3.out.a.2.2
    subst hua
    have HRU := Lib.hid hru
    clear hru hcu
    have c6 : w5.cell? ⟨g6, 0, none⟩ = some va := T_3.out.row.cell rfl
    have c7 : w5.cell? ⟨g7, 0, none⟩ = some (.slice Au lua.length cu) := U_3.out.row.cell rfl
    have HON : Hid (∀ u ∈ ya.flatten, u.oneCell' = true) := Lib.hid (rowD_one U_3.out.a)
    go_upto_region 6 with (at_builtin; obtain ⟨i0, hi0, hz0, hz1, hz2⟩ := info_parts info_digp; refine wpList_append_rd w5 rfl (.tmp 39) (.tmp 41) 26 rfl w1.heap.size 41 i0 _ 33 56 Tryd.underlying26 hi0 hz0 hz1 hz2 rfl (by decide) _ _ _ rfl T_3.out.a.2.2 _ _ _ _ (ya.flatten) rfl HRU.out HON.out (by have := LA.out; have := LUA.out; unfold maxLen; omega) (by have := LA.out; have := LUA.out; omega) BS_3.out ?_; intro v' w6 ho gr hv; obtain ⟨A', c', hv', _, _⟩ := own_slice ho; obtain ⟨m', hm'⟩ : ∃ m', v' = .slice A' m' c' := ⟨_, hv'⟩; clear hv'; subst hm'; have r6w := row_keep T_3.out.row gr (fun e => own_off T_3.out.a.2.2 T_3.out.row (by decide) e.symm); have c6w : w6.cell? ⟨g6, 0, none⟩ = some va := r6w.cell rfl; have f6w := r6w.free 0; have HO := Lib.hid ho; have HGr := Lib.hid gr; have HVv := Lib.hid hv; have R6W := Lib.hid r6w; clear ho gr hv hi0 r6w)
    clear c6 c7
    obtain ⟨w7, hwx⟩ : ∃ wx, wx = (w6.setCell ⟨g6, 0, none⟩ (.slice A' m' c')) := ⟨_, rfl⟩
    rw [← hwx]
    have gS : w6.grownBy w7 (some g6) := by rw [hwx]; exact setCell_grown w6 g6 0 _
    have T_4 := Lib.hid (TSt.appA (l' := lua) (xs' := ya) T_3.out HGr.out HVv.out HO.out U_3.out.a.1 U_3.out.a.2.1)
    rw [← hwx] at T_4
    have hu := u_kept U_3.out.row U_3.out.b HGr.out (own_off T_3.out.a.2.2 U_3.out.row (by decide)) (own_apart U_3.out.b.2 T_3.out.a.2.2 (by decide)) R6W.out (by decide) NE.out.symm hwx
    have UR_4 := Lib.hid hu.1
    have UB_4 := Lib.hid hu.2
    clear hu
    have RK_4 := Lib.hid (row_k (row_keep RK_3.out HGr.out (fun e => own_off T_3.out.a.2.2 RK_3.out (by decide) e.symm)) gS (row_ne (row_keep RK_3.out HGr.out (fun e => own_off T_3.out.a.2.2 RK_3.out (by decide) e.symm)) R6W.out (by decide)))
    have R11_4 := Lib.hid (row_k (row_keep R11.out HGr.out (fun e => own_off T_3.out.a.2.2 R11.out (by decide) e.symm)) gS NE11.out)
    have bx := BB_3.out.grown HGr.out BB_3.out.size (fun k hk => Nat.le_trans HB1.out (World.ownsRow.lt T_3.out.a.2.2 k hk).1)
    have BB_4 := Lib.hid (bx.grown gS bx.size (fun k hk => by cases hk; exact HG6.out))
    have BS_4 : Hid (w1.heap.size ≤ w7.heap.size) := Lib.hid (Nat.le_trans BS_3.out (Nat.le_trans HGr.out.size gS.size))
    clear hwx gS bx c6w f6w HO HGr HVv R6W T_3 U_3 RK_3 R11 BB_3 BS_3
    clear HRU HON
    rename Option Addr => Aa
    obtain ⟨Av, cv, hub, hcv, hrv⟩ := own_slice UB_4.out.2
    subst hub
    have HRV := Lib.hid hrv
    clear hrv hcv
    have c6 : w7.cell? ⟨g6, 1, none⟩ = some vb := T_4.out.row.cell rfl
    have c7 : w7.cell? ⟨g7, 1, none⟩ = some (.slice Av lub.length cv) := UR_4.out.cell rfl
    have HON : Hid (∀ u ∈ (lub.map Msg.cells).flatten, u.oneCell' = true) := Lib.hid (rowM_one lub)
    obtain ⟨va1, hgen⟩ : ∃ x, x = (Value.slice Aa m' c') := ⟨_, rfl⟩
    have tt := T_4.out
    rw [← hgen] at tt
    have T_5 := Lib.hid tt
    clear tt hgen T_4
    go_upto_region 7 with (at_builtin; obtain ⟨i0, hi0, hz0, hz1, hz2⟩ := info_parts info_msgp; refine wpList_append_rd w7 rfl (.tmp 45) (.tmp 47) 27 rfl w1.heap.size 54 i0 _ 67 88 Tryd.underlying27 hi0 hz0 hz1 hz2 rfl (by decide) _ _ _ rfl T_5.out.b.2 _ _ _ _ ((lub.map Msg.cells).flatten) rfl HRV.out HON.out (by have := LB.out; have := LUB.out; unfold maxLen; omega) (by have := LB.out; have := LUB.out; omega) BS_4.out ?_; intro v' w8 ho gr hv; obtain ⟨A', c', hv', _, _⟩ := own_slice ho; obtain ⟨m', hm'⟩ : ∃ m', v' = .slice A' m' c' := ⟨_, hv'⟩; clear hv'; subst hm'; have r6w := row_keep T_5.out.row gr (fun e => own_off T_5.out.b.2 T_5.out.row (by decide) e.symm); have c6w : w8.cell? ⟨g6, 1, none⟩ = some vb := r6w.cell rfl; have f6w := r6w.free 1; have HO := Lib.hid ho; have HGr := Lib.hid gr; have HVv := Lib.hid hv; have R6W := Lib.hid r6w; clear ho gr hv hi0 r6w)
    clear c6 c7
    have N11b : Hid ((Value.slice A' m' c').ownBlock ≠ some g11) := Lib.hid (fun e => by
      rcases HVv.out with h | h
      · exact N11.out (h.symm.trans e)
      · have h2 := h.symm.trans e
        injection h2 with h2
        have := R11_4.out.lt
        omega)
    obtain ⟨w9, hwx⟩ : ∃ wx, wx = (w8.setCell ⟨g6, 1, none⟩ (.slice A' m' c')) := ⟨_, rfl⟩
    rw [← hwx]
    have gS : w8.grownBy w9 (some g6) := by rw [hwx]; exact setCell_grown w8 g6 1 _
    have T_6 := Lib.hid (TSt.appB (l' := lub) T_5.out HGr.out HVv.out HO.out UB_4.out.1)
    rw [← hwx] at T_6
    have RK_6 := Lib.hid (row_k (row_keep RK_4.out HGr.out (fun e => own_off T_5.out.b.2 RK_4.out (by decide) e.symm)) gS (row_ne (row_keep RK_4.out HGr.out (fun e => own_off T_5.out.b.2 RK_4.out (by decide) e.symm)) R6W.out (by decide)))
    have R11_6 := Lib.hid (row_k (row_keep R11_4.out HGr.out (fun e => N11.out e.symm)) gS NE11.out)
    have bx := BB_4.out.grown HGr.out BB_4.out.size (fun k hk => Nat.le_trans HB1.out (World.ownsRow.lt T_5.out.b.2 k hk).1)
    have BB_6 := Lib.hid (bx.grown gS bx.size (fun k hk => by cases hk; exact HG6.out))
    have BS_6 : Hid (w1.heap.size ≤ w9.heap.size) := Lib.hid (Nat.le_trans BS_4.out (Nat.le_trans HGr.out.size gS.size))
    clear hwx gS bx c6w f6w HO HGr HVv R6W T_5 RK_4 R11_4 BB_4 BS_4
    clear HRV HON N11 UR_4 UB_4
    rename Option Addr => Ab
    obtain ⟨vb1, hgen⟩ : ∃ x, x = (Value.slice Ab m' c') := ⟨_, rfl⟩
    have tt := T_6.out
    rw [← hgen] at tt
    have T_7 := Lib.hid tt
    have N11 : Hid (vb1.ownBlock ≠ some g11) := Lib.hid (by rw [hgen]; exact N11b.out)
    clear tt hgen N11b T_6
    go_wp2_with (refine wpList_load_row rfl 30 (.tmp 6) rfl g6 rfl 30 [va1, vb1, vc, vd, Value.slice none 0 0].toArray (0, 0) _ T_7.out.row Tryd.underlying30 rfl HIF.out ?_)
    refine (collision_any (la ++ lua) lc (xa ++ ya) xc (va1) (vb1) (vc) (vd) _ w9 (HG.out.step BB_6.out) (by rw [List.length_append]; have := LA.out; have := LUA.out; omega) (by have := LC.out; omega) T_7.out.a.digs T_7.out.c.digs).mono ?_
    intro er w10 hres
    obtain ⟨p3, p4, c, rfl, hc1, hc0, hbx⟩ := hres.bool
    clear hres
    have Hhc1 := Lib.hid hc1
    have Hhc0 := Lib.hid hc0
    clear hc1 hc0
    have T_8 := Lib.hid (T_7.out.step hbx)
    have RK_8 := Lib.hid (RK_6.out.step hbx)
    have BB_8 := Lib.hid (BB_6.out.trans (hbx.mono BB_6.out.size))
    have BS_8 := Lib.hid (Nat.le_trans BS_6.out (Below.size hbx))
    have R11_8 := Lib.hid (R11_6.out.step hbx)
    clear T_7 RK_6 BB_6 BS_6 R11_6
    clear hbx
    go_wp2_with (first
      | (refine wpList_load_row rfl 30 (.tmp 6) rfl g6 rfl 30 [va1, vb1, vc, vd, Value.slice none 0 0].toArray (0, 0) _ T_8.out.row Tryd.underlying30 rfl HIF.out ?_)
      | (refine wpList_load_row rfl 58 (.tmp 5) rfl gk rfl 58 (cells8 (ek ++ mk)).toArray (0, 0) _ RK_8.out Tryd.underlying58 rfl HIV2.out ?_))
    refine (forgery_any ek mk (lb ++ lub) ld (va1) (vb1) (vc) (vd) _ w10 HEK.out HMK.out T_8.out.b.1 T_8.out.d.1 (by rw [List.length_append]; have := LB.out; have := LUB.out; omega) (by have := LD.out; omega) (HG.out.step BB_8.out) (own_mono T_8.out.b.2 (Nat.zero_le _)) (own_mono T_8.out.d.2 (Nat.zero_le _))).mono ?_
    intro er w11 hres
    obtain ⟨m2, d, rfl, hmo2, hd1, hd0, hbx⟩ := hres.bool T_8.out.d.1
    clear hres
    have Hhmo2 := Lib.hid hmo2
    have Hhd1 := Lib.hid hd1
    have Hhd0 := Lib.hid hd0
    clear hmo2 hd1 hd0
    have T_9 := Lib.hid (T_8.out.step hbx)
    have RK_9 := Lib.hid (RK_8.out.step hbx)
    have BB_9 := Lib.hid (BB_8.out.trans (hbx.mono BB_8.out.size))
    have BS_9 := Lib.hid (Nat.le_trans BS_8.out (Below.size hbx))
    have R11_9 := Lib.hid (R11_8.out.step hbx)
    clear T_8 RK_8 BB_8 BS_8 R11_8
    clear hbx
    have HIm2x := Lib.hid (show (Tryd.prog.info? 54).map (·.size) = some m2.cells.length by rw [Msg.len Hhmo2.out]; kernel_rfl)
    have HIm22 := Lib.hid (show (Tryd.prog.info? 54).map (·.size) = some m2.cells.toArray.size by rw [List.size_toArray, Msg.len Hhmo2.out]; kernel_rfl)
    have HZm2 := Lib.hid (show Msg.zero.cells.length = m2.cells.length by rw [Msg.len Hhmo2.out]; rfl)
    have HAm2 := Lib.hid (all_oneCell_toArray (Msg.one m2))
    have SX : Hid (Row (w11.alloc (.cells Msg.zero.cells.toArray 54)) w11.heap.size 54 Msg.zero.cells) := Lib.hid (heap_alloc_new _ _)
    go_upto_region 9 with (refine Row.store (g := w11.heap.size) (t := 54) (L := Msg.zero.cells) (M := m2.cells) SX.out rfl 54 (.tmp 16) (.tmp 60) rfl rfl rfl HIm2x.out HZm2.out HAm2.out ?_; rintro w12 hw12 r16; have b_w12 : Below w11.heap.size w11 w12 := (by rw [hw12]; exact ((Below.refl _ _).alloc (Nat.le_refl _) _).grown (grown_setRow _ _ _) (by simp) (fun k hk => by cases hk; exact Nat.le_refl _)); clear hw12)
    obtain ⟨g16, hg16⟩ : ∃ g, g = w11.heap.size := ⟨_, rfl⟩
    rw [← hg16] at r16 ⊢
    have T_10 := Lib.hid (T_9.out.step b_w12)
    have RK_10 := Lib.hid (RK_9.out.step b_w12)
    have BB_10 := Lib.hid (BB_9.out.trans (b_w12.mono BB_9.out.size))
    have BS_10 := Lib.hid (Nat.le_trans BS_9.out (Below.size b_w12))
    have R11_10 := Lib.hid (R11_9.out.step b_w12)
    clear T_9 RK_9 BB_9 BS_9 R11_9
    clear hg16 SX r16 b_w12
    have hac : a = true → c = true := fun ha => by
      obtain ⟨y, hy, x, hx, hcol⟩ := Hha1.out ha
      cases c with
      | true => rfl
      | false => rw [Hhc0.out rfl y hy x (List.mem_append_left _ hx)] at hcol; cases hcol
    have hbd : b = false → d = false := fun hb => by
      cases d with
      | false => rfl
      | true =>
        obtain ⟨h1, h2⟩ := Hhd1.out rfl
        have h3 := forgB_app _ _ _ _ h2
        rw [Hhb0.out hb m2 h1] at h3; cases h3
    try simp only [Act.put]
    go_cut [73] (fun s wx => s = .bool false ∧ wx = w12)
    case first =>
      cases a with
      | true =>
        have hc : c = true := hac rfl
        subst hc
        cases b with
        | true =>
          go_wp2
          go_meet
          case rel => exact ⟨rfl, rfl⟩
        | false =>
          have hd : d = false := hbd rfl
          subst hd
          go_wp2
          go_meet
          case rel => exact ⟨rfl, rfl⟩
      | false =>
        cases b with
        | true =>
          go_wp2
          go_meet
          case rel => exact ⟨rfl, rfl⟩
        | false =>
          have hd : d = false := hbd rfl
          subst hd
          go_wp2
          go_meet
          case rel => exact ⟨rfl, rfl⟩
    case rest =>
      obtain ⟨rfl, hwx⟩ := hcut
      rename World => w13
      subst hwx
      clear hac hbd Hha1 Hha0 Hhc1 Hhc0 Hhd1 Hhd0
      cases b with
      | false =>
        go_wp2_with (fail)
        refine (lives_any w13 (HG.out.step BB_10.out)).mono ?_
        rintro er wl ⟨rfl, hbl⟩
        have BL := Lib.hid (BB_10.out.trans (hbl.mono BB_10.out.size))
        clear hbl
        go_wp2
        go_ret
        exact ⟨rfl, BL.out⟩
      | true =>
        go_upto_region 12 with (fail)
        have HI67 : Hid ((Tryd.prog.info? 54).map (fun i => (i.zero.isSome, i.size)) = some (true, 67)) := Lib.hid (by kernel_rfl)
        have HLm := Lib.hid (Msg.len Hhmo.out)
        have c6 : w13.cell? ⟨g6, 1, none⟩ = some vb1 := T_10.out.row.cell rfl
        go_upto_region 13 with (first
          | (refine wpList_load_row rfl 54 (.tmp 11) rfl g11 rfl 54 m.cells.toArray (0, 0) _ R11_10.out Tryd.underlying54 rfl HIm2.out ?_)
          | (refine wpList_lit1 rfl 27 54 (.tmp 77) rfl m.cells 67 rfl Tryd.underlying27 HI67.out HLm.out (by decide) (by decide) ?_; obtain ⟨wL, hwL⟩ : ∃ wL, wL = (w13.alloc (.cells m.cells.toArray 54)) := ⟨_, rfl⟩; have bL : Below w13.heap.size w13 wL := (by rw [hwL]; exact (Below.refl _ _).alloc (Nat.le_refl _) _); have HRL : Hid (Rd wL wL.heap.size 67 (some ⟨w13.heap.size, 0, none⟩) 1 m.cells) := Lib.hid (by rw [hwL]; exact Rd.lit1 rfl (by rw [HLm.out])); rw [← hwL]; have T_11 := Lib.hid (T_10.out.step bL); have RK_11 := Lib.hid (RK_10.out.step bL); have BB_11 := Lib.hid (BB_10.out.trans (bL.mono BB_10.out.size)); have BS_11 := Lib.hid (Nat.le_trans BS_10.out (Below.size bL)); have R11_11 := Lib.hid (R11_10.out.step bL); clear T_10 RK_10 BB_10 BS_10 R11_10; clear bL hwL c6)
          | (at_builtin; obtain ⟨i0, hi0, hz0, hz1, hz2⟩ := info_parts info_msgp; refine wpList_append_rd wL rfl (.tmp 76) (.tmp 78) 27 rfl w1.heap.size 54 i0 _ 67 88 Tryd.underlying27 hi0 hz0 hz1 hz2 rfl (by decide) _ _ _ rfl T_11.out.b.2 _ _ _ _ (m.cells) rfl HRL.out (Msg.one m) (by rw [List.length_append]; have := LB.out; have := LUB.out; unfold maxLen; omega) (by rw [List.length_append]; have := LB.out; have := LUB.out; omega) BS_11.out ?_; intro v' w14 ho gr hv; obtain ⟨A', c', hv', _, _⟩ := own_slice ho; obtain ⟨m', hm'⟩ : ∃ m', v' = .slice A' m' c' := ⟨_, hv'⟩; clear hv'; subst hm'; have r6w := row_keep T_11.out.row gr (fun e => own_off T_11.out.b.2 T_11.out.row (by decide) e.symm); have c6w : w14.cell? ⟨g6, 1, none⟩ = some vb1 := r6w.cell rfl; have f6w := r6w.free 1; have HO := Lib.hid ho; have HGr := Lib.hid gr; have HVv := Lib.hid hv; have R6W := Lib.hid r6w; clear ho gr hv hi0 r6w))
        obtain ⟨w15, hwx⟩ : ∃ wx, wx = (w14.setCell ⟨g6, 1, none⟩ (.slice A' m' c')) := ⟨_, rfl⟩
        rw [← hwx]
        have gS : w14.grownBy w15 (some g6) := by rw [hwx]; exact setCell_grown w14 g6 1 _
        have T_12 := Lib.hid (TSt.appB (l' := [m]) T_11.out HGr.out HVv.out (by have h := HO.out; simpa using h) (fun y hy => by simp only [List.mem_singleton] at hy; rw [hy]; exact Hhmo.out))
        rw [← hwx] at T_12
        have RK_12 := Lib.hid (row_k (row_keep RK_11.out HGr.out (fun e => own_off T_11.out.b.2 RK_11.out (by decide) e.symm)) gS (row_ne (row_keep RK_11.out HGr.out (fun e => own_off T_11.out.b.2 RK_11.out (by decide) e.symm)) R6W.out (by decide)))
        have R11_12 := Lib.hid (row_k (row_keep R11_11.out HGr.out (fun e => N11.out e.symm)) gS NE11.out)
        have bx := BB_11.out.grown HGr.out BB_11.out.size (fun k hk => Nat.le_trans HB1.out (World.ownsRow.lt T_11.out.b.2 k hk).1)
        have BB_12 := Lib.hid (bx.grown gS bx.size (fun k hk => by cases hk; exact HG6.out))
        have BS_12 : Hid (w1.heap.size ≤ w15.heap.size) := Lib.hid (Nat.le_trans BS_11.out (Nat.le_trans HGr.out.size gS.size))
        clear hwx gS bx c6w f6w HO HGr HVv R6W T_11 RK_11 R11_11 BB_11 BS_11
        clear HRL N11
        rename Option Addr => Ac
        obtain ⟨vb2, hgen⟩ : ∃ x, x = (Value.slice Ac m' c') := ⟨_, rfl⟩
        have tt := T_12.out
        rw [← hgen] at tt
        have T_13 := Lib.hid tt
        clear tt hgen T_12
        go_wp2_with (first
          | (refine wpList_load_row rfl 30 (.tmp 6) rfl g6 rfl 30 [va1, vb2, vc, vd, Value.slice none 0 0].toArray (0, 0) _ T_13.out.row Tryd.underlying30 rfl HIF.out ?_)
          | (refine wpList_load_row rfl 58 (.tmp 5) rfl gk rfl 58 (cells8 (ek ++ mk)).toArray (0, 0) _ RK_12.out Tryd.underlying58 rfl HIV2.out ?_))
        refine (forgery_any ek mk (lb ++ lub ++ [m]) ld (va1) (vb2) (vc) (vd) _ w15 HEK.out HMK.out T_13.out.b.1 T_13.out.d.1 (by rw [List.length_append, List.length_append]; have := LB.out; have := LUB.out; simp; omega) (by have := LD.out; omega) (HG.out.step BB_12.out) (own_mono T_13.out.b.2 (Nat.zero_le _)) (own_mono T_13.out.d.2 (Nat.zero_le _))).mono ?_
        intro er w16 hres
        obtain ⟨n, e2, rfl, hno, he1, he0, hbx⟩ := hres.bool T_13.out.d.1
        clear hres
        have Hhno := Lib.hid hno
        have Hhe1 := Lib.hid he1
        have Hhe0 := Lib.hid he0
        clear hno he1 he0
        have T_14 := Lib.hid (T_13.out.step hbx)
        have RK_14 := Lib.hid (RK_12.out.step hbx)
        have BB_14 := Lib.hid (BB_12.out.trans (hbx.mono BB_12.out.size))
        have BS_14 := Lib.hid (Nat.le_trans BS_12.out (Below.size hbx))
        have R11_14 := Lib.hid (R11_12.out.step hbx)
        clear T_13 RK_12 BB_12 BS_12 R11_12
        clear hbx
        have HInx := Lib.hid (show (Tryd.prog.info? 54).map (·.size) = some n.cells.length by rw [Msg.len Hhno.out]; kernel_rfl)
        have HIn2 := Lib.hid (show (Tryd.prog.info? 54).map (·.size) = some n.cells.toArray.size by rw [List.size_toArray, Msg.len Hhno.out]; kernel_rfl)
        have HZn := Lib.hid (show Msg.zero.cells.length = n.cells.length by rw [Msg.len Hhno.out]; rfl)
        have HAn := Lib.hid (all_oneCell_toArray (Msg.one n))
        have SX : Hid (Row (w16.alloc (.cells Msg.zero.cells.toArray 54)) w16.heap.size 54 Msg.zero.cells) := Lib.hid (heap_alloc_new _ _)
        go_upto_region 14 with (refine Row.store (g := w16.heap.size) (t := 54) (L := Msg.zero.cells) (M := n.cells) SX.out rfl 54 (.tmp 18) (.tmp 85) rfl rfl rfl HInx.out HZn.out HAn.out ?_; rintro w17 hw17 r18; have b_w17 : Below w16.heap.size w16 w17 := (by rw [hw17]; exact ((Below.refl _ _).alloc (Nat.le_refl _) _).grown (grown_setRow _ _ _) (by simp) (fun k hk => by cases hk; exact Nat.le_refl _)); clear hw17)
        obtain ⟨g18, hg18⟩ : ∃ g, g = w16.heap.size := ⟨_, rfl⟩
        rw [← hg18] at r18 ⊢
        have T_15 := Lib.hid (T_14.out.step b_w17)
        have RK_15 := Lib.hid (RK_14.out.step b_w17)
        have BB_15 := Lib.hid (BB_14.out.trans (b_w17.mono BB_14.out.size))
        have BS_15 := Lib.hid (Nat.le_trans BS_14.out (Below.size b_w17))
        have R11_15 := Lib.hid (R11_14.out.step b_w17)
        clear T_14 RK_14 BB_14 BS_14 R11_14
        have R18 := Lib.hid r18
        clear hg18 SX r18 b_w17
        cases e2 with
        | false =>
          go_wp2_with (fail)
          refine (lives_any w17 (HG.out.step BB_15.out)).mono ?_
          rintro er wl ⟨rfl, hbl⟩
          have BL := Lib.hid (BB_15.out.trans (hbl.mono BB_15.out.size))
          clear hbl
          go_wp2
          go_ret
          exact ⟨rfl, BL.out⟩
        | true =>
          have HNS := Lib.hid (forgB_last mk (lb ++ lub) m n (Hhe1.out rfl).2)
          have HSM : Hid (n.same m = (decide (n.i = m.i) && (decide (n.x = m.x ∧ n.v = m.v) && decide (n.d = m.d)))) := rfl
          have c18 : w17.cell? ⟨g18, 0, none⟩ = some (.int .i64 (n.i : Int)) := R18.out.cell rfl
          have c11 : w17.cell? ⟨g11, 0, none⟩ = some (.int .i64 (m.i : Int)) := R11_15.out.cell rfl
          have HIbn := Lib.hid (show (Tryd.prog.info? 52).map (·.size) = some (cells8 n.d).length by rw [cells8_len, Hhno.out.2.2.1]; kernel_rfl)
          have HIbm := Lib.hid (show (Tryd.prog.info? 52).map (·.size) = some (cells8 m.d).length by rw [cells8_len, Hhmo.out.2.2.1]; kernel_rfl)
          have hq2 := fun w => eql_nonce w n.x m.x n.v m.v
          have hq3 := fun w => eql_block w n.d m.d Hhno.out.2.2.1 Hhmo.out.2.2.1
          have hD := HSM.out.symm.trans HNS.out
          clear Hhe1 Hhe0 HNS HSM
          by_cases q1 : n.i = m.i
          · have q1' : ((n.i : Int) == (m.i : Int)) = true := by simp [q1]
            by_cases q2 : n.x = m.x ∧ n.v = m.v
            · have q2' : decide (n.x = m.x ∧ n.v = m.v) = true := by simp [q2]
              have q3' : decide (n.d = m.d) = false := by rw [q2'] at hD; simpa [q1] using hD
              rw [q2'] at hq2
              rw [q3'] at hq3
              clear q1 q2 q2' q3' hD
              go_wp2_with (first
                | (refine wpList_want rfl (exec_load_mid 51 (.tmp 96) rfl g18 1 rfl (nonC n.x n.v) _ R18.out.nonceAt Tryd.underlying51 rfl (by kernel_rfl)) ?_)
                | (refine wpList_want rfl (exec_load_mid 51 (.tmp 98) rfl g11 1 rfl (nonC m.x m.v) _ R11_15.out.nonceAt Tryd.underlying51 rfl (by kernel_rfl)) ?_)
                | (refine wpList_want rfl (exec_load_mid 52 (.tmp 103) rfl g18 3 rfl (cells8 n.d) _ R18.out.dataAt Tryd.underlying52 rfl HIbn.out) ?_)
                | (refine wpList_want rfl (exec_load_mid 52 (.tmp 105) rfl g11 3 rfl (cells8 m.d) _ R11_15.out.dataAt Tryd.underlying52 rfl HIbm.out) ?_))
              refine (lives_any w17 (HG.out.step BB_15.out)).mono ?_
              rintro er wl ⟨rfl, hbl⟩
              have BL := Lib.hid (BB_15.out.trans (hbl.mono BB_15.out.size))
              clear hbl
              go_wp2
              go_ret
              exact ⟨rfl, BL.out⟩
            · have q2' : decide (n.x = m.x ∧ n.v = m.v) = false := by simp [q2]
              rw [q2'] at hq2
              clear q1 q2 q2' hD hq3
              go_wp2_with (first
                | (refine wpList_want rfl (exec_load_mid 51 (.tmp 96) rfl g18 1 rfl (nonC n.x n.v) _ R18.out.nonceAt Tryd.underlying51 rfl (by kernel_rfl)) ?_)
                | (refine wpList_want rfl (exec_load_mid 51 (.tmp 98) rfl g11 1 rfl (nonC m.x m.v) _ R11_15.out.nonceAt Tryd.underlying51 rfl (by kernel_rfl)) ?_))
              refine (lives_any w17 (HG.out.step BB_15.out)).mono ?_
              rintro er wl ⟨rfl, hbl⟩
              have BL := Lib.hid (BB_15.out.trans (hbl.mono BB_15.out.size))
              clear hbl
              go_wp2
              go_ret
              exact ⟨rfl, BL.out⟩
          · have q1' : ((n.i : Int) == (m.i : Int)) = false := by simp; omega
            clear hD hq2 hq3
            go_wp2_with (fail)
            refine (lives_any w17 (HG.out.step BB_15.out)).mono ?_
            rintro er wl ⟨rfl, hbl⟩
            have BL := Lib.hid (BB_15.out.trans (hbl.mono BB_15.out.size))
            clear hbl
            go_wp2
            go_ret
            exact ⟨rfl, BL.out⟩
end Go.Proofs.YtpobkoiaidgedaaDoor
