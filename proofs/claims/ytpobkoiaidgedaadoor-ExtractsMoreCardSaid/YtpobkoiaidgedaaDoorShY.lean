/- The bytes of a message: the reference's. -/
import Derived.Test.YtpobkoiaidgedaaDoorShX
namespace Go.Proofs.YtpobkoiaidgedaaDoor
open Go.RowKit

theorem wp_app8 {w : World} {o : Oper} {a : Act} {K : Act → World → Prop} {Q : Exit → Act → World → Prop} (s x : Operand)
    (ho : o.op = .call { callee := .builtin .append, args := #[s, x], argTypes := #[34, 34] })
    (base : Nat) (v : Value) (L : List B8) (hs : a.eval s = v) (hown : Own8 w base v L)
    (B : Nat) (A : Option Addr) (m c : Nat) (q : List B8) (hx : a.eval x = .slice A m c) (hr : Rd w B 1 A m (cells8 q))
    (h63 : L.length + q.length ≤ 2000000000) (hbase : base ≤ w.heap.size)
    (h : ∀ v' w', Own8 w' base v' (L ++ q) → w.grownBy w' v.ownBlock → K (a.put o.dst v') w') : o.wp Tryd.prog a w K Q := by
  obtain ⟨i0, hi, hz0, hz1, hz2⟩ := info_parts info_u8p
  have hm : m = q.length := hr.len8
  subst hm
  refine wp_append_rd w s x 34 ho base 5 i0 _ 1 1 Tryd.underlying34 hi hz0 hz1 hz2 rfl (by decide) v L.length _ hs hown B A _ c _ hx hr (cells8_ones _) (by unfold maxLen; omega) (by omega) hbase ?_
  intro v' w' h1 h2 _
  refine h v' w' ?_ h2
  unfold Own8
  rw [cells8_app, List.length_append]
  exact h1
theorem beB_at (v n j : Nat) (h : j < n) : (beB v n)[j]? = some (BitVec.ofNat 8 (v / 256 ^ (n - 1 - j))) := by
  induction n generalizing j with
  | zero => omega
  | succ n ih =>
    cases j with
    | zero => simp [beB]
    | succ j => rw [beB, List.getElem?_cons_succ, ih j (by omega), show n + 1 - 1 - (j + 1) = n - 1 - j by omega]
theorem byte_val (v p : Nat) : ((v : Int) / 2 ^ (8 * p) % 256) = bv (BitVec.ofNat 8 (v / 256 ^ p)) := by
  have e : (2 : Int) ^ (8 * p) = ((256 ^ p : Nat) : Int) := by rw [Int.natCast_pow, Int.pow_mul]; rfl
  rw [e]
  unfold bv
  rw [BitVec.toNat_ofNat]
  rfl

set_option maxRecDepth 100000 in
set_option maxHeartbeats 1000000 in
theorem big_any (v n : Nat) (hv : v < 18446744073709551616) (hn : n ≤ 8) (w : World) :
    Calls Tryd.prog 46 #[.int .u64 (v : Int), .int .i64 (n : Int)] w fun e w' => ∃ u, e = .returned u ∧ Own8 w' w.heap.size u (beB v n) ∧ Below w.heap.size w w' := by
  have hn0 : (n : Int) ≤ 8 := by omega
  have hn1 : (0 : Int) ≤ (n : Int) := by omega
  have HV := Lib.hid hv
  clear hv
  go_enter Tryd.func46, Tryd.ntmps46
  go_wp2
  go_loopw [5, 6] (fun u i wr => ∃ j : Nat, j ≤ n ∧ i = .int .i64 ((n : Int) - 1 - (j : Int)) ∧ Own8 wr w.heap.size u ((beB v n).take j) ∧ Below w.heap.size w wr) (fun _ i _ => (intOf i + 1).toNat)
  case atStart => exact ⟨0, Nat.zero_le _, by simp, Own8.nil, Below.refl _ _⟩
  case round =>
    obtain ⟨j, hj, rfl, ho, hb⟩ := hrel
    by_cases hlt : j < n
    · obtain ⟨p, hp⟩ : ∃ p : Nat, p = n - 1 - j := ⟨_, rfl⟩
      have hi : ((n : Int) - 1 - (j : Int)) = (p : Int) := by omega
      have hpn : (p : Int) < 8 := by omega
      have hp0 : (0 : Int) ≤ (p : Int) := by omega
      rw [hi]
      have hat := beB_at v n j hlt
      rw [← hp] at hat
      have T := Lib.hid (takex _ j _ hat)
      have HL := Lib.hid (lit8 (w := wr) (t := 5) (BitVec.ofNat 8 (v / 256 ^ p)) _ (byte_val v p))
      have HO := Lib.hid ho
      have HP := Lib.hid hp
      have HTL : Hid (((beB v n).take j).length ≤ 8) := by unfold Hid; rw [List.length_take]; omega
      have hbs := hb.size
      have hba := (Below.refl wr.heap.size wr).alloc (Nat.le_refl _) (.cells #[.int .u8 ((v : Int) / 2 ^ (8 * p) % 256)] 5)
      clear hat hi hp ho
      go_wp2_with (at_builtin; refine wpList_app8 rfl (.tmp 13) (.tmp 19) rfl w.heap.size _ ((beB v n).take j) rfl (HO.out.below hba (Nat.le_refl _)) _ _ _ _ [BitVec.ofNat 8 (v / 256 ^ p)] rfl HL.out ?d2 ?d3 ?_)
      case d2 => have := HTL.out; simp only [List.length_cons, List.length_nil]; omega
      case d3 => exact Nat.le_trans hbs hba.size
      intro v2 w2 o2 gr2
      have b2 : Below w.heap.size w w2 := (HO.out.below hba (Nat.le_refl _)).belowG (hb.trans (hba.mono hbs)) gr2 (Nat.le_refl _) (Nat.le_trans hbs hba.size)
      rw [T.out] at o2
      have O2 := Lib.hid o2
      clear o2 gr2 hba hb HL hbs
      go_wp2
      go_roundw
      case rel => exact ⟨j + 1, by omega, by have := HP.out; congr 1; omega, O2.out, b2⟩
      case measure => first | (simp [intOf]; done) | (simp [intOf]; omega)
    · have hjn : j = n := by omega
      have hd : decide ((n : Int) - 1 - (j : Int) ≥ 0) = false := by simp; omega
      rw [hjn, List.take_of_length_le (by rw [beB_len]; exact Nat.le_refl _)] at ho
      have HO := Lib.hid ho
      have HJ := Lib.hid hjn
      clear hjn ho
      go_wp2
      go_ret
      exact ⟨_, rfl, HO.out, hb⟩
theorem Row.rdMid {w : World} {g o : Nat} {t : TypeId} {A C : List Value} {l : List B8} (h : Row w g t (A ++ (cells8 l ++ C))) (ho : o = A.length) : Rd w w.heap.size 1 (some ⟨g, o, none⟩) l.length (cells8 l) := by
  subst ho
  refine ⟨by rw [cells8_len, Nat.mul_one], fun _ => ⟨_, rfl, h.lt, ?_⟩⟩
  have h2 := (h.cells A.length).take l.length
  rw [List.drop_left, List.take_append_of_le_length (by rw [cells8_len]; exact Nat.le_refl _), List.take_of_length_le (by rw [cells8_len]; exact Nat.le_refl _)] at h2
  exact h2

set_option maxRecDepth 100000 in
set_option maxHeartbeats 2000000 in
theorem refMsg_any (m : Msg) (hm : m.ok) (w : World) :
    Calls Tryd.prog 31 #[.agg m.cells.toArray] w fun e w' => ∃ u, e = .returned u ∧ Own8 w' w.heap.size u (msgB m.i m.x m.v m.d) ∧ Below w.heap.size w w' := by
  have HM := Lib.hid hm
  clear hm
  go_enter Tryd.func31, Tryd.ntmps31
  go_upto_region 1 with (fail)
  obtain ⟨wz, hwz⟩ : ∃ wz, wz = (w.alloc (.cells m.cells.toArray 54)) := ⟨_, rfl⟩
  obtain ⟨g1, h1⟩ : ∃ g, g = w.heap.size := ⟨_, rfl⟩
  have hb : Below w.heap.size w wz := by rw [hwz]; exact (Below.refl _ _).alloc (Nat.le_refl _) _
  have r1 : Row wz g1 54 m.cells := by rw [hwz, h1]; exact heap_alloc_new _ _
  rw [← hwz, ← h1]
  clear hwz h1
  have c0 : wz.cell? ⟨g1, 0, none⟩ = some (.int .i64 (m.i : Int)) := r1.cell rfl
  have c1 : wz.cell? ⟨g1, 1, none⟩ = some (.int .u32 (wv m.x)) := r1.cell rfl
  have c2 : wz.cell? ⟨g1, 2, none⟩ = some (.int .u64 (m.v : Int)) := r1.cell rfl
  have hmi := HM.out.1
  have hi0 : (m.i : Int) < 4096 := by omega
  have hi1 : IntKind.u64.wrap (m.i : Int) = (m.i : Int) := by rw [IntKind.wrap_u64]; omega
  have hx1 : IntKind.u64.wrap (wv m.x) = (m.x.toNat : Int) := by have := m.x.isLt; rw [IntKind.wrap_u64]; unfold wv; omega
  go_cut [3] from 4 to 13 (fun s wx => ∃ v4, s = v4 ∧ Own8 wx wz.heap.size v4 (beB m.i 4 ++ beB m.x.toNat 4) ∧ Below wz.heap.size wz wx)
  case first =>
    refine wp_region_held_drew (S := (fun w => w.cell? ⟨g1, 0, none⟩ = some (.int .i64 (m.i : Int)) ∧ w.cell? ⟨g1, 1, none⟩ = some (.int .u32 (wv m.x)))) (by kernel_rfl) ⟨c0, c1⟩ (fun hHeld => ?_)
    refine take_run 0 (v := ?_) rfl (by kernel_rfl) (by kernel_rfl) (by kernel_rfl) (fun _ _ _ h => h) rfl ?_ hHeld ?_
    rotate_left
    · intro w hSw; (try dsimp only at hSw); go_simp <;> with_reducible rfl
    try simp only [Act.put, List.setIfInBounds_toArray, List.set_cons_zero, List.set_cons_succ]
    refine take_run 1 (v := ?_) rfl (by kernel_rfl) (by kernel_rfl) (by kernel_rfl) (fun _ _ _ h => h) rfl ?_ hHeld ?_
    rotate_left
    · intro w hSw; (try dsimp only at hSw); go_simp <;> with_reducible rfl
    try simp only [Act.put, List.setIfInBounds_toArray, List.set_cons_zero, List.set_cons_succ]
    refine take_run 2 (v := ?_) rfl (by kernel_rfl) (by kernel_rfl) (by kernel_rfl) (fun _ _ _ h => h) rfl ?_ hHeld ?_
    rotate_left
    · intro w hSw; (try dsimp only at hSw); go_simp <;> with_reducible rfl
    try simp only [Act.put, List.setIfInBounds_toArray, List.set_cons_zero, List.set_cons_succ]
    refine take_run 4 (v := ?_) rfl (by kernel_rfl) (by kernel_rfl) (by kernel_rfl) (fun _ _ _ h => h) rfl ?_ hHeld ?_
    rotate_left
    · intro w hSw; (try dsimp only at hSw); go_simp <;> with_reducible rfl
    try simp only [Act.put, List.setIfInBounds_toArray, List.set_cons_zero, List.set_cons_succ]
    refine take_run 5 (v := ?_) rfl (by kernel_rfl) (by kernel_rfl) (by kernel_rfl) (fun _ _ _ h => h) rfl ?_ hHeld ?_
    rotate_left
    · intro w hSw; (try dsimp only at hSw); go_simp <;> with_reducible rfl
    try simp only [Act.put, List.setIfInBounds_toArray, List.set_cons_zero, List.set_cons_succ]
    refine take_run 6 (v := ?_) rfl (by kernel_rfl) (by kernel_rfl) (by kernel_rfl) (fun _ _ _ h => h) rfl ?_ hHeld ?_
    rotate_left
    · intro w hSw; (try dsimp only at hSw); go_simp <;> with_reducible rfl
    try simp only [Act.put, List.setIfInBounds_toArray, List.set_cons_zero, List.set_cons_succ]
    refine take_run 7 (v := ?_) rfl (by kernel_rfl) (by kernel_rfl) (by kernel_rfl) (fun _ _ _ h => h) rfl ?_ hHeld ?_
    rotate_left
    · intro w hSw; (try dsimp only at hSw); go_simp <;> with_reducible rfl
    try simp only [Act.put, List.setIfInBounds_toArray, List.set_cons_zero, List.set_cons_succ]
    refine take_call 3 rfl (by kernel_rfl) rfl (fun K hK => ?_)
    go_simp
    refine (big_any m.i 4 (by omega) (by omega) _).mono ?_
    rintro e w2 ⟨va, rfl, oa, hbx⟩
    have y2 : Below wz.heap.size wz w2 := below_of_drew hbx
    have oa2 : Own8 w2 wz.heap.size va (beB m.i 4) := oa
    clear hbx
    try dsimp only
    refine hK.out _ _ ⟨keep_cl y2 c0, keep_cl y2 c1⟩ (fun hHeld => ?_)
    clear hK K
    try simp only [Act.put, List.setIfInBounds_toArray, List.set_cons_zero, List.set_cons_succ]
    refine take_call 8 rfl (by kernel_rfl) rfl (fun K hK => ?_)
    go_simp
    refine (big_any m.x.toNat 4 (by have := m.x.isLt; omega) (by omega) _).mono ?_
    rintro e w3 ⟨vb, rfl, ob, hbx⟩
    have y3 : Below wz.heap.size wz w3 := below_nx y2 hbx
    have oa3 := oa2.below hbx (Nat.le_refl _)
    obtain ⟨Ab, cb, rfl, _, _, hrb⟩ := ob.slice
    clear hbx
    try dsimp only
    refine hK.out _ _ ⟨keep_cl y3 c0, keep_cl y3 c1⟩ (fun hHeld => ?_)
    clear hK K
    try simp only [Act.put, List.setIfInBounds_toArray, List.set_cons_zero, List.set_cons_succ]
    refine take_call 9 rfl (by kernel_rfl) rfl (fun K hK => ?_)
    refine wp_app8 (.tmp 7) (.tmp 12) rfl wz.heap.size va (beB m.i 4) rfl oa3 _ Ab _ cb (beB m.x.toNat 4) rfl hrb (by rw [beB_len, beB_len]; omega) y3.size ?_
    intro v4 w4 o4 gr4
    have y4 : Below wz.heap.size wz w4 := oa3.belowG y3 gr4 (Nat.le_refl _) y3.size
    try dsimp only
    refine hK.out _ _ ⟨keep_cl y4 c0, keep_cl y4 c1⟩ (fun hHeld => ?_)
    clear hK K
    try simp only [Act.put, List.setIfInBounds_toArray, List.set_cons_zero, List.set_cons_succ]
    refine take_run 10 (v := ?_) rfl (by kernel_rfl) (by kernel_rfl) (by kernel_rfl) (fun _ _ _ h => h) rfl ?_ hHeld ?_
    rotate_left
    · intro w hSw; (try dsimp only at hSw); go_simp <;> with_reducible rfl
    try simp only [Act.put, List.setIfInBounds_toArray, List.set_cons_zero, List.set_cons_succ]
    refine wpAnyH_done (by kernel_rfl) ?_ _
    go_wp2
    go_meet
    case rel => exact ⟨v4, rfl, o4, y4⟩
  case rest =>
    obtain ⟨v4, rfl, o4, y4⟩ := hcut
    have c2' := keep_cl y4 c2
    have hmv : (m.v : Int) < 18446744073709551616 := by have := HM.out.2.1; omega
    have r14 := r1.step y4
    have HR1 := Lib.hid r1
    have O4 := Lib.hid o4
    have HMV := Lib.hid hmv
    clear c0 c1 c2 hi1 hx1 hi0 o4 r1 hmi hmv
    go_wp2_with fail
    refine (big_any m.v 8 HM.out.2.1 (by omega) _).mono ?_
    rintro e w5 ⟨vb, rfl, ob, hb5⟩
    obtain ⟨Ab, cb, rfl, _, _, hrb⟩ := ob.slice
    have o45 := O4.out.below hb5 (Nat.le_refl _)
    have y5 : Below wz.heap.size wz w5 := below_nx y4 hb5
    have r15 := r14.step hb5
    have hs5 := y5.size
    have HRB := Lib.hid hrb
    have O45 := Lib.hid o45
    clear hb5 hrb ob o45 y4 r14 c2' O4
    go_wp2_with (at_builtin; refine wpList_app8 rfl (.tmp 14) (.tmp 18) rfl wz.heap.size _ _ rfl O45.out _ _ _ _ (beB m.v 8) rfl HRB.out ?d2 hs5 ?_)
    case d2 => rw [List.length_append, beB_len, beB_len, beB_len]; omega
    intro v6 w6 o6 gr6
    have y6 : Below wz.heap.size wz w6 := O45.out.belowG y5 gr6 (Nat.le_refl _) hs5
    have r16 : Row w6 g1 54 m.cells := HR1.out.step y6
    have hs6 := y6.size
    have hrd : Rd w6 w6.heap.size 1 (some ⟨g1, 3, none⟩) 32 (cells8 m.d) := by
      have h1 : m.cells = (.int .i64 (m.i : Int) :: nonC m.x m.v) ++ (cells8 m.d ++ cells8 m.t) := by simp [Msg.cells]
      rw [h1] at r16
      have := r16.rdMid (o := 3) rfl
      rwa [HM.out.2.2.1] at this
    have HRD := Lib.hid hrd
    have O6 := Lib.hid o6
    clear o6 gr6 y5 r15 HRB O45 hrd r16 hs5
    go_wp2_with (at_builtin; refine wpList_app8 rfl (.tmp 20) (.tmp 22) rfl wz.heap.size _ _ rfl O6.out _ _ _ _ m.d rfl HRD.out ?d2 hs6 ?_)
    case d2 => rw [List.length_append, List.length_append, beB_len, beB_len, beB_len, HM.out.2.2.1]; omega
    intro v7 w7 o7 gr7
    have y7 : Below wz.heap.size wz w7 := O6.out.belowG y6 gr7 (Nat.le_refl _) hs6
    have e7 : beB m.i 4 ++ beB m.x.toNat 4 ++ beB m.v 8 ++ m.d = msgB m.i m.x m.v m.d := by simp [msgB]
    have o7' : Own8 w7 wz.heap.size v7 (msgB m.i m.x m.v m.d) := by rw [← e7]; first | exact o7 | simpa using o7
    have O7 := Lib.hid (o7'.mono hb.size)
    clear o7 o7' gr7 y6 O6 HRD e7 hs6
    go_wp2
    go_ret
    exact ⟨_, rfl, O7.out, hb.trans (y7.mono hb.size)⟩
end Go.Proofs.YtpobkoiaidgedaaDoor
