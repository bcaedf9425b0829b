/- The condition of a forgery; Forgery. -/
import Derived.Test.YtpobkoiaidgedaaDoorSiI
namespace Go.Proofs.YtpobkoiaidgedaaDoor
open Go.RowKit

theorem wpList_want {P : Program} {ops : Array Oper} {rest : List Oper} {o : Oper} {a : Act} {w : World} {Q : Exit → Act → World → Prop} {v : Value} (hw : Region.wanted o (yielded ops a.tmps) = true) (hr : (execOp a.eval o).run P w = .ok (.value v) w) (h : wpList P ops Q rest (a.put o.dst v) w) : wpList P ops Q (o :: rest) a w :=
  wpList_step fun K hK => by
    rw [if_pos hw]
    unfold Oper.wp
    rw [hr]
    exact hK _ _ h

set_option maxRecDepth 100000 in
set_option maxHeartbeats 2000000 in
theorem cl28_any (x m : Msg) (gy : Nat) (t : TypeId) (w : World) (hx : x.ok) (hm : m.ok) (ry : Row w gy t m.cells) :
    Calls Tryd.prog 28 #[.agg x.cells.toArray, .pointer (some ⟨gy, 0, none⟩)] w fun e w' => e = .returned (.bool (x.same m)) ∧ Below w.heap.size w w' := by
  have HIx := Lib.hid (show (Tryd.prog.info? 52).map (·.size) = some (cells8 x.d).length by rw [cells8_len, hx.2.2.1]; kernel_rfl)
  have HIm := Lib.hid (show (Tryd.prog.info? 52).map (·.size) = some (cells8 m.d).length by rw [cells8_len, hm.2.2.1]; kernel_rfl)
  have hq3 := fun w => eql_block w x.d m.d hx.2.2.1 hm.2.2.1
  have hq2 := fun w => eql_nonce w x.x m.x x.v m.v
  clear hx hm
  go_enter Tryd.func28, Tryd.ntmps28
  go_upto_region 1 with (fail)
  obtain ⟨wz, hwz⟩ : ∃ wz, wz = (w.alloc (.cells x.cells.toArray 54)) := ⟨_, rfl⟩
  obtain ⟨g2, h2⟩ : ∃ g, g = w.heap.size := ⟨_, rfl⟩
  have hb : Below w.heap.size w wz := by rw [hwz]; exact (Below.refl _ _).alloc (Nat.le_refl _) _
  have r2 : Row wz g2 54 x.cells := by rw [hwz, h2]; exact heap_alloc_new _ _
  have r1 := ry.below hb ry.lt
  rw [← hwz, ← h2]
  have c2 : wz.cell? ⟨g2, 0, none⟩ = some (.int .i64 (x.i : Int)) := r2.cell rfl
  have c1 : wz.cell? ⟨gy, 0, none⟩ = some (.int .i64 (m.i : Int)) := r1.cell rfl
  clear hwz h2 ry
  have hsame : Hid (x.same m = (decide (x.i = m.i) && (decide (x.x = m.x ∧ x.v = m.v) && decide (x.d = m.d)))) := rfl
  by_cases q1 : x.i = m.i
  · have q1' : ((x.i : Int) == (m.i : Int)) = true := by simp [q1]
    by_cases q2 : x.x = m.x ∧ x.v = m.v
    · have q2' : decide (x.x = m.x ∧ x.v = m.v) = true := by simp [q2]
      have Q := Lib.hid (show decide (x.i = m.i) = true ∧ decide (x.x = m.x ∧ x.v = m.v) = true from ⟨by simp [q1], q2'⟩)
      rw [q2'] at hq2
      clear q1 q2 q2'
      go_wp2_with (first
    | (refine wpList_want rfl (exec_load_mid 51 (.tmp 10) rfl g2 1 rfl (nonC x.x x.v) _ r2.nonceAt Tryd.underlying51 rfl (by kernel_rfl)) ?_)
    | (refine wpList_want rfl (exec_load_mid 52 (.tmp 17) rfl g2 3 rfl (cells8 x.d) _ r2.dataAt Tryd.underlying52 rfl HIx.out) ?_)
    | (refine wpList_want rfl (exec_load_mid 51 (.tmp 12) rfl gy 1 rfl (nonC m.x m.v) _ r1.nonceAt Tryd.underlying51 rfl (by kernel_rfl)) ?_)
    | (refine wpList_want rfl (exec_load_mid 52 (.tmp 19) rfl gy 3 rfl (cells8 m.d) _ r1.dataAt Tryd.underlying52 rfl HIm.out) ?_)
        )
      go_ret
      exact ⟨ret_bool (by rw [hsame.out, Q.out.1, Q.out.2]; rfl), hb⟩
    · have q2' : decide (x.x = m.x ∧ x.v = m.v) = false := by simp [q2]
      have Q := Lib.hid (show decide (x.i = m.i) = true ∧ decide (x.x = m.x ∧ x.v = m.v) = false from ⟨by simp [q1], q2'⟩)
      rw [q2'] at hq2
      clear q1 q2 q2'
      go_wp2_with (first
    | (refine wpList_want rfl (exec_load_mid 51 (.tmp 10) rfl g2 1 rfl (nonC x.x x.v) _ r2.nonceAt Tryd.underlying51 rfl (by kernel_rfl)) ?_)
    | (refine wpList_want rfl (exec_load_mid 52 (.tmp 17) rfl g2 3 rfl (cells8 x.d) _ r2.dataAt Tryd.underlying52 rfl HIx.out) ?_)
    | (refine wpList_want rfl (exec_load_mid 51 (.tmp 12) rfl gy 1 rfl (nonC m.x m.v) _ r1.nonceAt Tryd.underlying51 rfl (by kernel_rfl)) ?_)
    | (refine wpList_want rfl (exec_load_mid 52 (.tmp 19) rfl gy 3 rfl (cells8 m.d) _ r1.dataAt Tryd.underlying52 rfl HIm.out) ?_)
        )
      go_ret
      exact ⟨ret_bool (by rw [hsame.out, Q.out.1, Q.out.2]; rfl), hb⟩
  · have q1' : ((x.i : Int) == (m.i : Int)) = false := by simp; omega
    have q1'' : ¬ (x.i : Int) = (m.i : Int) := by omega
    have Q := Lib.hid (show decide (x.i = m.i) = false by simp [q1])
    clear q1
    go_wp2_with (first
    | (refine wpList_want rfl (exec_load_mid 51 (.tmp 10) rfl g2 1 rfl (nonC x.x x.v) _ r2.nonceAt Tryd.underlying51 rfl (by kernel_rfl)) ?_)
    | (refine wpList_want rfl (exec_load_mid 52 (.tmp 17) rfl g2 3 rfl (cells8 x.d) _ r2.dataAt Tryd.underlying52 rfl HIx.out) ?_)
    | (refine wpList_want rfl (exec_load_mid 51 (.tmp 12) rfl gy 1 rfl (nonC m.x m.v) _ r1.nonceAt Tryd.underlying51 rfl (by kernel_rfl)) ?_)
    | (refine wpList_want rfl (exec_load_mid 52 (.tmp 19) rfl gy 3 rfl (cells8 m.d) _ r1.dataAt Tryd.underlying52 rfl HIm.out) ?_)
        )
    go_ret
    exact ⟨ret_bool (by rw [hsame.out, Q.out]; rfl), hb⟩

theorem verify_32 (A : Option Addr) (c : Nat) (k : List B8) (hk : k.length = 32) (A2 : Option Addr) (n c2 : Nat) (m tag : List B8) (w : World) (hG : Glob w) (hrk : Rd w w.heap.size 1 A 32 (cells8 k))
    (hrm : Rd w w.heap.size 1 A2 n (cells8 m)) (hn : n ≤ c2) (hc2 : c2 ≤ maxLen) (hm : m.length < 700000000) (ht : tag.length = 32) :
    Calls Tryd.prog 27 #[.slice A 32 c, .slice A2 n c2, .agg (cells8 tag).toArray] w fun e w' => e = .returned (.bool (decide (hmacF k m = tag))) ∧ Below w.heap.size w w' := by
  have h := verify_any A c k A2 n c2 m tag w hG (by rw [hk]; exact hrk) (by omega) hrm hn hc2 hm ht
  rwa [hk] at h
/-- Is the message, accepted with a key, none that was sealed? -/
def forgB (mk : List B8) (ls : List Msg) (m : Msg) : Bool := decide (hmacF mk m.body = m.t) && !(ls.any fun x => x.same m)

set_option maxRecDepth 100000 in
set_option maxHeartbeats 4000000 in
theorem cl25_any (m : Msg) (ek mk : List B8) (ls : List Msg) (gk gt : Nat) (tk tt : TypeId) (vs v0 v2 v3 v4 : Value) (w : World) (hm : m.ok) (hek : ek.length = 16) (hmk : mk.length = 32) (hls : ∀ x ∈ ls, x.ok) (hln : ls.length < 1000000) (hG : Glob w)
    (rk : Row w gk tk (cells8 (ek ++ mk))) (rt : Row w gt tt [v0, vs, v2, v3, v4]) (ho : w.ownsRow 0 54 67 vs ls.length (ls.map Msg.cells).flatten) :
    Calls Tryd.prog 25 #[.agg m.cells.toArray, .pointer (some ⟨gk, 0, none⟩), .pointer (some ⟨gt, 0, none⟩)] w fun e w' => e = .returned (.bool (forgB mk ls m)) ∧ Below w.heap.size w w' := by
  have HM := Lib.hid hm
  have HKM := Lib.hid hmk
  have HEK := Lib.hid hek
  have HLS := Lib.hid hls
  have HLN := Lib.hid hln
  have HG := Lib.hid hG
  have HO := Lib.hid ho
  have HBL' : Hid ((msgB m.i m.x m.v m.d).length = 48) := msgB_len _ _ _ _ hm.2.2.1
  have HBL : Hid (m.body.length = 48) := msgB_len _ _ _ _ hm.2.2.1
  have HI39 := Lib.hid (show (Tryd.prog.info? 39).map (·.size) = some (cells8 m.t).length by rw [cells8_len, hm.2.2.2]; kernel_rfl)
  have HI52 := Lib.hid (show (Tryd.prog.info? 52).map (·.size) = some (cells8 m.d).length by rw [cells8_len, hm.2.2.1]; kernel_rfl)
  clear hm hmk hek hls hln hG ho
  go_enter Tryd.func25, Tryd.ntmps25
  go_upto_region 1 with (fail)
  obtain ⟨wz, hwz⟩ : ∃ wz, wz = (w.alloc (.cells m.cells.toArray 54)) := ⟨_, rfl⟩
  obtain ⟨g3, h3⟩ : ∃ g, g = w.heap.size := ⟨_, rfl⟩
  have hb : Below w.heap.size w wz := by rw [hwz]; exact (Below.refl _ _).alloc (Nat.le_refl _) _
  have r3 : Row wz g3 54 m.cells := by rw [hwz, h3]; exact heap_alloc_new _ _
  have c3 : wz.cell? ⟨g3, 0, none⟩ = some (.int .i64 (m.i : Int)) := r3.cell rfl
  have rk1 := rk.step hb
  have rt1 := rt.step hb
  have o1 := own_below HO.out hb (Nat.le_refl _)
  rw [← hwz, ← h3]
  clear hwz h3 rk rt
  have HR3 := Lib.hid r3
  go_wp2_with (first
    | (refine wpList_load_mid rfl 51 (.tmp 12) rfl g3 1 rfl (nonC m.x m.v) _ HR3.out.nonceAt Tryd.underlying51 rfl (by kernel_rfl) ?_)
    | (refine wpList_load_mid rfl 52 (.tmp 14) rfl g3 3 rfl (cells8 m.d) _ HR3.out.dataAt Tryd.underlying52 rfl HI52.out ?_)
    | (go_at_call 26; fail))
  refine (seal_any m.i HM.out.1 m.x m.v HM.out.2.1 m.d HM.out.2.2.1 _).mono ?_
  rintro e w2 ⟨gb, rfl, rb, hgb, hb2⟩
  have r32 := r3.step hb2
  have rk2 := rk1.step hb2
  have rt2 := rt1.step hb2
  have o2 := own_below o1 hb2 (Nat.le_refl _)
  have b2 := hb.trans (hb2.mono hb.size)
  have HG2 := Lib.hid (show Glob w2.drew from (show Glob w2 from HG.out.step b2))
  have hrb := rb.rdAll
  rw [HBL'.out] at hrb
  have HRB : Hid (Rd w2.drew w2.drew.heap.size 1 (some ⟨gb, 0, none⟩) 48 (cells8 m.body)) := hrb
  have HRK : Hid (Rd w2.drew w2.drew.heap.size 1 (some ⟨gk, 16, none⟩) 32 (cells8 mk)) := by
    have h1 : cells8 (ek ++ mk) = cells8 ek ++ (cells8 mk ++ []) := by rw [cells8_app]; simp
    rw [h1] at rk2
    have h2 := rk2.rdMid (o := 16) (by rw [cells8_len, HEK.out])
    rw [HKM.out] at h2
    exact h2
  have C3 := Lib.hid c3
  clear r3 rk1 rt1 o1 hb hb2 hgb rb hrb c3
  go_upto_region 2 with (fail)
  refine wp_region_held_drew (S := (fun w => Row w g3 54 m.cells)) (by kernel_rfl) r32 (fun hHeld => ?_)
  refine take_run 0 (v := ?_) rfl (by kernel_rfl) (by kernel_rfl) (by kernel_rfl) (fun _ _ _ h => h) rfl ?_ hHeld ?_
  rotate_left
  · intro w hSw; (try dsimp only at hSw); go_simp <;> with_reducible rfl
  try simp only [Act.put, List.setIfInBounds_toArray, List.set_cons_zero, List.set_cons_succ]
  refine take_run 1 (v := ?_) rfl (by kernel_rfl) (by kernel_rfl) (by kernel_rfl) (fun _ _ _ h => h) rfl ?_ hHeld ?_
  rotate_left
  · intro w hSw; (try dsimp only at hSw); go_simp <;> with_reducible rfl
  try simp only [Act.put, List.setIfInBounds_toArray, List.set_cons_zero, List.set_cons_succ]
  refine take_run 2 (v := ?_) rfl (by kernel_rfl) (by kernel_rfl) (by kernel_rfl) (fun _ _ _ h => h) rfl ?_ hHeld ?_
  rotate_left
  · intro w hSw; (try dsimp only at hSw); go_simp <;> with_reducible rfl
  try simp only [Act.put, List.setIfInBounds_toArray, List.set_cons_zero, List.set_cons_succ]
  refine take_run 3 (v := ?_) rfl (by kernel_rfl) (by kernel_rfl) (by kernel_rfl) (fun _ _ _ h => h) rfl ?_ hHeld ?_
  rotate_left
  · intro w hSw; (try dsimp only at hSw); go_simp <;> with_reducible rfl
  try simp only [Act.put, List.setIfInBounds_toArray, List.set_cons_zero, List.set_cons_succ]
  refine take_run 4 (v := ?_) rfl (by kernel_rfl) (by kernel_rfl) (by kernel_rfl) (fun _ _ _ h => h) rfl ?_ hHeld ?_
  rotate_left
  · intro w hSw; (try dsimp only at hSw); go_simp <;> with_reducible rfl
  try simp only [Act.put, List.setIfInBounds_toArray, List.set_cons_zero, List.set_cons_succ]
  refine take_run 5 (v := ?_) rfl (by kernel_rfl) (by kernel_rfl) (by kernel_rfl) (fun _ _ _ h => h) rfl ?_ hHeld ?_
  rotate_left
  · intro w hSw; (try dsimp only at hSw); go_simp <;> with_reducible rfl
  try simp only [Act.put, List.setIfInBounds_toArray, List.set_cons_zero, List.set_cons_succ]
  refine take_run 6 (v := ?_) rfl (by kernel_rfl) (by kernel_rfl) (by kernel_rfl) (fun _ _ _ h => h) rfl ?_ hHeld ?_
  rotate_left
  · intro w hSw; (try dsimp only at hSw); go_simp <;> with_reducible rfl
  try simp only [Act.put, List.setIfInBounds_toArray, List.set_cons_zero, List.set_cons_succ]
  refine take_run 7 (v := (.agg (cells8 m.t).toArray)) rfl (by kernel_rfl) (by kernel_rfl) (by kernel_rfl) (fun _ _ _ h => h) rfl ?_ hHeld ?_
  · intro w hSw; (try dsimp only at hSw); exact exec_load_mid 39 (.tmp 25) rfl g3 35 rfl (cells8 m.t) _ (hSw.tagAt HM.out) Tryd.underlying39 rfl HI39.out
  try simp only [Act.put, List.setIfInBounds_toArray, List.set_cons_zero, List.set_cons_succ]
  refine take_call 8 rfl (by kernel_rfl) rfl (fun K hK => ?_)
  go_simp
  refine (verify_32 (some ⟨gk, 16, none⟩) 32 mk HKM.out (some ⟨gb, 0, none⟩) 48 48 m.body m.t _ (HG2.out) ?c1 ?c2 (Nat.le_refl _) (by decide) ?c3 HM.out.2.2.2).mono ?_
  case c1 => exact HRK.out
  case c2 => exact HRB.out
  case c3 => rw [HBL.out]; omega
  rintro e w4 ⟨rfl, hbx⟩
  have y4 : Below w2.heap.size w2 w4 := below_of_drew hbx
  clear hbx
  try dsimp only
  refine hK.out _ _ (r32.step y4) (fun hHeld => ?_)
  clear hK K
  try simp only [Act.put, List.setIfInBounds_toArray, List.set_cons_zero, List.set_cons_succ]
  refine take_run 9 (v := ?_) rfl (by kernel_rfl) (by kernel_rfl) (by kernel_rfl) (fun _ _ _ h => h) rfl ?_ hHeld ?_
  rotate_left
  · intro w hSw; (try dsimp only at hSw); go_simp <;> with_reducible rfl
  try simp only [Act.put, List.setIfInBounds_toArray, List.set_cons_zero, List.set_cons_succ]
  refine take_run 10 (v := ?_) rfl (by kernel_rfl) (by kernel_rfl) (by kernel_rfl) (fun _ _ _ h => h) rfl ?_ hHeld ?_
  rotate_left
  · intro w hSw; (try dsimp only at hSw); go_simp <;> with_reducible rfl
  try simp only [Act.put, List.setIfInBounds_toArray, List.set_cons_zero, List.set_cons_succ]
  refine wpAnyH_done (by kernel_rfl) ?_ _
  have b4 := b2.trans (y4.mono b2.size)
  have rt4 := rt2.step y4
  have o4 := own_below o2 y4 (Nat.le_refl _)
  have r34 := r32.step y4
  have ct : w4.cell? ⟨gt, 1, none⟩ = some vs := rt4.cell rfl
  have HO4 := Lib.hid o4
  have HR34 := Lib.hid r34
  obtain ⟨acc, hacc⟩ : ∃ q, q = decide (hmacF mk m.body = m.t) := ⟨_, rfl⟩
  rw [← hacc]
  have HF : Hid (forgB mk ls m = (acc && !(ls.any fun x => x.same m))) := by unfold Hid forgB; rw [hacc]
  clear hacc b2 rt2 o2 r32 y4 HG2 HRB HRK C3 rt4 o4 r34
  cases acc with
  | false =>
    go_wp2
    go_ret
    exact ⟨ret_bool (by rw [HF.out]; rfl), b4⟩
  | true =>
    have HZC := Lib.hid (show Msg.zero.cells.length = 67 from rfl)
    go_wp2_with (fail)
    refine (firstN ls (ls.map Msg.cells) (fun x => x.same m) vs g3 _ HLN.out (by rw [List.length_map]) ?q1 ?q2 HO4.out ?q3).mono ?_
    case q1 => intro c hc; obtain ⟨x, hx, rfl⟩ := List.mem_map.1 hc; exact Msg.len (HLS.out x hx)
    case q2 => intro c hc; obtain ⟨x, hx, rfl⟩ := List.mem_map.1 hc; exact Msg.one x
    case q3 =>
      intro i x cs hx hcs w' hw'
      have hxl := List.mem_of_getElem? hx
      have : cs = x.cells := by rw [List.getElem?_map, hx] at hcs; simpa using hcs.symm
      subst this
      exact cl28_any x m g3 _ w' (HLS.out x hxl) HM.out (HR34.out.step hw')
    rintro e w5 ⟨hf, hb5⟩
    have b5 := b4.trans (hb5.mono b4.size)
    have HIM := fun (x : Msg) (hx : x.ok) => (show (Tryd.prog.info? 54).map (·.size) = some x.cells.length by rw [Msg.len hx]; kernel_rfl)
    have S0 : Hid (Row (w5.alloc (.cells Msg.zero.cells.toArray 54)) w5.heap.size 54 Msg.zero.cells) := Lib.hid (heap_alloc_new _ _)
    rcases hf with ⟨k, x, cs, hx, hcs, hp, _, rfl⟩ | ⟨hall, rfl⟩
    · have hxl := List.mem_of_getElem? hx
      have : cs = x.cells := by rw [List.getElem?_map, hx] at hcs; simpa using hcs.symm
      subst this
      have hany : Hid ((ls.any fun x => x.same m) = true) := List.any_eq_true.2 ⟨x, hxl, hp⟩
      have H1 := Lib.hid (HIM x (HLS.out x hxl))
      have H2 := Lib.hid (show Msg.zero.cells.length = x.cells.length by rw [Msg.len (HLS.out x hxl)]; rfl)
      clear hx hcs hp hxl HIM ct hb5 b4
      go_wp2_with (refine Row.store (g := w5.heap.size) (t := 54) (L := Msg.zero.cells) (M := x.cells) S0.out rfl 54 (.tmp 7) (.tmp 35) rfl rfl rfl H1.out H2.out (all_oneCell_toArray (Msg.one x)) ?_; rintro wF hwF rF; have bF : Below w.heap.size w wF := (by rw [hwF]; exact (b5.alloc b5.size _).grown (grown_setRow _ _ _) (Nat.le_trans b5.size (by simp)) (fun k hk => by cases hk; exact b5.size)); clear hwF)
      go_ret
      exact ⟨ret_bool (by rw [HF.out, hany.out]; rfl), bF⟩
    · have hany : Hid ((ls.any fun x => x.same m) = false) := by
        unfold Hid; rw [List.any_eq_false]; intro x hx; have := hall x hx; simpa using this
      have hz : Msg.zero.ok := ⟨by decide, by decide, rfl, rfl⟩
      have H1 := Lib.hid (HIM Msg.zero hz)
      clear hall HIM ct hb5 b4
      go_wp2_with (refine Row.store (g := w5.heap.size) (t := 54) (L := Msg.zero.cells) (M := Msg.zero.cells) S0.out rfl 54 (.tmp 7) (.tmp 35) rfl rfl rfl H1.out rfl (all_oneCell_toArray (Msg.one _)) ?_; rintro wF hwF rF; have bF : Below w.heap.size w wF := (by rw [hwF]; exact (b5.alloc b5.size _).grown (grown_setRow _ _ _) (Nat.le_trans b5.size (by simp)) (fun k hk => by cases hk; exact b5.size)); clear hwF)
      go_ret
      exact ⟨ret_bool (by rw [HF.out, hany.out]; rfl), bF⟩

/-- The first forgery, or none. -/
def ForgP (mk : List B8) (ls lf : List Msg) (w : World) (e : Ending) (w' : World) : Prop :=
  ((∃ (k : Nat) (x : Msg), lf[k]? = some x ∧ forgB mk ls x = true ∧ (∀ (j : Nat) (y : Msg), j < k → lf[j]? = some y → forgB mk ls y = false) ∧ e = .returned (.tuple #[.agg x.cells.toArray, .bool true])) ∨ ((∀ y ∈ lf, forgB mk ls y = false) ∧ e = .returned (.tuple #[.agg Msg.zero.cells.toArray, .bool false]))) ∧ Below w.heap.size w w'

set_option maxRecDepth 100000 in
set_option maxHeartbeats 4000000 in
theorem forgery_any (ek mk : List B8) (ls lf : List Msg) (vm vs vl vf vp : Value) (w : World) (hek : ek.length = 16) (hmk : mk.length = 32) (hls : ∀ x ∈ ls, x.ok) (hlf : ∀ x ∈ lf, x.ok) (hln : ls.length < 1000000) (hfn : lf.length < 1000000) (hG : Glob w)
    (hos : w.ownsRow 0 54 67 vs ls.length (ls.map Msg.cells).flatten) (hof : w.ownsRow 0 54 67 vf lf.length (lf.map Msg.cells).flatten) :
    Calls Tryd.prog 12 #[.agg #[vm, vs, vl, vf, vp], .agg (cells8 (ek ++ mk)).toArray] w (ForgP mk ls lf w) := by
  have HKM := Lib.hid hmk
  have HEK := Lib.hid hek
  have HLS := Lib.hid hls
  have HLF := Lib.hid hlf
  have HLN := Lib.hid hln
  have HFN := Lib.hid hfn
  have HG := Lib.hid hG
  have HIM := Lib.hid (fun (x : Msg) (hx : x.ok) => (show (Tryd.prog.info? 54).map (·.size) = some x.cells.length by rw [Msg.len hx]; kernel_rfl))
  have HIM2 := Lib.hid (fun (x : Msg) (hx : x.ok) => (show (Tryd.prog.info? 54).map (·.size) = some x.cells.toArray.size by rw [List.size_toArray, Msg.len hx]; kernel_rfl))
  clear hmk hek hls hlf hln hfn hG
  go_enter Tryd.func12, Tryd.ntmps12
  go_upto_region 1 with (fail)
  change Code.wp _ _ _ _ (((w.alloc (.cells #[vm, vs, vl, vf, vp] 30)).alloc (.cells (cells8 (ek ++ mk)).toArray 58)).alloc (.cells Msg.zero.cells.toArray 54))
  obtain ⟨wz, hwz⟩ : ∃ wz, wz = (((w.alloc (.cells #[vm, vs, vl, vf, vp] 30)).alloc (.cells (cells8 (ek ++ mk)).toArray 58)).alloc (.cells Msg.zero.cells.toArray 54)) := ⟨_, rfl⟩
  obtain ⟨g2, h2⟩ : ∃ g, g = w.heap.size := ⟨_, rfl⟩
  obtain ⟨g3, h3⟩ : ∃ g, g = w.heap.size + 1 := ⟨_, rfl⟩
  obtain ⟨g4, h4⟩ : ∃ g, g = w.heap.size + 1 + 1 := ⟨_, rfl⟩
  have hb : Below w.heap.size w wz := by rw [hwz]; exact (((Below.refl _ _).alloc (Nat.le_refl _) _).alloc (by simp) _).alloc (by simp; omega) _
  have r2 : Row wz g2 30 [vm, vs, vl, vf, vp] := by
    have h0 : Row (w.alloc (.cells #[vm, vs, vl, vf, vp] 30)) w.heap.size 30 [vm, vs, vl, vf, vp] := heap_alloc_new _ _
    rw [hwz, h2]; exact (h0.step ((Below.refl _ _).alloc (Nat.le_refl _) _)).step ((Below.refl _ _).alloc (Nat.le_refl _) _)
  have r3 : Row wz g3 58 (cells8 (ek ++ mk)) := by
    have h0 : Row ((w.alloc (.cells #[vm, vs, vl, vf, vp] 30)).alloc (.cells (cells8 (ek ++ mk)).toArray 58)) (w.heap.size + 1) 58 (cells8 (ek ++ mk)) := heap_new_at (by simp)
    rw [hwz, h3]; exact h0.step ((Below.refl _ _).alloc (Nat.le_refl _) _)
  have r4 : Row wz g4 54 Msg.zero.cells := by rw [hwz, h4]; exact heap_new_at (by simp)
  have hg4w : w.heap.size ≤ g4 := by omega
  rw [← hwz, ← h4, ← h3, ← h2]
  clear hwz h2 h3 h4
  have c3 : wz.cell? ⟨g2, 3, none⟩ = some vf := r2.cell rfl
  have HO := Lib.hid (own_below hos hb (Nat.le_refl _))
  have HOF := Lib.hid (own_below hof hb (Nat.le_refl _))
  have R2 := Lib.hid r2
  have R3 := Lib.hid r3
  have HB := Lib.hid hb
  clear hos hof r2 r3
  go_wp2_with (fail)
  refine (firstM lf (lf.map Msg.cells) (fun x => forgB mk ls x) vf g3 g2 _ HFN.out (by rw [List.length_map]) ?q1 ?q2 HOF.out ?q3).mono ?_
  case q1 => intro c hc; obtain ⟨x, hx, rfl⟩ := List.mem_map.1 hc; exact Msg.len (HLF.out x hx)
  case q2 => intro c hc; obtain ⟨x, hx, rfl⟩ := List.mem_map.1 hc; exact Msg.one x
  case q3 =>
    intro i x cs hx hcs w' hw'
    have hxl := List.mem_of_getElem? hx
    have : cs = x.cells := by rw [List.getElem?_map, hx] at hcs; simpa using hcs.symm
    subst this
    exact cl25_any x ek mk ls g3 g2 _ _ vs vm vl vf vp w' (HLF.out x hxl) HEK.out HKM.out HLS.out HLN.out (HG.out.step (HB.out.trans (hw'.mono HB.out.size))) (R3.out.step hw') (R2.out.step hw') (own_below HO.out hw' (Nat.le_refl _))
  rintro e w5 ⟨hf, hb5⟩
  have b5 := hb.trans (hb5.mono hb.size)
  have r45 := r4.step hb5
  rcases hf with ⟨k, x, cs, hx, hcs, hp, hno, rfl⟩ | ⟨hall, rfl⟩
  · have hxl := List.mem_of_getElem? hx
    have : cs = x.cells := by rw [List.getElem?_map, hx] at hcs; simpa using hcs.symm
    subst this
    have H1 := Lib.hid (HIM.out x (HLF.out x hxl))
    have H1' := Lib.hid (HIM2.out x (HLF.out x hxl))
    have H2 := Lib.hid (show Msg.zero.cells.length = x.cells.length by rw [Msg.len (HLF.out x hxl)]; rfl)
    have HP := Lib.hid (show lf[k]? = some x ∧ forgB mk ls x = true ∧ (∀ (j : Nat) (y : Msg), j < k → lf[j]? = some y → forgB mk ls y = false) from ⟨hx, hp, hno⟩)
    clear hx hcs hp hno hxl c3 hb5 hb r4
    go_wp2_with (refine Row.store (g := g4) (t := 54) (L := Msg.zero.cells) (M := x.cells) r45 rfl 54 (.tmp 4) (.tmp 10) rfl rfl rfl H1.out H2.out (all_oneCell_toArray (Msg.one x)) ?_; rintro wF hwF rF; have bF : Below w.heap.size w wF := (by rw [hwF]; exact b5.grown (grown_setRow _ _ _) b5.size (fun k hk => by cases hk; exact hg4w)); clear hwF)
    have l4 := run_loadVar_row (P := Tryd.prog) wF g4 54 54 x.cells.toArray (0, 0) _ rF Tryd.underlying54 rfl H1'.out
    refine bodyPost_ret (v := .tuple #[.agg x.cells.toArray, .bool true]) (by simp [results, Tryd.results12, asAddr, l4]) rfl ⟨.inl ⟨k, x, HP.out.1, HP.out.2.1, HP.out.2.2, rfl⟩, bF⟩
  · have hz : Msg.zero.ok := ⟨by decide, by decide, rfl, rfl⟩
    have H1 := Lib.hid (HIM.out Msg.zero hz)
    have H1' := Lib.hid (HIM2.out Msg.zero hz)
    have HA := Lib.hid hall
    clear hall c3 hb5 hb r4
    go_wp2_with (refine Row.store (g := g4) (t := 54) (L := Msg.zero.cells) (M := Msg.zero.cells) r45 rfl 54 (.tmp 4) (.tmp 10) rfl rfl rfl H1.out rfl (all_oneCell_toArray (Msg.one _)) ?_; rintro wF hwF rF; have bF : Below w.heap.size w wF := (by rw [hwF]; exact b5.grown (grown_setRow _ _ _) b5.size (fun k hk => by cases hk; exact hg4w)); clear hwF)
    have l4 := run_loadVar_row (P := Tryd.prog) wF g4 54 54 Msg.zero.cells.toArray (0, 0) _ rF Tryd.underlying54 rfl H1'.out
    refine bodyPost_ret (v := .tuple #[.agg Msg.zero.cells.toArray, .bool false]) (by simp [results, Tryd.results12, asAddr, l4]) rfl ⟨.inr ⟨HA.out, rfl⟩, bF⟩
end Go.Proofs.YtpobkoiaidgedaaDoor
