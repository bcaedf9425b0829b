/- slices.DeleteFunc as FreeAll calls it; FreeAll. -/
import Derived.Test.YtfdfadebfdmdgaaLkQ
import Derived.Test.YtfdfadebfdmdgaaLkO
namespace Go.Proofs.Ytfdfadebfdmdgaa
open Go.RowKit

/-- A struct is stored into a row. -/
theorem run_store_row {P : Program} {w : World} (ty : TypeId) (g o : Nat) (t : TypeId) (L cs : List Value) (hg : Row w g t L) (hi : (P.info? ty).map (·.size) = some cs.length) (hfit : o + cs.length ≤ L.length) (h1 : ∀ v ∈ cs, v.oneCell' = true) :
    (Instr.storeAt ty (.pointer (some ⟨g, o, none⟩)) (.agg cs.toArray)).run P w = .ok () (w.setRow g (splice L o cs).toArray) := by
  have hst := run_storeCells_at P g o t cs 0 L.toArray w hg (by simpa using hfit) h1
  cases hq : P.info? ty with
  | none => simp [hq] at hi
  | some i =>
    have hs : i.size = cs.length := by simpa [hq] using hi
    simp only [Nat.add_zero] at hst
    simp [Instr.storeAt, Instr.sureAddr, storeVar, sizeOf, typeInfo, hq, Value.cells, hs, hst, splice]

theorem wpList_store_splice {P : Program} {w : World} {ops : Array Oper} {rest : List Oper} {op : Oper} {a : Act} {Q : Exit → Act → World → Prop} (hgd : op.guard = none) (ty : TypeId) (x y : Operand) (ho : op.op = .store ty x y)
    (g o : Nat) (t : TypeId) (L cs : List Value) (hx : a.eval x = .pointer (some ⟨g, o, none⟩)) (hy : a.eval y = .agg cs.toArray) (hg : Row w g t L) (hi : (P.info? ty).map (·.size) = some cs.length) (hfit : o + cs.length ≤ L.length) (h1 : ∀ v ∈ cs, v.oneCell' = true)
    (h : ∀ w', Row w' g t (splice L o cs) → w.grownBy w' (some g) → wpList P ops Q rest (a.put op.dst undef) w') : wpList P ops Q (op :: rest) a w :=
  wpList_plain hgd fun _ hK => by
    unfold Oper.wp execOp
    simp only [ho, hx, hy, Sem.run_bind, Sem.run_pure, Result.andThen_ok, run_store_row ty g o t L cs hg hi hfit h1]
    exact hK _ _ (h _ hg.set (grown_setRow _ _ _))

theorem gb_below {w a b : World} {C : Nat} {r : Option Nat} (h : w.grownBy a r) (hb : Below C a b) (hC : w.heap.size ≤ C) : w.grownBy b r :=
  ⟨hb.os.trans h.os, hb.tape.trans h.tape, hb.output.trans h.output, Nat.le_trans h.size hb.size, fun k hk hne => (hb.block k (Nat.lt_of_lt_of_le hk hC)).trans (h.block k hk hne)⟩

theorem row_elem {hs : List H3} {L : List Value} {n : Nat} (hLt : L.take (n * 3) = cells3 hs) {k : Nat} (hk : k < hs.length) : ∃ R, L.drop (k * 3) = .int .i64 hs[k].lv :: .int .i64 hs[k].ix :: .int .i64 hs[k].th :: R := by
  have h1 : L = cells3 hs ++ L.drop (n * 3) := by rw [← hLt, List.take_append_drop]
  rw [h1, List.drop_append_of_le_length (by rw [cells3_len]; omega), cells3_drop, List.drop_eq_getElem_cons hk]
  exact ⟨_, rfl⟩

def withoutTh (th : Int) (hs : List H3) : List H3 := hs.filter fun x => !(x.th == th)

theorem splice_drop_far {α : Type} (L cs : List α) (o n : Nat) (ho : o ≤ L.length) (hn : o + cs.length ≤ n) : (splice L o cs).drop n = L.drop n := by
  rw [show n = (o + cs.length) + (n - (o + cs.length)) by omega, ← List.drop_drop, splice_drop _ _ _ ho, List.drop_drop]

theorem wTh_hit (th : Int) (hs : List H3) (k : Nat) (hk : k < hs.length) (h : (hs[k].th == th) = false) : withoutTh th (hs.take (k + 1)) = withoutTh th (hs.take k) ++ [hs[k]] := by
  rw [take_snoc _ _ hk]; simp only [withoutTh, List.filter_append, List.filter_cons, h]; simp
theorem wTh_miss (th : Int) (hs : List H3) (k : Nat) (hk : k < hs.length) (h : (hs[k].th == th) = true) : withoutTh th (hs.take (k + 1)) = withoutTh th (hs.take k) := by
  rw [take_snoc _ _ hk]; simp only [withoutTh, List.filter_append, List.filter_cons, h]; simp
theorem wTh_len (th : Int) (hs : List H3) (k : Nat) : (withoutTh th (hs.take k)).length ≤ k := Nat.le_trans (List.length_filter_le _ _) (by simp; omega)

set_option maxRecDepth 100000 in
set_option maxHeartbeats 4000000 in
theorem deleteFunc_any (B n c g gt : Nat) (th : Int) (hs : List H3) (w : World) (hown : w.ownsRow B 67 3 (.slice (some ⟨g, 0, none⟩) n c) n (cells3 hs)) (hn : (n : Int) ≤ 1000000) (hc : w.cell? ⟨gt, 0, none⟩ = some (.int .i64 th)) (hgt : gt < B) :
    Calls Try.prog 57 #[.slice (some ⟨g, 0, none⟩) n c, .func (.func 58) #[] #[.pointer (some ⟨gt, 0, none⟩)]] w fun e w' => ∃ m, e = .returned (.slice (some ⟨g, 0, none⟩) m c) ∧ m ≤ n ∧ w'.ownsRow B 67 3 (.slice (some ⟨g, 0, none⟩) m c) m (cells3 (withoutTh th hs)) ∧ w.grownBy w' (some g) := by
  rcases own_row hown with ⟨h, _⟩ | ⟨g', L, hg', hBg, hrow, hnc, hcm, hLl, hLt⟩
  · cases h
  obtain rfl : g = g' := by simpa using hg'
  clear hg'
  have hr := Rd.of_own hown
  have hg2 : gt < w.heap.size := lt_of_cell hc
  have HL := Lib.hid hr.len3
  go_enter Try.func57, Try.ntmps57
  go_wp2_with fail
  refine (indexH_any _ _ _ _ hs th _ hr hn hc hg2).mono ?_
  rintro e w1 ⟨rfl, hb⟩
  rcases fIdx_cases (fun x : H3 => x.th == th) hs 0 with ⟨h1, h2⟩ | ⟨j, hj, h1, h2, h3⟩
  · rw [h1]
    go_wp2
    go_ret
    refine ⟨n, rfl, Nat.le_refl _, ?_, ⟨hb.os, hb.tape, hb.output, hb.size, fun k hk _ => hb.block k hk⟩⟩
    have : withoutTh th hs = hs := List.filter_eq_self.2 fun x hx => by rw [h2 x hx]; rfl
    rw [this]
    exact own_below hown hb (Nat.le_refl _)
  · rw [h1]
    have hne1 : (((0 + j : Nat) : Int) == -1) = false := by simp
    rw [Nat.zero_add] at hne1 ⊢
    have hrow1 : Row w1 g 67 L := hrow.below hb hrow.lt
    have hgb1 : w.grownBy w1 (some g) := ⟨hb.os, hb.tape, hb.output, hb.size, fun k hk _ => hb.block k hk⟩
    have hs0 : withoutTh th (hs.take (j + 1)) = hs.take j := by
      rw [wTh_miss _ _ _ hj h2]
      exact List.filter_eq_self.2 fun x hx => by rw [h3 x hx]; rfl
    have hj0 : Hid (j = (withoutTh th (hs.take (j + 1))).length ∧ L.take (j * 3) = cells3 (withoutTh th (hs.take (j + 1)))) := by
      rw [hs0]
      refine ⟨by rw [List.length_take]; omega, ?_⟩
      rw [← cells3_take, ← hLt, List.take_take]; congr 1
      have := HL.out; omega
    have HE : Hid (∀ k (hk : k < hs.length), ∃ R, L.drop (k * 3) = .int .i64 hs[k].lv :: .int .i64 hs[k].ix :: .int .i64 hs[k].th :: R) := fun k hk => row_elem hLt hk
    have hjn : j + 1 ≤ n := by have := HL.out; omega
    have HT := Lib.hid hc
    have hgn : some gt ≠ some g := fun h => by cases h; omega
    clear hown hrow hLt hr hb h1 h2 h3 hs0 hc hj
    go_wp2
    go_loopw [5, 6] (fun i k wr => ∃ (ki kj : Nat) (M : List Value), i = .int .i64 ki ∧ k = .int .i64 kj ∧ kj ≤ n ∧ ki < kj ∧ Hid (ki = (withoutTh th (hs.take kj)).length ∧ M.take (ki * 3) = cells3 (withoutTh th (hs.take kj))) ∧ Row wr g 67 M ∧ Hid (M.length = c * 3) ∧ Hid (M.drop (kj * 3) = L.drop (kj * 3)) ∧ w.grownBy wr (some g)) (fun _ k _ => n - (intOf k).toNat)
    case atStart => exact ⟨j, j + 1, L, rfl, by first | rfl | (congr 1; omega), hjn, by omega, hj0, hrow1, hLl, rfl, hgb1⟩
    case round =>
      obtain ⟨ki, kj, M, rfl, rfl, hkj, hki, hF, hrow, hMl, hMd, hgb⟩ := hrel
      have hct : wr.cell? ⟨gt, 0, none⟩ = some (.int .i64 th) := hgb.cell HT.out hgn
      have hgt2 : gt < wr.heap.size := lt_of_cell hct
      by_cases hlt : kj < n
      · have hkl : kj < hs.length := by have := HL.out; omega
        obtain ⟨R, hR⟩ := HE.out kj hkl
        have hcc := hrow.cells (kj * 3)
        rw [hMd.out, hR] at hcc
        have c0 : wr.cell? ⟨g, kj * 3, none⟩ = some (.int .i64 hs[kj].lv) := hcc.c0
        have c1 : wr.cell? ⟨g, kj * 3 + 1, none⟩ = some (.int .i64 hs[kj].ix) := hcc.c1
        have c2 : wr.cell? ⟨g, kj * 3 + 2, none⟩ = some (.int .i64 hs[kj].th) := hcc.c2
        clear hcc
        have HR := Lib.hid hR
        clear hR
        have hal : Below wr.heap.size wr (wr.alloc (.cells #[.int .i64 hs[kj].lv, .int .i64 hs[kj].ix, .int .i64 hs[kj].th] 67)) := (Below.refl _ _).alloc (Nat.le_refl _) _
        have hca := cs_ hal hgt2 hct
        have hone : ∀ u ∈ hs[kj].cells, u.oneCell' = true := fun u hu => cells3_one [hs[kj]] u (by simpa [cells3] using hu)
        have hxl : hs[kj].cells.length = 3 := rfl
        have hfit : ki * 3 + hs[kj].cells.length ≤ M.length := by rw [hMl.out, hxl]; omega
        go_wp2_with fail
        refine (freeAll1_any _ _ hs[kj] _ hca).mono ?_
        rintro e w3 ⟨rfl, hb3⟩
        have hb4 : Below wr.heap.size wr w3 := below_alloc1 hb3
        have hgb3 : w.grownBy w3 (some g) := gb_below hgb hb4 hgb.size
        have hrow3 : Row w3 g 67 M := hrow.below hb4 hrow.lt
        obtain ⟨hc3, hf3⟩ := bcell hb3
        cases hp : hs[kj].th == th
        · have hki9 : (ki : Int) < (n : Int) := by omega
          go_wp2_with (refine wpList_store_splice rfl _ (.tmp 33) (.tmp 32) rfl g (ki * 3) 67 M hs[kj].cells rfl rfl hrow3 (by kernel_rfl) hfit hone ?_; intro w4 hrow4 hg4)
          go_roundw
          case rel =>
            refine ⟨ki + 1, kj + 1, _, by go_num, by go_num, by omega, by omega, ⟨?_, ?_⟩, hrow4, ?_, ?_, hgb3.trans hg4⟩
            · rw [wTh_hit _ _ _ hkl hp, List.length_append, ← hF.out.1]; rfl
            · rw [wTh_hit _ _ _ hkl hp, cells3_app, ← hF.out.2, show (ki + 1) * 3 = ki * 3 + hs[kj].cells.length by rw [hxl]; omega, splice_take_end _ _ _ (by rw [hMl.out]; omega)]
              simp [cells3]
            · unfold Hid; rw [splice_len _ _ _ hfit, hMl.out]
            · unfold Hid
              rw [splice_drop_far _ _ _ _ (by rw [hMl.out]; omega) (by rw [hxl]; omega), show (kj + 1) * 3 = kj * 3 + 3 by omega, ← List.drop_drop, ← List.drop_drop, hMd.out]
          case measure => simp [intOf]; omega
        · go_wp2
          go_roundw
          case rel =>
            refine ⟨ki, kj + 1, M, rfl, by go_num, by omega, by omega, ?_, hrow3, hMl, ?_, hgb3⟩
            · unfold Hid; rw [wTh_miss _ _ _ hkl hp]; exact hF.out
            · unfold Hid
              rw [show (kj + 1) * 3 = kj * 3 + 3 by omega, ← List.drop_drop, ← List.drop_drop, hMd.out]
          case measure => simp [intOf]; omega
      · obtain rfl : kj = n := by omega
        have hzz : (Value.agg #[.int .i64 0, .int .i64 0, .int .i64 0]).cells.size = 3 := rfl
        have hfit2 : ki * 3 + (kj - ki) * (Value.agg #[.int .i64 0, .int .i64 0, .int .i64 0]).cells.size ≤ M.length := by rw [hMl.out, hzz]; omega
        obtain ⟨i0, hi0, hz0, hz1, hz2⟩ := info_parts info_held
        obtain ⟨W3, hW3⟩ : ∃ W3, W3 = wr.setRow g (splice M (ki * 3) (Builtin.zeroCells (Value.agg #[.int .i64 0, .int .i64 0, .int .i64 0]).cells (kj - ki)).toList).toArray := ⟨_, rfl⟩
        have hrow3 : Row W3 g 67 (splice M (ki * 3) (Builtin.zeroCells (Value.agg #[.int .i64 0, .int .i64 0, .int .i64 0]).cells (kj - ki)).toList) := by rw [hW3]; exact hrow.set
        have hg3 : w.grownBy W3 (some g) := by rw [hW3]; exact hgb.trans (grown_setRow wr g _)
        have hcl : ∀ c' ty, (Builtin.clear_ #[27] ty #[.slice (some ⟨g, ki * 3, none⟩) (kj - ki) c']).run Try.prog wr = .ok (.tuple #[]) W3 := by
          intro c' ty
          rw [hW3]
          exact run_clear_any _ _ _ i0 _ Try.underlying27 hi0 hz0 held_zero g _ (kj - ki) c' _ _ _ hrow (fun _ => rfl) hfit2
        clear hW3
        have hfin : Hid (W3.ownsRow B 67 3 (.slice (some ⟨g, 0, none⟩) ki c) ki (cells3 (withoutTh th hs))) := by
          have hzl : (Builtin.zeroCells (Value.agg #[.int .i64 0, .int .i64 0, .int .i64 0]).cells (kj - ki)).toList.length = (kj - ki) * 3 := by simp [size_zeroCells, hzz]
          refine row_own hBg hrow3 (by omega) hcm (by rw [splice_len _ _ _ (by rw [hzl, hMl.out]; omega), hMl.out]) ?_
          rw [splice_take _ _ _ _ (Nat.le_refl _) (by rw [hMl.out]; omega), hF.out.2, show hs.take kj = hs by rw [HL.out]; exact List.take_length]
        have hkc : ¬ c = ki := by omega
        have hkn : ki ≤ kj := by omega
        have hkc2 : ki ≤ c := by omega
        clear hrow hrow3 hF hMd hgb hfit2 hzz hi0 hz0 hz1 hz2
        go_wp2
        go_ret
        exact ⟨ki, rfl, hkn, hfin.out, hg3⟩

theorem deleteFunc_nil (gt : Nat) (th : Int) (w : World) (hc : w.cell? ⟨gt, 0, none⟩ = some (.int .i64 th)) :
    Calls Try.prog 57 #[.slice none 0 0, .func (.func 58) #[] #[.pointer (some ⟨gt, 0, none⟩)]] w fun e w' => e = .returned (.slice none 0 0) ∧ Below w.heap.size w w' := by
  have hg2 : gt < w.heap.size := lt_of_cell hc
  go_enter Try.func57, Try.ntmps57
  go_wp2_with fail
  refine (indexH_any none 0 0 _ [] th _ Rd.none_ (by omega) hc hg2).mono ?_
  rintro e w1 ⟨rfl, hb⟩
  have : fIdx (fun x : H3 => x.th == th) 0 [] = -1 := rfl
  rw [this]
  go_wp2
  go_ret
  exact ⟨rfl, hb⟩

/-- A table without spare room comes back; what was there is as it was. -/
def ExOut (gs : List H3) (w : World) (e : Ending) (w' : World) : Prop := ∃ A' m, e = .returned (.agg #[.slice A' m m]) ∧ Rd w' w'.heap.size 3 A' m (cells3 gs) ∧ Below w.heap.size w w'

set_option maxRecDepth 100000 in
set_option maxHeartbeats 4000000 in
theorem freeAll_any (A : Option Addr) (n c : Nat) (th : Int) (hs : List H3) (w : World) (hr : Rd w w.heap.size 3 A n (cells3 hs)) (hn : (n : Int) ≤ 1000000) :
    Calls Try.prog 31 #[.agg #[.slice A n c], .int .i64 th] w (ExOut (withoutTh th hs) w) := by
  have HL := Lib.hid hr.len3
  have hA : A = none → n = 0 := fun h => by
    rcases Nat.eq_zero_or_pos n with h0 | h0
    · exact h0
    · obtain ⟨ad, hA, _⟩ := hr.2 h0; rw [h] at hA; cases hA
  go_enter Try.func31, Try.ntmps31
  go_wp2_with fail
  refine (clone_any _ _ _ hs _ ?_ hn hA).mono ?_
  · exact hr.step (below_new3 _ _ _ _)
  rintro e w5 ⟨v5, rfl, ho5, hb5⟩
  obtain ⟨A5, c5, rfl, _, _⟩ := own_slice ho5
  have kc : w5.cell? ⟨w.heap.size + 1, 0, none⟩ = some (.int .i64 th) := cs_ hb5 (by simp) (by simp [go_sem])
  rcases own_row ho5 with ⟨rfl, rfl, rfl, hnil⟩ | ⟨g, L, rfl, hBg, _⟩
  · have h0 : hs = [] := List.eq_nil_of_length_eq_zero HL.out.symm
    subst h0
    go_wp2_with fail
    refine (deleteFunc_nil _ _ _ kc).mono ?_
    rintro e w6 ⟨rfl, hb6⟩
    have hb7 := hb5.trans (hb6.mono hb5.size)
    go_wp2_with fail
    refine (exact_any none 0 0 [] _ Rd.none_ (by omega)).mono ?_
    rintro e w7 ⟨A7, rfl, ho7, hb8⟩
    have hb9 := hb7.trans (hb8.mono hb7.size)
    obtain ⟨hc4, hf4⟩ := bcell hb9
    have k1 : w7.cell? ⟨w.heap.size + 1 + 1, 0, none⟩ = some (.slice none 0 0) := cs_ hb9 (by simp) (by simp [go_sem])
    have hres := set_same (u := .slice A7 0 0) k1
    have hs6 := hb7.size
    go_wp2_with fail
    refine bodyPost_ret (v := .agg #[.slice A7 0 0]) (by simp [results, Try.results31, go_sem, hres]) rfl ⟨A7, 0, rfl, ?_, ?_⟩
    · exact Rd.of_own (ownsRow_setCell_other ho7 (fun h => by have := (ho7.lt _ h).1; simp at this; simp at hs6; omega) _)
    · exact (below_alloc1 (below_alloc2 hb9)).setCell (by show w.heap.size ≤ w.heap.size + 1 + 1; omega) _
  · have hgl : w.heap.size + 1 < w.heap.size + 1 + 1 + 1 := by omega
    have hgz : (((w.alloc (.cells #[.slice A n c] 29)).alloc (.cells #[.int .i64 th] 3)).alloc (.cells #[.slice none 0 0] 29)).heap.size = w.heap.size + 1 + 1 + 1 := by simp
    go_wp2_with fail
    refine (deleteFunc_any _ _ _ _ _ _ hs _ ho5 hn kc (by rw [hgz]; exact hgl)).mono ?_
    rintro e w6 ⟨m, rfl, hmn, ho6, hg6⟩
    have hb7 := grown_below hb5 hg6 hb5.size hBg
    have hm6 : (m : Int) ≤ 1000000 := by omega
    go_wp2_with fail
    refine (exact_any _ _ _ (withoutTh th hs) _ (Rd.of_own ho6) hm6).mono ?_
    rintro e w7 ⟨A7, rfl, ho7, hb8⟩
    have hb9 := hb7.trans (hb8.mono hb7.size)
    obtain ⟨hc4, hf4⟩ := bcell hb9
    have k1 : w7.cell? ⟨w.heap.size + 1 + 1, 0, none⟩ = some (.slice none 0 0) := cs_ hb9 (by simp) (by simp [go_sem])
    have hres := set_same (u := .slice A7 m m) k1
    have hs6 := hb7.size
    go_wp2_with fail
    refine bodyPost_ret (v := .agg #[.slice A7 m m]) (by simp [results, Try.results31, go_sem, hres]) rfl ⟨A7, m, rfl, ?_, ?_⟩
    · exact Rd.of_own (ownsRow_setCell_other ho7 (fun h => by have := (ho7.lt _ h).1; simp at this; simp at hs6; omega) _)
    · exact (below_alloc1 (below_alloc2 hb9)).setCell (by show w.heap.size ≤ w.heap.size + 1 + 1; omega) _
end Go.Proofs.Ytfdfadebfdmdgaa
