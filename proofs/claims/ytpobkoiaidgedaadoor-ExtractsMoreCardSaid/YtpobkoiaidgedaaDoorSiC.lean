/- The parts of an expanded key: the iterator. -/
import Derived.Test.YtpobkoiaidgedaaDoorSiB
import Derived.RangeFuncNested
import Derived.RangeFuncBound
import Derived.RangeFuncCalls
import Derived.RangeFuncLeaves
import Derived.Shelf.Abstract
import Derived.Shelf.RegionOpen
import Derived.OwnWalkIn
import Derived.TacticsInMore
import Derived.LoopNIn
import Derived.LoopIn
namespace Go.Proofs.YtpobkoiaidgedaaDoor
open Go.RowKit Go.Shelf
attribute [local go_sem] Oper.semAt_some

section
variable {F : Fence} {n : Nat} {P : Program} {ops : Array Oper} {rest : List Oper} {o : Oper} {a : Act} {w w' : World} {Q : Exit → Act → World → Prop}
theorem about_none (hnc : ∀ c, o.op ≠ .call c) : o.about P w a.eval = none := by
  unfold Oper.about
  cases ho : o.op <;> first | rfl | exact absurd ho (hnc _)
theorem wpListIn_value (hgd : o.guard = none) (hnc : ∀ c, o.op ≠ .call c) (hnd : ∀ c, o.op ≠ .defer c) {v : Value} (hr : (execOp a.eval o).run P w = .ok (.value v) w') (h : wpListIn F n P ops Q rest (a.put o.dst v) w') : wpListIn F n P ops Q (o :: rest) a w :=
  wpListIn_plain hgd fun K hK => by
    unfold Oper.wpIn
    rw [Oper.semAt_eq _ _ _ hnd, hr, about_none hnc]
    exact ⟨fun f hf => (by cases hf), hK _ _ h⟩
theorem wpListIn_skipd (hgd : o.guard = none) (hnc : ∀ c, o.op ≠ .call c) (hnd : ∀ c, o.op ≠ .defer c) (hr : (execOp a.eval o).run P w = .ok .skip w') (h : wpListIn F n P ops Q rest (a.put o.dst undef) w') : wpListIn F n P ops Q (o :: rest) a w :=
  wpListIn_plain hgd fun K hK => by
    unfold Oper.wpIn
    rw [Oper.semAt_eq _ _ _ hnd, hr, about_none hnc]
    exact ⟨fun f hf => (by cases hf), hK _ _ h⟩
theorem exec_store_row {ev : Operand → Value} (ty : TypeId) (x y : Operand) (ho : o.op = .store ty x y) (g : Nat) (t : TypeId) (L M : List Value) (hx : ev x = .pointer (some ⟨g, 0, none⟩)) (hy : ev y = .agg M.toArray) (hg : Row w g t L) (hi : (P.info? ty).map (·.size) = some M.length) (hl : L.length = M.length) (h1 : ∀ v ∈ M, v.oneCell' = true) :
    (execOp ev o).run P w = .ok .skip (w.setRow g M.toArray) := by
  have e : splice L 0 M = M := by simp [splice, List.drop_of_length_le (show L.length ≤ M.length by omega)]
  unfold execOp
  simp only [ho, hx, hy, Sem.run_bind, Sem.run_pure, Result.andThen_ok, run_store_row ty g 0 t L M hg hi (by omega) h1, e]
end

/-- What was made of cells is as it was. -/
def KeepC (W W' : World) : Prop := W.heap.size ≤ W'.heap.size ∧ ∀ (k : Nat) (c : Array Value) (t : TypeId) (fr : Nat × Nat), W.heap[k]? = some (Obj.cells c t fr) → W'.heap[k]? = some (Obj.cells c t fr)
theorem KeepC.trans {A B C : World} (h : KeepC A B) (k : KeepC B C) : KeepC A C := ⟨Nat.le_trans h.1 k.1, fun j _ _ _ hj => k.2 _ _ _ _ (h.2 j _ _ _ hj)⟩
theorem KeepC.putObj {w : World} (W : World) (l : Nat) (o o' : Obj) (_ : w.heap.size ≤ l) (h : W.heap[l]? = some o) (hc : o.isCells = false) (_ : o.isWalk = false) : KeepC W (W.putObj l o') :=
  ⟨by simp, fun k _ _ _ hk => by
    have hne : k ≠ l := by
      intro e; subst e; rw [h] at hk; cases hk; simp [Obj.isCells] at hc
    exact (World.putObj_heap_other hne).trans hk⟩
theorem KeepC.of_below {W W' : World} (h : Below W.heap.size W W') : KeepC W W' := ⟨h.size, fun k _ _ _ hk => (h.block k (Array.getElem?_eq_some_iff.1 hk).1).trans hk⟩
theorem KeepC.row {W W' : World} (h : KeepC W W') {g : Nat} {t : TypeId} {L : List Value} (hr : Row W g t L) : Row W' g t L := h.2 _ _ _ _ hr
theorem KeepC.cell {W W' : World} (h : KeepC W W') {p : Addr} {v : Value} (hc : W.cell? p = some v) : W'.cell? p = some v := by
  unfold World.cell? at hc ⊢
  cases ho : W.heap[p.block]? with
  | none => simp [ho] at hc
  | some o =>
    cases o with
    | cells c t fr => rw [h.2 _ _ _ _ ho]; simpa [ho] using hc
    | _ => simp [ho] at hc
theorem KeepC.rd {W W' : World} (h : KeepC W W') {size n : Nat} {A : Option Addr} {xs : List Value} (hr : Rd W W.heap.size size A n xs) : Rd W' W'.heap.size size A n xs :=
  ⟨hr.1, fun hn => by
    obtain ⟨ad, e, hl, hc⟩ := hr.2 hn
    exact ⟨ad, e, Nat.lt_of_lt_of_le hl h.1, fun j v hv => h.cell (hc j v hv)⟩⟩
theorem KeepC.glob {W W' : World} (h : KeepC W W') (hG : Glob W) : Glob W' := by
  obtain ⟨⟨t, fr, h1⟩, t2, fr2, h2⟩ := hG
  exact ⟨⟨t, fr, h.2 _ _ _ _ h1⟩, t2, fr2, h.2 _ _ _ _ h2⟩
theorem grown_of_below {W W' : World} (h : Below W.heap.size W W') : W.grownBy W' none := ⟨h.os, h.tape, h.output, h.size, fun k hk _ => h.block k hk⟩

/-- T(0), T(1), .. -/
def tS (prk info : List B8) : Nat → List B8
  | 0 => []
  | i + 1 => hmacF prk (tS prk info i ++ (info ++ [BitVec.ofNat 8 (i + 1)]))
theorem tS_len (prk info : List B8) (i : Nat) : (tS prk info (i + 1)).length = 32 := hmac_len _ _
theorem tS_le (prk info : List B8) (i : Nat) : (tS prk info i).length ≤ 32 := by
  cases i with
  | zero => simp [tS]
  | succ i => rw [tS_len]; exact Nat.le_refl _
theorem tS_one (prk info : List B8) : tS prk info 1 = part1 prk info := rfl
abbrev D32 := { x : List B8 // x.length = 32 }

/-- What the iterator reads. -/
def Env (prk info : List B8) (b1 b2 : Nat) (A1 : Option Addr) (c1 : Nat) (A2 : Option Addr) (c2 : Nat) (w : World) : Prop :=
  Glob w ∧ Row w b1 34 [.slice A1 32 c1] ∧ Row w b2 34 [.slice A2 info.length c2] ∧ Rd w w.heap.size 1 A1 32 (cells8 prk) ∧ Rd w w.heap.size 1 A2 info.length (cells8 info)
theorem Env.keep {prk info : List B8} {b1 b2 c1 c2 : Nat} {A1 A2 : Option Addr} {W W' : World} (h : Env prk info b1 b2 A1 c1 A2 c2 W) (k : KeepC W W') : Env prk info b1 b2 A1 c1 A2 c2 W' :=
  ⟨k.glob h.1, k.row h.2.1, k.row h.2.2.1, k.rd h.2.2.2.1, k.rd h.2.2.2.2⟩
theorem macOf_32 (A : Option Addr) (c : Nat) (k : List B8) (hk : k.length = 32) (A2 : Option Addr) (n c2 : Nat) (vals : List Value) (ls : List (List B8)) (w : World) (hG : Glob w) (hrk : Rd w w.heap.size 1 A 32 (cells8 k))
    (hn : n = ls.length) (hr : Rd w w.heap.size 1 A2 n vals) (hp : Parts w w.heap.size vals ls) (hm : ls.flatten.length < 800000000) (hnm : n < 1000000000) :
    Calls Tryd.prog 43 #[.slice A 32 c, .slice A2 n c2] w fun e w' => e = .returned (.agg (cells8 (hmacF k ls.flatten)).toArray) ∧ Below w.heap.size w w' := by
  have h := macOf_any A c k A2 n c2 vals ls w hG (by rw [hk]; exact hrk) (by omega) hn hr hp hm hnm
  rwa [hk] at h

set_option maxRecDepth 100000 in
set_option maxHeartbeats 4000000 in
theorem parts_stops (prk info : List B8) (hp : prk.length = 32) (hi : info.length ≤ 100) (b1 b2 : Nat) (A1 : Option Addr) (c1 : Nat) (A2 : Option Addr) (c2 : Nat) (hc2 : info.length ≤ c2) (hcm : c2 ≤ maxLen) (n : Nat) (w : World) (hE : Env prk info b1 b2 A1 c1 A2 c2 w) :
    SeqStopsK Fence.wide n Tryd.prog 55 #[.pointer (some ⟨b1, 0, none⟩), .pointer (some ⟨b2, 0, none⟩)] (fun x : D32 => #[.agg (cells8 x.1).toArray]) KeepC (fun xs => xs ≠ []) (fun pre => pre.head?.map (·.1) = some (part1 prk info)) 255 w := by
  intro l J Jx W hW hJ hJx hY h0
  have hEW := hE.keep (KeepC.of_below hW)
  have HP := Lib.hid hp
  have HI := Lib.hid hi
  have HC2 := Lib.hid hc2
  have HCM := Lib.hid hcm
  clear hE hW hp hi hc2 hcm
  refine callsIn_of_wp Tryd.func55 rfl trivial ?_ rfl
  simp only [Tryd.ntmps55, List.push_toArray, List.append_toArray, List.nil_append, List.cons_append, List.size_toArray, List.length_cons, List.length_nil, Nat.reduceAdd, Nat.reduceSub, Array.replicate_succ, Array.replicate_zero]
  gi_wp2
  gi_loopw [4, 5] (fun v i wr => ∃ (k : Nat) (pre : List D32) (A : Option Addr) (m c : Nat), k ≤ 255 ∧ pre.length = k ∧ i = .int .i64 ((k + 1 : Nat) : Int) ∧ v = .slice A m c ∧ m = (tS prk info k).length ∧ m ≤ c ∧ c ≤ maxLen ∧ Rd wr wr.heap.size 1 A m (cells8 (tS prk info k)) ∧ J pre wr ∧ AbidesFrom wr.heap.size J ∧ (0 < k → pre.head?.map (·.1) = some (part1 prk info)) ∧ Env prk info b1 b2 A1 c1 A2 c2 wr) (fun _ i _ => 256 - (intOf i).toNat)
  case atStart => exact ⟨0, [], none, 0, 0, by omega, rfl, rfl, rfl, rfl, Nat.le_refl _, by decide, Rd.none_, h0, hJ, fun h => absurd h (by omega), hEW⟩
  case round =>
    clear hEW h0
    obtain ⟨k, pre, A, m, c, hk, hpl, rfl, rfl, hml, hmc, hcM, hr, hJs, hJa, hhd, hE⟩ := hrel
    obtain ⟨k1, hk1⟩ : ∃ k1, k1 = k + 1 := ⟨_, rfl⟩
    rw [← hk1]
    have HK1 := Lib.hid hk1
    by_cases hlt : k < 255
    · have hd : decide ((k1 : Int) < 256) = true := by simp; omega
      have hkn : (k1 : Int) < 256 := by omega
      have hk0 : (0 : Int) < (k1 : Int) := by omega
      have ca : wr.cell? ⟨b1, 0, none⟩ = some (.slice A1 32 c1) := hE.2.1.cell rfl
      have cb : wr.cell? ⟨b2, 0, none⟩ = some (.slice A2 info.length c2) := hE.2.2.1.cell rfl
      have hby : (k1 : Int) = bv (BitVec.ofNat 8 k1) := by unfold bv; rw [BitVec.toNat_ofNat]; omega
      have hba : Below wr.heap.size wr (wr.alloc (.cells #[.int .u8 (k1 : Int)] 5)) := (Below.refl _ _).alloc (Nat.le_refl _) _
      have hbb : Below wr.heap.size wr ((wr.alloc (.cells #[.int .u8 (k1 : Int)] 5)).alloc (.cells #[.slice A m c, .slice A2 info.length c2, .slice (some ⟨wr.heap.size, 0, none⟩) 1 1] 34)) := hba.alloc hba.size _
      have hl1 := (lit8 (w := wr) (t := 5) (BitVec.ofNat 8 k1) _ hby)
      have hba2 := (Below.refl (wr.alloc (.cells #[.int .u8 (k1 : Int)] 5)).heap.size (wr.alloc (.cells #[.int .u8 (k1 : Int)] 5))).alloc (Nat.le_refl _) (.cells #[.slice A m c, .slice A2 info.length c2, .slice (some ⟨wr.heap.size, 0, none⟩) 1 1] 34)
      have hpp0 : Parts (wr.alloc (.cells #[.int .u8 (k1 : Int)] 5)) (wr.alloc (.cells #[.int .u8 (k1 : Int)] 5)).heap.size [.slice A m c, .slice A2 info.length c2, .slice (some ⟨wr.heap.size, 0, none⟩) 1 1] [tS prk info k, info, [BitVec.ofNat 8 k1]] := by
        rw [hml]
        rw [hml] at hr hmc
        exact Parts.cons (hr.step hba) hmc hcM (Parts.cons (hE.2.2.2.2.step hba) HC2.out HCM.out (Parts.cons hl1 (Nat.le_refl _) (by simp [maxLen]) Parts.nil))
      have HPP := Lib.hid (hpp0.step hba2)
      have HRL := Lib.hid (Rd.lit1 (w := wr.alloc (.cells #[.int .u8 (k1 : Int)] 5)) (cs := [.slice A m c, .slice A2 info.length c2, .slice (some ⟨wr.heap.size, 0, none⟩) 1 1]) (t := 34) (size := 1) (n := 3) (g := wr.heap.size + 1) (by simp) rfl)
      have HRK := Lib.hid ((hE.2.2.2.1.step hba).step hba2)
      have HGL := Lib.hid (hE.1.step hbb)
      have HE := Lib.hid hE
      have HBB := Lib.hid hbb
      have HX : Hid (hmacF prk ([tS prk info k, info, [BitVec.ofNat 8 k1]] : List (List B8)).flatten = tS prk info k1) := by unfold Hid; rw [hk1, tS]; simp
      have HFL : Hid (([tS prk info k, info, [BitVec.ofNat 8 k1]] : List (List B8)).flatten.length < 800000000) := by
        unfold Hid; have := HI.out; have := tS_le prk info k; simp only [List.flatten_cons, List.flatten_nil, List.length_append, List.length_cons, List.length_nil]; omega
      have HML := Lib.hid hml
      have HLT := Lib.hid hlt
      clear hby hba hbb hl1 hba2 hpp0 hr hE hk1 hml hmc hcM
      gi_wp2_with (fail)
      refine ⟨trivial, fun h => (by cases h), ?_⟩
      refine (callsIn_wide.2 (macOf_32 A1 c1 prk HP.out _ 3 3 _ [tS prk info k, info, [BitVec.ofNat 8 k1]] _ HGL.out HRK.out rfl HRL.out HPP.out HFL.out (by omega))).mono ?_
      rintro e w1 ⟨rfl, hx⟩
      rw [HX.out]
      have hb1 : Below wr.heap.size wr w1 := HBB.out.trans (hx.mono HBB.out.size)
      obtain ⟨D, hD⟩ : ∃ D, D = tS prk info k1 := ⟨_, rfl⟩
      rw [← hD]
      have HDL := Lib.hid (show D.length = 32 by rw [hD, HK1.out]; exact tS_len _ _ _)
      have HDD := Lib.hid hD
      have HI4 := Lib.hid (show (Tryd.prog.info? 39).map (·.size) = some (cells8 D).length by rw [cells8_len, HDL.out]; kernel_rfl)
      have HI5 := Lib.hid (show (Tryd.prog.info? 39).map (·.size) = some (cells8 D).toArray.size by rw [List.size_toArray, cells8_len, HDL.out]; kernel_rfl)
      have HZ4 := Lib.hid (show (cells8 (List.replicate 32 0)).length = (cells8 D).length by rw [cells8_len, cells8_len, HDL.out]; rfl)
      have r0 : Row (w1.alloc (.cells (cells8 (List.replicate 32 0)).toArray 39)) w1.heap.size 39 (cells8 (List.replicate 32 0)) := heap_alloc_new _ _
      obtain ⟨w2, hw2⟩ : ∃ x, x = (w1.alloc (.cells (cells8 (List.replicate 32 0)).toArray 39)).setRow w1.heap.size (cells8 D).toArray := ⟨_, rfl⟩
      have r6 : Row w2 w1.heap.size 39 (cells8 D) := by rw [hw2]; exact r0.set
      have b12 : Below w1.heap.size w1 w2 := by rw [hw2]; exact ((Below.refl _ _).alloc (Nat.le_refl _) _).grown (grown_setRow _ _ _) (by simp) (fun k hk => by cases hk; exact Nat.le_refl _)
      have b2 : Below wr.heap.size wr w2 := hb1.trans (b12.mono hb1.size)
      have hst : ∀ ev : Operand → Value, ev (.tmp 6) = .pointer (some ⟨w1.heap.size, 0, none⟩) → ev (.tmp 18) = .agg (cells8 D).toArray → ∀ o : Oper, o.op = .store 39 (.tmp 6) (.tmp 18) → (execOp ev o).run Tryd.prog (w1.alloc (.cells (cells8 (List.replicate 32 0)).toArray 39)) = .ok .skip w2 := by
        intro ev h1 h2 o ho
        rw [hw2]
        exact exec_store_row 39 (.tmp 6) (.tmp 18) ho w1.heap.size 39 _ _ h1 h2 r0 HI4.out HZ4.out (cells8_ones _)
      have HST := Lib.hid hst
      have hld : ∀ ev : Operand → Value, ev (.tmp 6) = .pointer (some ⟨w1.heap.size, 0, none⟩) → ∀ o : Oper, o.op = .load 39 (.tmp 6) → (execOp ev o).run Tryd.prog w2 = .ok (.value (.agg (cells8 D).toArray)) w2 := by
        intro ev h1 o ho
        exact exec_load_row 39 (.tmp 6) ho w1.heap.size h1 39 (cells8 D).toArray (0, 0) _ r6 Tryd.underlying39 rfl HI5.out
      have HLD := Lib.hid hld
      have hJ2 : J pre w2 := hJa pre wr w2 none hJs (grown_of_below b2) (fun r e => by cases e)
      have hJa2 : AbidesFrom w2.heap.size J := fun s A B row hs hg hr => hJa s A B row hs hg (fun r e => ⟨Nat.le_trans b2.size (hr r e).1, (hr r e).2⟩)
      obtain ⟨fn, tmps, assign, body, hy, hR⟩ := hY pre ⟨D, HDL.out⟩ w2 hJ2 (by have := HLT.out; omega)
      have HE2 := Lib.hid (HE.out.keep (KeepC.of_below b2))
      have R6 := Lib.hid r6
      have HHD : Hid ((pre ++ [(⟨D, HDL.out⟩ : D32)]).head?.map (·.1) = some (part1 prk info)) := by
        unfold Hid
        cases pre with
        | nil => simp at hpl; simp only [List.nil_append, List.head?_cons, Option.map_some]; rw [HDD.out, HK1.out, ← hpl]; rfl
        | cons p pre => have := hhd (by simp at hpl; omega); simpa using this
      have HPL := Lib.hid hpl
      have HJA := Lib.hid hJa2
      dsimp only at hy
      clear hw2 hst hld r0 hx hb1 b12 b2 HBB HE HRK HGL HPP HRL hD hJ2 hJs hJa hJa2 hhd r6 hpl
      gi_wp2_with (first
        | (refine wpListIn_skipd rfl (by simp) (by simp) (HST.out _ rfl rfl _ rfl) ?_)
        | (refine wpListIn_value rfl (by simp) (by simp) (HLD.out _ rfl _ rfl) ?_))
      refine ⟨fun h => (by cases h), ?_⟩
      refine hR.mono ?_
      rintro e w3 (⟨rfl, hJ3, hk3⟩ | ⟨rfl, hJx3⟩)
      · have hs3 := hk3.1
        gi_wp2
        go_roundw
        case rel => exact ⟨k + 1, pre ++ [⟨D, HDL.out⟩], some ⟨w1.heap.size, 0, none⟩, 32, 32, by have := HLT.out; omega, by simp [HPL.out], by rw [HK1.out]; go_num, rfl, by rw [← HK1.out, ← HDD.out, HDL.out], Nat.le_refl _, by decide, by rw [← HK1.out, ← HDD.out]; have h := (hk3.row R6.out).rdAll; rw [HDL.out] at h; exact h, hJ3, fun s A B row hs hg hr => HJA.out s A B row hs hg (fun r e => ⟨Nat.le_trans hs3 (hr r e).1, (hr r e).2⟩), fun _ => HHD.out, HE2.out.keep hk3⟩
        case measure => have := HLT.out; have := HK1.out; simp [intOf]; omega
      · gi_wp2
        refine bodyPost_ret (results_none rfl _ _ _) rfl ?_
        exact ⟨⟨_, rfl⟩, .inr ⟨_, HHD.out, hJx3⟩⟩
    · have hk255 : k = 255 := by omega
      have hk256 : (k1 : Int) = 256 := by omega
      have hd : decide ((256 : Int) < 256) = false := by decide
      rw [hk256]
      have hne : pre ≠ [] := by intro e; rw [e] at hpl; simp at hpl; omega
      have HNE := Lib.hid hne
      clear hk255 hk256 hpl hml hne hk1
      gi_wp2
      go_end0
      exact ⟨⟨_, rfl⟩, .inl ⟨pre, HNE.out, hJs⟩⟩
end Go.Proofs.YtpobkoiaidgedaaDoor
