/- The first element for which a condition holds. -/
import Derived.Test.YtpobkoiaidgedaaDoorSiG
namespace Go.Proofs.YtpobkoiaidgedaaDoor
open Go.RowKit

/-- Bytes with a digest. -/
structure Dig where
  b : List B8
  d : List B8
  deriving DecidableEq
/-- These cells read as bytes with a digest. -/
def DigIs (w : World) (B : Nat) (x : Dig) (cs : List Value) : Prop :=
  x.d.length = 32 ∧ x.b.length ≤ 1000 ∧ ∃ A c, cs = Value.slice A x.b.length c :: cells8 x.d ∧ x.b.length ≤ c ∧ c ≤ maxLen ∧ Rd w B 1 A x.b.length (cells8 x.b)
theorem DigIs.step {w w' : World} {x : Dig} {cs : List Value} (h : DigIs w w.heap.size x cs) (hb : Below w.heap.size w w') : DigIs w' w'.heap.size x cs := by
  obtain ⟨h1, h2, A, c, h3, h4, h5, h6⟩ := h
  exact ⟨h1, h2, A, c, h3, h4, h5, h6.step hb⟩
theorem DigIs.len {w : World} {B : Nat} {x : Dig} {cs : List Value} (h : DigIs w B x cs) : cs.length = 33 := by
  obtain ⟨h1, _, A, c, rfl, _⟩ := h
  simp [cells8_len, h1]
theorem DigIs.one {w : World} {B : Nat} {x : Dig} {cs : List Value} (h : DigIs w B x cs) : ∀ v ∈ cs, v.oneCell' = true := by
  obtain ⟨h1, _, A, c, rfl, _⟩ := h
  intro v hv
  rcases List.mem_cons.1 hv with rfl | hv
  · rfl
  · exact cells8_ones _ _ hv
theorem flat_at {size : Nat} : ∀ (xs : List (List Value)) (k : Nat) (cs : List Value), (∀ c ∈ xs, c.length = size) → xs[k]? = some cs → (xs.flatten.drop (k * size)).take size = cs
  | [], k, cs, _, h => by simp at h
  | c :: xs, 0, cs, hl, h => by
    simp at h
    subst h
    have h1 := hl c (by simp)
    rw [Nat.zero_mul, List.drop_zero, List.flatten_cons, List.take_append_of_le_length (by omega), List.take_of_length_le (by omega)]
  | c :: xs, k + 1, cs, hl, h => by
    have h1 := hl c (by simp)
    have ih := flat_at xs k cs (fun c hc => hl c (by simp [hc])) (by simpa using h)
    rw [List.flatten_cons, List.drop_append, List.drop_of_length_le (by rw [h1, Nat.succ_mul]; omega), List.nil_append, h1, show (k + 1) * size - size = k * size by rw [Nat.succ_mul]; omega]
    exact ih
/-- An element of a row: where it lies. -/
theorem own_elem {w : World} {B e size n : Nat} {v : Value} {xs : List (List Value)} (h : w.ownsRow B e size v n xs.flatten) (hl : ∀ c ∈ xs, c.length = size) (k : Nat) (cs : List Value) (hk : xs[k]? = some cs) (hkn : k < n) :
    ∃ g c, v = .slice (some ⟨g, 0, none⟩) n c ∧ g < w.heap.size ∧ w.rangeAt g (k * size) cs := by
  obtain ⟨A, c, rfl, _, _⟩ := own_slice h
  rcases own_row h with ⟨_, h0, _, _⟩ | ⟨g, L, rfl, _, hr, _, _, hL, ht⟩
  · omega
  · refine ⟨g, c, rfl, hr.lt, ?_⟩
    intro j u hu
    have hcs := flat_at xs k cs hl hk
    have hj : j < size := by
      have := (List.getElem?_eq_some_iff.1 hu).1
      rw [hl cs (List.mem_of_getElem? hk)] at this; exact this
    refine hr.cell (i := k * size + j) ?_
    rw [← hcs, List.getElem?_take, if_pos hj, List.getElem?_drop, ← ht, List.getElem?_take] at hu
    split at hu
    · exact hu
    · cases hu
/-- The first for which the condition holds, or none. -/
def FirstP {α : Type} (l : List α) (xs : List (List Value)) (p : α → Bool) (zs : List Value) (w : World) (e : Ending) (w' : World) : Prop :=
  ((∃ (k : Nat) (x : α) (cs : List Value), l[k]? = some x ∧ xs[k]? = some cs ∧ p x = true ∧ (∀ (j : Nat) (y : α), j < k → l[j]? = some y → p y = false) ∧ e = .returned (.tuple #[.agg cs.toArray, .bool true])) ∨ ((∀ y ∈ l, p y = false) ∧ e = .returned (.tuple #[.agg zs.toArray, .bool false]))) ∧ Below w.heap.size w w'
def zDig : List Value := Value.slice none 0 0 :: cells8 (List.replicate 32 0)
def Msg.zero : Msg := ⟨0, 0, 0, List.replicate 32 0, List.replicate 32 0⟩
theorem zDig_one : ∀ v ∈ zDig, v.oneCell' = true := by
  intro v hv
  rcases List.mem_cons.1 hv with rfl | hv
  · rfl
  · exact cells8_ones _ _ hv

set_option maxRecDepth 100000 in
set_option maxHeartbeats 4000000 in
theorem firstD (l : List Dig) (xs : List (List Value)) (p : Dig → Bool) (v : Value) (gy : Nat) (w : World) (hn : l.length < 1000000) (hx : xs.length = l.length) (hl : ∀ c ∈ xs, c.length = 33) (h1 : ∀ c ∈ xs, ∀ u ∈ c, u.oneCell' = true) (ho : w.ownsRow 0 41 33 v l.length xs.flatten)
    (hcl : ∀ (i : Nat) (x : Dig) (cs : List Value), l[i]? = some x → xs[i]? = some cs → ∀ w', Below w.heap.size w w' → Calls Tryd.prog 19 #[.agg cs.toArray, .pointer (some ⟨gy, 0, none⟩)] w' fun e w'' => e = .returned (.bool (p x)) ∧ Below w'.heap.size w' w'') :
    Calls Tryd.prog 18 #[v, .func (.func 19) #[] #[.pointer (some ⟨gy, 0, none⟩)]] w (FirstP l xs p zDig w) := by
  obtain ⟨A, c, hv, hnc, _⟩ := own_slice ho
  have HX := Lib.hid hx
  have HL := Lib.hid hl
  have HO := Lib.hid ho
  have H1 := Lib.hid h1
  have HCL := Lib.hid hcl
  have HV := Lib.hid hv
  obtain ⟨n, hnn⟩ : ∃ n, n = l.length := ⟨_, rfl⟩
  have HN := Lib.hid hnn
  have HNM := Lib.hid hn
  rw [hv, ← hnn]
  have HIT := Lib.hid (show (Tryd.prog.info? 41).map (·.size) = some 33 by kernel_rfl)
  have hnI : (n : Int) < 1000000 := by omega
  clear hx hl ho h1 hcl hv hnn hn hnc
  go_enter Tryd.func18, Tryd.ntmps18
  go_upto_region 1 with (fail)
  change Code.wp _ _ _ _ (w.alloc (.cells zDig.toArray 41))
  obtain ⟨wz, hwz⟩ : ∃ wz, wz = (w.alloc (.cells zDig.toArray 41)) := ⟨_, rfl⟩
  obtain ⟨g4, h4⟩ : ∃ g, g = w.heap.size := ⟨_, rfl⟩
  have hb : Below w.heap.size w wz := by rw [hwz]; exact (Below.refl _ _).alloc (Nat.le_refl _) _
  have r4 : Row wz g4 41 zDig := by rw [hwz, h4]; exact heap_alloc_new _ _
  have hg4w : w.heap.size ≤ g4 := by omega
  rw [← hwz, ← h4]
  clear hwz h4
  go_wp2
  go_loopw [7, 11] (fun _ i wr => ∃ k : Nat, k ≤ n ∧ i = .int .i64 (k : Int) ∧ (∀ j y, j < k → l[j]? = some y → p y = false) ∧ Row wr g4 41 zDig ∧ Below w.heap.size w wr) (fun _ i _ => n - (intOf i).toNat)
  case atStart => exact ⟨0, Nat.zero_le _, rfl, fun j y h => absurd h (Nat.not_lt_zero _), r4, hb⟩
  case round =>
    clear r4 hb
    obtain ⟨k, hk, rfl, hno, r4, hb⟩ := hrel
    have HNO := Lib.hid hno
    clear hno
    by_cases hlt : k < n
    · have hd : decide ((k : Int) < (n : Int)) = true := by simp; omega
      have hkn : (k : Int) < (n : Int) := by omega
      obtain ⟨x, hxk⟩ : ∃ x, l[k]? = some x := ⟨_, List.getElem?_eq_getElem (by rw [← HN.out]; exact hlt)⟩
      obtain ⟨cs, hck⟩ : ∃ cs, xs[k]? = some cs := ⟨_, List.getElem?_eq_getElem (by rw [HX.out, ← HN.out]; exact hlt)⟩
      obtain ⟨gs, cp, hvs, hgs, hrg⟩ := own_elem HO.out HL.out k cs hck (by rw [← HN.out]; exact hlt)
      have hA : A = some ⟨gs, 0, none⟩ ∧ c = cp := by
        have h := HV.out.symm.trans hvs
        injection h with a b c
        exact ⟨a, c⟩
      obtain ⟨rfl, rfl⟩ := hA
      have hrgw : wr.rangeAt gs (k * 33) cs := fun j u hu => (hb.cell (p := ⟨gs, k * 33 + j, none⟩) hgs).trans (hrg j u hu)
      have hcsl : cs.length = 33 := HL.out cs (List.mem_of_getElem? hck)
      have HCS := Lib.hid (show (Tryd.prog.info? 41).map (·.size) = some cs.length by rw [hcsl]; exact HIT.out)
      have HCS2 := Lib.hid (show (Tryd.prog.info? 41).map (·.size) = some cs.toArray.size by rw [List.size_toArray, hcsl]; exact HIT.out)
      have HZC := Lib.hid (show zDig.length = cs.length by rw [hcsl]; rfl)
      have HC1 := Lib.hid (all_oneCell_toArray (H1.out cs (List.mem_of_getElem? hck)))
      have S0 : Hid (Row (wr.alloc (.cells zDig.toArray 41)) wr.heap.size 41 zDig) := Lib.hid (heap_alloc_new _ _)
      have HRG := Lib.hid hrgw
      have HXK := Lib.hid hxk
      have HCK := Lib.hid hck
      clear hgs hrg hrgw hcsl hxk hck hvs
      go_upto_region 4 with (first
        | (refine wpList_load_mid rfl 41 (.tmp 13) rfl gs (k * 33) rfl cs _ HRG.out Tryd.underlying41 rfl HCS.out ?_)
        | (refine Row.store (g := wr.heap.size) (t := 41) (L := zDig) (M := cs) S0.out rfl 41 (.tmp 7) (.tmp 14) rfl rfl rfl HCS.out HZC.out HC1.out ?_; rintro w2 hw2 r7; have b12 : Below wr.heap.size wr w2 := (by rw [hw2]; exact ((Below.refl _ _).alloc (Nat.le_refl _) _).grown (grown_setRow _ _ _) (by simp) (fun k hk => by cases hk; exact Nat.le_refl _)); clear hw2))
      obtain ⟨g7, hg7⟩ : ∃ g, g = wr.heap.size := ⟨_, rfl⟩
      rw [← hg7] at r7 ⊢
      have r42 := r4.step b12
      have b2 := hb.trans (b12.mono hb.size)
      clear hg7 S0 b12 r4 hb HRG
      try simp only [Act.put]
      go_wp2_with (first
        | (refine wpList_load_row rfl 41 (.tmp 7) rfl g7 rfl 41 cs.toArray (0, 0) _ r7 Tryd.underlying41 rfl HCS2.out ?_)
        | (go_at_call 19; fail))
      refine (HCL.out k x cs HXK.out HCK.out _ b2).mono ?_
      rintro e w3 ⟨rfl, hx3⟩
      have r73 := r7.step hx3
      have r43 := r42.step hx3
      have b3 := b2.trans (hx3.mono b2.size)
      clear hx3 r7 r42 b2 hd
      cases hpx : p x with
      | true =>
        have HPX := Lib.hid hpx
        clear hpx
        go_wp2_with (first
          | (refine wpList_load_row rfl 41 (.tmp 7) rfl g7 rfl 41 cs.toArray (0, 0) _ r73 Tryd.underlying41 rfl HCS2.out ?_)
          | (refine Row.store (g := g4) (t := 41) (L := zDig) (M := cs) r43 rfl 41 (.tmp 4) (.tmp 18) rfl rfl rfl HCS.out HZC.out HC1.out ?_; rintro wF hwF rF; have bF : Below w.heap.size w wF := (by rw [hwF]; exact b3.grown (grown_setRow _ _ _) b3.size (fun k hk => by cases hk; exact hg4w)); clear hwF))
        have l4 := run_loadVar_row (P := Tryd.prog) wF g4 41 41 cs.toArray (0, 0) _ rF Tryd.underlying41 rfl HCS2.out
        refine bodyPost_ret (v := .tuple #[.agg cs.toArray, .bool true]) (by simp [results, Tryd.results18, asAddr, l4]) rfl ⟨.inl ⟨k, x, cs, HXK.out, HCK.out, HPX.out, HNO.out, rfl⟩, bF⟩
      | false =>
        have HPX := Lib.hid hpx
        clear hpx
        go_wp2
        go_roundw
        case rel => exact ⟨k + 1, by omega, by go_num, fun j y hj hy => by
          rcases Nat.lt_or_ge j k with h | h
          · exact HNO.out j y h hy
          · have e : j = k := by omega
            subst e
            have := hy.symm.trans HXK.out
            cases this; exact HPX.out, r43, b3⟩
        case measure => simp [intOf]; omega
    · have hkn : k = n := by omega
      have hd : decide ((k : Int) < (n : Int)) = false := by simp; omega
      have HK := Lib.hid hkn
      have HIZ2 := Lib.hid (show (Tryd.prog.info? 41).map (·.size) = some zDig.toArray.size by kernel_rfl)
      have HIZ := Lib.hid (show (Tryd.prog.info? 41).map (·.size) = some zDig.length by kernel_rfl)
      clear hkn
      go_upto_region 8 with (fail)
      change Code.wp _ _ _ _ (wr.alloc (.cells zDig.toArray 41))
      have r8 : Row (wr.alloc (.cells zDig.toArray 41)) wr.heap.size 41 zDig := heap_alloc_new _ _
      have r4a := r4.step ((Below.refl _ _).alloc (Nat.le_refl _) (.cells zDig.toArray 41))
      have ba := hb.alloc hb.size (.cells zDig.toArray 41)
      go_wp2_with (first
        | (refine wpList_load_row rfl 41 (.tmp 8) rfl wr.heap.size rfl 41 zDig.toArray (0, 0) _ r8 Tryd.underlying41 rfl HIZ2.out ?_)
        | (refine Row.store (g := g4) (t := 41) (L := zDig) (M := zDig) r4a rfl 41 (.tmp 4) (.tmp 20) rfl rfl rfl HIZ.out rfl (all_oneCell_toArray zDig_one) ?_; rintro wF hwF rF; have bF : Below w.heap.size w wF := (by rw [hwF]; exact ba.grown (grown_setRow _ _ _) ba.size (fun k hk => by cases hk; exact hg4w)); clear hwF))
      have l4 := run_loadVar_row (P := Tryd.prog) wF g4 41 41 zDig.toArray (0, 0) _ rF Tryd.underlying41 rfl HIZ2.out
      refine bodyPost_ret (v := .tuple #[.agg zDig.toArray, .bool false]) (by simp [results, Tryd.results18, asAddr, l4]) rfl ⟨.inr ⟨fun y hy => ?_, rfl⟩, bF⟩
      obtain ⟨j, hj⟩ := List.getElem?_of_mem hy
      exact HNO.out j y (by rw [HK.out, HN.out]; exact (List.getElem?_eq_some_iff.1 hj).1) hj

set_option maxRecDepth 100000 in
set_option maxHeartbeats 4000000 in
theorem firstM (l : List Msg) (xs : List (List Value)) (p : Msg → Bool) (v : Value) (ga gb : Nat) (w : World) (hn : l.length < 1000000) (hx : xs.length = l.length) (hl : ∀ c ∈ xs, c.length = 67) (h1 : ∀ c ∈ xs, ∀ u ∈ c, u.oneCell' = true) (ho : w.ownsRow 0 54 67 v l.length xs.flatten)
    (hcl : ∀ (i : Nat) (x : Msg) (cs : List Value), l[i]? = some x → xs[i]? = some cs → ∀ w', Below w.heap.size w w' → Calls Tryd.prog 25 #[.agg cs.toArray, .pointer (some ⟨ga, 0, none⟩), .pointer (some ⟨gb, 0, none⟩)] w' fun e w'' => e = .returned (.bool (p x)) ∧ Below w'.heap.size w' w'') :
    Calls Tryd.prog 24 #[v, .func (.func 25) #[] #[.pointer (some ⟨ga, 0, none⟩), .pointer (some ⟨gb, 0, none⟩)]] w (FirstP l xs p Msg.zero.cells w) := by
  obtain ⟨A, c, hv, hnc, _⟩ := own_slice ho
  have HX := Lib.hid hx
  have HL := Lib.hid hl
  have HO := Lib.hid ho
  have H1 := Lib.hid h1
  have HCL := Lib.hid hcl
  have HV := Lib.hid hv
  obtain ⟨n, hnn⟩ : ∃ n, n = l.length := ⟨_, rfl⟩
  have HN := Lib.hid hnn
  have HNM := Lib.hid hn
  rw [hv, ← hnn]
  have HIT := Lib.hid (show (Tryd.prog.info? 54).map (·.size) = some 67 by kernel_rfl)
  have hnI : (n : Int) < 1000000 := by omega
  clear hx hl ho h1 hcl hv hnn hn hnc
  go_enter Tryd.func24, Tryd.ntmps24
  go_upto_region 1 with (fail)
  change Code.wp _ _ _ _ (w.alloc (.cells Msg.zero.cells.toArray 54))
  obtain ⟨wz, hwz⟩ : ∃ wz, wz = (w.alloc (.cells Msg.zero.cells.toArray 54)) := ⟨_, rfl⟩
  obtain ⟨g4, h4⟩ : ∃ g, g = w.heap.size := ⟨_, rfl⟩
  have hb : Below w.heap.size w wz := by rw [hwz]; exact (Below.refl _ _).alloc (Nat.le_refl _) _
  have r4 : Row wz g4 54 Msg.zero.cells := by rw [hwz, h4]; exact heap_alloc_new _ _
  have hg4w : w.heap.size ≤ g4 := by omega
  rw [← hwz, ← h4]
  clear hwz h4
  go_wp2
  go_loopw [7, 11] (fun _ i wr => ∃ k : Nat, k ≤ n ∧ i = .int .i64 (k : Int) ∧ (∀ j y, j < k → l[j]? = some y → p y = false) ∧ Row wr g4 54 Msg.zero.cells ∧ Below w.heap.size w wr) (fun _ i _ => n - (intOf i).toNat)
  case atStart => exact ⟨0, Nat.zero_le _, rfl, fun j y h => absurd h (Nat.not_lt_zero _), r4, hb⟩
  case round =>
    clear r4 hb
    obtain ⟨k, hk, rfl, hno, r4, hb⟩ := hrel
    have HNO := Lib.hid hno
    clear hno
    by_cases hlt : k < n
    · have hd : decide ((k : Int) < (n : Int)) = true := by simp; omega
      have hkn : (k : Int) < (n : Int) := by omega
      obtain ⟨x, hxk⟩ : ∃ x, l[k]? = some x := ⟨_, List.getElem?_eq_getElem (by rw [← HN.out]; exact hlt)⟩
      obtain ⟨cs, hck⟩ : ∃ cs, xs[k]? = some cs := ⟨_, List.getElem?_eq_getElem (by rw [HX.out, ← HN.out]; exact hlt)⟩
      obtain ⟨gs, cp, hvs, hgs, hrg⟩ := own_elem HO.out HL.out k cs hck (by rw [← HN.out]; exact hlt)
      have hA : A = some ⟨gs, 0, none⟩ ∧ c = cp := by
        have h := HV.out.symm.trans hvs
        injection h with a b c
        exact ⟨a, c⟩
      obtain ⟨rfl, rfl⟩ := hA
      have hrgw : wr.rangeAt gs (k * 67) cs := fun j u hu => (hb.cell (p := ⟨gs, k * 67 + j, none⟩) hgs).trans (hrg j u hu)
      have hcsl : cs.length = 67 := HL.out cs (List.mem_of_getElem? hck)
      have HCS := Lib.hid (show (Tryd.prog.info? 54).map (·.size) = some cs.length by rw [hcsl]; exact HIT.out)
      have HCS2 := Lib.hid (show (Tryd.prog.info? 54).map (·.size) = some cs.toArray.size by rw [List.size_toArray, hcsl]; exact HIT.out)
      have HZC := Lib.hid (show Msg.zero.cells.length = cs.length by rw [hcsl]; rfl)
      have HC1 := Lib.hid (all_oneCell_toArray (H1.out cs (List.mem_of_getElem? hck)))
      have S0 : Hid (Row (wr.alloc (.cells Msg.zero.cells.toArray 54)) wr.heap.size 54 Msg.zero.cells) := Lib.hid (heap_alloc_new _ _)
      have HRG := Lib.hid hrgw
      have HXK := Lib.hid hxk
      have HCK := Lib.hid hck
      clear hgs hrg hrgw hcsl hxk hck hvs
      go_upto_region 4 with (first
        | (refine wpList_load_mid rfl 54 (.tmp 13) rfl gs (k * 67) rfl cs _ HRG.out Tryd.underlying54 rfl HCS.out ?_)
        | (refine Row.store (g := wr.heap.size) (t := 54) (L := Msg.zero.cells) (M := cs) S0.out rfl 54 (.tmp 7) (.tmp 14) rfl rfl rfl HCS.out HZC.out HC1.out ?_; rintro w2 hw2 r7; have b12 : Below wr.heap.size wr w2 := (by rw [hw2]; exact ((Below.refl _ _).alloc (Nat.le_refl _) _).grown (grown_setRow _ _ _) (by simp) (fun k hk => by cases hk; exact Nat.le_refl _)); clear hw2))
      obtain ⟨g7, hg7⟩ : ∃ g, g = wr.heap.size := ⟨_, rfl⟩
      rw [← hg7] at r7 ⊢
      have r42 := r4.step b12
      have b2 := hb.trans (b12.mono hb.size)
      clear hg7 S0 b12 r4 hb HRG
      try simp only [Act.put]
      go_wp2_with (first
        | (refine wpList_load_row rfl 54 (.tmp 7) rfl g7 rfl 54 cs.toArray (0, 0) _ r7 Tryd.underlying54 rfl HCS2.out ?_)
        | (go_at_call 25; fail))
      refine (HCL.out k x cs HXK.out HCK.out _ b2).mono ?_
      rintro e w3 ⟨rfl, hx3⟩
      have r73 := r7.step hx3
      have r43 := r42.step hx3
      have b3 := b2.trans (hx3.mono b2.size)
      clear hx3 r7 r42 b2 hd
      cases hpx : p x with
      | true =>
        have HPX := Lib.hid hpx
        clear hpx
        go_wp2_with (first
          | (refine wpList_load_row rfl 54 (.tmp 7) rfl g7 rfl 54 cs.toArray (0, 0) _ r73 Tryd.underlying54 rfl HCS2.out ?_)
          | (refine Row.store (g := g4) (t := 54) (L := Msg.zero.cells) (M := cs) r43 rfl 54 (.tmp 4) (.tmp 18) rfl rfl rfl HCS.out HZC.out HC1.out ?_; rintro wF hwF rF; have bF : Below w.heap.size w wF := (by rw [hwF]; exact b3.grown (grown_setRow _ _ _) b3.size (fun k hk => by cases hk; exact hg4w)); clear hwF))
        have l4 := run_loadVar_row (P := Tryd.prog) wF g4 54 54 cs.toArray (0, 0) _ rF Tryd.underlying54 rfl HCS2.out
        refine bodyPost_ret (v := .tuple #[.agg cs.toArray, .bool true]) (by simp [results, Tryd.results24, asAddr, l4]) rfl ⟨.inl ⟨k, x, cs, HXK.out, HCK.out, HPX.out, HNO.out, rfl⟩, bF⟩
      | false =>
        have HPX := Lib.hid hpx
        clear hpx
        go_wp2
        go_roundw
        case rel => exact ⟨k + 1, by omega, by go_num, fun j y hj hy => by
          rcases Nat.lt_or_ge j k with h | h
          · exact HNO.out j y h hy
          · have e : j = k := by omega
            subst e
            have := hy.symm.trans HXK.out
            cases this; exact HPX.out, r43, b3⟩
        case measure => simp [intOf]; omega
    · have hkn : k = n := by omega
      have hd : decide ((k : Int) < (n : Int)) = false := by simp; omega
      have HK := Lib.hid hkn
      have HIZ2 := Lib.hid (show (Tryd.prog.info? 54).map (·.size) = some Msg.zero.cells.toArray.size by kernel_rfl)
      have HIZ := Lib.hid (show (Tryd.prog.info? 54).map (·.size) = some Msg.zero.cells.length by kernel_rfl)
      clear hkn
      go_upto_region 8 with (fail)
      change Code.wp _ _ _ _ (wr.alloc (.cells Msg.zero.cells.toArray 54))
      have r8 : Row (wr.alloc (.cells Msg.zero.cells.toArray 54)) wr.heap.size 54 Msg.zero.cells := heap_alloc_new _ _
      have r4a := r4.step ((Below.refl _ _).alloc (Nat.le_refl _) (.cells Msg.zero.cells.toArray 54))
      have ba := hb.alloc hb.size (.cells Msg.zero.cells.toArray 54)
      go_wp2_with (first
        | (refine wpList_load_row rfl 54 (.tmp 8) rfl wr.heap.size rfl 54 Msg.zero.cells.toArray (0, 0) _ r8 Tryd.underlying54 rfl HIZ2.out ?_)
        | (refine Row.store (g := g4) (t := 54) (L := Msg.zero.cells) (M := Msg.zero.cells) r4a rfl 54 (.tmp 4) (.tmp 20) rfl rfl rfl HIZ.out rfl (all_oneCell_toArray (Msg.one _)) ?_; rintro wF hwF rF; have bF : Below w.heap.size w wF := (by rw [hwF]; exact ba.grown (grown_setRow _ _ _) ba.size (fun k hk => by cases hk; exact hg4w)); clear hwF))
      have l4 := run_loadVar_row (P := Tryd.prog) wF g4 54 54 Msg.zero.cells.toArray (0, 0) _ rF Tryd.underlying54 rfl HIZ2.out
      refine bodyPost_ret (v := .tuple #[.agg Msg.zero.cells.toArray, .bool false]) (by simp [results, Tryd.results24, asAddr, l4]) rfl ⟨.inr ⟨fun y hy => ?_, rfl⟩, bF⟩
      obtain ⟨j, hj⟩ := List.getElem?_of_mem hy
      exact HNO.out j y (by rw [HK.out, HN.out]; exact (List.getElem?_eq_some_iff.1 hj).1) hj

set_option maxRecDepth 100000 in
set_option maxHeartbeats 4000000 in
theorem firstN (l : List Msg) (xs : List (List Value)) (p : Msg → Bool) (v : Value) (gy : Nat) (w : World) (hn : l.length < 1000000) (hx : xs.length = l.length) (hl : ∀ c ∈ xs, c.length = 67) (h1 : ∀ c ∈ xs, ∀ u ∈ c, u.oneCell' = true) (ho : w.ownsRow 0 54 67 v l.length xs.flatten)
    (hcl : ∀ (i : Nat) (x : Msg) (cs : List Value), l[i]? = some x → xs[i]? = some cs → ∀ w', Below w.heap.size w w' → Calls Tryd.prog 28 #[.agg cs.toArray, .pointer (some ⟨gy, 0, none⟩)] w' fun e w'' => e = .returned (.bool (p x)) ∧ Below w'.heap.size w' w'') :
    Calls Tryd.prog 24 #[v, .func (.func 28) #[] #[.pointer (some ⟨gy, 0, none⟩)]] w (FirstP l xs p Msg.zero.cells w) := by
  obtain ⟨A, c, hv, hnc, _⟩ := own_slice ho
  have HX := Lib.hid hx
  have HL := Lib.hid hl
  have HO := Lib.hid ho
  have H1 := Lib.hid h1
  have HCL := Lib.hid hcl
  have HV := Lib.hid hv
  obtain ⟨n, hnn⟩ : ∃ n, n = l.length := ⟨_, rfl⟩
  have HN := Lib.hid hnn
  have HNM := Lib.hid hn
  rw [hv, ← hnn]
  have HIT := Lib.hid (show (Tryd.prog.info? 54).map (·.size) = some 67 by kernel_rfl)
  have hnI : (n : Int) < 1000000 := by omega
  clear hx hl ho h1 hcl hv hnn hn hnc
  go_enter Tryd.func24, Tryd.ntmps24
  go_upto_region 1 with (fail)
  change Code.wp _ _ _ _ (w.alloc (.cells Msg.zero.cells.toArray 54))
  obtain ⟨wz, hwz⟩ : ∃ wz, wz = (w.alloc (.cells Msg.zero.cells.toArray 54)) := ⟨_, rfl⟩
  obtain ⟨g4, h4⟩ : ∃ g, g = w.heap.size := ⟨_, rfl⟩
  have hb : Below w.heap.size w wz := by rw [hwz]; exact (Below.refl _ _).alloc (Nat.le_refl _) _
  have r4 : Row wz g4 54 Msg.zero.cells := by rw [hwz, h4]; exact heap_alloc_new _ _
  have hg4w : w.heap.size ≤ g4 := by omega
  rw [← hwz, ← h4]
  clear hwz h4
  go_wp2
  go_loopw [7, 11] (fun _ i wr => ∃ k : Nat, k ≤ n ∧ i = .int .i64 (k : Int) ∧ (∀ j y, j < k → l[j]? = some y → p y = false) ∧ Row wr g4 54 Msg.zero.cells ∧ Below w.heap.size w wr) (fun _ i _ => n - (intOf i).toNat)
  case atStart => exact ⟨0, Nat.zero_le _, rfl, fun j y h => absurd h (Nat.not_lt_zero _), r4, hb⟩
  case round =>
    clear r4 hb
    obtain ⟨k, hk, rfl, hno, r4, hb⟩ := hrel
    have HNO := Lib.hid hno
    clear hno
    by_cases hlt : k < n
    · have hd : decide ((k : Int) < (n : Int)) = true := by simp; omega
      have hkn : (k : Int) < (n : Int) := by omega
      obtain ⟨x, hxk⟩ : ∃ x, l[k]? = some x := ⟨_, List.getElem?_eq_getElem (by rw [← HN.out]; exact hlt)⟩
      obtain ⟨cs, hck⟩ : ∃ cs, xs[k]? = some cs := ⟨_, List.getElem?_eq_getElem (by rw [HX.out, ← HN.out]; exact hlt)⟩
      obtain ⟨gs, cp, hvs, hgs, hrg⟩ := own_elem HO.out HL.out k cs hck (by rw [← HN.out]; exact hlt)
      have hA : A = some ⟨gs, 0, none⟩ ∧ c = cp := by
        have h := HV.out.symm.trans hvs
        injection h with a b c
        exact ⟨a, c⟩
      obtain ⟨rfl, rfl⟩ := hA
      have hrgw : wr.rangeAt gs (k * 67) cs := fun j u hu => (hb.cell (p := ⟨gs, k * 67 + j, none⟩) hgs).trans (hrg j u hu)
      have hcsl : cs.length = 67 := HL.out cs (List.mem_of_getElem? hck)
      have HCS := Lib.hid (show (Tryd.prog.info? 54).map (·.size) = some cs.length by rw [hcsl]; exact HIT.out)
      have HCS2 := Lib.hid (show (Tryd.prog.info? 54).map (·.size) = some cs.toArray.size by rw [List.size_toArray, hcsl]; exact HIT.out)
      have HZC := Lib.hid (show Msg.zero.cells.length = cs.length by rw [hcsl]; rfl)
      have HC1 := Lib.hid (all_oneCell_toArray (H1.out cs (List.mem_of_getElem? hck)))
      have S0 : Hid (Row (wr.alloc (.cells Msg.zero.cells.toArray 54)) wr.heap.size 54 Msg.zero.cells) := Lib.hid (heap_alloc_new _ _)
      have HRG := Lib.hid hrgw
      have HXK := Lib.hid hxk
      have HCK := Lib.hid hck
      clear hgs hrg hrgw hcsl hxk hck hvs
      go_upto_region 4 with (first
        | (refine wpList_load_mid rfl 54 (.tmp 13) rfl gs (k * 67) rfl cs _ HRG.out Tryd.underlying54 rfl HCS.out ?_)
        | (refine Row.store (g := wr.heap.size) (t := 54) (L := Msg.zero.cells) (M := cs) S0.out rfl 54 (.tmp 7) (.tmp 14) rfl rfl rfl HCS.out HZC.out HC1.out ?_; rintro w2 hw2 r7; have b12 : Below wr.heap.size wr w2 := (by rw [hw2]; exact ((Below.refl _ _).alloc (Nat.le_refl _) _).grown (grown_setRow _ _ _) (by simp) (fun k hk => by cases hk; exact Nat.le_refl _)); clear hw2))
      obtain ⟨g7, hg7⟩ : ∃ g, g = wr.heap.size := ⟨_, rfl⟩
      rw [← hg7] at r7 ⊢
      have r42 := r4.step b12
      have b2 := hb.trans (b12.mono hb.size)
      clear hg7 S0 b12 r4 hb HRG
      try simp only [Act.put]
      go_wp2_with (first
        | (refine wpList_load_row rfl 54 (.tmp 7) rfl g7 rfl 54 cs.toArray (0, 0) _ r7 Tryd.underlying54 rfl HCS2.out ?_)
        | (go_at_call 28; fail))
      refine (HCL.out k x cs HXK.out HCK.out _ b2).mono ?_
      rintro e w3 ⟨rfl, hx3⟩
      have r73 := r7.step hx3
      have r43 := r42.step hx3
      have b3 := b2.trans (hx3.mono b2.size)
      clear hx3 r7 r42 b2 hd
      cases hpx : p x with
      | true =>
        have HPX := Lib.hid hpx
        clear hpx
        go_wp2_with (first
          | (refine wpList_load_row rfl 54 (.tmp 7) rfl g7 rfl 54 cs.toArray (0, 0) _ r73 Tryd.underlying54 rfl HCS2.out ?_)
          | (refine Row.store (g := g4) (t := 54) (L := Msg.zero.cells) (M := cs) r43 rfl 54 (.tmp 4) (.tmp 18) rfl rfl rfl HCS.out HZC.out HC1.out ?_; rintro wF hwF rF; have bF : Below w.heap.size w wF := (by rw [hwF]; exact b3.grown (grown_setRow _ _ _) b3.size (fun k hk => by cases hk; exact hg4w)); clear hwF))
        have l4 := run_loadVar_row (P := Tryd.prog) wF g4 54 54 cs.toArray (0, 0) _ rF Tryd.underlying54 rfl HCS2.out
        refine bodyPost_ret (v := .tuple #[.agg cs.toArray, .bool true]) (by simp [results, Tryd.results24, asAddr, l4]) rfl ⟨.inl ⟨k, x, cs, HXK.out, HCK.out, HPX.out, HNO.out, rfl⟩, bF⟩
      | false =>
        have HPX := Lib.hid hpx
        clear hpx
        go_wp2
        go_roundw
        case rel => exact ⟨k + 1, by omega, by go_num, fun j y hj hy => by
          rcases Nat.lt_or_ge j k with h | h
          · exact HNO.out j y h hy
          · have e : j = k := by omega
            subst e
            have := hy.symm.trans HXK.out
            cases this; exact HPX.out, r43, b3⟩
        case measure => simp [intOf]; omega
    · have hkn : k = n := by omega
      have hd : decide ((k : Int) < (n : Int)) = false := by simp; omega
      have HK := Lib.hid hkn
      have HIZ2 := Lib.hid (show (Tryd.prog.info? 54).map (·.size) = some Msg.zero.cells.toArray.size by kernel_rfl)
      have HIZ := Lib.hid (show (Tryd.prog.info? 54).map (·.size) = some Msg.zero.cells.length by kernel_rfl)
      clear hkn
      go_upto_region 8 with (fail)
      change Code.wp _ _ _ _ (wr.alloc (.cells Msg.zero.cells.toArray 54))
      have r8 : Row (wr.alloc (.cells Msg.zero.cells.toArray 54)) wr.heap.size 54 Msg.zero.cells := heap_alloc_new _ _
      have r4a := r4.step ((Below.refl _ _).alloc (Nat.le_refl _) (.cells Msg.zero.cells.toArray 54))
      have ba := hb.alloc hb.size (.cells Msg.zero.cells.toArray 54)
      go_wp2_with (first
        | (refine wpList_load_row rfl 54 (.tmp 8) rfl wr.heap.size rfl 54 Msg.zero.cells.toArray (0, 0) _ r8 Tryd.underlying54 rfl HIZ2.out ?_)
        | (refine Row.store (g := g4) (t := 54) (L := Msg.zero.cells) (M := Msg.zero.cells) r4a rfl 54 (.tmp 4) (.tmp 20) rfl rfl rfl HIZ.out rfl (all_oneCell_toArray (Msg.one _)) ?_; rintro wF hwF rF; have bF : Below w.heap.size w wF := (by rw [hwF]; exact ba.grown (grown_setRow _ _ _) ba.size (fun k hk => by cases hk; exact hg4w)); clear hwF))
      have l4 := run_loadVar_row (P := Tryd.prog) wF g4 54 54 Msg.zero.cells.toArray (0, 0) _ rF Tryd.underlying54 rfl HIZ2.out
      refine bodyPost_ret (v := .tuple #[.agg Msg.zero.cells.toArray, .bool false]) (by simp [results, Tryd.results24, asAddr, l4]) rfl ⟨.inr ⟨fun y hy => ?_, rfl⟩, bF⟩
      obtain ⟨j, hj⟩ := List.getElem?_of_mem hy
      exact HNO.out j y (by rw [HK.out, HN.out]; exact (List.getElem?_eq_some_iff.1 hj).1) hj
end Go.Proofs.YtpobkoiaidgedaaDoor
