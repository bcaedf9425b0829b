/- CheckWaits, Upward. -/
import Derived.Test.YtfdfadebfdmdgaaLkQ
import Derived.Test.YtfdfadebfdmdgaaLkF
namespace Go.Proofs.Ytfdfadebfdmdgaa
open Go.RowKit

theorem checkFrom_valid : ∀ (hs : List H3) (p : Option H3), checkFrom p hs = 0 → ∀ h ∈ hs, validB h.lv h.ix h.th = true := by
  intro hs
  induction hs with
  | nil => intro p _ h hh; simp at hh
  | cons x t ih =>
    intro p h0 h hh
    cases hv : validB x.lv x.ix x.th
    · simp [checkFrom, hv] at h0
    · have ht : ∃ q, checkFrom q t = 0 := by
        cases p with
        | none => exact ⟨_, by simpa [checkFrom, hv] using h0⟩
        | some p =>
          simp only [checkFrom, hv] at h0
          split at h0
          · simp at h0
          · split at h0
            · simp at h0
            · split at h0
              · simp at h0
              · exact ⟨_, h0⟩
      obtain ⟨q, hq⟩ := ht
      rcases List.mem_cons.1 hh with rfl | hh
      · exact hv
      · exact ih q hq h hh
theorem check_valid {hs : List H3} (h0 : checkF hs = 0) : ∀ h ∈ hs, validB h.lv h.ix h.th = true := checkFrom_valid hs none h0
theorem valid_th {lv ix th : Int} (h : validB lv ix th = true) : 0 ≤ th ∧ th < 16 := by
  unfold validB at h; simp at h; omega
theorem owner_held {hs : List H3} (hv : ∀ h ∈ hs, validB h.lv h.ix h.th = true) (lv ix : Int) : heldB lv ix hs = false ↔ ownerF lv ix hs < 0 := by
  induction hs with
  | nil => simp [heldB, ownerF]
  | cons x t ih =>
    have hx := hv x (List.mem_cons_self)
    have ht := ih fun h hh => hv h (List.mem_cons_of_mem _ hh)
    have := (valid_th hx).1
    simp only [heldB, List.any_cons, ownerF] at ht ⊢
    cases hi : x.is lv ix
    · simpa using ht
    · simp; omega

theorem Rd.takeW {w : World} {B n : Nat} {A : Option Addr} {hs : List W3} (h : Rd w B 3 A n (cellsW hs)) {k : Nat} (hk : k ≤ n) : Rd w B 3 A k (cellsW (hs.take k)) := by
  have hl := h.lenW
  refine ⟨by rw [cellsW_len, List.length_take]; omega, fun h0 => ?_⟩
  obtain ⟨ad, e, hb, hc⟩ := h.2 (by omega)
  refine ⟨ad, e, hb, ?_⟩
  intro j v hv
  refine hc j v ?_
  have e2 : cellsW hs = cellsW (hs.take k) ++ cellsW (hs.drop k) := by
    rw [cellsW, cellsW, cellsW, ← List.flatMap_append, List.take_append_drop]
  rw [e2, List.getElem?_append_left (List.getElem?_eq_some_iff.1 hv).1]
  exact hv

set_option maxRecDepth 100000 in
set_option maxHeartbeats 4000000 in
theorem checkWaits_any (A B : Option Addr) (n c m d : Nat) (hs : List H3) (ws : List W3) (w : World) (hr : Rd w w.heap.size 3 A n (cells3 hs)) (hw : Rd w w.heap.size 3 B m (cellsW ws)) (hn : (n : Int) ≤ 1000000) (hm : (m : Int) ≤ 1000000) (hmd : m ≤ d) :
    Calls Try.prog 14 #[.agg #[.slice A n c], .slice B m d] w fun e w' => e = .returned (.int .i64 (cwF hs ws)) ∧ Below w.heap.size w w' := by
  have HL := Lib.hid hw.lenW
  have hb00 : Below w.heap.size w (w.alloc (.cells #[.slice A n c] 29)) := (Below.refl _ _).alloc (Nat.le_refl _) _
  by_cases h0 : checkF hs = 0
  · have HC := Lib.hid h0
    have HO : Hid (∀ lv ix, heldB lv ix hs = false ↔ ownerF lv ix hs < 0) := fun lv ix => owner_held (check_valid h0) lv ix
    clear h0
    go_enter Try.func14, Try.ntmps14
    go_wp2_with fail
    refine (check_any _ _ _ hs _ (hr.step hb00) hn).mono ?_
    rintro e w1 ⟨rfl, hb1⟩
    rw [HC.out]
    go_wp2
    obtain ⟨wo, rfl⟩ : ∃ wo : World, wo = w1 := ⟨_, rfl⟩
    go_loopw [17] (fun i wr => ∃ k : Nat, k ≤ m ∧ i = .int .i64 k ∧ Hid (cwFrom hs (ws.take k) (ws.drop k) = cwF hs ws) ∧ Below (w.heap.size + 1) (w.alloc (.cells #[.slice A n c] 29)) wr) (fun i _ => m - (intOf i).toNat)
    case atStart => exact ⟨0, Nat.zero_le _, rfl, by unfold Hid cwF; rw [if_pos HC.out]; rfl, by simpa using hb1⟩
    case round =>
      obtain ⟨k, hk, rfl, hF, hb⟩ := hrel
      have h0 : wr.cell? ⟨w.heap.size, 0, none⟩ = some (.slice A n c) := cs_ hb (by omega) (by simp [go_sem])
      have hbw : Below w.heap.size w wr := below_alloc1 (by simpa using hb)
      have hsz : w.heap.size < wr.heap.size := lt_of_cell h0
      by_cases hlt : k < m
      · have hkl : k < ws.length := by have := HL.out; omega
        obtain ⟨bd, rfl, hbd, d0, d1, d2⟩ := (hw.below hbw (Nat.le_refl _)).atW hkl
        go_wp2_with fail
        refine (owner_any _ _ _ hs _ _ _ (hr.step (hbw.alloc hbw.size _)) hn).mono ?_
        rintro e w2 ⟨rfl, hb2⟩
        obtain ⟨hc2, hf2⟩ := bcell hb2
        go_wp2_with fail
        refine (valid_any _ _ _ _).mono ?_
        rintro e w3 ⟨rfl, hb3⟩
        have hb4 := hb2.trans (hb3.mono hb2.size)
        obtain ⟨hc3, hf3⟩ := bcell hb4
        clear hc2 hf2 hb2 hb3
        cases hv : validB ws[k].lv ws[k].ix ws[k].th
        · go_wp2
          go_ret
          exact ⟨ret_int (by rw [← hF.out, cw_bad hkl hv]), hbw.trans ((below_alloc1 hb4).mono hbw.size)⟩
        · have hbx := (hbw.alloc hbw.size (.cells #[.int .i64 ws[k].th, .int .i64 ws[k].lv, .int .i64 ws[k].ix] 45)).trans (hb4.mono (by have := hbw.size; simp; omega))
          have hkd : k ≤ d := by omega
          have hrw := ((hw.takeW (k := k) hk).below hbx (Nat.le_refl _)).mono hbx.size
          have kc : w3.cell? ⟨wr.heap.size, 0, none⟩ = some (.int .i64 ws[k].th) := cs_ hb4 (by simp) (by simp [go_sem])
          have kl : wr.heap.size < w3.heap.size := lt_of_cell kc
          have hk6 : (k : Int) ≤ 1000000 := by omega
          go_wp2_with fail
          refine (containsW_any _ _ _ _ (ws.take k) _ _ hrw hk6 kc kl).mono ?_
          rintro e w4 ⟨rfl, hb5⟩
          have hb6 := hb4.trans (hb5.mono hb4.size)
          have hbr : Below (w.heap.size + 1) (w.alloc (.cells #[.slice A n c] 29)) w4 := hb.trans ((below_alloc1 hb6).mono (by omega))
          cases hany : (ws.take k).any (fun x => x.th == ws[k].th)
          · cases hh : heldB ws[k].lv ws[k].ix hs
            · go_wp2
              go_ret
              exact ⟨ret_int (by rw [← hF.out, cw_free hkl hv hany ((HO.out _ _).1 hh)]), below_alloc1 (by simpa using hbr)⟩
            · go_wp2
              go_roundw
              case rel => exact ⟨k + 1, by omega, by go_num, (cw_on hkl hv hany (fun h => by rw [(HO.out _ _).2 h] at hh; cases hh)).symm.trans hF.out, hbr⟩
              case measure => simp [intOf]; omega
          · go_wp2
            go_ret
            exact ⟨ret_int (by rw [← hF.out, cw_twice hkl hv hany]), below_alloc1 (by simpa using hbr)⟩
      · go_wp2
        go_ret
        have : k = ws.length := by have := HL.out; omega
        exact ⟨ret_int (by rw [← hF.out, this, List.drop_length]; rfl), hbw⟩
  · go_enter Try.func14, Try.ntmps14
    have h1 : (checkF hs != 0) = true := by simpa using h0
    go_wp2_with fail
    refine (check_any _ _ _ hs _ (hr.step hb00) hn).mono ?_
    rintro e w1 ⟨rfl, hb1⟩
    go_wp2
    go_ret
    exact ⟨ret_int (by rw [cwF, if_neg h0]), below_alloc1 hb1⟩

theorem any_ge_all (ls : List (Int × Int)) (lv : Int) : (ls.any fun x => decide (x.1 ≥ lv)) = !(ls.all fun l => decide (l.1 < lv)) := by
  induction ls with
  | nil => rfl
  | cons x t ih =>
    simp only [List.any_cons, List.all_cons, ih, Bool.not_and]
    congr 1
    rw [Bool.eq_iff_iff]; simp

/-- What Upward returns. -/
def upwardB (hs : List H3) (ws : List W3) : Bool := if cwF hs ws = 0 then upF hs ws else false

set_option maxRecDepth 100000 in
set_option maxHeartbeats 4000000 in
theorem upward_any (A B : Option Addr) (n c m d : Nat) (hs : List H3) (ws : List W3) (w : World) (hr : Rd w w.heap.size 3 A n (cells3 hs)) (hw : Rd w w.heap.size 3 B m (cellsW ws)) (hn : (n : Int) ≤ 1000000) (hm : (m : Int) ≤ 1000000) (hmd : m ≤ d) :
    Calls Try.prog 13 #[.agg #[.slice A n c], .slice B m d] w fun e w' => e = .returned (.bool (upwardB hs ws)) ∧ Below w.heap.size w w' := by
  have HL := Lib.hid hw.lenW
  have HN := Lib.hid hr.len3
  have hb00 : Below w.heap.size w (w.alloc (.cells #[.slice A n c] 29)) := (Below.refl _ _).alloc (Nat.le_refl _) _
  by_cases h0 : cwF hs ws = 0
  · have HC := Lib.hid h0
    have HU : Hid (upwardB hs ws = upF hs ws) := by unfold Hid upwardB; rw [if_pos h0]
    clear h0
    go_enter Try.func13, Try.ntmps13
    go_wp2_with fail
    refine (checkWaits_any _ _ _ _ _ _ hs ws _ (hr.step hb00) (hw.step hb00) hn hm hmd).mono ?_
    rintro e w1 ⟨rfl, hb1⟩
    rw [HC.out]
    go_wp2
    obtain ⟨wo, rfl⟩ : ∃ wo : World, wo = w1 := ⟨_, rfl⟩
    go_loopw [13] (fun i wr => ∃ k : Nat, k ≤ m ∧ i = .int .i64 k ∧ Hid (upF hs (ws.drop k) = upF hs ws) ∧ Below (w.heap.size + 1) (w.alloc (.cells #[.slice A n c] 29)) wr) (fun i _ => m - (intOf i).toNat)
    case atStart => exact ⟨0, Nat.zero_le _, rfl, rfl, by simpa using hb1⟩
    case round =>
      obtain ⟨k, hk, rfl, hF, hb⟩ := hrel
      have h0 : wr.cell? ⟨w.heap.size, 0, none⟩ = some (.slice A n c) := cs_ hb (by omega) (by simp [go_sem])
      have hbw : Below w.heap.size w wr := below_alloc1 (by simpa using hb)
      have hsz : w.heap.size < wr.heap.size := lt_of_cell h0
      by_cases hlt : k < m
      · have hkl : k < ws.length := by have := HL.out; omega
        obtain ⟨bd, rfl, hbd, d0, d1, d2⟩ := (hw.below hbw (Nat.le_refl _)).atW hkl
        go_wp2_with fail
        refine (of_any _ _ _ hs _ _ (hr.step (hbw.alloc hbw.size _)) hn).mono ?_
        rintro e w2 ⟨C, j, rfl, hl, hb2⟩
        have hj6 : (j : Int) ≤ 1000000 := by have := hl.len2; have := HN.out; have := ofF_len ws[k].th hs; omega
        have kc : w2.cell? ⟨wr.heap.size, 1, none⟩ = some (.int .i64 ws[k].lv) := cs_ hb2 (by simp) (by simp [go_sem])
        have kl : wr.heap.size < w2.heap.size := lt_of_cell kc
        obtain ⟨hc2, hf2⟩ := bcell hb2
        go_wp2_with fail
        refine (containsL_any _ _ _ _ (ofF ws[k].th hs) ws[k].lv _ hl hj6 kc kl).mono ?_
        rintro e w3 ⟨rfl, hb3⟩
        have hb4 := hb2.trans (hb3.mono hb2.size)
        have hbr : Below (w.heap.size + 1) (w.alloc (.cells #[.slice A n c] 29)) w3 := hb.trans ((below_alloc1 hb4).mono (by omega))
        rw [any_ge_all]
        cases hu : upOne hs ws[k]
        · have hu' : ((ofF ws[k].th hs).all fun l => decide (l.1 < ws[k].lv)) = false := hu
          rw [hu']
          go_wp2
          go_ret
          exact ⟨ret_bool (by rw [HU.out, ← hF.out, upF_drop _ _ _ hkl, hu]; rfl), below_alloc1 (by simpa using hbr)⟩
        · have hu' : ((ofF ws[k].th hs).all fun l => decide (l.1 < ws[k].lv)) = true := hu
          rw [hu']
          go_wp2
          go_roundw
          case rel => exact ⟨k + 1, by omega, by go_num, by unfold Hid; rw [← hF.out, upF_drop _ _ k hkl, hu]; rfl, hbr⟩
          case measure => simp [intOf]; omega
      · go_wp2
        go_ret
        have : k = ws.length := by have := HL.out; omega
        exact ⟨ret_bool (by rw [HU.out, ← hF.out, this, List.drop_length]; rfl), hbw⟩
  · have h1 : (cwF hs ws != 0) = true := by simpa using h0
    go_enter Try.func13, Try.ntmps13
    go_wp2_with fail
    refine (checkWaits_any _ _ _ _ _ _ hs ws _ (hr.step hb00) (hw.step hb00) hn hm hmd).mono ?_
    rintro e w1 ⟨rfl, hb1⟩
    go_wp2
    go_ret
    exact ⟨ret_bool (by rw [upwardB, if_neg h0]), below_alloc1 hb1⟩
end Go.Proofs.Ytfdfadebfdmdgaa
