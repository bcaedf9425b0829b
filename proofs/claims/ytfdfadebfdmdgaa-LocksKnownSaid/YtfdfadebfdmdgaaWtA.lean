/- The list of waits that plain data stand for. -/
import Derived.Test.YtfdfadebfdmdgaaTkW
import Derived.Test.YtfdfadebfdmdgaaTkB
import Derived.Test.YtfdfadebfdmdgaaLvA
import Derived.Test.YtfdfadebfdmdgaaLkI
import Derived.Deep.CutRange
import Derived.Deep.DeepCutAuto
import Derived.Deep.RegionHeld3
namespace Go.Proofs.Ytfdfadebfdmdgaa
open Go.RowKit

theorem info_wait : (Try.prog.info? 45).map (fun i => (i.zero, i.size, i.bytes)) = some (some (.agg #[.int .i64 0, .int .i64 0, .int .i64 0]), 3, 24) := by kernel_rfl

/-- A list of waits comes back. -/
def WaitsOut (gs : List W3) (w : World) (e : Ending) (w' : World) : Prop := ∃ A' m c', e = .returned (.slice A' m c') ∧ m ≤ c' ∧ Rd w' w'.heap.size 3 A' m (cellsW gs) ∧ Below w.heap.size w w'

theorem wrap_in {x : Int} (h0 : 0 ≤ x) (h1 : x < 1000000) : IntKind.i64.wrap x = x := by
  rw [IntKind.wrap_i64]; omega

theorem waits_none (A : Option Addr) (c : Nat) (B : Option Addr) (m d : Nat) (w : World) :
    Calls Try.prog 11 #[.agg #[.slice A 0 c], .slice B m d] w (WaitsOut [] w) := by
  go_enter Try.func11, Try.ntmps11
  go_wp2
  go_loopw [5, 6] (fun v i wr => v = .slice none 0 0 ∧ i = .int .i64 0 ∧ wr = w.alloc (.cells #[.slice A 0 c] 29)) (fun _ _ _ => 0)
  case atStart => exact ⟨rfl, rfl, rfl⟩
  case round =>
    obtain ⟨rfl, rfl, rfl⟩ := hrel
    by_cases hm : 0 < m
    · have hd : decide ((0 : Int) < (m : Int)) = true := by simp; omega
      go_wp2
      go_ret
      exact ⟨none, 0, 0, rfl, Nat.le_refl _, Rd.none_, (Below.refl _ _).alloc (Nat.le_refl _) _⟩
    · have hd : decide ((0 : Int) < (m : Int)) = false := by simp; omega
      go_wp2
      go_ret
      exact ⟨none, 0, 0, rfl, Nat.le_refl _, Rd.none_, (Below.refl _ _).alloc (Nat.le_refl _) _⟩

set_option maxRecDepth 100000 in
set_option maxHeartbeats 4000000 in
theorem waits_some (A : Option Addr) (n c : Nat) (hs : List H3) (B : Option Addr) (m d : Nat) (l : List U2) (w : World) (hr : Rd w w.heap.size 3 A n (cells3 hs)) (hl : Rd w w.heap.size 2 B m (cellsV l)) (hn : (n : Int) ≤ 1000000) (hm : m ≤ 20) (hn0 : 0 < n) :
    Calls Try.prog 11 #[.agg #[.slice A n c], .slice B m d] w (WaitsOut (waitsF hs l) w) := by
  have HL := Lib.hid hl.lenV
  have HN := Lib.hid hr.len3
  obtain ⟨i0, hi, hz0, hz1, hz2⟩ := info_parts info_wait
  go_enter Try.func11, Try.ntmps11
  go_wp2
  go_loopw [5, 6] (fun v i wr => ∃ k : Nat, k ≤ m ∧ i = .int .i64 k ∧ wr.ownsRow (w.heap.size + 1) 45 3 v (waitsF hs (l.take k)).length (cellsW (waitsF hs (l.take k))) ∧ Below (w.heap.size + 1) (w.alloc (.cells #[.slice A n c] 29)) wr) (fun _ i _ => m - (intOf i).toNat)
  case atStart => exact ⟨0, Nat.zero_le _, rfl, World.ownsRow_nil _ _ _ _, Below.refl _ _⟩
  case round =>
    obtain ⟨k, hk, rfl, hown, hb⟩ := hrel
    have h0 : wr.cell? ⟨w.heap.size, 0, none⟩ = some (.slice A n c) := cs_ hb (by omega) (by simp [go_sem])
    have hbw : Below w.heap.size w wr := below_alloc1 (by simpa using hb)
    have hsz : w.heap.size < wr.heap.size := lt_of_cell h0
    have hd0 : decide ((n : Int) > 0) = true := by simp; omega
    by_cases hlt : k < m
    · have hkl : k < l.length := by have := HL.out; omega
      obtain ⟨bd, rfl, hbd, c0, c1⟩ := (hl.below hbw (Nat.le_refl _)).atV hkl
      have hq0 : 0 < hs.length := by have := HN.out; omega
      obtain ⟨j, hjd⟩ : ∃ j : Nat, j = l[k].b % hs.length := ⟨_, rfl⟩
      have hql : j < hs.length := by rw [hjd]; exact Nat.mod_lt _ hq0
      have hj : (l[k].b : Int) % (n : Int) = (j : Int) := by rw [hjd, ← HN.out]; omega
      have HJ := Lib.hid hjd
      have ha := l[k].ha
      have hb8 := l[k].hb
      have hwb : IntKind.i64.wrap (l[k].b : Int) = (l[k].b : Int) := wrap_in (by omega) (by omega)
      have hta : ((l[k].a : Int)).tmod 16 = (l[k].a : Int) % 16 := Int.tmod_eq_emod_of_nonneg (by omega)
      have hwa : IntKind.i64.wrap ((l[k].a : Int) % 16) = (l[k].a : Int) % 16 := wrap_in (by omega) (by omega)
      have htb : ((l[k].b : Int)).tmod (n : Int) = (j : Int) := by rw [Int.tmod_eq_emod_of_nonneg (by omega)]; exact hj
      have hjn : (j : Int) < (n : Int) := by have := HN.out; omega
      have hjn2 : j < n := by have := HN.out; omega
      clear hjd
      obtain ⟨ad, rfl, had, e0, e1, e2⟩ := (hr.below hbw (Nat.le_refl _)).at3 hql
      have hnz : ¬ (n : Int) = 0 := by omega
      have hnz2 : ¬ n = 0 := by omega
      have hbdb : (bd.add (k * 2)).block < wr.heap.size := by rw [add_block]; omega
      have hadb : (ad.add (j * 3)).block < wr.heap.size := by rw [add_block]; omega
      go_upto_region 5 with (fail)
      go_cut [7] (fun s wx => ∃ g, s = .pointer (some ⟨g, 0, none⟩) ∧ wx.cell? ⟨g, 0, none⟩ = some (.int .i64 ((l[k].a : Int) % 16)) ∧ wx.cell? ⟨g, 1, none⟩ = some (.int .i64 hs[j].lv) ∧ wx.cell? ⟨g, 2, none⟩ = some (.int .i64 hs[j].ix) ∧ Below wr.heap.size wr wx)
      case first =>
        go_region_held3 (fun w' => w'.cell? ⟨w.heap.size, 0, none⟩ = some (.slice (some ad) n c) ∧ w'.cell? (bd.add (k * 2)) = some (.int .u8 l[k].a) ∧ w'.cell? ⟨(bd.add (k * 2)).block, (bd.add (k * 2)).off + 1, none⟩ = some (.int .u8 l[k].b) ∧ w'.cell? (ad.add (j * 3)) = some (.int .i64 hs[j].lv) ∧ w'.cell? ⟨(ad.add (j * 3)).block, (ad.add (j * 3)).off + 1, none⟩ = some (.int .i64 hs[j].ix)) (go_keep) (fail)
        all_goals
          go_wp2
          go_meet
          case rel => exact ⟨_, rfl, cell_newest _ _ _ 0 rfl, cell_newest _ _ _ 1 rfl, cell_newest _ _ _ 2 rfl, below_drewN' ((Below.refl _ _).alloc (Nat.le_refl _) _) 1⟩
      case rest =>
        obtain ⟨g, rfl, g0, g1, g2, hx⟩ := hcut
        have hown1 := own_below hown hx (Nat.le_refl _)
        have hb1 := hb.trans (hx.mono (by omega))
        have k0 := keep_cl hx h0
        have hbw1 := hbw.trans (hx.mono hbw.size)
        clear hown hb h0 c0 c1 e0 e1 e2 hbdb hadb hx hbw hsz
        obtain ⟨A1, cc1, rfl, hcc1, hrd1⟩ := own_slice hown1
        have hlen : (waitsF hs (l.take k)).length ≤ 20 := by have := waitsF_len hs (l.take k); have := List.length_take_le k l; omega
        have hlm : (((waitsF hs (l.take k)).length : Nat) : Int) ≤ 1000000 := by omega
        go_wp2_with fail
        refine (refFor_any _ _ _ _ _ _ hs (waitsF hs (l.take k)) _ _ (hr.step hbw1) hrd1 hn hlm).mono ?_
        rintro e w2 ⟨rfl, hx⟩
        have hown := own_below hown1 hx (Nat.le_refl _)
        have hsz0 := lt_of_cell k0
        have hb : Below (w.heap.size + 1) (w.alloc (.cells #[.slice (some ad) n c] 29)) w2 := hb1.trans (hx.mono (by have := hb1.size; simp at this; omega))
        have h0 := keep_cl hx k0
        have q0 := keep_cl hx g0
        have q1 := keep_cl hx g1
        have q2 := keep_cl hx g2
        clear hown1 hb1 k0 g0 g1 g2 hbw1 hrd1 hx
        cases hlo : decide (forF hs ((l[k].a : Int) % 16) (waitsF hs (l.take k)) < 0)
        · have hno : ¬ forF hs ((l[k].a : Int) % 16) (waitsF hs (l.take k)) < 0 := by simpa using hlo
          have HS := Lib.hid hno
          clear hno
          go_wp2
          go_roundw
          case rel => exact ⟨k + 1, by omega, by go_num, by rw [waitsF_take _ _ _ hkl, stepW, dif_pos hq0, if_neg (by have := HS.out; omega)]; exact hown, hb⟩
          case measure => simp [intOf]; omega
        · have hno : forF hs ((l[k].a : Int) % 16) (waitsF hs (l.take k)) < 0 := by simpa using hlo
          have HS := Lib.hid hno
          clear hno
          have hstep : Hid (waitsF hs (l.take (k + 1)) = waitsF hs (l.take k) ++ [⟨(l[k].a : Int) % 16, hs[j].lv, hs[j].ix⟩]) := by
            unfold Hid
            rw [waitsF_take _ _ _ hkl, stepW, dif_pos hq0, if_pos HS.out]
            have hjj := HJ.out
            subst hjj
            rfl
          go_wp2_with (at_builtin; refine wpList_append_rd _ rfl (.tmp 49) (.tmp 51) _ rfl (w.heap.size + 1) 45 i0 _ 3 24 Try.underlying31 hi hz0 hz1 hz2 rfl (by decide) _ _ _ rfl (hown.alloc _) _ _ 1 _ [.int .i64 ((l[k].a : Int) % 16), .int .i64 hs[j].lv, .int .i64 hs[j].ix] rfl (Rd.lit1 ?c0 rfl) ?c1 ?c2 ?c3 ?c4 ?_)
          case c0 => first | rfl | simp
          case c1 => intro u hu; simp at hu; rcases hu with rfl | rfl | rfl <;> rfl
          case c2 => unfold maxLen; omega
          case c3 => omega
          case c4 => have := hb.size; simp at this ⊢; omega
          intro v' w3 hown' hgrow hat
          have hb' := below_grown (hb.alloc (by simpa using hb.size) _) hgrow (by have := hb.size; simp at this ⊢; omega) (hown.alloc _)
          clear hown hgrow hat hb h0
          go_wp2
          go_roundw
          case rel => exact ⟨k + 1, by omega, by go_num, by rw [hstep.out, cellsW_app, List.length_append]; exact hown', hb'⟩
          case measure => simp [intOf]; omega
    · go_wp2
      go_ret
      have : k = l.length := by have := HL.out; omega
      rw [this, List.take_length] at hown
      obtain ⟨A', c', rfl, hcc, hrd⟩ := own_slice hown
      exact ⟨_, _, _, rfl, hcc, hrd, hbw⟩

theorem waits_any (A : Option Addr) (n c : Nat) (hs : List H3) (B : Option Addr) (m d : Nat) (l : List U2) (w : World) (hr : Rd w w.heap.size 3 A n (cells3 hs)) (hl : Rd w w.heap.size 2 B m (cellsV l)) (hn : (n : Int) ≤ 1000000) (hm : m ≤ 20) :
    Calls Try.prog 11 #[.agg #[.slice A n c], .slice B m d] w (WaitsOut (waitsF hs l) w) := by
  rcases Nat.eq_zero_or_pos n with rfl | hn0
  · have h0 : hs = [] := List.eq_nil_of_length_eq_zero hr.len3.symm
    subst h0
    rw [waitsF_none]
    exact waits_none A c B m d w
  · exact waits_some A n c hs B m d l w hr hl hn hm hn0
end Go.Proofs.Ytfdfadebfdmdgaa
