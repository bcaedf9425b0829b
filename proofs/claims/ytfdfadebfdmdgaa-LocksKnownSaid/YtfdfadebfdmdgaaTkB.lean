/- The table of plain data. -/
import Derived.Test.YtfdfadebfdmdgaaTkA
import Derived.Deep.CutRange
import Derived.Deep.DeepCutAuto
import Derived.Deep.RegionHeld3
namespace Go.Proofs.Ytfdfadebfdmdgaa
open Go.RowKit

theorem one_block {w : World} {g : Nat} {v : Value} {t : TypeId} (h : w.heap[g]? = some (.cells #[v] t (0, 0))) {k : Nat} {u : Value} (hc : w.cell? ⟨g, k, none⟩ = some u) : k = 0 ∧ u = v := by
  unfold World.cell? at hc
  rw [h] at hc
  match k with
  | 0 => simp at hc; exact ⟨rfl, hc.symm⟩
  | k + 1 => simp at hc

theorem rd_setBox {w : World} {B m g k : Nat} {A A' : Option Addr} {n c : Nat} {hs : List H3} {v : Value} {t : TypeId} (h : Rd w B 3 A m (cells3 hs)) (hg : w.heap[g]? = some (.cells #[.slice A' n c] t (0, 0))) (hk : k = 0) : Rd (w.setCell ⟨g, k, none⟩ v) B 3 A m (cells3 hs) := by
  subst hk
  refine ⟨h.1, fun hm => ?_⟩
  obtain ⟨ad, e, hl, hc⟩ := h.2 hm
  refine ⟨ad, e, hl, ?_⟩
  have hne : ad.block ≠ g := by
    intro he
    match hs, h.1 with
    | [], h1 => have h2 : 0 = m * 3 := h1; omega
    | x :: xs, _ =>
      have h1 : w.cell? ⟨ad.block, ad.off + 1, none⟩ = some (.int .i64 x.ix) := hc.c1
      rw [he] at h1
      have := (one_block hg h1).1
      omega
  exact hc.keep fun p hp => World.cell?_setCell_other w ⟨g, 0, none⟩ p v (fun e2 => hne (by rw [← hp, ← e2]))

theorem keep_cl {w w' : World} {a : Addr} {v : Value} (hb : Below w.heap.size w w') (h : w.cell? a = some v) : w'.cell? a = some v := (hb.cell (lt_of_cell h)).trans h
theorem cell_nw (w : World) (cs : Array Value) (t : TypeId) (i : Nat) {v : Value} (h : cs[i]? = some v) : (w.alloc (.cells cs t)).cell? ⟨w.heap.size, i, none⟩ = some v := by
  rw [World.cell?_alloc_new]; simpa using h
theorem two_set {w : World} {g : Nat} {u0 u1 v0 v1 : Value} (h0 : w.cell? ⟨g, 0, none⟩ = some u0) (h1 : w.cell? ⟨g, 1, none⟩ = some u1) :
    ((w.setCell ⟨g, 0, none⟩ v0).setCell ⟨g, 1, none⟩ v1).cell? ⟨g, 0, none⟩ = some v0 ∧ ((w.setCell ⟨g, 0, none⟩ v0).setCell ⟨g, 1, none⟩ v1).cell? ⟨g, 1, none⟩ = some v1 := by
  have e1 : (w.setCell ⟨g, 0, none⟩ v0).cell? ⟨g, 1, none⟩ = some u1 := (World.cell?_setCell_other w ⟨g, 0, none⟩ ⟨g, 1, none⟩ v0 (by simp)).trans h1
  exact ⟨(World.cell?_setCell_other _ ⟨g, 1, none⟩ ⟨g, 0, none⟩ v1 (by simp)).trans (set_same h0), set_same e1⟩
theorem heap_set_other {w : World} {a : Addr} {g : Nat} {v : Value} (h : a.block ≠ g) : (w.setCell a v).heap[g]? = w.heap[g]? := by
  exact heap_setCell_other w a g v (fun e => h (by rw [e]))
theorem heap_st1 (w : World) (o p q : Obj) : (((w.alloc o).alloc p).alloc q).heap[w.heap.size + 1]? = some p := by
  rw [((Below.refl _ ((w.alloc o).alloc p)).alloc (Nat.le_refl _) q).block (w.heap.size + 1) (by simp)]
  exact heap_new_at (by simp)
theorem cell_st (w : World) (v : Value) (t : TypeId) (p q : Obj) : (((w.alloc (.cells #[v] t)).alloc p).alloc q).cell? ⟨w.heap.size, 0, none⟩ = some v :=
  cs_ (((Below.refl _ (w.alloc (.cells #[v] t))).alloc (Nat.le_refl _) p).alloc (by simp) q) (by simp) (by simp [go_sem])
theorem below_nx {a b c : World} (h : Below a.heap.size a b) (h2 : Below b.heap.size b c) : Below a.heap.size a c := h.trans (h2.mono h.size)

set_option maxRecDepth 100000 in
set_option maxHeartbeats 8000000 in
theorem tof_any (A : Option Addr) (n c : Nat) (l : List U3) (w : World) (hr : Rd w w.heap.size 3 A n (cellsU l)) :
    Calls Try.prog 10 #[.agg #[.slice A n c]] w (TabOut (ofU (l.take 30)) w) := by
  have HL := Lib.hid hr.lenU
  go_enter Try.func10, Try.ntmps10
  go_wp2
  go_loopw [4] (fun i wr => ∃ (k : Nat) (A' : Option Addr) (m c' : Nat), k ≤ n ∧ k ≤ 30 ∧ i = .int .i64 k ∧ Below w.heap.size w wr ∧ wr.cell? ⟨w.heap.size, 0, none⟩ = some (.slice A n c) ∧ wr.heap[w.heap.size + 1]? = some (.cells #[.slice none 0 0] 29 (0, 0)) ∧ wr.heap[w.heap.size + 1 + 1]? = some (.cells #[.slice A' m c'] 29 (0, 0)) ∧ Rd wr wr.heap.size 3 A' m (cells3 (ofU (l.take k)))) (fun i _ => 30 - (intOf i).toNat)
  case atStart => exact ⟨0, none, 0, 0, Nat.zero_le _, by omega, rfl, below_alloc2 (below_alloc1 (Below.refl _ _)), cell_st _ _ _ _ _, heap_st1 _ _ _ _, heap_new_at (by simp), Rd.none_⟩
  case round =>
    obtain ⟨k, A', m, c', hk, hk3, rfl, hb, h0, h1, h2, hrd⟩ := hrel
    have hsz : w.heap.size + 1 + 1 < wr.heap.size := lt_of_block h2
    have q2 := cell_of_one h2
    have q2f := free_of_one h2
    have hmm : m ≤ 30 := by have a1 := hrd.len3; have a2 := ofU_len (l.take k); have a3 := List.length_take_le k l; omega
    have hmi : (m : Int) ≤ 1000000 := by omega
    by_cases hlt : k < n
    · have hkl : k < l.length := by have := HL.out; omega
      obtain ⟨ad, rfl, had, c0, c1, c2⟩ := (hr.below hb (Nat.le_refl _)).atU hkl
      by_cases h30 : k < 30
      · have hd : decide ((k : Int) < 30) = true := by simp; omega
        have hadb : (ad.add (k * 3)).block < wr.heap.size := by rw [add_block]; omega
        have ha := l[k].ha
        have hb8 := l[k].hb
        have hc8 := l[k].hc
        have y0 : ∀ o, (wr.alloc o).cell? ⟨w.heap.size, 0, none⟩ = some (.slice (some ad) n c) := fun o => cs_ ((Below.refl wr.heap.size wr).alloc (Nat.le_refl _) o) (lt_of_cell h0) h0
        have ya : ∀ o, (wr.alloc o).cell? (ad.add (k * 3)) = some (.int .u8 l[k].a) := fun o => (((Below.refl wr.heap.size wr).alloc (Nat.le_refl _) o).cell hadb).trans c0
        have yb : ∀ o, (wr.alloc o).cell? ⟨(ad.add (k * 3)).block, (ad.add (k * 3)).off + 1, none⟩ = some (.int .u8 l[k].b) := fun o => (((Below.refl wr.heap.size wr).alloc (Nat.le_refl _) o).cell (by exact hadb)).trans c1
        have hs1 : Below wr.heap.size wr wr.drew := below_drewN' (Below.refl _ _) 1
        have hs2 : ∀ o, Below wr.heap.size wr (wr.alloc o).drew := fun o => below_drewN' ((Below.refl _ wr).alloc (Nat.le_refl _) o) 1
        have n1 : wr.heap.size ≠ w.heap.size := by omega
        have n2 : wr.heap.size ≠ (ad.add (k * 3)).block := by omega
        go_upto_region 5 with (fail)
        go_cut [5] (fun s wx => ∃ g, s = .pointer (some ⟨g, 0, none⟩) ∧ wx.cell? ⟨g, 0, none⟩ = some (.int .i64 (levF l[k].a)) ∧ wx.cell? ⟨g, 1, none⟩ = some (.int .i64 l[k].b) ∧ Below wr.heap.size wr wx)
        case first =>
          go_region_held3 (fun w' => w'.cell? ⟨w.heap.size, 0, none⟩ = some (.slice (some ad) n c) ∧ w'.cell? (ad.add (k * 3)) = some (.int .u8 l[k].a) ∧ w'.cell? ⟨(ad.add (k * 3)).block, (ad.add (k * 3)).off + 1, none⟩ = some (.int .u8 l[k].b)) (go_keep) (first
            | (go_at_call 21; refine (lock_any _ _ ha hb8 _).mono ?_; rintro e wx ⟨rfl, hbx⟩; have hy : Below wr.heap.size wr wx := below_nx hs1 hbx; have p0 := keep_cl hy h0; have pa := keep_cl hy c0; have pb := keep_cl hy c1)
            | (go_at_call 21; refine (lock_any _ _ ha hb8 _).mono ?_; rintro e wx ⟨rfl, hbx⟩; have hy : Below wr.heap.size wr wx := below_nx (hs2 _) hbx; have p0 := keep_cl hy h0; have pa := keep_cl hy c0; have pb := keep_cl hy c1; have pg0 : wx.cell? ⟨wr.heap.size, 0, none⟩ = some (.int .i64 0) := cs_ hbx (by simp) (by simp [go_sem]); have pg1 : wx.cell? ⟨wr.heap.size, 1, none⟩ = some (.int .i64 0) := cs_ hbx (by simp) (by simp [go_sem]); have pf0 : wx.frozen? ⟨wr.heap.size, 0, none⟩ = false := fs_ hbx (by simp) (by simp [go_sem]); have pf1 : wx.frozen? ⟨wr.heap.size, 1, none⟩ = false := fs_ hbx (by simp) (by simp [go_sem])))
          all_goals
            go_wp2
            go_meet
            case rel => first | exact ⟨_, rfl, (two_set pg0 pg1).1, (two_set pg0 pg1).2, (hy.setCell (Nat.le_refl _) _).setCell (Nat.le_refl _) _⟩ | exact ⟨_, rfl, cell_nw _ _ _ 0 rfl, cell_nw _ _ _ 1 rfl, hy.alloc hy.size _⟩
        case rest =>
          obtain ⟨g, rfl, g0, g1, hx⟩ := hcut
          have hb' := hb.trans (hx.mono hb.size)
          have k0 := keep_cl hx h0
          have k1 : wc.heap[w.heap.size + 1]? = some (.cells #[.slice none 0 0] 29 (0, 0)) := by rw [hx.block _ (by omega)]; exact h1
          have k2 : wc.heap[w.heap.size + 1 + 1]? = some (.cells #[.slice A' m c'] 29 (0, 0)) := by rw [hx.block _ hsz]; exact h2
          have krd := hrd.step hx
          have ka := keep_cl hx c2
          have hsz' : w.heap.size + 1 + 1 < wc.heap.size := lt_of_block k2
          clear h0 h1 h2 hrd c0 c1 c2 q2 q2f y0 ya yb hs1 hs2 hb hx hadb n1 n2 hsz
          have q2 := cell_of_one k2
          have q2f := free_of_one k2
          go_wp2_with fail
          refine (refOwner_any _ _ _ _ _ _ _ krd hmi).mono ?_
          rintro e w2 ⟨rfl, hx⟩
          have hb := hb'.trans (hx.mono hb'.size)
          have h0 := keep_cl hx k0
          have h1 : w2.heap[w.heap.size + 1]? = some (.cells #[.slice none 0 0] 29 (0, 0)) := by rw [hx.block _ (by omega)]; exact k1
          have h2 : w2.heap[w.heap.size + 1 + 1]? = some (.cells #[.slice A' m c'] 29 (0, 0)) := by rw [hx.block _ hsz']; exact k2
          have hrd := krd.step hx
          have c2 := keep_cl hx ka
          have e0 := keep_cl hx g0
          have e1 := keep_cl hx g1
          clear k0 k1 k2 krd ka g0 g1 q2 q2f hb' hsz' hx
          have q2 := cell_of_one h2
          have q2f := free_of_one h2
          have hsz : w.heap.size + 1 + 1 < w2.heap.size := lt_of_block h2
          cases hlo : decide (ownerF (levF l[k].a) l[k].b (ofU (l.take k)) < 0)
          · have hno : ¬ ownerF (levF l[k].a) l[k].b (ofU (l.take k)) < 0 := by simpa using hlo
            have HS := Lib.hid hno
            clear hno
            go_wp2
            go_roundw
            case rel => exact ⟨k + 1, A', m, c', by omega, by omega, by go_num, hb, h0, h1, h2, by rw [ofU_take _ _ hkl, stepU, if_neg (by have := HS.out; omega)]; exact hrd⟩
            case measure => simp [intOf]; omega
          · have hno : ownerF (levF l[k].a) l[k].b (ofU (l.take k)) < 0 := by simpa using hlo
            have HS := Lib.hid hno
            clear hno
            go_upto_region 7 with (fail)
            refine still_tail 10 (by kernel_rfl) (by kernel_rfl) ?_
            simp only [List.take_succ_cons, List.take_zero, List.drop_succ_cons, List.drop_zero]
            repeat still_step
            refine wpStill_nil ?_
            go_wp2_with fail
            refine (refTake_any _ _ _ _ _ _ _ w2.drew hrd.drew hmi).mono ?_
            rintro e w4 ⟨A4, m4, c4, rfl, hr4, hx4⟩
            have hx5 : Below w2.heap.size w2 w4 := below_of_drew hx4
            have hb6 := hb.trans (hx5.mono hb.size)
            have j0 := keep_cl hx5 h0
            have j1 : w4.heap[w.heap.size + 1]? = some (.cells #[.slice none 0 0] 29 (0, 0)) := by rw [hx5.block _ (by omega)]; exact h1
            have j2 : w4.heap[w.heap.size + 1 + 1]? = some (.cells #[.slice A' m c'] 29 (0, 0)) := by rw [hx5.block _ hsz]; exact h2
            have i2 := cell_of_one j2
            have i2f := free_of_one j2
            go_wp2
            go_roundw
            case rel =>
              refine ⟨k + 1, A4, m4, c4, by omega, by omega, by go_num, hb6.setCell (show w.heap.size ≤ w.heap.size + 1 + 1 by omega) _, (World.cell?_setCell_other _ _ _ _ (by simp)).trans j0, ?_, one_setCell j2, ?_⟩
              · rw [← j1]; exact heap_set_other (by simp)
              · rw [ofU_take _ _ hkl, stepU, if_pos (by have := HS.out; omega)]
                exact (rd_setBox hr4 j2 rfl).mono (Nat.le_of_eq (by simp))
            case measure => simp [intOf]; omega
      · have hd : decide ((k : Int) < 30) = false := by simp; omega
        have HK : Hid (l.take k = l.take 30) := by unfold Hid; rw [show k = 30 by omega]
        have q1 := cell_of_one h1
        have q1f := free_of_one h1
        go_wp2
        refine bodyPost_ret (v := .agg #[.slice A' m c']) (by simp [results, Try.results10, go_sem, set_same q1]) rfl ⟨_, _, _, rfl, ?_, hb.setCell (show w.heap.size ≤ w.heap.size + 1 by omega) _⟩
        rw [← HK.out]
        exact (rd_setBox hrd h1 rfl).mono (Nat.le_of_eq (by simp))
    · have HK : Hid (l.take k = l.take 30) := by unfold Hid; rw [List.take_of_length_le (by have := HL.out; omega), List.take_of_length_le (by have := HL.out; omega)]
      have q1 := cell_of_one h1
      have q1f := free_of_one h1
      go_wp2
      refine bodyPost_ret (v := .agg #[.slice A' m c']) (by simp [results, Try.results10, go_sem, set_same q1]) rfl ⟨_, _, _, rfl, ?_, hb.setCell (show w.heap.size ≤ w.heap.size + 1 by omega) _⟩
      rw [← HK.out]
      exact (rd_setBox hrd h1 rfl).mono (Nat.le_of_eq (by simp))
end Go.Proofs.Ytfdfadebfdmdgaa
