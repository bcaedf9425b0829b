/- Scripts are checked: scripts.Check, for whatever script. -/
import Derived.Test.YtjknpcllmmalkaaGreatDoorPck
import Derived.Test.YtjknpcllmmalkaaGreatDoorSec
import Derived.Test.YtjknpcllmmalkaaGreatDoorAcs
namespace Go.Proofs.YtjknpcllmmalkaaGreatDoor
open Go.RowKit

theorem flatMap_len {α : Type} (f : α → List Value) (s : Nat) (hs : ∀ x, (f x).length = s) : ∀ (l : List α), (l.flatMap f).length = l.length * s
  | [] => by simp
  | x :: l => by rw [List.flatMap_cons, List.length_append, hs, flatMap_len f s hs l, List.length_cons, Nat.succ_mul]; omega
def cellsA (l : List ActV) : List Value := l.flatMap ActV.cells
theorem cellsA_drop (hs : List ActV) (k : Nat) : (cellsA hs).drop (k * 5) = cellsA (hs.drop k) := by
  induction k generalizing hs with
  | zero => simp
  | succ k ih =>
    cases hs with
    | nil => simp [cellsA]
    | cons h t =>
      have e : (k + 1) * 5 = 5 + k * 5 := by omega
      rw [e, ← List.drop_drop]
      exact ih t
theorem Rd.lenA {w : World} {B n : Nat} {A : Option Addr} {hs : List ActV} (h : Rd w B 5 A n (cellsA hs)) : n = hs.length := by
  have := h.1; rw [cellsA, flatMap_len ActV.cells 5 (fun _ => rfl)] at this; omega
theorem Rd.atA {w : World} {B n : Nat} {A : Option Addr} {hs : List ActV} (h : Rd w B 5 A n (cellsA hs)) {k : Nat} (hk : k < hs.length) :
    ∃ ad, A = some ad ∧ ad.block < B ∧ w.cell? (ad.add (k * 5)) = some (.int .u8 hs[k].k) ∧ w.cell? ⟨(ad.add (k * 5)).block, (ad.add (k * 5)).off + 1, none⟩ = some (.int .i64 hs[k].th) ∧
      w.cell? ⟨(ad.add (k * 5)).block, (ad.add (k * 5)).off + 2, none⟩ = some (.int .i64 hs[k].sc) ∧ w.cell? ⟨(ad.add (k * 5)).block, (ad.add (k * 5)).off + 3, none⟩ = some (.slice hs[k].A hs[k].n hs[k].c) ∧
      w.cell? ⟨(ad.add (k * 5)).block, (ad.add (k * 5)).off + 4, none⟩ = some (.int .i64 hs[k].bk) := by
  have hn := h.lenA
  obtain ⟨ad, e, hl, hc⟩ := h.at_ (k := k) (by omega)
  rw [cellsA_drop, List.drop_eq_getElem_cons hk] at hc
  refine ⟨ad, e, hl, hc.c0, hc.c1, hc.c2, ?_, ?_⟩
  · rw [add_succ _ 2]; exact hc 3 _ rfl
  · rw [add_succ _ 3]; exact hc 4 _ rfl
/-- actions as they lie -/
def Acts (w : World) (A : Option Addr) (n : Nat) (l : List ActV) : Prop := Rd w w.heap.size 5 A n (cellsA l) ∧ ∀ a ∈ l, Rd w w.heap.size 1 a.A a.n (cells8 a.l)
theorem Acts.step {w w' : World} {A : Option Addr} {n : Nat} {l : List ActV} (h : Acts w A n l) (hb : Below w.heap.size w w') : Acts w' A n l := ⟨h.1.step hb, fun p hp => (h.2 p hp).step hb⟩
/-- a script as it lies -/
structure ScrV where
  c : Cfg
  pA : Option Addr
  pn : Nat
  pc : Nat
  pl : List PgV
  aA : Option Addr
  an : Nat
  ac : Nat
  al : List ActV
def ScrV.cells (s : ScrV) : List Value := s.c.cells ++ [.slice s.pA s.pn s.pc, .slice s.aA s.an s.ac]
/-- what scripts.Check tells -/
noncomputable def ScrV.err (s : ScrV) : Int :=
  if s.c.err = 0 then if pgErr s.pn s.pl = 0 then if (s.pn : Int) = s.c.cl then if (s.an : Int) ≤ 4096 then if s.al.all (fun a => a.isB (s.c.cl + s.c.sh) (secH s.c.bl)) then 0 else 1 else 3 else 1 else pgErr s.pn s.pl else s.c.err
theorem meas_step (a k : Nat) (h : k < a) : a - (intOf (.int .i64 ((k + 1 : Nat) : Int))).toNat < a - (intOf (.int .i64 (k : Int))).toNat := by
  simp [intOf]; omega
theorem Cfg.err_cases (c : Cfg) : (c.err = 0 ∧ c.good) ∨ c.err = 7 := by
  unfold Cfg.err
  by_cases h : c.good
  · exact .inl ⟨if_pos h, h⟩
  · exact .inr (if_neg h)
theorem pgErr_cases (n : Nat) (l : List PgV) : pgErr n l = 0 ∨ pgErr n l = 3 := by
  unfold pgErr
  split
  · exact .inr rfl
  · exact .inl rfl
theorem Cfg.len (c : Cfg) (hl : c.ms.length = 32) : c.cells.length = 39 := by simp [Cfg.cells, cells8_len, hl]
theorem Row.first {w : World} {g : Nat} {t : TypeId} {L M : List Value} (h : Row w g t (L ++ M)) : w.rangeAt g 0 L := fun j v hv => by
  rw [Nat.zero_add]
  exact h.cell (by rw [List.getElem?_append_left (List.getElem?_eq_some_iff.1 hv).1]; exact hv)
set_option maxRecDepth 100000 in
set_option maxHeartbeats 4000000 in
theorem sCheck_any (s : ScrV) (hl : s.c.ms.length = 32) (w : World) (hp : Progs w s.pA s.pn s.pl) (ha : Acts w s.aA s.an s.al) :
    Calls Tryz.prog 5 #[.agg s.cells.toArray] w fun e w' => e = .returned (.int .i64 s.err) ∧ Below w.heap.size w w' := by
  have hlen := s.c.len hl
  have HI := Lib.hid (show (Tryz.prog.info? 26).map (·.size) = some s.c.cells.length by rw [hlen]; kernel_rfl)
  obtain ⟨cs, hcs⟩ : ∃ cs, cs = s.cells := ⟨_, rfl⟩
  have kc : ∀ (j : Nat) v, s.c.cells[j]? = some v → cs[j]? = some v := fun j v hv => by
    rw [hcs, ScrV.cells, List.getElem?_append_left (List.getElem?_eq_some_iff.1 hv).1]; exact hv
  have k0 : cs[0]? = some (.int .i64 s.c.bl) := kc _ _ rfl
  have k1 : cs[1]? = some (.int .i64 s.c.sh) := kc _ _ rfl
  have k3 : cs[3]? = some (.int .i64 s.c.cl) := kc _ _ rfl
  have k39 : cs[39]? = some (.slice s.pA s.pn s.pc) := by rw [hcs, ScrV.cells, List.getElem?_append_right (by omega), hlen]; rfl
  have k40 : cs[40]? = some (.slice s.aA s.an s.ac) := by rw [hcs, ScrV.cells, List.getElem?_append_right (by omega), hlen]; rfl
  have HC := fun W => wCheck_any s.c hl W
  have HS := fun W => sectors_any s.c.bl W
  have HP := fun (W : World) (hb : Below w.heap.size w W) => pCheck_any s.pA s.pn s.pc s.pl W (hp.step hb)
  have HA := Lib.hid ha
  have ha0 := ha
  have b0 : Below w.heap.size w (w.alloc (.cells cs.toArray 30)) := (Below.refl _ _).alloc (Nat.le_refl _) _
  have r0 : Row (w.alloc (.cells cs.toArray 30)) w.heap.size 30 cs := heap_alloc_new _ _
  have hrng : (w.alloc (.cells cs.toArray 30)).rangeAt w.heap.size 0 s.c.cells := by
    have : Row (w.alloc (.cells cs.toArray 30)) w.heap.size 30 (s.c.cells ++ [.slice s.pA s.pn s.pc, .slice s.aA s.an s.ac]) := by
      have : cs = s.c.cells ++ [.slice s.pA s.pn s.pc, .slice s.aA s.an s.ac] := hcs
      rw [← this]; exact r0
    exact this.first
  rw [← hcs]
  clear r0 hp ha hcs kc
  rcases s.c.err_cases with ⟨he, hg⟩ | he
  rotate_left
  · have hE : s.err = 7 := by unfold ScrV.err; rw [if_neg (by omega), he]
    rw [hE]
    go_enter Tryz.func5, Tryz.ntmps5
    go_wp2_with (first | (refine wpList_load_mid rfl 26 (.tmp 9) rfl w.heap.size 0 rfl s.c.cells _ hrng Tryz.underlying26 rfl HI.out ?_) | (go_at_call 13; refine (HC _).mono ?_; rintro e w2 ⟨rfl, hb2⟩; rw [he]))
    go_ret
    exact ⟨rfl, b0.trans (hb2.mono b0.size)⟩
  rcases pgErr_cases s.pn s.pl with hq | hq
  rotate_left
  · have hE : s.err = 3 := by unfold ScrV.err; rw [if_pos he, if_neg (by omega), hq]
    rw [hE]
    go_enter Tryz.func5, Tryz.ntmps5
    go_wp2_with (first | (refine wpList_load_mid rfl 26 (.tmp 9) rfl w.heap.size 0 rfl s.c.cells _ hrng Tryz.underlying26 rfl HI.out ?_) | (go_at_call 13; refine (HC _).mono ?_; rintro e w2 ⟨rfl, hb2⟩; rw [he]; have r2 : Row w2 w.heap.size 30 cs := (hb2.block _ (by simp)).trans (heap_alloc_new _ _); have d39 := r2.cell k39; have d40 := r2.cell k40; clear r2) | (go_at_call 14; refine (HP _ (b0.trans (hb2.mono b0.size))).mono ?_; rintro e w3 ⟨rfl, hb3⟩; rw [hq]))
    go_ret
    exact ⟨rfl, (b0.trans (hb2.mono b0.size)).trans (hb3.mono (b0.trans (hb2.mono b0.size)).size)⟩
  by_cases hn : (s.pn : Int) = s.c.cl
  rotate_left
  · have hE : s.err = 1 := by unfold ScrV.err; rw [if_pos he, if_pos hq, if_neg hn]
    rw [hE]
    have hd : ((s.pn : Int) != s.c.cl) = true := by simpa using hn
    clear hn
    go_enter Tryz.func5, Tryz.ntmps5
    go_wp2_with (first | (refine wpList_load_mid rfl 26 (.tmp 9) rfl w.heap.size 0 rfl s.c.cells _ hrng Tryz.underlying26 rfl HI.out ?_) | (go_at_call 13; refine (HC _).mono ?_; rintro e w2 ⟨rfl, hb2⟩; rw [he]; have r2 : Row w2 w.heap.size 30 cs := (hb2.block _ (by simp)).trans (heap_alloc_new _ _); have d39 := r2.cell k39; clear r2) | (go_at_call 14; refine (HP _ (b0.trans (hb2.mono b0.size))).mono ?_; rintro e w3 ⟨rfl, hb3⟩; rw [hq]; have r3 : Row w3 w.heap.size 30 cs := (hb3.block _ (by have := hb2.size; simp at this; omega)).trans ((hb2.block _ (by simp)).trans (heap_alloc_new _ _)); have d39 := r3.cell k39; have d3 := r3.cell k3; clear r3))
    go_ret
    exact ⟨rfl, (b0.trans (hb2.mono b0.size)).trans (hb3.mono (b0.trans (hb2.mono b0.size)).size)⟩
  by_cases hm : (s.an : Int) ≤ 4096
  rotate_left
  · have hE : s.err = 3 := by unfold ScrV.err; rw [if_pos he, if_pos hq, if_pos hn, if_neg hm]
    rw [hE]
    have hd : ((s.pn : Int) != s.c.cl) = false := by simpa using hn
    have hd2 : decide ((s.an : Int) > 4096) = true := by simp; omega
    clear hn hm
    go_enter Tryz.func5, Tryz.ntmps5
    go_wp2_with (first | (refine wpList_load_mid rfl 26 (.tmp 9) rfl w.heap.size 0 rfl s.c.cells _ hrng Tryz.underlying26 rfl HI.out ?_) | (go_at_call 13; refine (HC _).mono ?_; rintro e w2 ⟨rfl, hb2⟩; rw [he]; have r2 : Row w2 w.heap.size 30 cs := (hb2.block _ (by simp)).trans (heap_alloc_new _ _); have d39 := r2.cell k39; clear r2) | (go_at_call 14; refine (HP _ (b0.trans (hb2.mono b0.size))).mono ?_; rintro e w3 ⟨rfl, hb3⟩; rw [hq]; have r3 : Row w3 w.heap.size 30 cs := (hb3.block _ (by have := hb2.size; simp at this; omega)).trans ((hb2.block _ (by simp)).trans (heap_alloc_new _ _)); have d39 := r3.cell k39; have d3 := r3.cell k3; have d40 := r3.cell k40; have d0 := r3.cell k0; clear r3))
    go_ret
    exact ⟨rfl, (b0.trans (hb2.mono b0.size)).trans (hb3.mono (b0.trans (hb2.mono b0.size)).size)⟩
  have hht : htE s.c.bl = 0 := hg.1
  have hE : s.err = if s.al.all (fun a => a.isB (s.c.cl + s.c.sh) (secH s.c.bl)) then 0 else 1 := by unfold ScrV.err; rw [if_pos he, if_pos hq, if_pos hn, if_pos hm]
  rw [hE]
  obtain ⟨E, hE2⟩ : ∃ E : Int, E = if s.al.all (fun a => a.isB (s.c.cl + s.c.sh) (secH s.c.bl)) then 0 else 1 := ⟨_, rfl⟩
  rw [← hE2]
  have HE := Lib.hid hE2
  have HM := Lib.hid hm
  clear hE2
  have hd : ((s.pn : Int) != s.c.cl) = false := by simpa using hn
  have hd2 : decide ((s.an : Int) > 4096) = false := by simp; omega
  have hw : IntKind.i64.wrap (s.c.cl + s.c.sh) = s.c.cl + s.c.sh := IntWalk.i64_in _ (by unfold Cfg.good at hg; omega)
  clear hn hm hE hg
  have HAI := fun (a : ActV) (W : World) (hr : Rd W W.heap.size 1 a.A a.n (cells8 a.l)) => actionIs_any a (s.c.cl + s.c.sh) (secH s.c.bl) W hr
  unfold ActV.cells at HAI
  have HL := Lib.hid ha0.1.lenA
  go_enter Tryz.func5, Tryz.ntmps5
  go_wp2_with (first | (refine wpList_load_mid rfl 26 (.tmp 9) rfl w.heap.size 0 rfl s.c.cells _ hrng Tryz.underlying26 rfl HI.out ?_) | (go_at_call 13; refine (HC _).mono ?_; rintro e w2 ⟨rfl, hb2⟩; rw [he]; have r2 : Row w2 w.heap.size 30 cs := (hb2.block _ (by simp)).trans (heap_alloc_new _ _); have d39 := r2.cell k39; clear r2) | (go_at_call 14; refine (HP _ (b0.trans (hb2.mono b0.size))).mono ?_; rintro e w3 ⟨rfl, hb3⟩; rw [hq]; have r3 : Row w3 w.heap.size 30 cs := (hb3.block _ (by have := hb2.size; simp at this; omega)).trans ((hb2.block _ (by simp)).trans (heap_alloc_new _ _)); have d39 := r3.cell k39; have d3 := r3.cell k3; have d40 := r3.cell k40; have d0 := r3.cell k0; clear r3) | (go_at_call 15; refine (HS _).mono ?_; rintro e w4 ⟨rfl, hb4⟩; rw [hht]; have r4 : Row w4 w.heap.size 30 cs := (hb4.block _ (by have := hb2.size; have := hb3.size; simp at *; omega)).trans ((hb3.block _ (by have := hb2.size; simp at this; omega)).trans ((hb2.block _ (by simp)).trans (heap_alloc_new _ _))); have d40 := r4.cell k40; clear r4))
  have b3 : Below w.heap.size w w3 := (b0.trans (hb2.mono b0.size)).trans (hb3.mono (b0.trans (hb2.mono b0.size)).size)
  have b4 : Below w.heap.size w w4 := b3.trans (hb4.mono b3.size)
  have hgt : w.heap.size < w3.heap.size := by have := hb2.size; have := hb3.size; simp at *; omega
  have R4 : Row w4 w.heap.size 30 cs := (hb4.block _ hgt).trans ((hb3.block _ (by have := hb2.size; simp at this; omega)).trans ((hb2.block _ (by simp)).trans (heap_alloc_new _ _)))
  have hgt4 : w.heap.size < w4.heap.size := Nat.lt_of_lt_of_le hgt hb4.size
  have HR4 := Lib.hid R4
  have HG4 := Lib.hid hgt4
  have HB4 := Lib.hid b4
  obtain ⟨g, hg⟩ : ∃ g, g = w.heap.size := ⟨_, rfl⟩
  rw [← hg] at HR4 HG4 ⊢
  clear R4 hgt4 hgt b3 b4 hb2 hb3 hb4 d39 d3 d40 d0 hrng b0 hg
  go_loopw [45] (fun i wr => ∃ k : Nat, k ≤ s.an ∧ i = .int .i64 k ∧ Hid ((s.al.drop k).all (fun a => a.isB (s.c.cl + s.c.sh) (secH s.c.bl)) = s.al.all (fun a => a.isB (s.c.cl + s.c.sh) (secH s.c.bl))) ∧ Below w4.heap.size w4 wr) (fun i _ => s.an - (intOf i).toNat)
  case atStart => exact ⟨0, Nat.zero_le _, rfl, rfl, Below.refl _ _⟩
  case round =>
    obtain ⟨k, hk, rfl, hF, hb⟩ := hrel
    have hbw : Below w.heap.size w wr := HB4.out.trans (hb.mono HB4.out.size)
    have HBW := Lib.hid hbw
    clear hbw
    by_cases hlt : k < s.an
    · have hk2 : k < s.al.length := by have := HL.out; omega
      obtain ⟨ad, had0, had, c0, c1, c2, c3, c4⟩ := (HA.out.step HBW.out).1.atA hk2
      have hdr : s.al.drop k = s.al[k] :: s.al.drop (k + 1) := List.drop_eq_getElem_cons hk2
      have HRB := Lib.hid ((HA.out.step HBW.out).2 s.al[k] (List.getElem_mem hk2))
      have hgw : g < wr.heap.size := Nat.lt_of_lt_of_le HG4.out hb.size
      have rw4 : Row wr g 30 cs := HR4.out.below hb HG4.out
      have d1 := rw4.cell k1
      have d3 := rw4.cell k3
      clear rw4
      have HHB := Lib.hid hb
      rw [had0]
      clear hb
      cases hv : s.al[k].isB (s.c.cl + s.c.sh) (secH s.c.bl)
      · have hF2 : Hid (s.al.all (fun a => a.isB (s.c.cl + s.c.sh) (secH s.c.bl)) = false) := by unfold Hid; rw [← hF.out, hdr, List.all_cons, hv]; rfl
        clear hF hdr
        have ba : Below wr.heap.size wr (wr.alloc (.cells #[.int .u8 s.al[k].k, .int .i64 s.al[k].th, .int .i64 s.al[k].sc, .slice s.al[k].A s.al[k].n s.al[k].c, .int .i64 s.al[k].bk] 93)) := (Below.refl _ _).alloc (Nat.le_refl _) _
        go_wp2_with (go_at_call 16; refine (HAI s.al[k] _ (HRB.out.step ba)).mono ?_; rintro e w5 ⟨rfl, hb5⟩; rw [hv])
        go_ret
        exact ⟨ret_int (by rw [HE.out, hF2.out]; rfl), HBW.out.trans ((ba.trans (hb5.mono ba.size)).mono HBW.out.size)⟩
      · have hF2 : Hid ((s.al.drop (k + 1)).all (fun a => a.isB (s.c.cl + s.c.sh) (secH s.c.bl)) = s.al.all (fun a => a.isB (s.c.cl + s.c.sh) (secH s.c.bl))) := by unfold Hid; rw [← hF.out, hdr, List.all_cons, hv]; rfl
        clear hF hdr
        have ba : Below wr.heap.size wr (wr.alloc (.cells #[.int .u8 s.al[k].k, .int .i64 s.al[k].th, .int .i64 s.al[k].sc, .slice s.al[k].A s.al[k].n s.al[k].c, .int .i64 s.al[k].bk] 93)) := (Below.refl _ _).alloc (Nat.le_refl _) _
        go_wp2_with (go_at_call 16; refine (HAI s.al[k] _ (HRB.out.step ba)).mono ?_; rintro e w5 ⟨rfl, hb5⟩; rw [hv])
        have hwk : wrap64 ((k : Int) + 1) = ((k + 1 : Nat) : Int) := by
          have hm2 := HM.out
          unfold wrap64; omega
        go_roundw
        case rel => exact ⟨k + 1, Nat.succ_le_of_lt hlt, by rw [hwk], hF2, HHB.out.trans ((ba.trans (hb5.mono ba.size)).mono HHB.out.size)⟩
        case measure => rw [hwk]; exact meas_step _ _ hlt
    · have hke : k = s.al.length := by have := HL.out; omega
      have hF2 : s.al.all (fun a => a.isB (s.c.cl + s.c.sh) (secH s.c.bl)) = true := by rw [← hF.out, hke, List.drop_length]; rfl
      go_wp2
      go_ret
      exact ⟨ret_int (by rw [HE.out, hF2]; rfl), HBW.out⟩
end Go.Proofs.YtjknpcllmmalkaaGreatDoor
