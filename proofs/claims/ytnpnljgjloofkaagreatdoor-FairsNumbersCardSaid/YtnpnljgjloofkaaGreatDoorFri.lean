/- An action out of plain data (layer 34). -/
import Derived.Test.YtnpnljgjloofkaaGreatDoorFrh
import Derived.Test.YtnpnljgjloofkaaGreatDoorSerl
namespace Go.Proofs.YtnpnljgjloofkaaGreatDoor
open Go.RowKit

theorem secTo_pos {n : Nat} (h : 1 ≤ n) : ∀ k, 1 ≤ secTo n k
  | 0 => by show 1 ≤ 2 * n; omega
  | k + 1 => by have := secTo_pos h k; show 1 ≤ secTo n k + 2 * cntAt n k; omega
/-- plain data of an action -/
structure AV where
  k : B8
  a : B8
  b : B8
  A : Option Addr
  n : Nat
  c : Nat
  l : List B8
def AV.val (x : AV) : Value := .agg #[.int .u8 (bv x.k), .int .u8 (bv x.a), .int .u8 (bv x.b), .slice x.A x.n x.c]
/-- an action -/
def ActIs (v : Value) : Prop := ∃ (k t s : Int) (A : Option Addr) (n c : Nat) (b : Int), v = .agg #[.int .u8 k, .int .i64 t, .int .i64 s, .slice A n c, .int .i64 b]
theorem len8F {w : World} {B n : Nat} {A : Option Addr} {l : List B8} (h : Rd w B 1 A n (cells8 l)) : n = l.length := by
  have := h.1; rw [cells8_len] at this; omega
theorem take8F {w : World} {B n : Nat} {A : Option Addr} {l : List B8} (h : Rd w B 1 A n (cells8 l)) (k : Nat) (hk : k ≤ n) : Rd w B 1 A k (cells8 (l.take k)) := by
  have hl := len8F h
  refine ⟨by rw [cells8_len, List.length_take]; omega, fun h0 => ?_⟩
  obtain ⟨ad, e, hb, hc⟩ := h.2 (by omega)
  refine ⟨ad, e, hb, ?_⟩
  have h2 := hc.take k
  rw [cells8, List.map_take]
  exact h2
theorem slice8F (A : Option Addr) (n cd h : Nat) (hh : h ≤ cd) (w : World) : (Instr.sliceAt 53 (.slice A n cd) none (some (.int .i64 (h : Int))) none).run Tryz.prog w = .ok (.slice A h cd) w := by
  have hs : (sizeOf 5).run Tryz.prog w = .ok 1 w := by kernel_rfl
  have hu : Tryz.prog.underlying 53 = some (.slice (Tryz.prog.elem 53)) := by kernel_rfl
  have he : Tryz.prog.elem 53 = 5 := by kernel_rfl
  have h1 := run_slice_h (P := Tryz.prog) w 53 A n cd hu .i64 h (by omega) (by omega)
  rw [run_sliceAt_slice _ _ _ _ _ _ hu, h1, he, hs]
  have hm : Option.map (fun x : Addr => x.add (0 * 1)) A = A := by cases A <;> simp [Addr.add]
  simp [sliced]
  intro _
  simpa using hm
theorem info_u8F : (Tryz.prog.info? 5).map (fun i => (i.zero, i.size, i.bytes)) = some (some (.int .u8 0), 1, 1) := by kernel_rfl
/-- five cells just written are the result -/
theorem act_end {P : Program} {fn : Func} {p : Tmp} {ty : TypeId} (h : fn.results = #[.cell p ty]) (tmps : Array Value) (w : World) (g : Nat) (d : TypeDesc) {v0 v1 v2 v3 v4 u0 u1 u2 u3 u4 : Value}
    (h0 : w.cell? ⟨g, 0, none⟩ = some u0) (h1 : w.cell? ⟨g, 1, none⟩ = some u1) (h2 : w.cell? ⟨g, 2, none⟩ = some u2) (h3 : w.cell? ⟨g, 3, none⟩ = some u3) (h4 : w.cell? ⟨g, 4, none⟩ = some u4)
    (hp : tmps.getD p undef = .pointer (some ⟨g, 0, none⟩)) (hu : P.underlying ty = some d) (hd : d.isRow = true) (hi : (P.info? ty).map (·.size) = some 5) :
    (results fn tmps).run P (((((w.setCell ⟨g, 0, none⟩ v0).setCell ⟨g, 1, none⟩ v1).setCell ⟨g, 2, none⟩ v2).setCell ⟨g, 3, none⟩ v3).setCell ⟨g, 4, none⟩ v4) = .ok (.agg #[v0, v1, v2, v3, v4]) (((((w.setCell ⟨g, 0, none⟩ v0).setCell ⟨g, 1, none⟩ v1).setCell ⟨g, 2, none⟩ v2).setCell ⟨g, 3, none⟩ v3).setCell ⟨g, 4, none⟩ v4) := by
  refine op_end h tmps _ g [v0, v1, v2, v3, v4] d hp ?_ hu hd (by rw [hi]; rfl)
  have k1 := (World.cell?_setCell_other w ⟨g, 0, none⟩ ⟨g, 1, none⟩ v0 (by simp)).trans h1
  have k2 := (World.cell?_setCell_other (w.setCell ⟨g, 0, none⟩ v0) ⟨g, 1, none⟩ ⟨g, 2, none⟩ v1 (by simp)).trans ((World.cell?_setCell_other _ _ _ _ (by simp)).trans h2)
  have k3 := (World.cell?_setCell_other ((w.setCell ⟨g, 0, none⟩ v0).setCell ⟨g, 1, none⟩ v1) ⟨g, 2, none⟩ ⟨g, 3, none⟩ v2 (by simp)).trans ((World.cell?_setCell_other _ _ _ _ (by simp)).trans ((World.cell?_setCell_other _ _ _ _ (by simp)).trans h3))
  have k4 := (World.cell?_setCell_other (((w.setCell ⟨g, 0, none⟩ v0).setCell ⟨g, 1, none⟩ v1).setCell ⟨g, 2, none⟩ v2) ⟨g, 3, none⟩ ⟨g, 4, none⟩ v3 (by simp)).trans ((World.cell?_setCell_other _ _ _ _ (by simp)).trans ((World.cell?_setCell_other _ _ _ _ (by simp)).trans ((World.cell?_setCell_other _ _ _ _ (by simp)).trans h4)))
  intro j v hv
  match j, hv with
  | 0, hv => cases hv; exact (World.cell?_setCell_other _ _ _ _ (by simp)).trans ((World.cell?_setCell_other _ _ _ _ (by simp)).trans ((World.cell?_setCell_other _ _ _ _ (by simp)).trans ((World.cell?_setCell_other _ _ _ _ (by simp)).trans (World.cell?_setCell_same' _ _ _ (by rw [h0]; rfl)))))
  | 1, hv => cases hv; exact (World.cell?_setCell_other _ _ _ _ (by simp)).trans ((World.cell?_setCell_other _ _ _ _ (by simp)).trans ((World.cell?_setCell_other _ _ _ _ (by simp)).trans (World.cell?_setCell_same' _ _ _ (by rw [k1]; rfl))))
  | 2, hv => cases hv; exact (World.cell?_setCell_other _ _ _ _ (by simp)).trans ((World.cell?_setCell_other _ _ _ _ (by simp)).trans (World.cell?_setCell_same' _ _ _ (by rw [k2]; rfl)))
  | 3, hv => cases hv; exact (World.cell?_setCell_other _ _ _ _ (by simp)).trans (World.cell?_setCell_same' _ _ _ (by rw [k3]; rfl))
  | 4, hv => cases hv; exact World.cell?_setCell_same' _ _ _ (by rw [k4]; rfl)
set_option maxRecDepth 100000 in
set_option maxHeartbeats 40000000 in
theorem aOf_any (k a b : Nat) (hk : k < 256) (ha : a < 256) (hb : b < 256) (A : Option Addr) (n c : Nat) (l : List B8) (q : Cfg) (hq : CfgOk q) (w : World) (hr : Rd w w.heap.size 1 A n (cells8 l)) (hnc : n ≤ c) (hcm : c ≤ maxLen) :
    Calls Tryz.prog 11 #[.agg #[.int .u8 (k : Int), .int .u8 (a : Int), .int .u8 (b : Int), .slice A n c], .agg q.cells.toArray] w fun e w' => (∃ v, e = .returned v ∧ ActIs v) ∧ Below w.heap.size w w' := by
  obtain ⟨nb, hnb⟩ : ∃ nb : Nat, (nb : Int) = q.bl := ⟨q.bl.toNat, by have := hq.2.1; omega⟩
  have hnb2 : 1 ≤ nb ∧ nb ≤ 20 := by have := hq.2.1; omega
  have HS := fun (W : World) => s34_any nb hnb2.1 (by omega) W
  have hsp := secTo_pos hnb2.1 (hgtN nb + 1)
  have hsl := secTo_le (n := nb) (by omega) (hgtN nb + 1)
  have hh5 := hgtN_le5 nb
  obtain ⟨sn, hsn⟩ : ∃ sn, sn = secTo nb (hgtN nb + 1) := ⟨_, rfl⟩
  rw [← hsn] at hsp hsl HS
  have hsb : sn ≤ 100000 := by omega
  clear hsn hsl hh5
  obtain ⟨cs, hcs⟩ : ∃ cs, cs = q.cells := ⟨_, rfl⟩
  have k0 : cs[0]? = some (.int .i64 (nb : Int)) := by rw [hcs, hnb]; rfl
  have k1 : cs[1]? = some (.int .i64 q.sh) := by rw [hcs]; rfl
  have k3 : cs[3]? = some (.int .i64 q.cl) := by rw [hcs]; rfl
  have HQ := Lib.hid hq
  have HR := Lib.hid hr
  have HN := Lib.hid (And.intro hnc hcm)
  rw [← hcs]
  clear hcs hnb hq hr hnc hcm
  have b1 : Below w.heap.size w (((w.alloc (.cells #[.int .u8 (k : Int), .int .u8 (a : Int), .int .u8 (b : Int), .slice A n c] 57)).alloc (.cells cs.toArray 35)).alloc (.cells #[.int .u8 0, .int .i64 0, .int .i64 0, .slice none 0 0, .int .i64 0] 55)) := ((((Below.refl _ _).alloc (Nat.le_refl _) _).alloc (by simp) _).alloc (by simp; omega) _)
  have r1 : Row (((w.alloc (.cells #[.int .u8 (k : Int), .int .u8 (a : Int), .int .u8 (b : Int), .slice A n c] 57)).alloc (.cells cs.toArray 35)).alloc (.cells #[.int .u8 0, .int .i64 0, .int .i64 0, .slice none 0 0, .int .i64 0] 55)) w.heap.size 57 [.int .u8 (k : Int), .int .u8 (a : Int), .int .u8 (b : Int), .slice A n c] := (heap_alloc_old _ _ (by simp <;> omega)).trans ((heap_alloc_old _ _ (by simp)).trans (heap_alloc_new _ _))
  have r2 : Row (((w.alloc (.cells #[.int .u8 (k : Int), .int .u8 (a : Int), .int .u8 (b : Int), .slice A n c] 57)).alloc (.cells cs.toArray 35)).alloc (.cells #[.int .u8 0, .int .i64 0, .int .i64 0, .slice none 0 0, .int .i64 0] 55)) (w.heap.size + 1) 35 cs := (heap_alloc_old _ _ (by simp)).trans (heap_new_at (by simp))
  have r3 : Row (((w.alloc (.cells #[.int .u8 (k : Int), .int .u8 (a : Int), .int .u8 (b : Int), .slice A n c] 57)).alloc (.cells cs.toArray 35)).alloc (.cells #[.int .u8 0, .int .i64 0, .int .i64 0, .slice none 0 0, .int .i64 0] 55)) (w.heap.size + 2) 55 [.int .u8 0, .int .i64 0, .int .i64 0, .slice none 0 0, .int .i64 0] := heap_new_at (by simp)
  go_enter Tryz.func11, Tryz.ntmps11
  go_upto_region 1 with (fail)
  obtain ⟨w2, hw2⟩ : ∃ w2, w2 = (((w.alloc (.cells #[.int .u8 (k : Int), .int .u8 (a : Int), .int .u8 (b : Int), .slice A n c] 57)).alloc (.cells cs.toArray 35)).alloc (.cells #[.int .u8 0, .int .i64 0, .int .i64 0, .slice none 0 0, .int .i64 0] 55)) := ⟨_, rfl⟩
  obtain ⟨g, hg⟩ : ∃ g, g = w.heap.size := ⟨_, rfl⟩
  rw [← hw2] at b1 r1 r2 r3 ⊢
  rw [← hg] at r1 r2 r3 ⊢
  have HG := Lib.hid hg
  have B1 := Lib.hid b1
  have R1 := Lib.hid r1
  have R2 := Lib.hid r2
  have R3 := Lib.hid r3
  have x1 := r1.cell (i := 1) rfl
  have y0 := r2.cell k0
  clear hw2 hg b1 r1 r2 r3
  have hsn0 : ¬ (sn : Int) = 0 := by omega
  have hsn1 : ¬ sn = 0 := by omega
  refine wp_region_held_drew (S := (fun W : World => W.cell? ⟨g, 1, none⟩ = some (.int .u8 (a : Int)) ∧ W.cell? ⟨g + 1, 0, none⟩ = some (.int .i64 (nb : Int)) ∧ W = w2.drew)) (by kernel_rfl) ⟨x1, y0, rfl⟩ (fun hHeld => ?_)
  refine take_run 0 (v := ?_) rfl (by kernel_rfl) (by kernel_rfl) (by kernel_rfl) (fun _ _ _ h => h) rfl ?_ hHeld ?_
  rotate_left
  · intro w hSw; (try dsimp only at hSw); go_simp <;> with_reducible rfl
  try simp only [Act.put, List.setIfInBounds_toArray, List.set_cons_zero, List.set_cons_succ]
  refine take_run 1 (v := ?_) rfl (by kernel_rfl) (by kernel_rfl) (by kernel_rfl) (fun _ _ _ h => h) rfl ?_ hHeld ?_
  rotate_left
  · intro w hSw; (try dsimp only at hSw); go_simp <;> with_reducible rfl
  try simp only [Act.put, List.setIfInBounds_toArray, List.set_cons_zero, List.set_cons_succ]
  refine take_run 2 (v := ?_) rfl (by kernel_rfl) (by kernel_rfl) (by kernel_rfl) (fun _ _ _ h => h) rfl ?_ hHeld ?_
  rotate_left
  · intro w hSw; (try dsimp only at hSw); go_simp <;> with_reducible rfl
  try simp only [Act.put, List.setIfInBounds_toArray, List.set_cons_zero, List.set_cons_succ]
  refine take_run 3 (v := ?_) rfl (by kernel_rfl) (by kernel_rfl) (by kernel_rfl) (fun _ _ _ h => h) rfl ?_ hHeld ?_
  rotate_left
  · intro w hSw; (try dsimp only at hSw); go_simp <;> with_reducible rfl
  try simp only [Act.put, List.setIfInBounds_toArray, List.set_cons_zero, List.set_cons_succ]
  refine take_run 4 (v := ?_) rfl (by kernel_rfl) (by kernel_rfl) (by kernel_rfl) (fun _ _ _ h => h) rfl ?_ hHeld ?_
  rotate_left
  · intro w hSw; (try dsimp only at hSw); go_simp <;> with_reducible rfl
  try simp only [Act.put, List.setIfInBounds_toArray, List.set_cons_zero, List.set_cons_succ]
  refine take_call 5 rfl (by kernel_rfl) rfl (fun K hK => ?_)
  go_simp
  refine (HS _).mono ?_
  rintro e w3 ⟨rfl, rfl⟩
  try dsimp only
  try clear hHeld
  refine hK.out _ _ ⟨x1, y0, rfl⟩ (fun hHeld => ?_)
  clear hK K
  try simp only [Act.put, List.setIfInBounds_toArray, List.set_cons_zero, List.set_cons_succ]
  refine take_run 6 (v := ?_) rfl (by kernel_rfl) (by kernel_rfl) (by kernel_rfl) (fun _ _ _ h => h) rfl ?_ hHeld ?_
  rotate_left
  · intro w hSw; (try dsimp only at hSw); go_simp <;> with_reducible rfl
  try simp only [Act.put, List.setIfInBounds_toArray, List.set_cons_zero, List.set_cons_succ]
  refine take_call 7 rfl (by kernel_rfl) rfl (fun K hK => ?_)
  go_simp
  refine hK.out _ _ ⟨x1, y0, rfl⟩ (fun hHeld => ?_)
  clear hK K
  try simp only [Act.put, List.setIfInBounds_toArray, List.set_cons_zero, List.set_cons_succ]
  refine wpAnyH_done (by kernel_rfl) ?_ _
  try clear hHeld
  have R4 : Row w2.drew g 57 _ := R1.out
  have Q4 : Row w2.drew (g + 1) 35 cs := R2.out
  have S4 : Row w2.drew (g + 1 + 1) 55 _ := R3.out
  have B4 : Below w.heap.size w w2.drew := below_drewN' B1.out 1
  obtain ⟨w4, hw4⟩ : ∃ w4, w4 = w2.drew := ⟨_, rfl⟩
  obtain ⟨sc, hsc⟩ : ∃ sc : Int, sc = (IntKind.i64.wrap (a : Int)).tmod (sn : Int) := ⟨_, rfl⟩
  rw [← hw4] at R4 Q4 S4 B4 ⊢
  rw [← hsc]
  have HB4 := Lib.hid B4
  have HR4 := Lib.hid R4
  have HS4 := Lib.hid S4
  have z0 := R4.cell (i := 0) rfl
  have z1 := R4.cell (i := 1) rfl
  have z2 := R4.cell (i := 2) rfl
  have z3 := R4.cell (i := 3) rfl
  have c1 := Q4.cell k1
  have c3 := Q4.cell k3
  have s0 := S4.cell (i := 0) rfl
  have s1 := S4.cell (i := 1) rfl
  have s2 := S4.cell (i := 2) rfl
  have s3 := S4.cell (i := 3) rfl
  have s4 := S4.cell (i := 4) rfl
  have f0 := S4.free 0
  have f1 := S4.free 1
  have f2 := S4.free 2
  have f3 := S4.free 3
  have f4 := S4.free 4
  have hthr : ¬ q.cl + q.sh = 0 := by have := HQ.out.2.2; omega
  have hwr : IntKind.i64.wrap (q.cl + q.sh) = q.cl + q.sh := IntWalk.i64_in _ (by have := HQ.out.2.2; omega)
  clear hw4 hsc R4 Q4 S4 B4 k0 k1 k3 x1 y0
  by_cases e4 : (k : Int) % 8 = 4
  · have d4 : ((k : Int) % 8 == 4) = true := by simpa using e4
    obtain ⟨i0, hi, hz0, hz1, hz2⟩ := info_parts info_u8F
    obtain ⟨m, hm⟩ : ∃ m, m = Nat.min 200 n := ⟨_, rfl⟩
    have hm200 : m ≤ 200 := by rw [hm]; exact Nat.min_le_left _ _
    have hmn : m ≤ n := by rw [hm]; exact Nat.min_le_right _ _
    have hmin : min (200 : Int) (n : Int) = (m : Int) := by
      rw [hm]; show min (200 : Int) (n : Int) = ((min 200 n : Nat) : Int); omega
    have hsl := fun W => slice8F A n c m (by have := HN.out; omega) W
    have hn63 : (n : Int) ≤ 9223372036854775807 := by have := HN.out.2; have := HN.out.1; unfold maxLen at *; omega
    have HRP := Lib.hid ((take8F (HR.out.below HB4.out (Nat.le_refl _)) m hmn))
    have HM := Lib.hid hm200
    clear hm hmn hm200
    go_upto_region 5 with (fail)
    have g3 : w4.cell? ⟨g, 3, none⟩ = some (.slice A n c) := z3
    have hgl : g + 1 + 1 < w4.heap.size := (Array.getElem?_eq_some_iff.1 HS4.out).1
    obtain ⟨u, hu⟩ : ∃ u, u = w4.heap.size := ⟨_, rfl⟩
    have rU : Row (w4.alloc (.cells #[.int .u8 2, .int .i64 0, .int .i64 sc, .slice none 0 0, .int .i64 0] 55)) u 55 [.int .u8 2, .int .i64 0, .int .i64 sc, .slice none 0 0, .int .i64 0] := by rw [hu]; exact heap_alloc_new _ _
    have rA : Row (w4.alloc (.cells #[.int .u8 2, .int .i64 0, .int .i64 sc, .slice none 0 0, .int .i64 0] 55)) g 57 _ := (heap_alloc_old _ _ (by omega)).trans HR4.out
    have rS : Row (w4.alloc (.cells #[.int .u8 2, .int .i64 0, .int .i64 sc, .slice none 0 0, .int .i64 0] 55)) (g + 1 + 1) 55 _ := (heap_alloc_old _ _ hgl).trans HS4.out
    have bU : Below w.heap.size w (w4.alloc (.cells #[.int .u8 2, .int .i64 0, .int .i64 sc, .slice none 0 0, .int .i64 0] 55)) := HB4.out.alloc (by have := HG.out; omega) _
    have hrU : Rd (w4.alloc (.cells #[.int .u8 2, .int .i64 0, .int .i64 sc, .slice none 0 0, .int .i64 0] 55)) w.heap.size 1 A m (cells8 (l.take m)) := HRP.out.below ((Below.refl w4.heap.size w4).alloc (Nat.le_refl _) _) (by have := HG.out; omega)
    obtain ⟨w5, hw5⟩ : ∃ w5, w5 = w4.alloc (.cells #[.int .u8 2, .int .i64 0, .int .i64 sc, .slice none 0 0, .int .i64 0] 55) := ⟨_, rfl⟩
    have hsz5 : w5.heap.size = u + 1 := by rw [hw5, hu]; simp
    rw [← hw5] at rU rA rS bU hrU ⊢
    rw [← hu]
    have HU := Lib.hid (show g + 1 + 1 < u by omega)
    have RU := Lib.hid rU
    have RS := Lib.hid rS
    have BU := Lib.hid bU
    have HR5 := Lib.hid hrU
    have u0 := rU.cell (i := 0) rfl
    have u1 := rU.cell (i := 1) rfl
    have u2 := rU.cell (i := 2) rfl
    have u3 := rU.cell (i := 3) rfl
    have u4 := rU.cell (i := 4) rfl
    have uf := rU.free 3
    have a3 := rA.cell (i := 3) rfl
    have hone : ∀ u ∈ cells8 (l.take m), u.oneCell' = true := cells8_ones2 _
    have hrX : ∀ N, Rd (w5.drewN N) w.heap.size 1 A m (cells8 (l.take m)) := fun N => HR5.out.below (below_drewN' (Below.refl w.heap.size w5) N) (Nat.le_refl _)
    have hbX : ∀ N, Below (u + 1) w5 (w5.drewN N) := fun N => below_drewN' (Below.refl _ _) N
    have hsX : ∀ N, u + 1 ≤ (w5.drewN N).heap.size := fun N => by show u + 1 ≤ w5.heap.size; omega
    clear hw5 hu rU rA rS bU hrU g3 hgl z0 z1 z2 z3 c1 c3 s0 s1 s2 s3 s4 f0 f1 f2 f3 f4 hsz5
    go_region_law ((refine step_append_rd _ rfl (.tmp 22) (.tmp 29) _ rfl (u + 1) 5 i0 _ 1 1 Tryz.underlying53 hi hz0 hz1 hz2 rfl (by decide) (.slice none 0 0) 0 [] ?r1 ?r2 w.heap.size A m c (cells8 (l.take m)) ?r3 ?r4 hone ?r5 ?r6 ?r7 ?_); (case r1 => (first | rfl | fail "r1")); (case r2 => (first | exact World.ownsRow_nil _ _ _ _ | fail "r2")); (case r3 => (first | rfl | fail "r3")); (case r4 => (first | exact hrX 1 | fail "r4")); (case r5 => (have := HM.out); (unfold maxLen); (first | omega | fail "r5")); (case r6 => have := HM.out; (first | omega | fail "r6")); (case r7 => (first | exact hsX 1 | fail "r7")); (intro v' w6 hown' hgrow hat); (first | have hb6 := below_grown (hbX 1) hgrow (hsX 1) (World.ownsRow_nil _ _ 5 1) | fail "hb6"); (first | obtain ⟨A1, cc1, rfl, hc1, hrd1⟩ := own_slice hown' | fail "ob"); (first | have t3 := cs_ hb6 (Nat.lt_succ_self _) u3 | fail "t3"); (first | have tf := fs_ hb6 (Nat.lt_succ_self _) uf | fail "tf"))
    all_goals
      have yR := RU.out.below hb6 (Nat.lt_succ_self _)
      have zR := RS.out.below hb6 (by have := HU.out; omega)
      obtain ⟨w7, hw7⟩ : ∃ w7, w7 = w6.setCell ⟨u, 3, none⟩ (.slice A1 m cc1) := ⟨_, rfl⟩
      have HB7 : Hid (Below w.heap.size w w7) := Lib.hid (by rw [hw7]; exact (BU.out.trans (hb6.mono (by have := HG.out; have := HU.out; omega))).setCell (by have := HG.out; have := HU.out; simp; omega) _)
      have zQ : Row w7 (g + 1 + 1) 55 [.int .u8 0, .int .i64 0, .int .i64 0, .slice none 0 0, .int .i64 0] := by rw [hw7]; exact (heap_setCell_other _ _ _ _ (show g + 1 + 1 ≠ u by have := HU.out; omega)).trans zR
      have y0 : w7.cell? ⟨u, 0, none⟩ = some (.int .u8 2) := by rw [hw7]; exact (World.cell?_setCell_other _ _ _ _ (by simp)).trans (yR.cell (i := 0) rfl)
      have y1 : w7.cell? ⟨u, 1, none⟩ = some (.int .i64 0) := by rw [hw7]; exact (World.cell?_setCell_other _ _ _ _ (by simp)).trans (yR.cell (i := 1) rfl)
      have y2 : w7.cell? ⟨u, 2, none⟩ = some (.int .i64 sc) := by rw [hw7]; exact (World.cell?_setCell_other _ _ _ _ (by simp)).trans (yR.cell (i := 2) rfl)
      have y3 : w7.cell? ⟨u, 3, none⟩ = some (.slice A1 m cc1) := by rw [hw7]; exact World.cell?_setCell_same' _ _ _ (by rw [t3]; rfl)
      have y4 : w7.cell? ⟨u, 4, none⟩ = some (.int .i64 0) := by rw [hw7]; exact (World.cell?_setCell_other _ _ _ _ (by simp)).trans (yR.cell (i := 4) rfl)
      have s0 := zQ.cell (i := 0) rfl
      have s1 := zQ.cell (i := 1) rfl
      have s2 := zQ.cell (i := 2) rfl
      have s3 := zQ.cell (i := 3) rfl
      have s4 := zQ.cell (i := 4) rfl
      have f0 := zQ.free 0
      have f1 := zQ.free 1
      have f2 := zQ.free 2
      have f3 := zQ.free 3
      have f4 := zQ.free 4
      rw [← hw7]
      clear hw7 yR zR zQ t3 tf hrd1 hc1 hown' hgrow hat hb6 hone hrX hbX hsX
      go_wp2
      refine bodyPost_ret (act_end Tryz.results11 _ w7 (g + 1 + 1) _ s0 s1 s2 s3 s4 rfl Tryz.underlying55 rfl rfl) rfl ?_
      exact ⟨⟨_, rfl, _, _, _, _, _, _, _, rfl⟩, by repeat (first | exact HB7.out | refine Below.setCell ?_ (by have := HG.out; simp; omega) _)⟩
  · have d4 : ((k : Int) % 8 == 4) = false := by simpa using e4
    by_cases e5 : (k : Int) % 8 = 5
    · have d5 : ((k : Int) % 8 == 5) = true := by simpa using e5
      go_wp2
      refine bodyPost_ret (act_end Tryz.results11 _ w4 (g + 1 + 1) _ s0 s1 s2 s3 s4 rfl Tryz.underlying55 rfl rfl) rfl ?_
      exact ⟨⟨_, rfl, _, _, _, _, _, _, _, rfl⟩, by repeat (first | exact HB4.out | refine Below.setCell ?_ (by have := HG.out; simp; omega) _)⟩
    · have d5 : ((k : Int) % 8 == 5) = false := by simpa using e5
      by_cases e6 : (k : Int) % 8 = 6
      · have d6 : ((k : Int) % 8 == 6) = true := by simpa using e6
        go_wp2
        refine bodyPost_ret (act_end Tryz.results11 _ w4 (g + 1 + 1) _ s0 s1 s2 s3 s4 rfl Tryz.underlying55 rfl rfl) rfl ?_
        exact ⟨⟨_, rfl, _, _, _, _, _, _, _, rfl⟩, by repeat (first | exact HB4.out | refine Below.setCell ?_ (by have := HG.out; simp; omega) _)⟩
      · have d6 : ((k : Int) % 8 == 6) = false := by simpa using e6
        by_cases e7 : (k : Int) % 8 = 7
        · have d7 : ((k : Int) % 8 == 7) = true := by simpa using e7
          go_wp2
          refine bodyPost_ret (act_end Tryz.results11 _ w4 (g + 1 + 1) _ s0 s1 s2 s3 s4 rfl Tryz.underlying55 rfl rfl) rfl ?_
          exact ⟨⟨_, rfl, _, _, _, _, _, _, _, rfl⟩, by repeat (first | exact HB4.out | refine Below.setCell ?_ (by have := HG.out; simp; omega) _)⟩
        · have d7 : ((k : Int) % 8 == 7) = false := by simpa using e7
          go_wp2
          refine bodyPost_ret (act_end Tryz.results11 _ w4 (g + 1 + 1) _ s0 s1 s2 s3 s4 rfl Tryz.underlying55 rfl rfl) rfl ?_
          exact ⟨⟨_, rfl, _, _, _, _, _, _, _, rfl⟩, by repeat (first | exact HB4.out | refine Below.setCell ?_ (by have := HG.out; simp; omega) _)⟩
end Go.Proofs.YtnpnljgjloofkaaGreatDoor
