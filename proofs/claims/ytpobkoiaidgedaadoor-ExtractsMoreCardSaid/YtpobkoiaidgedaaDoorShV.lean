/- The bytes of a message: the program's. -/
import Derived.Test.YtpobkoiaidgedaaDoorShU
namespace Go.Proofs.YtpobkoiaidgedaaDoor
open Go.RowKit

theorem putD32_nat (i : Nat) (hi : i < 4294967296) (w : World) : Calls Tryd.prog 52 #[.int .u32 (i : Int)] w (NewB (beB i 4) w) := by
  have h := putD32_any (BitVec.ofNat 32 i) w
  have e : (BitVec.ofNat 32 i).toNat = i := by rw [BitVec.toNat_ofNat]; omega
  have e2 : wv (BitVec.ofNat 32 i) = (i : Int) := by unfold wv; rw [e]
  rw [e, e2] at h
  exact h

set_option maxRecDepth 100000 in
set_option maxHeartbeats 2000000 in
theorem noncePut_any (x : W) (v : Nat) (hv : v < 18446744073709551616) (w : World) :
    Calls Tryd.prog 53 #[.agg #[.int .u32 (wv x), .int .u64 (v : Int)]] w (NewB (beB x.toNat 4 ++ beB v 8) w) := by
  have HV := Lib.hid hv
  clear hv
  go_enter Tryd.func53, Tryd.ntmps53
  go_upto_region 1 with (fail)
  obtain ⟨wz, hwz⟩ : ∃ wz, wz = (w.alloc (.cells #[.int .u32 (wv x), .int .u64 (v : Int)] 51)) := ⟨_, rfl⟩
  obtain ⟨g1, h1⟩ : ∃ g, g = w.heap.size := ⟨_, rfl⟩
  have hb : Below w.heap.size w wz := by rw [hwz]; exact (Below.refl _ _).alloc (Nat.le_refl _) _
  have r1 : Row wz g1 51 [.int .u32 (wv x), .int .u64 (v : Int)] := by rw [hwz, h1]; exact heap_alloc_new _ _
  have hg1w : w.heap.size ≤ g1 := by omega
  rw [← hwz, ← h1]
  clear hwz h1
  have c0 : wz.cell? ⟨g1, 0, none⟩ = some (.int .u32 (wv x)) := r1.cell rfl
  have c1 : wz.cell? ⟨g1, 1, none⟩ = some (.int .u64 (v : Int)) := r1.cell rfl
  have hv := HV.out
  have C0 := Lib.hid c0
  refine wp_region_held_drew (S := (fun w => w.cell? ⟨g1, 0, none⟩ = some (.int .u32 (wv x)) ∧ w.cell? ⟨g1, 1, none⟩ = some (.int .u64 (v : Int)))) (by kernel_rfl) ⟨c0, c1⟩ (fun hHeld => ?_)
  refine take_run 0 (v := ?_) rfl (by kernel_rfl) (by kernel_rfl) (by kernel_rfl) (fun _ _ _ h => h) rfl ?_ hHeld ?_
  rotate_left
  · intro w hSw; (try dsimp only at hSw); go_simp <;> with_reducible rfl
  try simp only [Act.put, List.setIfInBounds_toArray, List.set_cons_zero, List.set_cons_succ]
  refine take_run 1 (v := ?_) rfl (by kernel_rfl) (by kernel_rfl) (by kernel_rfl) (fun _ _ _ h => h) rfl ?_ hHeld ?_
  rotate_left
  · intro w hSw; (try dsimp only at hSw); go_simp <;> with_reducible rfl
  try simp only [Act.put, List.setIfInBounds_toArray, List.set_cons_zero, List.set_cons_succ]
  refine take_run 3 (v := ?_) rfl (by kernel_rfl) (by kernel_rfl) (by kernel_rfl) (fun _ _ _ h => h) rfl ?_ hHeld ?_
  rotate_left
  · intro w hSw; (try dsimp only at hSw); go_simp <;> with_reducible rfl
  try simp only [Act.put, List.setIfInBounds_toArray, List.set_cons_zero, List.set_cons_succ]
  refine take_run 4 (v := ?_) rfl (by kernel_rfl) (by kernel_rfl) (by kernel_rfl) (fun _ _ _ h => h) rfl ?_ hHeld ?_
  rotate_left
  · intro w hSw; (try dsimp only at hSw); go_simp <;> with_reducible rfl
  try simp only [Act.put, List.setIfInBounds_toArray, List.set_cons_zero, List.set_cons_succ]
  refine take_call 2 rfl (by kernel_rfl) rfl (fun K hK => ?_)
  go_simp
  refine (putD32_any x _).mono ?_
  rintro e w2 ⟨ga, rfl, ra, hga, hbx⟩
  have y2 : Below wz.heap.size wz w2 := below_of_drew hbx
  have hla := beB_len x.toNat 4
  rw [hla]
  clear hbx hga
  try dsimp only
  refine hK.out _ _ ⟨keep_cl y2 c0, keep_cl y2 c1⟩ (fun hHeld => ?_)
  clear hK K
  try simp only [Act.put, List.setIfInBounds_toArray, List.set_cons_zero, List.set_cons_succ]
  refine take_call 5 rfl (by kernel_rfl) rfl (fun K hK => ?_)
  go_simp
  refine (putD64_any v hv _).mono ?_
  rintro e w3 ⟨gb, rfl, rb, hgb, hbx⟩
  have y3 : Below wz.heap.size wz w3 := below_nx y2 hbx
  have ra3 := ra.step hbx
  have hlb := beB_len v 8
  rw [hlb]
  clear hbx hgb
  try dsimp only
  refine hK.out _ _ ⟨keep_cl y3 c0, keep_cl y3 c1⟩ (fun hHeld => ?_)
  clear hK K
  try simp only [Act.put, List.setIfInBounds_toArray, List.set_cons_zero, List.set_cons_succ]
  refine take_call 6 rfl (by kernel_rfl) rfl (fun K hK => ?_)
  go_simp
  refine hK.out _ _ ⟨keep_cl ((y3.alloc y3.size _)) c0, keep_cl (y3.alloc y3.size _) c1⟩ (fun hHeld => ?_)
  clear hK K
  try simp only [Act.put, List.setIfInBounds_toArray, List.set_cons_zero, List.set_cons_succ]
  refine take_call 7 rfl (by kernel_rfl) rfl (fun K hK => ?_)
  go_simp
  have yb : Below w3.heap.size w3 (w3.alloc (.cells #[.slice (some ⟨ga, 0, none⟩) 4 4, .slice (some ⟨gb, 0, none⟩) 8 8] 34)) := (Below.refl _ _).alloc (Nat.le_refl _) _
  have hpp := (Parts.cons ra3.rdAll (Nat.le_refl _) (by rw [hla]; decide) (Parts.cons rb.rdAll (Nat.le_refl _) (by rw [hlb]; decide) Parts.nil)).step yb
  rw [hla, hlb] at hpp
  refine (join_any (some ⟨w3.heap.size, 0, none⟩) 2 2 _ [beB x.toNat 4, beB v 8] _ rfl (Rd.lit1 (cs := [.slice (some ⟨ga, 0, none⟩) 4 4, .slice (some ⟨gb, 0, none⟩) 8 8]) rfl rfl) hpp (by simp only [List.flatten_cons, List.flatten_nil, List.length_append, hla, hlb, List.length_nil]; omega) (by omega)).mono ?_
  rintro e w9 ⟨gj, rfl, rj, hgj, hbx⟩
  have y9 : Below wz.heap.size wz w9 := y3.trans ((yb.trans (hbx.mono yb.size)).mono y3.size)
  have hgj9 : wz.heap.size ≤ gj := by have := y3.size; have := yb.size; omega
  clear hbx hpp yb hgj
  try dsimp only
  refine hK.out _ _ ⟨keep_cl y9 c0, keep_cl y9 c1⟩ (fun hHeld => ?_)
  clear hK K
  try simp only [Act.put, List.setIfInBounds_toArray, List.set_cons_zero, List.set_cons_succ]
  refine take_run 8 (v := ?_) rfl (by kernel_rfl) (by kernel_rfl) (by kernel_rfl) (fun _ _ _ h => h) rfl ?_ hHeld ?_
  rotate_left
  · intro w hSw; (try dsimp only at hSw); go_simp <;> with_reducible rfl
  try simp only [Act.put, List.setIfInBounds_toArray, List.set_cons_zero, List.set_cons_succ]
  refine wpAnyH_done (by kernel_rfl) ?_ _
  go_wp2
  go_ret
  have e : ([beB x.toNat 4, beB v 8] : List (List B8)).flatten = beB x.toNat 4 ++ beB v 8 := by simp
  rw [e] at rj
  exact ⟨gj, by rw [← e]; rfl, rj, Nat.le_trans hb.size hgj9, hb.trans (y9.mono hb.size)⟩

/-- The bytes that a tag authenticates. -/
def msgB (i : Nat) (x : W) (v : Nat) (d : List B8) : List B8 := beB i 4 ++ (beB x.toNat 4 ++ (beB v 8 ++ d))
theorem msgB_len (i : Nat) (x : W) (v : Nat) (d : List B8) (h : d.length = 32) : (msgB i x v d).length = 48 := by simp only [msgB, List.length_append, beB_len, h]

set_option maxRecDepth 100000 in
set_option maxHeartbeats 2000000 in
theorem sealMsg_any (i : Nat) (hi : i < 4096) (x : W) (v : Nat) (hv : v < 18446744073709551616) (d : List B8) (hd : d.length = 32) (w : World) :
    Calls Tryd.prog 42 #[.int .i64 (i : Int), .agg #[.int .u32 (wv x), .int .u64 (v : Int)], .agg (cells8 d).toArray] w (NewB (msgB i x v d) w) := by
  have HV := Lib.hid hv
  have HD := Lib.hid hd
  have HI := Lib.hid hi
  clear hv hd hi
  go_enter Tryd.func42, Tryd.ntmps42
  go_upto_region 1 with (fail)
  obtain ⟨wz, hwz⟩ : ∃ wz, wz = ((w.alloc (.cells #[.int .u32 (wv x), .int .u64 (v : Int)] 51)).alloc (.cells (cells8 d).toArray 52)) := ⟨_, rfl⟩
  obtain ⟨g4, h4⟩ : ∃ g, g = w.heap.size := ⟨_, rfl⟩
  obtain ⟨g5, h5⟩ : ∃ g, g = w.heap.size + 1 := ⟨_, rfl⟩
  have hb : Below w.heap.size w wz := by rw [hwz]; exact below_alloc2 (Below.refl _ _)
  have r4 : Row wz g4 51 [.int .u32 (wv x), .int .u64 (v : Int)] := by
    rw [hwz, h4, Row, ((Below.refl _ _).alloc (Nat.le_refl _) _).block w.heap.size (by simp)]; exact heap_alloc_new _ _
  have r5 : Row wz g5 52 (cells8 d) := by rw [hwz, h5]; exact heap_new_at (by simp)
  rw [← hwz, ← h5, ← h4]
  clear hwz h4 h5
  have hv := HV.out
  have hi := HI.out
  have hi0 : (i : Int) < 4096 := by omega
  have hi1 : IntKind.u32.wrap (i : Int) = (i : Int) := by rw [wrap_u32]; omega
  refine wp_region_held_drew (S := (fun w => Row w g4 51 [.int .u32 (wv x), .int .u64 (v : Int)])) (by kernel_rfl) r4 (fun hHeld => ?_)
  refine take_run 0 (v := ?_) rfl (by kernel_rfl) (by kernel_rfl) (by kernel_rfl) (fun _ _ _ h => h) rfl ?_ hHeld ?_
  rotate_left
  · intro w hSw; (try dsimp only at hSw); go_simp <;> with_reducible rfl
  try simp only [Act.put, List.setIfInBounds_toArray, List.set_cons_zero, List.set_cons_succ]
  refine take_run 1 (v := ?_) rfl (by kernel_rfl) (by kernel_rfl) (by kernel_rfl) (fun _ _ _ h => h) rfl ?_ hHeld ?_
  rotate_left
  · intro w hSw; (try dsimp only at hSw); go_simp <;> with_reducible rfl
  try simp only [Act.put, List.setIfInBounds_toArray, List.set_cons_zero, List.set_cons_succ]
  refine take_run 3 (v := (.agg #[.int .u32 (wv x), .int .u64 (v : Int)])) rfl (by kernel_rfl) (by kernel_rfl) (by kernel_rfl) (fun _ _ _ h => h) rfl ?_ hHeld ?_
  · intro w hSw; (try dsimp only at hSw); exact exec_load_row 51 (.tmp 4) rfl g4 rfl 51 #[.int .u32 (wv x), .int .u64 (v : Int)] (0, 0) _ hSw Tryd.underlying51 rfl (by kernel_rfl)
  try simp only [Act.put, List.setIfInBounds_toArray, List.set_cons_zero, List.set_cons_succ]
  refine take_run 5 (v := ?_) rfl (by kernel_rfl) (by kernel_rfl) (by kernel_rfl) (fun _ _ _ h => h) rfl ?_ hHeld ?_
  rotate_left
  · intro w hSw; (try dsimp only at hSw); go_simp <;> with_reducible rfl
  try simp only [Act.put, List.setIfInBounds_toArray, List.set_cons_zero, List.set_cons_succ]
  refine take_call 2 rfl (by kernel_rfl) rfl (fun K hK => ?_)
  go_simp
  refine (putD32_nat i (by omega) _).mono ?_
  rintro e w2 ⟨ga, rfl, ra, hga, hbx⟩
  have y2 : Below wz.heap.size wz w2 := below_of_drew hbx
  have r42 := r4.step y2
  have r52 := r5.step y2
  have hla := beB_len i 4
  rw [hla]
  clear hbx hga
  try dsimp only
  refine hK.out _ _ r42 (fun hHeld => ?_)
  clear hK K
  try simp only [Act.put, List.setIfInBounds_toArray, List.set_cons_zero, List.set_cons_succ]
  refine take_call 4 rfl (by kernel_rfl) rfl (fun K hK => ?_)
  go_simp
  refine (noncePut_any x v hv _).mono ?_
  rintro e w3 ⟨gb, rfl, rb, hgb, hbx⟩
  have y3 : Below wz.heap.size wz w3 := below_nx y2 hbx
  have ra3 := ra.step hbx
  have r43 := r42.step hbx
  have r53 := r52.step hbx
  have hlb : (beB x.toNat 4 ++ beB v 8).length = 12 := by rw [List.length_append, beB_len, beB_len]
  rw [hlb]
  clear hbx hgb
  try dsimp only
  refine hK.out _ _ r43 (fun hHeld => ?_)
  clear hK K
  try simp only [Act.put, List.setIfInBounds_toArray, List.set_cons_zero, List.set_cons_succ]
  refine take_call 6 rfl (by kernel_rfl) rfl (fun K hK => ?_)
  go_simp
  refine hK.out _ _ (r43.step ((Below.refl _ _).alloc (Nat.le_refl _) _)) (fun hHeld => ?_)
  clear hK K
  try simp only [Act.put, List.setIfInBounds_toArray, List.set_cons_zero, List.set_cons_succ]
  refine take_call 7 rfl (by kernel_rfl) rfl (fun K hK => ?_)
  go_simp
  have yb : Below w3.heap.size w3 (w3.alloc (.cells #[.slice (some ⟨ga, 0, none⟩) 4 4, .slice (some ⟨gb, 0, none⟩) 12 12, .slice (some ⟨g5, 0, none⟩) 32 32] 34)) := (Below.refl _ _).alloc (Nat.le_refl _) _
  have hpp := (Parts.cons ra3.rdAll (Nat.le_refl _) (by rw [hla]; decide) (Parts.cons rb.rdAll (Nat.le_refl _) (by rw [hlb]; decide) (Parts.cons r53.rdAll (Nat.le_refl _) (by rw [HD.out]; decide) Parts.nil))).step yb
  rw [hla, hlb, HD.out] at hpp
  refine (join_any (some ⟨w3.heap.size, 0, none⟩) 3 3 _ [beB i 4, beB x.toNat 4 ++ beB v 8, d] _ rfl (Rd.lit1 (cs := [.slice (some ⟨ga, 0, none⟩) 4 4, .slice (some ⟨gb, 0, none⟩) 12 12, .slice (some ⟨g5, 0, none⟩) 32 32]) rfl rfl) hpp (by simp only [List.flatten_cons, List.flatten_nil, List.length_append, beB_len, HD.out, List.length_nil]; omega) (by omega)).mono ?_
  rintro e w9 ⟨gj, rfl, rj, hgj, hbx⟩
  have y9 : Below wz.heap.size wz w9 := y3.trans ((yb.trans (hbx.mono yb.size)).mono y3.size)
  have hgj9 : wz.heap.size ≤ gj := by have := y3.size; have := yb.size; omega
  have hfl : ([beB i 4, beB x.toNat 4 ++ beB v 8, d] : List (List B8)).flatten.length = 48 := by simp only [List.flatten_cons, List.flatten_nil, List.length_append, beB_len, HD.out, List.length_nil]
  rw [hfl]
  clear hbx hpp yb hgj hfl
  try dsimp only
  refine hK.out _ _ (r4.step y9) (fun hHeld => ?_)
  clear hK K
  try simp only [Act.put, List.setIfInBounds_toArray, List.set_cons_zero, List.set_cons_succ]
  refine take_run 8 (v := ?_) rfl (by kernel_rfl) (by kernel_rfl) (by kernel_rfl) (fun _ _ _ h => h) rfl ?_ hHeld ?_
  rotate_left
  · intro w hSw; (try dsimp only at hSw); go_simp <;> with_reducible rfl
  try simp only [Act.put, List.setIfInBounds_toArray, List.set_cons_zero, List.set_cons_succ]
  refine wpAnyH_done (by kernel_rfl) ?_ _
  go_wp2
  go_ret
  have e : ([beB i 4, beB x.toNat 4 ++ beB v 8, d] : List (List B8)).flatten = msgB i x v d := by simp [msgB]
  rw [e] at rj
  exact ⟨gj, by rw [msgB_len _ _ _ _ HD.out]; rfl, rj, Nat.le_trans hb.size hgj9, hb.trans (y9.mono hb.size)⟩
end Go.Proofs.YtpobkoiaidgedaaDoor
