/- The law MutantsScripts, for whatever number. -/
import Derived.Test.YtadledfjejokfaaGreatDoorMau
set_option maxRecDepth 4000

namespace Go.Ev
open Go.RowKit
open Go.Proofs
open Go.Proofs.YtadledfjejokfaaGreatDoor (Glob)
theorem iv_u8 (k : Nat) (hk : k < 256) : iv 4 k = .int .u8 (k : Int) := by
 have e : IntKind.u8.wrap (k : Int) = (k : Int) := by
  simp only [IntKind.wrap, IntKind.signed, IntKind.bits]
  simp
  omega
 show Value.int .u8 (IntKind.u8.wrap (k : Int)) = _
 rw [e]
theorem mutantsScripts_law (n : Int) (hn0 : 0 ≤ n) (hn1 : n < 256) (w : World) (h1 : Glob w) (h2 : Sizes w) :
 Calls Tryz.prog 3 #[.int .u8 n] w fun e w' => e = .returned (.bool true) ∧ Below w.heap.size w w' := by
 obtain ⟨k, rfl⟩ := Int.eq_ofNat_of_zero_le hn0
 have hk : k < 256 := by omega
 have hw : (wf (S0 Tryz.prog.globals.size) (.cons (.i 4 k) .nil)).s := ⟨⟨hk, by decide⟩, trivial⟩
 have h := law_ofA (pick_ok oMaLAST_ok) Tryz.func3 (by kernel_rfl) hw (all256 k hk) h1 h2
 have e : (lsv L0 (.cons (.i 4 k) .nil)).toArray = #[.int .u8 (k : Int)] := by
  show #[iv 4 k] = _
  rw [iv_u8 k hk]
 rw [e] at h
 exact h
end Go.Ev
