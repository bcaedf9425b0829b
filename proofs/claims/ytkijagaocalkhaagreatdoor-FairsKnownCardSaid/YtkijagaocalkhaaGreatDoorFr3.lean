/- What these calls return, as the kernel reckons it (the third ones). -/
import Derived.Test.YtkijagaocalkhaaGreatDoorFm
import Derived.KernelRfl
set_option maxRecDepth 4000

/-! What these calls return, as the kernel reckons it. -/
namespace Go.Ev
open Go.Proofs

theorem me4_run : memoRun Tryz.prog (pick orcs) 3000 60 12 me4 = true := by kernel_rfl
theorem me5_run : memoRun Tryz.prog (pick orcs) 3000 60 12 me5 = true := by kernel_rfl
end Go.Ev
