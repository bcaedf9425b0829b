/- What these calls return, as the kernel reckons it (the first ones). -/
import Derived.Test.YtkijagaocalkhaaGreatDoorFm
import Derived.KernelRfl
set_option maxRecDepth 4000

/-! What these calls return, as the kernel reckons it. -/
namespace Go.Ev
open Go.Proofs

theorem me0_run : memoRun Tryz.prog (pick orcs) 3000 60 12 me0 = true := by kernel_rfl
theorem me1_run : memoRun Tryz.prog (pick orcs) 3000 60 12 me1 = true := by kernel_rfl
end Go.Ev
