/- What these calls return, as the kernel reckons it (the last ones). -/
import Derived.Test.YtkijagaocalkhaaGreatDoorFm
import Derived.KernelRfl
set_option maxRecDepth 4000

/-! What these calls return, as the kernel reckons it. -/
namespace Go.Ev
open Go.Proofs

theorem me6_run : memoRun Tryz.prog (pick orcs) 3000 60 13 me6 = true := by kernel_rfl
theorem me7_run : memoRun Tryz.prog (pick orcs) 3000 60 12 me7 = true := by kernel_rfl
theorem me8_run : memoRun Tryz.prog (pick orcs) 3000 60 13 me8 = true := by kernel_rfl
theorem me9_run : memoRun Tryz.prog (pick orcs) 3000 60 13 me9 = true := by kernel_rfl
end Go.Ev
