/- What these calls return, as the kernel reckons it (the second ones). -/
import Derived.Test.YtkijagaocalkhaaGreatDoorFm
import Derived.KernelRfl
set_option maxRecDepth 4000

/-! What these calls return, as the kernel reckons it. -/
namespace Go.Ev
open Go.Proofs

theorem me2_run : memoRun Tryz.prog (pick orcs) 3000 60 13 me2 = true := by kernel_rfl
theorem me3_run : memoRun Tryz.prog (pick orcs) 3000 60 13 me3 = true := by kernel_rfl
end Go.Ev
