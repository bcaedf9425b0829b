/- What these calls do, as the kernel reckons it (part 1 of 4). -/
import Derived.Test.YtmciknpgbbjomaaGreatDoorZam
import Derived.KernelRfl
set_option maxRecDepth 4000

/-! What these calls do, as the kernel reckons it: part 1. -/
namespace Go.Ev
open Go.Proofs

theorem mZa79_run : mem2Run Tryz.prog (pick oZa10) 3000 60 9 mZa79 = true := by kernel_rfl
end Go.Ev
