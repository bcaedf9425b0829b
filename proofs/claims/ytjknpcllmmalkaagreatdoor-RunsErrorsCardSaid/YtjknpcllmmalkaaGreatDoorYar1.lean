/- What these calls do, as the kernel reckons it (part 1 of 3). -/
import Derived.Test.YtjknpcllmmalkaaGreatDoorYam
import Derived.KernelRfl
set_option maxRecDepth 4000

namespace Go.Ev
open Go.Proofs
theorem cYa5r : runs Tryz.prog (pick oYa4) 359 cYa5 = true := by kernel_rfl
theorem cYa8r : runs Tryz.prog (pick oYa5) 360 cYa8 = true := by kernel_rfl
theorem cYa9r : runs Tryz.prog (pick oYa6) 23 cYa9 = true := by kernel_rfl
theorem cYa11r : runs Tryz.prog (pick oYa6) 23 cYa11 = true := by kernel_rfl
theorem cYa12r : runs Tryz.prog (pick oYa6) 23 cYa12 = true := by kernel_rfl
theorem cYa16r : runs Tryz.prog (pick oYa6) 23 cYa16 = true := by kernel_rfl
end Go.Ev
