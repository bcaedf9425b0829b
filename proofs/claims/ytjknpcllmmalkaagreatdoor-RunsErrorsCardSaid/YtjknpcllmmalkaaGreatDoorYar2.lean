/- What these calls do, as the kernel reckons it (part 2 of 3). -/
import Derived.Test.YtjknpcllmmalkaaGreatDoorYam
import Derived.KernelRfl
set_option maxRecDepth 4000

namespace Go.Ev
open Go.Proofs
theorem cYa1r : runs Tryz.prog (pick oYa0) 78 cYa1 = true := by kernel_rfl
theorem cYa2r : runs Tryz.prog (pick oYa1) 122 cYa2 = true := by kernel_rfl
theorem cYa3r : runs Tryz.prog (pick oYa2) 127 cYa3 = true := by kernel_rfl
theorem cYa4r : runs Tryz.prog (pick oYa3) 137 cYa4 = true := by kernel_rfl
theorem cYa6r : runs Tryz.prog (pick oYa5) 360 cYa6 = true := by kernel_rfl
theorem cYa10r : runs Tryz.prog (pick oYa6) 23 cYa10 = true := by kernel_rfl
theorem cYa13r : runs Tryz.prog (pick oYa6) 23 cYa13 = true := by kernel_rfl
theorem cYa15r : runs Tryz.prog (pick oYa6) 23 cYa15 = true := by kernel_rfl
theorem cYa17r : runs Tryz.prog (pick oYa7) 50 cYa17 = true := by kernel_rfl
end Go.Ev
