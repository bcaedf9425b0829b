/- What these calls do, as the kernel reckons it (part 3 of 3). -/
import Derived.Test.YtjknpcllmmalkaaGreatDoorYam
import Derived.KernelRfl
set_option maxRecDepth 4000

namespace Go.Ev
open Go.Proofs
theorem cYa0r : runs Tryz.prog (pick orcsJ) 67 cYa0 = true := by kernel_rfl
theorem cYa7r : runs Tryz.prog (pick oYa5) 360 cYa7 = true := by kernel_rfl
theorem cYa14r : runs Tryz.prog (pick oYa6) 23 cYa14 = true := by kernel_rfl
theorem cYa18r : runs Tryz.prog (pick oYa8) 80 cYa18 = true := by kernel_rfl
theorem cYa19r : runs Tryz.prog (pick oYa9) 36 cYa19 = true := by kernel_rfl
theorem cYa20r : runs Tryz.prog (pick oYa10) 17 cYa20 = true := by kernel_rfl
end Go.Ev
