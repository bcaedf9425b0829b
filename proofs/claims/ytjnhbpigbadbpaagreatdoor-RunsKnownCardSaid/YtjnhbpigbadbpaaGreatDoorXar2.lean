/- What these calls do, as the kernel reckons it (part 2 of 4). -/
import Derived.Test.YtjnhbpigbadbpaaGreatDoorXam
import Derived.KernelRfl
set_option maxRecDepth 4000

/-! What these calls do, as the kernel reckons it: part 2. -/
namespace Go.Ev
open Go.Proofs

theorem mXa4_run : mem2Run Tryz.prog (pick oXa3) 3000 60 140 mXa4 = true := by kernel_rfl
theorem mXa6_run : mem2Run Tryz.prog (pick oXa6) 3000 60 14 mXa6 = true := by kernel_rfl
theorem mXa14_run : mem2Run Tryz.prog (pick oXa6) 3000 60 14 mXa14 = true := by kernel_rfl
theorem mXa15_run : mem2Run Tryz.prog (pick oXa6) 3000 60 14 mXa15 = true := by kernel_rfl
theorem mXa18_run : mem2Run Tryz.prog (pick oXa5) 3000 60 377 mXa18 = true := by kernel_rfl
theorem mXa20_run : mem2Run Tryz.prog (pick oXa6) 3000 60 14 mXa20 = true := by kernel_rfl
theorem mXa24_run : mem2Run Tryz.prog (pick oXa6) 3000 60 14 mXa24 = true := by kernel_rfl
theorem mXa27_run : mem2Run Tryz.prog (pick oXa6) 3000 60 14 mXa27 = true := by kernel_rfl
theorem mXa30_run : mem2Run Tryz.prog (pick oXa8) 3000 60 6 mXa30 = true := by kernel_rfl
theorem mXa31_run : mem2Run Tryz.prog (pick oXa8) 3000 60 6 mXa31 = true := by kernel_rfl
theorem mXa37_run : mem2Run Tryz.prog (pick oXa6) 3000 60 14 mXa37 = true := by kernel_rfl
theorem mXa40_run : mem2Run Tryz.prog (pick oXa6) 3000 60 14 mXa40 = true := by kernel_rfl
theorem mXa47_run : mem2Run Tryz.prog (pick oXa6) 3000 60 14 mXa47 = true := by kernel_rfl
theorem mXa50_run : mem2Run Tryz.prog (pick oXa6) 3000 60 14 mXa50 = true := by kernel_rfl
theorem mXa55_run : mem2Run Tryz.prog (pick oXa10) 3000 60 26 mXa55 = true := by kernel_rfl
theorem mXa58_run : mem2Run Tryz.prog (pick oXa8) 3000 60 6 mXa58 = true := by kernel_rfl
end Go.Ev
