/- What these calls do, as the kernel reckons it (part 4 of 4). -/
import Derived.Test.YtjnhbpigbadbpaaGreatDoorXam
import Derived.KernelRfl
set_option maxRecDepth 4000

/-! What these calls do, as the kernel reckons it: part 4. -/
namespace Go.Ev
open Go.Proofs

theorem mXa0_run : mem2Run Tryz.prog (pick oXa0) 3000 60 53 mXa0 = true := by kernel_rfl
theorem mXa1_run : mem2Run Tryz.prog (pick oXa1) 3000 60 58 mXa1 = true := by kernel_rfl
theorem mXa3_run : mem2Run Tryz.prog (pick oXa2) 3000 60 135 mXa3 = true := by kernel_rfl
theorem mXa5_run : mem2Run Tryz.prog (pick oXa6) 3000 60 14 mXa5 = true := by kernel_rfl
theorem mXa8_run : mem2Run Tryz.prog (pick oXa6) 3000 60 14 mXa8 = true := by kernel_rfl
theorem mXa17_run : mem2Run Tryz.prog (pick oXa5) 3000 60 377 mXa17 = true := by kernel_rfl
theorem mXa28_run : mem2Run Tryz.prog (pick oXa6) 3000 60 14 mXa28 = true := by kernel_rfl
theorem mXa29_run : mem2Run Tryz.prog (pick oXa8) 3000 60 6 mXa29 = true := by kernel_rfl
theorem mXa35_run : mem2Run Tryz.prog (pick oXa6) 3000 60 14 mXa35 = true := by kernel_rfl
theorem mXa42_run : mem2Run Tryz.prog (pick oXa6) 3000 60 14 mXa42 = true := by kernel_rfl
theorem mXa44_run : mem2Run Tryz.prog (pick oXa6) 3000 60 14 mXa44 = true := by kernel_rfl
theorem mXa45_run : mem2Run Tryz.prog (pick oXa6) 3000 60 14 mXa45 = true := by kernel_rfl
theorem mXa46_run : mem2Run Tryz.prog (pick oXa6) 3000 60 14 mXa46 = true := by kernel_rfl
theorem mXa48_run : mem2Run Tryz.prog (pick oXa6) 3000 60 14 mXa48 = true := by kernel_rfl
theorem mXa53_run : mem2Run Tryz.prog (pick oXa9) 3000 60 7 mXa53 = true := by kernel_rfl
theorem mXa59_run : mem2Run Tryz.prog (pick oXa9) 3000 60 7 mXa59 = true := by kernel_rfl
end Go.Ev
