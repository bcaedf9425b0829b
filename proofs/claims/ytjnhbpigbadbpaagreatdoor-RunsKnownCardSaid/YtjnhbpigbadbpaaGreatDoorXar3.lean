/- What these calls do, as the kernel reckons it (part 3 of 4). -/
import Derived.Test.YtjnhbpigbadbpaaGreatDoorXam
import Derived.KernelRfl
set_option maxRecDepth 4000

/-! What these calls do, as the kernel reckons it: part 3. -/
namespace Go.Ev
open Go.Proofs

theorem mXa2_run : mem2Run Tryz.prog (pick oXa7) 3000 60 4 mXa2 = true := by kernel_rfl
theorem mXa9_run : mem2Run Tryz.prog (pick oXa6) 3000 60 14 mXa9 = true := by kernel_rfl
theorem mXa13_run : mem2Run Tryz.prog (pick oXa6) 3000 60 14 mXa13 = true := by kernel_rfl
theorem mXa23_run : mem2Run Tryz.prog (pick oXa6) 3000 60 14 mXa23 = true := by kernel_rfl
theorem mXa25_run : mem2Run Tryz.prog (pick oXa6) 3000 60 14 mXa25 = true := by kernel_rfl
theorem mXa26_run : mem2Run Tryz.prog (pick oXa6) 3000 60 14 mXa26 = true := by kernel_rfl
theorem mXa38_run : mem2Run Tryz.prog (pick oXa6) 3000 60 14 mXa38 = true := by kernel_rfl
theorem mXa39_run : mem2Run Tryz.prog (pick oXa6) 3000 60 14 mXa39 = true := by kernel_rfl
theorem mXa41_run : mem2Run Tryz.prog (pick oXa6) 3000 60 14 mXa41 = true := by kernel_rfl
theorem mXa43_run : mem2Run Tryz.prog (pick oXa6) 3000 60 14 mXa43 = true := by kernel_rfl
theorem mXa49_run : mem2Run Tryz.prog (pick oXa6) 3000 60 14 mXa49 = true := by kernel_rfl
theorem mXa51_run : mem2Run Tryz.prog (pick oXa7) 3000 60 4 mXa51 = true := by kernel_rfl
theorem mXa52_run : mem2Run Tryz.prog (pick oXa8) 3000 60 6 mXa52 = true := by kernel_rfl
theorem mXa54_run : mem2Run Tryz.prog (pick oXa6) 3000 60 14 mXa54 = true := by kernel_rfl
theorem mXa57_run : mem2Run Tryz.prog (pick oXa9) 3000 60 7 mXa57 = true := by kernel_rfl
end Go.Ev
