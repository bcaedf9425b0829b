/- What these calls do, as the kernel reckons it (part 1 of 4). -/
import Derived.Test.YtjnhbpigbadbpaaGreatDoorXam
import Derived.KernelRfl
set_option maxRecDepth 4000

/-! What these calls do, as the kernel reckons it: part 1. -/
namespace Go.Ev
open Go.Proofs

theorem mXa7_run : mem2Run Tryz.prog (pick oXa6) 3000 60 14 mXa7 = true := by kernel_rfl
theorem mXa10_run : mem2Run Tryz.prog (pick oXa6) 3000 60 14 mXa10 = true := by kernel_rfl
theorem mXa11_run : mem2Run Tryz.prog (pick oXa6) 3000 60 14 mXa11 = true := by kernel_rfl
theorem mXa12_run : mem2Run Tryz.prog (pick oXa6) 3000 60 14 mXa12 = true := by kernel_rfl
theorem mXa16_run : mem2Run Tryz.prog (pick oXa4) 3000 60 376 mXa16 = true := by kernel_rfl
theorem mXa19_run : mem2Run Tryz.prog (pick oXa5) 3000 60 377 mXa19 = true := by kernel_rfl
theorem mXa21_run : mem2Run Tryz.prog (pick oXa6) 3000 60 14 mXa21 = true := by kernel_rfl
theorem mXa22_run : mem2Run Tryz.prog (pick oXa6) 3000 60 14 mXa22 = true := by kernel_rfl
theorem mXa32_run : mem2Run Tryz.prog (pick oXa8) 3000 60 6 mXa32 = true := by kernel_rfl
theorem mXa33_run : mem2Run Tryz.prog (pick oXa8) 3000 60 6 mXa33 = true := by kernel_rfl
theorem mXa34_run : mem2Run Tryz.prog (pick oXa1) 3000 60 58 mXa34 = true := by kernel_rfl
theorem mXa36_run : mem2Run Tryz.prog (pick oXa6) 3000 60 14 mXa36 = true := by kernel_rfl
theorem mXa56_run : mem2Run Tryz.prog (pick oXa8) 3000 60 6 mXa56 = true := by kernel_rfl
theorem mXa60_run : mem2Run Tryz.prog (pick orcsI) 3000 60 8 mXa60 = true := by kernel_rfl
end Go.Ev
