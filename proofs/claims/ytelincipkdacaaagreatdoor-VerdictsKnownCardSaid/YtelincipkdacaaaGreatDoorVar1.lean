/- What these calls do, as the kernel reckons it (part 1 of 4). -/
import Derived.Test.YtelincipkdacaaaGreatDoorVam
import Derived.KernelRfl
set_option maxRecDepth 4000

/-! What these calls do, as the kernel reckons it: part 1. -/
namespace Go.Ev
open Go.Proofs

theorem mVa5_run : mem2Run Tryz.prog (pick oVa4) 3000 60 163 mVa5 = true := by kernel_rfl
theorem mVa10_run : mem2Run Tryz.prog (pick oVa9) 3000 60 43 mVa10 = true := by kernel_rfl
theorem mVa12_run : mem2Run Tryz.prog (pick oVa9) 3000 60 43 mVa12 = true := by kernel_rfl
theorem mVa15_run : mem2Run Tryz.prog (pick oVa9) 3000 60 43 mVa15 = true := by kernel_rfl
theorem mVa21_run : mem2Run Tryz.prog (pick oVa9) 3000 60 43 mVa21 = true := by kernel_rfl
theorem mVa26_run : mem2Run Tryz.prog (pick oVa9) 3000 60 43 mVa26 = true := by kernel_rfl
theorem mVa30_run : mem2Run Tryz.prog (pick oVa9) 3000 60 43 mVa30 = true := by kernel_rfl
theorem mVa31_run : mem2Run Tryz.prog (pick oVa9) 3000 60 43 mVa31 = true := by kernel_rfl
theorem mVa35_run : mem2Run Tryz.prog (pick oVa3) 3000 60 124 mVa35 = true := by kernel_rfl
theorem mVa36_run : mem2Run Tryz.prog (pick orcsL) 3000 60 8 mVa36 = true := by kernel_rfl
theorem mVa37_run : mem2Run Tryz.prog (pick oVa0) 3000 60 9 mVa37 = true := by kernel_rfl
theorem mVa40_run : mem2Run Tryz.prog (pick oVa9) 3000 60 43 mVa40 = true := by kernel_rfl
theorem mVa42_run : mem2Run Tryz.prog (pick oVa9) 3000 60 43 mVa42 = true := by kernel_rfl
theorem mVa44_run : mem2Run Tryz.prog (pick oVa9) 3000 60 43 mVa44 = true := by kernel_rfl
theorem mVa52_run : mem2Run Tryz.prog (pick oVa8) 3000 60 25 mVa52 = true := by kernel_rfl
theorem mVa53_run : mem2Run Tryz.prog (pick oVa11) 3000 60 20 mVa53 = true := by kernel_rfl
theorem mVa59_run : mem2Run Tryz.prog (pick oVa9) 3000 60 43 mVa59 = true := by kernel_rfl
theorem mVa68_run : mem2Run Tryz.prog (pick oVa9) 3000 60 43 mVa68 = true := by kernel_rfl
theorem mVa72_run : mem2Run Tryz.prog (pick oVa9) 3000 60 43 mVa72 = true := by kernel_rfl
end Go.Ev
