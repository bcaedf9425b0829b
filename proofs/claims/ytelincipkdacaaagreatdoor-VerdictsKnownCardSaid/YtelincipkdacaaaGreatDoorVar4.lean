/- What these calls do, as the kernel reckons it (part 4 of 4). -/
import Derived.Test.YtelincipkdacaaaGreatDoorVam
import Derived.KernelRfl
set_option maxRecDepth 4000

/-! What these calls do, as the kernel reckons it: part 4. -/
namespace Go.Ev
open Go.Proofs

theorem mVa7_run : mem2Run Tryz.prog (pick oVa9) 3000 60 43 mVa7 = true := by kernel_rfl
theorem mVa8_run : mem2Run Tryz.prog (pick oVa9) 3000 60 43 mVa8 = true := by kernel_rfl
theorem mVa9_run : mem2Run Tryz.prog (pick oVa9) 3000 60 43 mVa9 = true := by kernel_rfl
theorem mVa14_run : mem2Run Tryz.prog (pick oVa5) 3000 60 168 mVa14 = true := by kernel_rfl
theorem mVa18_run : mem2Run Tryz.prog (pick oVa7) 3000 60 387 mVa18 = true := by kernel_rfl
theorem mVa19_run : mem2Run Tryz.prog (pick oVa7) 3000 60 387 mVa19 = true := by kernel_rfl
theorem mVa27_run : mem2Run Tryz.prog (pick oVa9) 3000 60 43 mVa27 = true := by kernel_rfl
theorem mVa28_run : mem2Run Tryz.prog (pick oVa9) 3000 60 43 mVa28 = true := by kernel_rfl
theorem mVa29_run : mem2Run Tryz.prog (pick oVa9) 3000 60 43 mVa29 = true := by kernel_rfl
theorem mVa32_run : mem2Run Tryz.prog (pick oVa9) 3000 60 43 mVa32 = true := by kernel_rfl
theorem mVa34_run : mem2Run Tryz.prog (pick oVa9) 3000 60 43 mVa34 = true := by kernel_rfl
theorem mVa39_run : mem2Run Tryz.prog (pick oVa11) 3000 60 20 mVa39 = true := by kernel_rfl
theorem mVa41_run : mem2Run Tryz.prog (pick oVa9) 3000 60 43 mVa41 = true := by kernel_rfl
theorem mVa45_run : mem2Run Tryz.prog (pick oVa9) 3000 60 43 mVa45 = true := by kernel_rfl
theorem mVa46_run : mem2Run Tryz.prog (pick oVa9) 3000 60 43 mVa46 = true := by kernel_rfl
theorem mVa48_run : mem2Run Tryz.prog (pick orcsL) 3000 60 8 mVa48 = true := by kernel_rfl
theorem mVa50_run : mem2Run Tryz.prog (pick oVa13) 3000 60 21 mVa50 = true := by kernel_rfl
theorem mVa57_run : mem2Run Tryz.prog (pick oVa9) 3000 60 43 mVa57 = true := by kernel_rfl
theorem mVa64_run : mem2Run Tryz.prog (pick oVa9) 3000 60 43 mVa64 = true := by kernel_rfl
theorem mVa73_run : mem2Run Tryz.prog (pick oVa9) 3000 60 43 mVa73 = true := by kernel_rfl
end Go.Ev
