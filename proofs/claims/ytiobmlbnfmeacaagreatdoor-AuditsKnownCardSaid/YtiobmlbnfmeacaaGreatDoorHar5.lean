/- What these calls do, as the kernel reckons it (part 5 of 6). -/
import Derived.Test.YtiobmlbnfmeacaaGreatDoorHam
import Derived.KernelRfl
set_option maxRecDepth 4000

namespace Go.Ev
open Go.Proofs
theorem mHa1_run : mem2Run Tryz.prog (pick oHa9) 3000 60 18 mHa1 = true := by kernel_rfl
theorem mHa4_run : mem2Run Tryz.prog (pick oHa0) 3000 60 56 mHa4 = true := by kernel_rfl
theorem mHa13_run : mem2Run Tryz.prog (pick oHa11) 3000 60 23 mHa13 = true := by kernel_rfl
theorem mHa19_run : mem2Run Tryz.prog (pick oHa7) 3000 60 9 mHa19 = true := by kernel_rfl
theorem mHa24_run : mem2Run Tryz.prog (pick oHa11) 3000 60 23 mHa24 = true := by kernel_rfl
theorem mHa26_run : mem2Run Tryz.prog (pick oHa11) 3000 60 23 mHa26 = true := by kernel_rfl
theorem mHa36_run : mem2Run Tryz.prog (pick oHa4) 3000 60 402 mHa36 = true := by kernel_rfl
theorem mHa40_run : mem2Run Tryz.prog (pick oHa7) 3000 60 9 mHa40 = true := by kernel_rfl
theorem mHa50_run : mem2Run Tryz.prog (pick oHa11) 3000 60 23 mHa50 = true := by kernel_rfl
theorem mHa60_run : mem2Run Tryz.prog (pick oHa11) 3000 60 23 mHa60 = true := by kernel_rfl
theorem mHa64_run : mem2Run Tryz.prog (pick oHa11) 3000 60 23 mHa64 = true := by kernel_rfl
theorem mHa70_run : mem2Run Tryz.prog (pick oHa11) 3000 60 23 mHa70 = true := by kernel_rfl
theorem mHa76_run : mem2Run Tryz.prog (pick oHa11) 3000 60 23 mHa76 = true := by kernel_rfl
theorem mHa80_run : mem2Run Tryz.prog (pick oHa7) 3000 60 9 mHa80 = true := by kernel_rfl
theorem mHa84_run : mem2Run Tryz.prog (pick oHa7) 3000 60 9 mHa84 = true := by kernel_rfl
theorem mHa88_run : mem2Run Tryz.prog (pick oHa7) 3000 60 9 mHa88 = true := by kernel_rfl
theorem mHa95_run : mem2Run Tryz.prog (pick oHa11) 3000 60 23 mHa95 = true := by kernel_rfl
theorem mHa98_run : mem2Run Tryz.prog (pick oHa9) 3000 60 18 mHa98 = true := by kernel_rfl
theorem mHa99_run : mem2Run Tryz.prog (pick oHa7) 3000 60 9 mHa99 = true := by kernel_rfl
end Go.Ev
