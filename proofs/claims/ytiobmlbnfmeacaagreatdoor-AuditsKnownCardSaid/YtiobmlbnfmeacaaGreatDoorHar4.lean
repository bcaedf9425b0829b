/- What these calls do, as the kernel reckons it (part 4 of 6). -/
import Derived.Test.YtiobmlbnfmeacaaGreatDoorHam
import Derived.KernelRfl
set_option maxRecDepth 4000

namespace Go.Ev
open Go.Proofs
theorem mHa2_run : mem2Run Tryz.prog (pick orcsJ) 3000 60 26 mHa2 = true := by kernel_rfl
theorem mHa8_run : mem2Run Tryz.prog (pick oHa7) 3000 60 9 mHa8 = true := by kernel_rfl
theorem mHa12_run : mem2Run Tryz.prog (pick oHa0) 3000 60 56 mHa12 = true := by kernel_rfl
theorem mHa15_run : mem2Run Tryz.prog (pick oHa7) 3000 60 9 mHa15 = true := by kernel_rfl
theorem mHa22_run : mem2Run Tryz.prog (pick oHa11) 3000 60 23 mHa22 = true := by kernel_rfl
theorem mHa25_run : mem2Run Tryz.prog (pick oHa7) 3000 60 9 mHa25 = true := by kernel_rfl
theorem mHa32_run : mem2Run Tryz.prog (pick oHa7) 3000 60 9 mHa32 = true := by kernel_rfl
theorem mHa41_run : mem2Run Tryz.prog (pick oHa11) 3000 60 23 mHa41 = true := by kernel_rfl
theorem mHa43_run : mem2Run Tryz.prog (pick oHa7) 3000 60 9 mHa43 = true := by kernel_rfl
theorem mHa44_run : mem2Run Tryz.prog (pick oHa11) 3000 60 23 mHa44 = true := by kernel_rfl
theorem mHa46_run : mem2Run Tryz.prog (pick oHa11) 3000 60 23 mHa46 = true := by kernel_rfl
theorem mHa52_run : mem2Run Tryz.prog (pick oHa11) 3000 60 23 mHa52 = true := by kernel_rfl
theorem mHa53_run : mem2Run Tryz.prog (pick oHa7) 3000 60 9 mHa53 = true := by kernel_rfl
theorem mHa61_run : mem2Run Tryz.prog (pick oHa7) 3000 60 9 mHa61 = true := by kernel_rfl
theorem mHa68_run : mem2Run Tryz.prog (pick oHa11) 3000 60 23 mHa68 = true := by kernel_rfl
theorem mHa83_run : mem2Run Tryz.prog (pick oHa11) 3000 60 23 mHa83 = true := by kernel_rfl
theorem mHa87_run : mem2Run Tryz.prog (pick oHa11) 3000 60 23 mHa87 = true := by kernel_rfl
theorem mHa92_run : mem2Run Tryz.prog (pick oHa7) 3000 60 9 mHa92 = true := by kernel_rfl
theorem mHa115_run : mem2Run Tryz.prog (pick oHa11) 3000 60 23 mHa115 = true := by kernel_rfl
end Go.Ev
