/- What these calls do, as the kernel reckons it (part 1 of 6). -/
import Derived.Test.YtiobmlbnfmeacaaGreatDoorHam
import Derived.KernelRfl
set_option maxRecDepth 4000

namespace Go.Ev
open Go.Proofs
theorem mHa6_run : mem2Run Tryz.prog (pick oHa1) 3000 60 102 mHa6 = true := by kernel_rfl
theorem mHa9_run : mem2Run Tryz.prog (pick oHa1) 3000 60 102 mHa9 = true := by kernel_rfl
theorem mHa11_run : mem2Run Tryz.prog (pick oHa0) 3000 60 56 mHa11 = true := by kernel_rfl
theorem mHa23_run : mem2Run Tryz.prog (pick oHa7) 3000 60 9 mHa23 = true := by kernel_rfl
theorem mHa27_run : mem2Run Tryz.prog (pick oHa7) 3000 60 9 mHa27 = true := by kernel_rfl
theorem mHa30_run : mem2Run Tryz.prog (pick oHa11) 3000 60 23 mHa30 = true := by kernel_rfl
theorem mHa31_run : mem2Run Tryz.prog (pick oHa3) 3000 60 201 mHa31 = true := by kernel_rfl
theorem mHa37_run : mem2Run Tryz.prog (pick oHa5) 3000 60 403 mHa37 = true := by kernel_rfl
theorem mHa45_run : mem2Run Tryz.prog (pick oHa7) 3000 60 9 mHa45 = true := by kernel_rfl
theorem mHa54_run : mem2Run Tryz.prog (pick oHa11) 3000 60 23 mHa54 = true := by kernel_rfl
theorem mHa67_run : mem2Run Tryz.prog (pick oHa7) 3000 60 9 mHa67 = true := by kernel_rfl
theorem mHa77_run : mem2Run Tryz.prog (pick oHa7) 3000 60 9 mHa77 = true := by kernel_rfl
theorem mHa78_run : mem2Run Tryz.prog (pick oHa11) 3000 60 23 mHa78 = true := by kernel_rfl
theorem mHa82_run : mem2Run Tryz.prog (pick oHa7) 3000 60 9 mHa82 = true := by kernel_rfl
theorem mHa85_run : mem2Run Tryz.prog (pick oHa11) 3000 60 23 mHa85 = true := by kernel_rfl
theorem mHa93_run : mem2Run Tryz.prog (pick oHa11) 3000 60 23 mHa93 = true := by kernel_rfl
theorem mHa96_run : mem2Run Tryz.prog (pick oHa7) 3000 60 9 mHa96 = true := by kernel_rfl
theorem mHa97_run : mem2Run Tryz.prog (pick oHa13) 3000 60 7 mHa97 = true := by kernel_rfl
theorem mHa101_run : mem2Run Tryz.prog (pick oHa14) 3000 60 10 mHa101 = true := by kernel_rfl
theorem mHa109_run : mem2Run Tryz.prog (pick oHa11) 3000 60 23 mHa109 = true := by kernel_rfl
end Go.Ev
