/- What these calls do, as the kernel reckons it (part 2 of 6). -/
import Derived.Test.YtiobmlbnfmeacaaGreatDoorHam
import Derived.KernelRfl
set_option maxRecDepth 4000

namespace Go.Ev
open Go.Proofs
theorem mHa20_run : mem2Run Tryz.prog (pick oHa11) 3000 60 23 mHa20 = true := by kernel_rfl
theorem mHa34_run : mem2Run Tryz.prog (pick oHa7) 3000 60 9 mHa34 = true := by kernel_rfl
theorem mHa39_run : mem2Run Tryz.prog (pick oHa5) 3000 60 403 mHa39 = true := by kernel_rfl
theorem mHa42_run : mem2Run Tryz.prog (pick oHa10) 3000 60 49 mHa42 = true := by kernel_rfl
theorem mHa47_run : mem2Run Tryz.prog (pick oHa7) 3000 60 9 mHa47 = true := by kernel_rfl
theorem mHa51_run : mem2Run Tryz.prog (pick oHa7) 3000 60 9 mHa51 = true := by kernel_rfl
theorem mHa59_run : mem2Run Tryz.prog (pick oHa7) 3000 60 9 mHa59 = true := by kernel_rfl
theorem mHa62_run : mem2Run Tryz.prog (pick oHa11) 3000 60 23 mHa62 = true := by kernel_rfl
theorem mHa63_run : mem2Run Tryz.prog (pick oHa7) 3000 60 9 mHa63 = true := by kernel_rfl
theorem mHa71_run : mem2Run Tryz.prog (pick oHa7) 3000 60 9 mHa71 = true := by kernel_rfl
theorem mHa72_run : mem2Run Tryz.prog (pick oHa11) 3000 60 23 mHa72 = true := by kernel_rfl
theorem mHa74_run : mem2Run Tryz.prog (pick oHa11) 3000 60 23 mHa74 = true := by kernel_rfl
theorem mHa81_run : mem2Run Tryz.prog (pick oHa11) 3000 60 23 mHa81 = true := by kernel_rfl
theorem mHa90_run : mem2Run Tryz.prog (pick oHa7) 3000 60 9 mHa90 = true := by kernel_rfl
theorem mHa102_run : mem2Run Tryz.prog (pick oHa7) 3000 60 9 mHa102 = true := by kernel_rfl
theorem mHa110_run : mem2Run Tryz.prog (pick oHa11) 3000 60 23 mHa110 = true := by kernel_rfl
theorem mHa112_run : mem2Run Tryz.prog (pick oHa11) 3000 60 23 mHa112 = true := by kernel_rfl
theorem mHa113_run : mem2Run Tryz.prog (pick oHa11) 3000 60 23 mHa113 = true := by kernel_rfl
end Go.Ev
