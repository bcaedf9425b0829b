/- What these calls do, as the kernel reckons it (part 3 of 6). -/
import Derived.Test.YtiobmlbnfmeacaaGreatDoorHam
import Derived.KernelRfl
set_option maxRecDepth 4000

namespace Go.Ev
open Go.Proofs
theorem mHa0_run : mem2Run Tryz.prog (pick oHa12) 3000 60 5 mHa0 = true := by kernel_rfl
theorem mHa3_run : mem2Run Tryz.prog (pick oHa6) 3000 60 30 mHa3 = true := by kernel_rfl
theorem mHa5_run : mem2Run Tryz.prog (pick oHa8) 3000 60 31 mHa5 = true := by kernel_rfl
theorem mHa7_run : mem2Run Tryz.prog (pick oHa1) 3000 60 102 mHa7 = true := by kernel_rfl
theorem mHa10_run : mem2Run Tryz.prog (pick oHa6) 3000 60 30 mHa10 = true := by kernel_rfl
theorem mHa21_run : mem2Run Tryz.prog (pick oHa7) 3000 60 9 mHa21 = true := by kernel_rfl
theorem mHa28_run : mem2Run Tryz.prog (pick oHa11) 3000 60 23 mHa28 = true := by kernel_rfl
theorem mHa38_run : mem2Run Tryz.prog (pick oHa5) 3000 60 403 mHa38 = true := by kernel_rfl
theorem mHa48_run : mem2Run Tryz.prog (pick oHa11) 3000 60 23 mHa48 = true := by kernel_rfl
theorem mHa55_run : mem2Run Tryz.prog (pick oHa12) 3000 60 5 mHa55 = true := by kernel_rfl
theorem mHa58_run : mem2Run Tryz.prog (pick oHa11) 3000 60 23 mHa58 = true := by kernel_rfl
theorem mHa65_run : mem2Run Tryz.prog (pick oHa7) 3000 60 9 mHa65 = true := by kernel_rfl
theorem mHa73_run : mem2Run Tryz.prog (pick oHa7) 3000 60 9 mHa73 = true := by kernel_rfl
theorem mHa79_run : mem2Run Tryz.prog (pick oHa10) 3000 60 49 mHa79 = true := by kernel_rfl
theorem mHa86_run : mem2Run Tryz.prog (pick oHa7) 3000 60 9 mHa86 = true := by kernel_rfl
theorem mHa89_run : mem2Run Tryz.prog (pick oHa11) 3000 60 23 mHa89 = true := by kernel_rfl
theorem mHa103_run : mem2Run Tryz.prog (pick oHa7) 3000 60 9 mHa103 = true := by kernel_rfl
theorem mHa105_run : mem2Run Tryz.prog (pick oHa7) 3000 60 9 mHa105 = true := by kernel_rfl
theorem mHa106_run : mem2Run Tryz.prog (pick oHa13) 3000 60 7 mHa106 = true := by kernel_rfl
theorem mHa111_run : mem2Run Tryz.prog (pick oHa11) 3000 60 23 mHa111 = true := by kernel_rfl
end Go.Ev
