/- What these calls do, as the kernel reckons it (part 6 of 6). -/
import Derived.Test.YtiobmlbnfmeacaaGreatDoorHam
import Derived.KernelRfl
set_option maxRecDepth 4000

namespace Go.Ev
open Go.Proofs
theorem mHa14_run : mem2Run Tryz.prog (pick oHa2) 3000 60 196 mHa14 = true := by kernel_rfl
theorem mHa16_run : mem2Run Tryz.prog (pick oHa6) 3000 60 30 mHa16 = true := by kernel_rfl
theorem mHa17_run : mem2Run Tryz.prog (pick oHa0) 3000 60 56 mHa17 = true := by kernel_rfl
theorem mHa18_run : mem2Run Tryz.prog (pick oHa11) 3000 60 23 mHa18 = true := by kernel_rfl
theorem mHa29_run : mem2Run Tryz.prog (pick oHa7) 3000 60 9 mHa29 = true := by kernel_rfl
theorem mHa33_run : mem2Run Tryz.prog (pick oHa11) 3000 60 23 mHa33 = true := by kernel_rfl
theorem mHa35_run : mem2Run Tryz.prog (pick oHa11) 3000 60 23 mHa35 = true := by kernel_rfl
theorem mHa49_run : mem2Run Tryz.prog (pick oHa7) 3000 60 9 mHa49 = true := by kernel_rfl
theorem mHa56_run : mem2Run Tryz.prog (pick oHa9) 3000 60 18 mHa56 = true := by kernel_rfl
theorem mHa57_run : mem2Run Tryz.prog (pick oHa7) 3000 60 9 mHa57 = true := by kernel_rfl
theorem mHa66_run : mem2Run Tryz.prog (pick oHa11) 3000 60 23 mHa66 = true := by kernel_rfl
theorem mHa69_run : mem2Run Tryz.prog (pick oHa7) 3000 60 9 mHa69 = true := by kernel_rfl
theorem mHa75_run : mem2Run Tryz.prog (pick oHa7) 3000 60 9 mHa75 = true := by kernel_rfl
theorem mHa91_run : mem2Run Tryz.prog (pick oHa11) 3000 60 23 mHa91 = true := by kernel_rfl
theorem mHa94_run : mem2Run Tryz.prog (pick oHa7) 3000 60 9 mHa94 = true := by kernel_rfl
theorem mHa100_run : mem2Run Tryz.prog (pick oHa7) 3000 60 9 mHa100 = true := by kernel_rfl
theorem mHa104_run : mem2Run Tryz.prog (pick oHa7) 3000 60 9 mHa104 = true := by kernel_rfl
theorem mHa107_run : mem2Run Tryz.prog (pick oHa9) 3000 60 18 mHa107 = true := by kernel_rfl
theorem mHa108_run : mem2Run Tryz.prog (pick oHa6) 3000 60 30 mHa108 = true := by kernel_rfl
theorem mHa114_run : mem2Run Tryz.prog (pick oHa11) 3000 60 23 mHa114 = true := by kernel_rfl
theorem mHa116_run : mem2Run Tryz.prog (pick oHa11) 3000 60 23 mHa116 = true := by kernel_rfl
end Go.Ev
