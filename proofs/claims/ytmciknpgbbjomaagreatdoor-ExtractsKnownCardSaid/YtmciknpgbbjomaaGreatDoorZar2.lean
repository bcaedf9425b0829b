/- What these calls do, as the kernel reckons it (part 2 of 4). -/
import Derived.Test.YtmciknpgbbjomaaGreatDoorZam
import Derived.KernelRfl
set_option maxRecDepth 4000

/-! What these calls do, as the kernel reckons it: part 2. -/
namespace Go.Ev
open Go.Proofs

theorem mZa6_run : mem2Run Tryz.prog (pick oZa6) 3000 60 29 mZa6 = true := by kernel_rfl
theorem mZa7_run : mem2Run Tryz.prog (pick oZa6) 3000 60 29 mZa7 = true := by kernel_rfl
theorem mZa11_run : mem2Run Tryz.prog (pick oZa6) 3000 60 29 mZa11 = true := by kernel_rfl
theorem mZa12_run : mem2Run Tryz.prog (pick oZa6) 3000 60 29 mZa12 = true := by kernel_rfl
theorem mZa14_run : mem2Run Tryz.prog (pick oZa6) 3000 60 29 mZa14 = true := by kernel_rfl
theorem mZa15_run : mem2Run Tryz.prog (pick oZa6) 3000 60 29 mZa15 = true := by kernel_rfl
theorem mZa16_run : mem2Run Tryz.prog (pick oZa4) 3000 60 405 mZa16 = true := by kernel_rfl
theorem mZa19_run : mem2Run Tryz.prog (pick oZa5) 3000 60 406 mZa19 = true := by kernel_rfl
theorem mZa22_run : mem2Run Tryz.prog (pick oZa6) 3000 60 29 mZa22 = true := by kernel_rfl
theorem mZa29_run : mem2Run Tryz.prog (pick oZa1) 3000 60 149 mZa29 = true := by kernel_rfl
theorem mZa39_run : mem2Run Tryz.prog (pick oZa9) 3000 60 7 mZa39 = true := by kernel_rfl
theorem mZa41_run : mem2Run Tryz.prog (pick oZa6) 3000 60 29 mZa41 = true := by kernel_rfl
theorem mZa44_run : mem2Run Tryz.prog (pick oZa6) 3000 60 29 mZa44 = true := by kernel_rfl
theorem mZa46_run : mem2Run Tryz.prog (pick oZa6) 3000 60 29 mZa46 = true := by kernel_rfl
theorem mZa48_run : mem2Run Tryz.prog (pick oZa6) 3000 60 29 mZa48 = true := by kernel_rfl
theorem mZa52_run : mem2Run Tryz.prog (pick oZa6) 3000 60 29 mZa52 = true := by kernel_rfl
theorem mZa53_run : mem2Run Tryz.prog (pick oZa6) 3000 60 29 mZa53 = true := by kernel_rfl
theorem mZa55_run : mem2Run Tryz.prog (pick oZa6) 3000 60 29 mZa55 = true := by kernel_rfl
theorem mZa58_run : mem2Run Tryz.prog (pick oZa6) 3000 60 29 mZa58 = true := by kernel_rfl
theorem mZa60_run : mem2Run Tryz.prog (pick oZa6) 3000 60 29 mZa60 = true := by kernel_rfl
theorem mZa62_run : mem2Run Tryz.prog (pick oZa7) 3000 60 12 mZa62 = true := by kernel_rfl
theorem mZa67_run : mem2Run Tryz.prog (pick oZa6) 3000 60 29 mZa67 = true := by kernel_rfl
theorem mZa69_run : mem2Run Tryz.prog (pick oZa6) 3000 60 29 mZa69 = true := by kernel_rfl
theorem mZa73_run : mem2Run Tryz.prog (pick oZa6) 3000 60 29 mZa73 = true := by kernel_rfl
theorem mZa74_run : mem2Run Tryz.prog (pick oZa6) 3000 60 29 mZa74 = true := by kernel_rfl
theorem mZa75_run : mem2Run Tryz.prog (pick oZa6) 3000 60 29 mZa75 = true := by kernel_rfl
end Go.Ev
