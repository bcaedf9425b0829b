/- What these calls do, as the kernel reckons it (part 4 of 4). -/
import Derived.Test.YtmciknpgbbjomaaGreatDoorZam
import Derived.KernelRfl
set_option maxRecDepth 4000

/-! What these calls do, as the kernel reckons it: part 4. -/
namespace Go.Ev
open Go.Proofs

theorem mZa0_run : mem2Run Tryz.prog (pick oZa8) 3000 60 24 mZa0 = true := by kernel_rfl
theorem mZa2_run : mem2Run Tryz.prog (pick oZa0) 3000 60 65 mZa2 = true := by kernel_rfl
theorem mZa4_run : mem2Run Tryz.prog (pick oZa2) 3000 60 187 mZa4 = true := by kernel_rfl
theorem mZa9_run : mem2Run Tryz.prog (pick oZa6) 3000 60 29 mZa9 = true := by kernel_rfl
theorem mZa13_run : mem2Run Tryz.prog (pick oZa3) 3000 60 192 mZa13 = true := by kernel_rfl
theorem mZa17_run : mem2Run Tryz.prog (pick oZa5) 3000 60 406 mZa17 = true := by kernel_rfl
theorem mZa20_run : mem2Run Tryz.prog (pick oZa6) 3000 60 29 mZa20 = true := by kernel_rfl
theorem mZa21_run : mem2Run Tryz.prog (pick oZa6) 3000 60 29 mZa21 = true := by kernel_rfl
theorem mZa23_run : mem2Run Tryz.prog (pick oZa6) 3000 60 29 mZa23 = true := by kernel_rfl
theorem mZa24_run : mem2Run Tryz.prog (pick oZa6) 3000 60 29 mZa24 = true := by kernel_rfl
theorem mZa25_run : mem2Run Tryz.prog (pick oZa6) 3000 60 29 mZa25 = true := by kernel_rfl
theorem mZa26_run : mem2Run Tryz.prog (pick oZa6) 3000 60 29 mZa26 = true := by kernel_rfl
theorem mZa27_run : mem2Run Tryz.prog (pick oZa6) 3000 60 29 mZa27 = true := by kernel_rfl
theorem mZa28_run : mem2Run Tryz.prog (pick oZa6) 3000 60 29 mZa28 = true := by kernel_rfl
theorem mZa30_run : mem2Run Tryz.prog (pick oZa7) 3000 60 12 mZa30 = true := by kernel_rfl
theorem mZa31_run : mem2Run Tryz.prog (pick oZa6) 3000 60 29 mZa31 = true := by kernel_rfl
theorem mZa32_run : mem2Run Tryz.prog (pick oZa6) 3000 60 29 mZa32 = true := by kernel_rfl
theorem mZa34_run : mem2Run Tryz.prog (pick oZa6) 3000 60 29 mZa34 = true := by kernel_rfl
theorem mZa38_run : mem2Run Tryz.prog (pick orcsL) 3000 60 18 mZa38 = true := by kernel_rfl
theorem mZa42_run : mem2Run Tryz.prog (pick oZa6) 3000 60 29 mZa42 = true := by kernel_rfl
theorem mZa49_run : mem2Run Tryz.prog (pick oZa6) 3000 60 29 mZa49 = true := by kernel_rfl
theorem mZa50_run : mem2Run Tryz.prog (pick oZa6) 3000 60 29 mZa50 = true := by kernel_rfl
theorem mZa51_run : mem2Run Tryz.prog (pick oZa6) 3000 60 29 mZa51 = true := by kernel_rfl
theorem mZa59_run : mem2Run Tryz.prog (pick oZa6) 3000 60 29 mZa59 = true := by kernel_rfl
theorem mZa64_run : mem2Run Tryz.prog (pick oZa6) 3000 60 29 mZa64 = true := by kernel_rfl
theorem mZa65_run : mem2Run Tryz.prog (pick oZa6) 3000 60 29 mZa65 = true := by kernel_rfl
theorem mZa70_run : mem2Run Tryz.prog (pick oZa9) 3000 60 7 mZa70 = true := by kernel_rfl
end Go.Ev
