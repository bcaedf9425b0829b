/- What these calls do, as the kernel reckons it (part 3 of 4). -/
import Derived.Test.YtmciknpgbbjomaaGreatDoorZam
import Derived.KernelRfl
set_option maxRecDepth 4000

/-! What these calls do, as the kernel reckons it: part 3. -/
namespace Go.Ev
open Go.Proofs

theorem mZa1_run : mem2Run Tryz.prog (pick orcsL) 3000 60 18 mZa1 = true := by kernel_rfl
theorem mZa3_run : mem2Run Tryz.prog (pick oZa6) 3000 60 29 mZa3 = true := by kernel_rfl
theorem mZa5_run : mem2Run Tryz.prog (pick oZa6) 3000 60 29 mZa5 = true := by kernel_rfl
theorem mZa8_run : mem2Run Tryz.prog (pick oZa6) 3000 60 29 mZa8 = true := by kernel_rfl
theorem mZa10_run : mem2Run Tryz.prog (pick oZa6) 3000 60 29 mZa10 = true := by kernel_rfl
theorem mZa18_run : mem2Run Tryz.prog (pick oZa5) 3000 60 406 mZa18 = true := by kernel_rfl
theorem mZa33_run : mem2Run Tryz.prog (pick oZa6) 3000 60 29 mZa33 = true := by kernel_rfl
theorem mZa35_run : mem2Run Tryz.prog (pick oZa6) 3000 60 29 mZa35 = true := by kernel_rfl
theorem mZa36_run : mem2Run Tryz.prog (pick oZa6) 3000 60 29 mZa36 = true := by kernel_rfl
theorem mZa37_run : mem2Run Tryz.prog (pick oZa9) 3000 60 7 mZa37 = true := by kernel_rfl
theorem mZa40_run : mem2Run Tryz.prog (pick oZa8) 3000 60 24 mZa40 = true := by kernel_rfl
theorem mZa43_run : mem2Run Tryz.prog (pick oZa6) 3000 60 29 mZa43 = true := by kernel_rfl
theorem mZa45_run : mem2Run Tryz.prog (pick oZa6) 3000 60 29 mZa45 = true := by kernel_rfl
theorem mZa47_run : mem2Run Tryz.prog (pick oZa6) 3000 60 29 mZa47 = true := by kernel_rfl
theorem mZa54_run : mem2Run Tryz.prog (pick oZa6) 3000 60 29 mZa54 = true := by kernel_rfl
theorem mZa56_run : mem2Run Tryz.prog (pick oZa6) 3000 60 29 mZa56 = true := by kernel_rfl
theorem mZa57_run : mem2Run Tryz.prog (pick oZa6) 3000 60 29 mZa57 = true := by kernel_rfl
theorem mZa61_run : mem2Run Tryz.prog (pick oZa1) 3000 60 149 mZa61 = true := by kernel_rfl
theorem mZa63_run : mem2Run Tryz.prog (pick oZa6) 3000 60 29 mZa63 = true := by kernel_rfl
theorem mZa66_run : mem2Run Tryz.prog (pick oZa6) 3000 60 29 mZa66 = true := by kernel_rfl
theorem mZa68_run : mem2Run Tryz.prog (pick oZa6) 3000 60 29 mZa68 = true := by kernel_rfl
theorem mZa71_run : mem2Run Tryz.prog (pick oZa7) 3000 60 12 mZa71 = true := by kernel_rfl
theorem mZa72_run : mem2Run Tryz.prog (pick oZa6) 3000 60 29 mZa72 = true := by kernel_rfl
theorem mZa76_run : mem2Run Tryz.prog (pick oZa6) 3000 60 29 mZa76 = true := by kernel_rfl
theorem mZa77_run : mem2Run Tryz.prog (pick oZa6) 3000 60 29 mZa77 = true := by kernel_rfl
theorem mZa78_run : mem2Run Tryz.prog (pick oZa6) 3000 60 29 mZa78 = true := by kernel_rfl
end Go.Ev
