/- What these calls do, as the kernel reckons it (part 2 of 4). -/
import Derived.Test.YtelincipkdacaaaGreatDoorVam
import Derived.KernelRfl
set_option maxRecDepth 4000

/-! What these calls do, as the kernel reckons it: part 2. -/
namespace Go.Ev
open Go.Proofs

theorem mVa0_run : mem2Run Tryz.prog (pick oVa10) 3000 60 7 mVa0 = true := by kernel_rfl
theorem mVa1_run : mem2Run Tryz.prog (pick oVa8) 3000 60 25 mVa1 = true := by kernel_rfl
theorem mVa2_run : mem2Run Tryz.prog (pick oVa1) 3000 60 48 mVa2 = true := by kernel_rfl
theorem mVa3_run : mem2Run Tryz.prog (pick oVa2) 3000 60 53 mVa3 = true := by kernel_rfl
theorem mVa6_run : mem2Run Tryz.prog (pick oVa9) 3000 60 43 mVa6 = true := by kernel_rfl
theorem mVa16_run : mem2Run Tryz.prog (pick oVa9) 3000 60 43 mVa16 = true := by kernel_rfl
theorem mVa17_run : mem2Run Tryz.prog (pick oVa6) 3000 60 386 mVa17 = true := by kernel_rfl
theorem mVa24_run : mem2Run Tryz.prog (pick oVa9) 3000 60 43 mVa24 = true := by kernel_rfl
theorem mVa43_run : mem2Run Tryz.prog (pick oVa9) 3000 60 43 mVa43 = true := by kernel_rfl
theorem mVa55_run : mem2Run Tryz.prog (pick oVa9) 3000 60 43 mVa55 = true := by kernel_rfl
theorem mVa61_run : mem2Run Tryz.prog (pick oVa9) 3000 60 43 mVa61 = true := by kernel_rfl
theorem mVa62_run : mem2Run Tryz.prog (pick oVa9) 3000 60 43 mVa62 = true := by kernel_rfl
theorem mVa63_run : mem2Run Tryz.prog (pick oVa9) 3000 60 43 mVa63 = true := by kernel_rfl
theorem mVa67_run : mem2Run Tryz.prog (pick oVa9) 3000 60 43 mVa67 = true := by kernel_rfl
theorem mVa69_run : mem2Run Tryz.prog (pick oVa9) 3000 60 43 mVa69 = true := by kernel_rfl
theorem mVa70_run : mem2Run Tryz.prog (pick oVa9) 3000 60 43 mVa70 = true := by kernel_rfl
theorem mVa71_run : mem2Run Tryz.prog (pick oVa9) 3000 60 43 mVa71 = true := by kernel_rfl
theorem mVa74_run : mem2Run Tryz.prog (pick orcsL) 3000 60 8 mVa74 = true := by kernel_rfl
theorem mVa75_run : mem2Run Tryz.prog (pick orcsL) 3000 60 8 mVa75 = true := by kernel_rfl
theorem mVa77_run : mem2Run Tryz.prog (pick oVa0) 3000 60 9 mVa77 = true := by kernel_rfl
end Go.Ev
