/- What these calls do, as the kernel reckons it (part 3 of 4). -/
import Derived.Test.YtelincipkdacaaaGreatDoorVam
import Derived.KernelRfl
set_option maxRecDepth 4000

/-! What these calls do, as the kernel reckons it: part 3. -/
namespace Go.Ev
open Go.Proofs

theorem mVa4_run : mem2Run Tryz.prog (pick oVa9) 3000 60 43 mVa4 = true := by kernel_rfl
theorem mVa11_run : mem2Run Tryz.prog (pick oVa9) 3000 60 43 mVa11 = true := by kernel_rfl
theorem mVa13_run : mem2Run Tryz.prog (pick oVa9) 3000 60 43 mVa13 = true := by kernel_rfl
theorem mVa20_run : mem2Run Tryz.prog (pick oVa7) 3000 60 387 mVa20 = true := by kernel_rfl
theorem mVa22_run : mem2Run Tryz.prog (pick oVa9) 3000 60 43 mVa22 = true := by kernel_rfl
theorem mVa23_run : mem2Run Tryz.prog (pick oVa9) 3000 60 43 mVa23 = true := by kernel_rfl
theorem mVa25_run : mem2Run Tryz.prog (pick oVa9) 3000 60 43 mVa25 = true := by kernel_rfl
theorem mVa33_run : mem2Run Tryz.prog (pick oVa9) 3000 60 43 mVa33 = true := by kernel_rfl
theorem mVa38_run : mem2Run Tryz.prog (pick oVa12) 3000 60 11 mVa38 = true := by kernel_rfl
theorem mVa47_run : mem2Run Tryz.prog (pick orcsL) 3000 60 8 mVa47 = true := by kernel_rfl
theorem mVa49_run : mem2Run Tryz.prog (pick oVa14) 3000 60 12 mVa49 = true := by kernel_rfl
theorem mVa51_run : mem2Run Tryz.prog (pick oVa12) 3000 60 11 mVa51 = true := by kernel_rfl
theorem mVa54_run : mem2Run Tryz.prog (pick oVa9) 3000 60 43 mVa54 = true := by kernel_rfl
theorem mVa56_run : mem2Run Tryz.prog (pick oVa9) 3000 60 43 mVa56 = true := by kernel_rfl
theorem mVa58_run : mem2Run Tryz.prog (pick oVa9) 3000 60 43 mVa58 = true := by kernel_rfl
theorem mVa60_run : mem2Run Tryz.prog (pick oVa9) 3000 60 43 mVa60 = true := by kernel_rfl
theorem mVa65_run : mem2Run Tryz.prog (pick oVa9) 3000 60 43 mVa65 = true := by kernel_rfl
theorem mVa66_run : mem2Run Tryz.prog (pick oVa9) 3000 60 43 mVa66 = true := by kernel_rfl
theorem mVa76_run : mem2Run Tryz.prog (pick orcsL) 3000 60 8 mVa76 = true := by kernel_rfl
end Go.Ev
