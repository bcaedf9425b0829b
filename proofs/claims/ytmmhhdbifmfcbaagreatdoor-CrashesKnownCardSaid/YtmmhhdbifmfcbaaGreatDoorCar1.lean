/- What these calls do, as the kernel reckons it (part 1 of 8). -/
import Derived.Test.YtmmhhdbifmfcbaaGreatDoorCam
import Derived.KernelRfl
set_option maxRecDepth 4000

namespace Go.Ev
open Go.Proofs
theorem mCa2_run : mem2Run Tryz.prog (pick oCa0) 3000 60 31 mCa2 = true := by kernel_rfl
theorem mCa5_run : mem2Run Tryz.prog (pick oCa7) 3000 60 35 mCa5 = true := by kernel_rfl
theorem mCa20_run : mem2Run Tryz.prog (pick oCa7) 3000 60 35 mCa20 = true := by kernel_rfl
theorem mCa23_run : mem2Run Tryz.prog (pick oCa12) 3000 60 40 mCa23 = true := by kernel_rfl
theorem mCa27_run : mem2Run Tryz.prog (pick oCa8) 3000 60 17 mCa27 = true := by kernel_rfl
theorem mCa37_run : mem2Run Tryz.prog (pick orcsJ) 3000 60 25 mCa37 = true := by kernel_rfl
theorem mCa46_run : mem2Run Tryz.prog (pick oCa12) 3000 60 40 mCa46 = true := by kernel_rfl
theorem mCa52_run : mem2Run Tryz.prog (pick oCa12) 3000 60 40 mCa52 = true := by kernel_rfl
theorem mCa67_run : mem2Run Tryz.prog (pick oCa12) 3000 60 40 mCa67 = true := by kernel_rfl
theorem mCa68_run : mem2Run Tryz.prog (pick oCa8) 3000 60 17 mCa68 = true := by kernel_rfl
theorem mCa73_run : mem2Run Tryz.prog (pick oCa12) 3000 60 40 mCa73 = true := by kernel_rfl
theorem mCa76_run : mem2Run Tryz.prog (pick oCa12) 3000 60 40 mCa76 = true := by kernel_rfl
theorem mCa82_run : mem2Run Tryz.prog (pick oCa11) 3000 60 26 mCa82 = true := by kernel_rfl
theorem mCa91_run : mem2Run Tryz.prog (pick orcsJ) 3000 60 25 mCa91 = true := by kernel_rfl
theorem mCa98_run : mem2Run Tryz.prog (pick oCa8) 3000 60 17 mCa98 = true := by kernel_rfl
theorem mCa102_run : mem2Run Tryz.prog (pick orcsJ) 3000 60 25 mCa102 = true := by kernel_rfl
theorem mCa112_run : mem2Run Tryz.prog (pick oCa12) 3000 60 40 mCa112 = true := by kernel_rfl
theorem mCa120_run : mem2Run Tryz.prog (pick oCa6) 3000 60 392 mCa120 = true := by kernel_rfl
theorem mCa124_run : mem2Run Tryz.prog (pick oCa11) 3000 60 26 mCa124 = true := by kernel_rfl
theorem mCa132_run : mem2Run Tryz.prog (pick oCa12) 3000 60 40 mCa132 = true := by kernel_rfl
theorem mCa134_run : mem2Run Tryz.prog (pick oCa12) 3000 60 40 mCa134 = true := by kernel_rfl
theorem mCa138_run : mem2Run Tryz.prog (pick oCa12) 3000 60 40 mCa138 = true := by kernel_rfl
theorem mCa150_run : mem2Run Tryz.prog (pick oCa12) 3000 60 40 mCa150 = true := by kernel_rfl
theorem mCa175_run : mem2Run Tryz.prog (pick oCa8) 3000 60 17 mCa175 = true := by kernel_rfl
theorem mCa183_run : mem2Run Tryz.prog (pick oCa8) 3000 60 17 mCa183 = true := by kernel_rfl
theorem mCa204_run : mem2Run Tryz.prog (pick oCa12) 3000 60 40 mCa204 = true := by kernel_rfl
theorem mCa209_run : mem2Run Tryz.prog (pick oCa8) 3000 60 17 mCa209 = true := by kernel_rfl
theorem mCa221_run : mem2Run Tryz.prog (pick oCa8) 3000 60 17 mCa221 = true := by kernel_rfl
theorem mCa230_run : mem2Run Tryz.prog (pick oCa12) 3000 60 40 mCa230 = true := by kernel_rfl
theorem mCa234_run : mem2Run Tryz.prog (pick oCa8) 3000 60 17 mCa234 = true := by kernel_rfl
end Go.Ev
