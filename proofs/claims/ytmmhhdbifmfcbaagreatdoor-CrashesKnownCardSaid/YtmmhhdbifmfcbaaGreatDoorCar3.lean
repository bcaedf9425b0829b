/- What these calls do, as the kernel reckons it (part 3 of 8). -/
import Derived.Test.YtmmhhdbifmfcbaaGreatDoorCam
import Derived.KernelRfl
set_option maxRecDepth 4000

namespace Go.Ev
open Go.Proofs
theorem mCa4_run : mem2Run Tryz.prog (pick oCa1) 3000 60 63 mCa4 = true := by kernel_rfl
theorem mCa17_run : mem2Run Tryz.prog (pick oCa12) 3000 60 40 mCa17 = true := by kernel_rfl
theorem mCa18_run : mem2Run Tryz.prog (pick oCa3) 3000 60 160 mCa18 = true := by kernel_rfl
theorem mCa32_run : mem2Run Tryz.prog (pick oCa12) 3000 60 40 mCa32 = true := by kernel_rfl
theorem mCa34_run : mem2Run Tryz.prog (pick orcsJ) 3000 60 25 mCa34 = true := by kernel_rfl
theorem mCa41_run : mem2Run Tryz.prog (pick orcsJ) 3000 60 25 mCa41 = true := by kernel_rfl
theorem mCa50_run : mem2Run Tryz.prog (pick oCa8) 3000 60 17 mCa50 = true := by kernel_rfl
theorem mCa64_run : mem2Run Tryz.prog (pick oCa12) 3000 60 40 mCa64 = true := by kernel_rfl
theorem mCa101_run : mem2Run Tryz.prog (pick oCa8) 3000 60 17 mCa101 = true := by kernel_rfl
theorem mCa104_run : mem2Run Tryz.prog (pick oCa8) 3000 60 17 mCa104 = true := by kernel_rfl
theorem mCa111_run : mem2Run Tryz.prog (pick orcsJ) 3000 60 25 mCa111 = true := by kernel_rfl
theorem mCa118_run : mem2Run Tryz.prog (pick oCa12) 3000 60 40 mCa118 = true := by kernel_rfl
theorem mCa119_run : mem2Run Tryz.prog (pick oCa6) 3000 60 392 mCa119 = true := by kernel_rfl
theorem mCa122_run : mem2Run Tryz.prog (pick oCa8) 3000 60 17 mCa122 = true := by kernel_rfl
theorem mCa123_run : mem2Run Tryz.prog (pick orcsJ) 3000 60 25 mCa123 = true := by kernel_rfl
theorem mCa126_run : mem2Run Tryz.prog (pick oCa10) 3000 60 22 mCa126 = true := by kernel_rfl
theorem mCa127_run : mem2Run Tryz.prog (pick oCa8) 3000 60 17 mCa127 = true := by kernel_rfl
theorem mCa139_run : mem2Run Tryz.prog (pick oCa8) 3000 60 17 mCa139 = true := by kernel_rfl
theorem mCa158_run : mem2Run Tryz.prog (pick oCa12) 3000 60 40 mCa158 = true := by kernel_rfl
theorem mCa159_run : mem2Run Tryz.prog (pick oCa8) 3000 60 17 mCa159 = true := by kernel_rfl
theorem mCa172_run : mem2Run Tryz.prog (pick oCa12) 3000 60 40 mCa172 = true := by kernel_rfl
theorem mCa177_run : mem2Run Tryz.prog (pick oCa8) 3000 60 17 mCa177 = true := by kernel_rfl
theorem mCa178_run : mem2Run Tryz.prog (pick oCa12) 3000 60 40 mCa178 = true := by kernel_rfl
theorem mCa195_run : mem2Run Tryz.prog (pick oCa8) 3000 60 17 mCa195 = true := by kernel_rfl
theorem mCa202_run : mem2Run Tryz.prog (pick oCa12) 3000 60 40 mCa202 = true := by kernel_rfl
theorem mCa206_run : mem2Run Tryz.prog (pick oCa12) 3000 60 40 mCa206 = true := by kernel_rfl
theorem mCa211_run : mem2Run Tryz.prog (pick oCa8) 3000 60 17 mCa211 = true := by kernel_rfl
theorem mCa213_run : mem2Run Tryz.prog (pick oCa8) 3000 60 17 mCa213 = true := by kernel_rfl
theorem mCa225_run : mem2Run Tryz.prog (pick oCa8) 3000 60 17 mCa225 = true := by kernel_rfl
end Go.Ev
