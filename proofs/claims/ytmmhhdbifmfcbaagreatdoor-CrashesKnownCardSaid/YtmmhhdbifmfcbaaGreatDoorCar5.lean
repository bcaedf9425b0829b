/- What these calls do, as the kernel reckons it (part 5 of 8). -/
import Derived.Test.YtmmhhdbifmfcbaaGreatDoorCam
import Derived.KernelRfl
set_option maxRecDepth 4000

namespace Go.Ev
open Go.Proofs
theorem mCa15_run : mem2Run Tryz.prog (pick orcsJ) 3000 60 25 mCa15 = true := by kernel_rfl
theorem mCa16_run : mem2Run Tryz.prog (pick oCa11) 3000 60 26 mCa16 = true := by kernel_rfl
theorem mCa24_run : mem2Run Tryz.prog (pick oCa8) 3000 60 17 mCa24 = true := by kernel_rfl
theorem mCa39_run : mem2Run Tryz.prog (pick oCa12) 3000 60 40 mCa39 = true := by kernel_rfl
theorem mCa43_run : mem2Run Tryz.prog (pick oCa4) 3000 60 165 mCa43 = true := by kernel_rfl
theorem mCa47_run : mem2Run Tryz.prog (pick oCa8) 3000 60 17 mCa47 = true := by kernel_rfl
theorem mCa48_run : mem2Run Tryz.prog (pick orcsJ) 3000 60 25 mCa48 = true := by kernel_rfl
theorem mCa60_run : mem2Run Tryz.prog (pick oCa6) 3000 60 392 mCa60 = true := by kernel_rfl
theorem mCa61_run : mem2Run Tryz.prog (pick oCa8) 3000 60 17 mCa61 = true := by kernel_rfl
theorem mCa62_run : mem2Run Tryz.prog (pick orcsJ) 3000 60 25 mCa62 = true := by kernel_rfl
theorem mCa69_run : mem2Run Tryz.prog (pick orcsJ) 3000 60 25 mCa69 = true := by kernel_rfl
theorem mCa77_run : mem2Run Tryz.prog (pick oCa8) 3000 60 17 mCa77 = true := by kernel_rfl
theorem mCa78_run : mem2Run Tryz.prog (pick orcsJ) 3000 60 25 mCa78 = true := by kernel_rfl
theorem mCa89_run : mem2Run Tryz.prog (pick oCa12) 3000 60 40 mCa89 = true := by kernel_rfl
theorem mCa97_run : mem2Run Tryz.prog (pick oCa12) 3000 60 40 mCa97 = true := by kernel_rfl
theorem mCa108_run : mem2Run Tryz.prog (pick orcsJ) 3000 60 25 mCa108 = true := by kernel_rfl
theorem mCa117_run : mem2Run Tryz.prog (pick orcsJ) 3000 60 25 mCa117 = true := by kernel_rfl
theorem mCa135_run : mem2Run Tryz.prog (pick oCa8) 3000 60 17 mCa135 = true := by kernel_rfl
theorem mCa136_run : mem2Run Tryz.prog (pick oCa12) 3000 60 40 mCa136 = true := by kernel_rfl
theorem mCa155_run : mem2Run Tryz.prog (pick oCa8) 3000 60 17 mCa155 = true := by kernel_rfl
theorem mCa163_run : mem2Run Tryz.prog (pick oCa8) 3000 60 17 mCa163 = true := by kernel_rfl
theorem mCa170_run : mem2Run Tryz.prog (pick oCa12) 3000 60 40 mCa170 = true := by kernel_rfl
theorem mCa173_run : mem2Run Tryz.prog (pick oCa8) 3000 60 17 mCa173 = true := by kernel_rfl
theorem mCa180_run : mem2Run Tryz.prog (pick oCa12) 3000 60 40 mCa180 = true := by kernel_rfl
theorem mCa187_run : mem2Run Tryz.prog (pick oCa14) 3000 60 8 mCa187 = true := by kernel_rfl
theorem mCa203_run : mem2Run Tryz.prog (pick oCa8) 3000 60 17 mCa203 = true := by kernel_rfl
theorem mCa212_run : mem2Run Tryz.prog (pick oCa12) 3000 60 40 mCa212 = true := by kernel_rfl
theorem mCa218_run : mem2Run Tryz.prog (pick oCa12) 3000 60 40 mCa218 = true := by kernel_rfl
theorem mCa233_run : mem2Run Tryz.prog (pick oCa13) 3000 60 10 mCa233 = true := by kernel_rfl
end Go.Ev
