/- What these calls do, as the kernel reckons it (part 7 of 8). -/
import Derived.Test.YtmmhhdbifmfcbaaGreatDoorCam
import Derived.KernelRfl
set_option maxRecDepth 4000

namespace Go.Ev
open Go.Proofs
theorem mCa1_run : mem2Run Tryz.prog (pick oCa10) 3000 60 22 mCa1 = true := by kernel_rfl
theorem mCa9_run : mem2Run Tryz.prog (pick oCa9) 3000 60 36 mCa9 = true := by kernel_rfl
theorem mCa13_run : mem2Run Tryz.prog (pick oCa7) 3000 60 35 mCa13 = true := by kernel_rfl
theorem mCa25_run : mem2Run Tryz.prog (pick orcsJ) 3000 60 25 mCa25 = true := by kernel_rfl
theorem mCa49_run : mem2Run Tryz.prog (pick oCa12) 3000 60 40 mCa49 = true := by kernel_rfl
theorem mCa54_run : mem2Run Tryz.prog (pick oCa7) 3000 60 35 mCa54 = true := by kernel_rfl
theorem mCa56_run : mem2Run Tryz.prog (pick oCa12) 3000 60 40 mCa56 = true := by kernel_rfl
theorem mCa71_run : mem2Run Tryz.prog (pick oCa8) 3000 60 17 mCa71 = true := by kernel_rfl
theorem mCa75_run : mem2Run Tryz.prog (pick orcsJ) 3000 60 25 mCa75 = true := by kernel_rfl
theorem mCa105_run : mem2Run Tryz.prog (pick orcsJ) 3000 60 25 mCa105 = true := by kernel_rfl
theorem mCa109_run : mem2Run Tryz.prog (pick oCa12) 3000 60 40 mCa109 = true := by kernel_rfl
theorem mCa110_run : mem2Run Tryz.prog (pick oCa8) 3000 60 17 mCa110 = true := by kernel_rfl
theorem mCa113_run : mem2Run Tryz.prog (pick oCa8) 3000 60 17 mCa113 = true := by kernel_rfl
theorem mCa116_run : mem2Run Tryz.prog (pick oCa8) 3000 60 17 mCa116 = true := by kernel_rfl
theorem mCa130_run : mem2Run Tryz.prog (pick oCa12) 3000 60 40 mCa130 = true := by kernel_rfl
theorem mCa143_run : mem2Run Tryz.prog (pick oCa8) 3000 60 17 mCa143 = true := by kernel_rfl
theorem mCa147_run : mem2Run Tryz.prog (pick oCa8) 3000 60 17 mCa147 = true := by kernel_rfl
theorem mCa152_run : mem2Run Tryz.prog (pick oCa12) 3000 60 40 mCa152 = true := by kernel_rfl
theorem mCa165_run : mem2Run Tryz.prog (pick oCa8) 3000 60 17 mCa165 = true := by kernel_rfl
theorem mCa169_run : mem2Run Tryz.prog (pick oCa8) 3000 60 17 mCa169 = true := by kernel_rfl
theorem mCa182_run : mem2Run Tryz.prog (pick oCa12) 3000 60 40 mCa182 = true := by kernel_rfl
theorem mCa188_run : mem2Run Tryz.prog (pick oCa13) 3000 60 10 mCa188 = true := by kernel_rfl
theorem mCa197_run : mem2Run Tryz.prog (pick oCa8) 3000 60 17 mCa197 = true := by kernel_rfl
theorem mCa210_run : mem2Run Tryz.prog (pick oCa12) 3000 60 40 mCa210 = true := by kernel_rfl
theorem mCa214_run : mem2Run Tryz.prog (pick oCa12) 3000 60 40 mCa214 = true := by kernel_rfl
theorem mCa216_run : mem2Run Tryz.prog (pick oCa12) 3000 60 40 mCa216 = true := by kernel_rfl
theorem mCa227_run : mem2Run Tryz.prog (pick oCa8) 3000 60 17 mCa227 = true := by kernel_rfl
theorem mCa228_run : mem2Run Tryz.prog (pick oCa12) 3000 60 40 mCa228 = true := by kernel_rfl
theorem mCa231_run : mem2Run Tryz.prog (pick oCa8) 3000 60 17 mCa231 = true := by kernel_rfl
theorem mCa232_run : mem2Run Tryz.prog (pick orcsJ) 3000 60 25 mCa232 = true := by kernel_rfl
end Go.Ev
