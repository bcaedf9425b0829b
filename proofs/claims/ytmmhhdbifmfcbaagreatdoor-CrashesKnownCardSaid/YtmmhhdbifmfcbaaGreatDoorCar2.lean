/- What these calls do, as the kernel reckons it (part 2 of 8). -/
import Derived.Test.YtmmhhdbifmfcbaaGreatDoorCam
import Derived.KernelRfl
set_option maxRecDepth 4000

namespace Go.Ev
open Go.Proofs
theorem mCa6_run : mem2Run Tryz.prog (pick oCa1) 3000 60 63 mCa6 = true := by kernel_rfl
theorem mCa7_run : mem2Run Tryz.prog (pick oCa7) 3000 60 35 mCa7 = true := by kernel_rfl
theorem mCa12_run : mem2Run Tryz.prog (pick oCa8) 3000 60 17 mCa12 = true := by kernel_rfl
theorem mCa14_run : mem2Run Tryz.prog (pick oCa1) 3000 60 63 mCa14 = true := by kernel_rfl
theorem mCa19_run : mem2Run Tryz.prog (pick oCa8) 3000 60 17 mCa19 = true := by kernel_rfl
theorem mCa35_run : mem2Run Tryz.prog (pick oCa12) 3000 60 40 mCa35 = true := by kernel_rfl
theorem mCa36_run : mem2Run Tryz.prog (pick oCa8) 3000 60 17 mCa36 = true := by kernel_rfl
theorem mCa40_run : mem2Run Tryz.prog (pick oCa8) 3000 60 17 mCa40 = true := by kernel_rfl
theorem mCa65_run : mem2Run Tryz.prog (pick oCa8) 3000 60 17 mCa65 = true := by kernel_rfl
theorem mCa84_run : mem2Run Tryz.prog (pick oCa8) 3000 60 17 mCa84 = true := by kernel_rfl
theorem mCa86_run : mem2Run Tryz.prog (pick orcsJ) 3000 60 25 mCa86 = true := by kernel_rfl
theorem mCa87_run : mem2Run Tryz.prog (pick oCa11) 3000 60 26 mCa87 = true := by kernel_rfl
theorem mCa94_run : mem2Run Tryz.prog (pick oCa7) 3000 60 35 mCa94 = true := by kernel_rfl
theorem mCa99_run : mem2Run Tryz.prog (pick orcsJ) 3000 60 25 mCa99 = true := by kernel_rfl
theorem mCa114_run : mem2Run Tryz.prog (pick orcsJ) 3000 60 25 mCa114 = true := by kernel_rfl
theorem mCa121_run : mem2Run Tryz.prog (pick oCa6) 3000 60 392 mCa121 = true := by kernel_rfl
theorem mCa128_run : mem2Run Tryz.prog (pick oCa12) 3000 60 40 mCa128 = true := by kernel_rfl
theorem mCa148_run : mem2Run Tryz.prog (pick oCa12) 3000 60 40 mCa148 = true := by kernel_rfl
theorem mCa166_run : mem2Run Tryz.prog (pick oCa12) 3000 60 40 mCa166 = true := by kernel_rfl
theorem mCa167_run : mem2Run Tryz.prog (pick oCa8) 3000 60 17 mCa167 = true := by kernel_rfl
theorem mCa168_run : mem2Run Tryz.prog (pick oCa12) 3000 60 40 mCa168 = true := by kernel_rfl
theorem mCa174_run : mem2Run Tryz.prog (pick oCa12) 3000 60 40 mCa174 = true := by kernel_rfl
theorem mCa179_run : mem2Run Tryz.prog (pick oCa8) 3000 60 17 mCa179 = true := by kernel_rfl
theorem mCa184_run : mem2Run Tryz.prog (pick oCa12) 3000 60 40 mCa184 = true := by kernel_rfl
theorem mCa185_run : mem2Run Tryz.prog (pick oCa8) 3000 60 17 mCa185 = true := by kernel_rfl
theorem mCa190_run : mem2Run Tryz.prog (pick oCa8) 3000 60 17 mCa190 = true := by kernel_rfl
theorem mCa193_run : mem2Run Tryz.prog (pick oCa8) 3000 60 17 mCa193 = true := by kernel_rfl
theorem mCa194_run : mem2Run Tryz.prog (pick oCa12) 3000 60 40 mCa194 = true := by kernel_rfl
theorem mCa201_run : mem2Run Tryz.prog (pick oCa8) 3000 60 17 mCa201 = true := by kernel_rfl
theorem mCa223_run : mem2Run Tryz.prog (pick oCa8) 3000 60 17 mCa223 = true := by kernel_rfl
theorem mCa235_run : mem2Run Tryz.prog (pick oCa11) 3000 60 26 mCa235 = true := by kernel_rfl
end Go.Ev
