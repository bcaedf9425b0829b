/- What these calls do, as the kernel reckons it (part 6 of 8). -/
import Derived.Test.YtmmhhdbifmfcbaaGreatDoorCam
import Derived.KernelRfl
set_option maxRecDepth 4000

namespace Go.Ev
open Go.Proofs
theorem mCa8_run : mem2Run Tryz.prog (pick oCa1) 3000 60 63 mCa8 = true := by kernel_rfl
theorem mCa21_run : mem2Run Tryz.prog (pick oCa1) 3000 60 63 mCa21 = true := by kernel_rfl
theorem mCa22_run : mem2Run Tryz.prog (pick orcsJ) 3000 60 25 mCa22 = true := by kernel_rfl
theorem mCa29_run : mem2Run Tryz.prog (pick oCa12) 3000 60 40 mCa29 = true := by kernel_rfl
theorem mCa45_run : mem2Run Tryz.prog (pick orcsJ) 3000 60 25 mCa45 = true := by kernel_rfl
theorem mCa59_run : mem2Run Tryz.prog (pick oCa6) 3000 60 392 mCa59 = true := by kernel_rfl
theorem mCa66_run : mem2Run Tryz.prog (pick orcsJ) 3000 60 25 mCa66 = true := by kernel_rfl
theorem mCa72_run : mem2Run Tryz.prog (pick orcsJ) 3000 60 25 mCa72 = true := by kernel_rfl
theorem mCa83_run : mem2Run Tryz.prog (pick oCa12) 3000 60 40 mCa83 = true := by kernel_rfl
theorem mCa90_run : mem2Run Tryz.prog (pick oCa8) 3000 60 17 mCa90 = true := by kernel_rfl
theorem mCa96_run : mem2Run Tryz.prog (pick orcsJ) 3000 60 25 mCa96 = true := by kernel_rfl
theorem mCa106_run : mem2Run Tryz.prog (pick oCa12) 3000 60 40 mCa106 = true := by kernel_rfl
theorem mCa107_run : mem2Run Tryz.prog (pick oCa8) 3000 60 17 mCa107 = true := by kernel_rfl
theorem mCa129_run : mem2Run Tryz.prog (pick oCa8) 3000 60 17 mCa129 = true := by kernel_rfl
theorem mCa131_run : mem2Run Tryz.prog (pick oCa8) 3000 60 17 mCa131 = true := by kernel_rfl
theorem mCa133_run : mem2Run Tryz.prog (pick oCa8) 3000 60 17 mCa133 = true := by kernel_rfl
theorem mCa137_run : mem2Run Tryz.prog (pick oCa8) 3000 60 17 mCa137 = true := by kernel_rfl
theorem mCa151_run : mem2Run Tryz.prog (pick oCa8) 3000 60 17 mCa151 = true := by kernel_rfl
theorem mCa154_run : mem2Run Tryz.prog (pick oCa12) 3000 60 40 mCa154 = true := by kernel_rfl
theorem mCa156_run : mem2Run Tryz.prog (pick oCa12) 3000 60 40 mCa156 = true := by kernel_rfl
theorem mCa157_run : mem2Run Tryz.prog (pick oCa8) 3000 60 17 mCa157 = true := by kernel_rfl
theorem mCa160_run : mem2Run Tryz.prog (pick oCa12) 3000 60 40 mCa160 = true := by kernel_rfl
theorem mCa161_run : mem2Run Tryz.prog (pick oCa8) 3000 60 17 mCa161 = true := by kernel_rfl
theorem mCa162_run : mem2Run Tryz.prog (pick oCa12) 3000 60 40 mCa162 = true := by kernel_rfl
theorem mCa189_run : mem2Run Tryz.prog (pick oCa10) 3000 60 22 mCa189 = true := by kernel_rfl
theorem mCa198_run : mem2Run Tryz.prog (pick oCa12) 3000 60 40 mCa198 = true := by kernel_rfl
theorem mCa207_run : mem2Run Tryz.prog (pick oCa8) 3000 60 17 mCa207 = true := by kernel_rfl
theorem mCa208_run : mem2Run Tryz.prog (pick oCa12) 3000 60 40 mCa208 = true := by kernel_rfl
theorem mCa222_run : mem2Run Tryz.prog (pick oCa12) 3000 60 40 mCa222 = true := by kernel_rfl
end Go.Ev
