/- What these calls do, as the kernel reckons it (part 8 of 8). -/
import Derived.Test.YtmmhhdbifmfcbaaGreatDoorCam
import Derived.KernelRfl
set_option maxRecDepth 4000

namespace Go.Ev
open Go.Proofs
theorem mCa0_run : mem2Run Tryz.prog (pick oCa13) 3000 60 10 mCa0 = true := by kernel_rfl
theorem mCa3_run : mem2Run Tryz.prog (pick oCa7) 3000 60 35 mCa3 = true := by kernel_rfl
theorem mCa11_run : mem2Run Tryz.prog (pick oCa2) 3000 60 124 mCa11 = true := by kernel_rfl
theorem mCa28_run : mem2Run Tryz.prog (pick orcsJ) 3000 60 25 mCa28 = true := by kernel_rfl
theorem mCa33_run : mem2Run Tryz.prog (pick oCa8) 3000 60 17 mCa33 = true := by kernel_rfl
theorem mCa53_run : mem2Run Tryz.prog (pick oCa8) 3000 60 17 mCa53 = true := by kernel_rfl
theorem mCa57_run : mem2Run Tryz.prog (pick oCa5) 3000 60 391 mCa57 = true := by kernel_rfl
theorem mCa63_run : mem2Run Tryz.prog (pick oCa11) 3000 60 26 mCa63 = true := by kernel_rfl
theorem mCa70_run : mem2Run Tryz.prog (pick oCa12) 3000 60 40 mCa70 = true := by kernel_rfl
theorem mCa79_run : mem2Run Tryz.prog (pick oCa12) 3000 60 40 mCa79 = true := by kernel_rfl
theorem mCa85_run : mem2Run Tryz.prog (pick oCa1) 3000 60 63 mCa85 = true := by kernel_rfl
theorem mCa88_run : mem2Run Tryz.prog (pick oCa2) 3000 60 124 mCa88 = true := by kernel_rfl
theorem mCa100_run : mem2Run Tryz.prog (pick oCa12) 3000 60 40 mCa100 = true := by kernel_rfl
theorem mCa103_run : mem2Run Tryz.prog (pick oCa12) 3000 60 40 mCa103 = true := by kernel_rfl
theorem mCa115_run : mem2Run Tryz.prog (pick oCa12) 3000 60 40 mCa115 = true := by kernel_rfl
theorem mCa125_run : mem2Run Tryz.prog (pick oCa13) 3000 60 10 mCa125 = true := by kernel_rfl
theorem mCa140_run : mem2Run Tryz.prog (pick oCa12) 3000 60 40 mCa140 = true := by kernel_rfl
theorem mCa145_run : mem2Run Tryz.prog (pick oCa8) 3000 60 17 mCa145 = true := by kernel_rfl
theorem mCa149_run : mem2Run Tryz.prog (pick oCa8) 3000 60 17 mCa149 = true := by kernel_rfl
theorem mCa171_run : mem2Run Tryz.prog (pick oCa8) 3000 60 17 mCa171 = true := by kernel_rfl
theorem mCa181_run : mem2Run Tryz.prog (pick oCa8) 3000 60 17 mCa181 = true := by kernel_rfl
theorem mCa192_run : mem2Run Tryz.prog (pick oCa12) 3000 60 40 mCa192 = true := by kernel_rfl
theorem mCa199_run : mem2Run Tryz.prog (pick oCa8) 3000 60 17 mCa199 = true := by kernel_rfl
theorem mCa200_run : mem2Run Tryz.prog (pick oCa12) 3000 60 40 mCa200 = true := by kernel_rfl
theorem mCa205_run : mem2Run Tryz.prog (pick oCa8) 3000 60 17 mCa205 = true := by kernel_rfl
theorem mCa215_run : mem2Run Tryz.prog (pick oCa8) 3000 60 17 mCa215 = true := by kernel_rfl
theorem mCa224_run : mem2Run Tryz.prog (pick oCa12) 3000 60 40 mCa224 = true := by kernel_rfl
theorem mCa226_run : mem2Run Tryz.prog (pick oCa12) 3000 60 40 mCa226 = true := by kernel_rfl
theorem mCa229_run : mem2Run Tryz.prog (pick oCa8) 3000 60 17 mCa229 = true := by kernel_rfl
end Go.Ev
