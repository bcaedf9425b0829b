/- What these calls do, as the kernel reckons it (part 4 of 8). -/
import Derived.Test.YtmmhhdbifmfcbaaGreatDoorCam
import Derived.KernelRfl
set_option maxRecDepth 4000

namespace Go.Ev
open Go.Proofs
theorem mCa10_run : mem2Run Tryz.prog (pick oCa2) 3000 60 124 mCa10 = true := by kernel_rfl
theorem mCa26_run : mem2Run Tryz.prog (pick oCa12) 3000 60 40 mCa26 = true := by kernel_rfl
theorem mCa30_run : mem2Run Tryz.prog (pick oCa8) 3000 60 17 mCa30 = true := by kernel_rfl
theorem mCa31_run : mem2Run Tryz.prog (pick orcsJ) 3000 60 25 mCa31 = true := by kernel_rfl
theorem mCa38_run : mem2Run Tryz.prog (pick oCa11) 3000 60 26 mCa38 = true := by kernel_rfl
theorem mCa42_run : mem2Run Tryz.prog (pick oCa12) 3000 60 40 mCa42 = true := by kernel_rfl
theorem mCa44_run : mem2Run Tryz.prog (pick oCa8) 3000 60 17 mCa44 = true := by kernel_rfl
theorem mCa51_run : mem2Run Tryz.prog (pick orcsJ) 3000 60 25 mCa51 = true := by kernel_rfl
theorem mCa55_run : mem2Run Tryz.prog (pick orcsJ) 3000 60 25 mCa55 = true := by kernel_rfl
theorem mCa58_run : mem2Run Tryz.prog (pick oCa6) 3000 60 392 mCa58 = true := by kernel_rfl
theorem mCa74_run : mem2Run Tryz.prog (pick oCa8) 3000 60 17 mCa74 = true := by kernel_rfl
theorem mCa80_run : mem2Run Tryz.prog (pick oCa8) 3000 60 17 mCa80 = true := by kernel_rfl
theorem mCa81_run : mem2Run Tryz.prog (pick orcsJ) 3000 60 25 mCa81 = true := by kernel_rfl
theorem mCa92_run : mem2Run Tryz.prog (pick oCa12) 3000 60 40 mCa92 = true := by kernel_rfl
theorem mCa93_run : mem2Run Tryz.prog (pick oCa8) 3000 60 17 mCa93 = true := by kernel_rfl
theorem mCa95_run : mem2Run Tryz.prog (pick oCa1) 3000 60 63 mCa95 = true := by kernel_rfl
theorem mCa141_run : mem2Run Tryz.prog (pick oCa8) 3000 60 17 mCa141 = true := by kernel_rfl
theorem mCa142_run : mem2Run Tryz.prog (pick oCa12) 3000 60 40 mCa142 = true := by kernel_rfl
theorem mCa144_run : mem2Run Tryz.prog (pick oCa12) 3000 60 40 mCa144 = true := by kernel_rfl
theorem mCa146_run : mem2Run Tryz.prog (pick oCa12) 3000 60 40 mCa146 = true := by kernel_rfl
theorem mCa153_run : mem2Run Tryz.prog (pick oCa8) 3000 60 17 mCa153 = true := by kernel_rfl
theorem mCa164_run : mem2Run Tryz.prog (pick oCa12) 3000 60 40 mCa164 = true := by kernel_rfl
theorem mCa176_run : mem2Run Tryz.prog (pick oCa12) 3000 60 40 mCa176 = true := by kernel_rfl
theorem mCa186_run : mem2Run Tryz.prog (pick oCa11) 3000 60 26 mCa186 = true := by kernel_rfl
theorem mCa191_run : mem2Run Tryz.prog (pick oCa13) 3000 60 10 mCa191 = true := by kernel_rfl
theorem mCa196_run : mem2Run Tryz.prog (pick oCa12) 3000 60 40 mCa196 = true := by kernel_rfl
theorem mCa217_run : mem2Run Tryz.prog (pick oCa8) 3000 60 17 mCa217 = true := by kernel_rfl
theorem mCa219_run : mem2Run Tryz.prog (pick oCa8) 3000 60 17 mCa219 = true := by kernel_rfl
theorem mCa220_run : mem2Run Tryz.prog (pick oCa12) 3000 60 40 mCa220 = true := by kernel_rfl
end Go.Ev
