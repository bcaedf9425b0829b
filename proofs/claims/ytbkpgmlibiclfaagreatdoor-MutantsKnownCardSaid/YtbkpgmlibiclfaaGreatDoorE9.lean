/- What the kernel reckons of the field (second part). -/
import Derived.Test.YtbkpgmlibiclfaaGreatDoorE8
import Derived.KernelRfl
set_option maxRecDepth 4000

namespace Go.Ev
open Go.Proofs
theorem sub_128 : tabRun Tryz.prog noO 3000 60 465 subT 128 16 = true := by kernel_rfl
theorem sub_144 : tabRun Tryz.prog noO 3000 60 465 subT 144 16 = true := by kernel_rfl
theorem sub_160 : tabRun Tryz.prog noO 3000 60 465 subT 160 16 = true := by kernel_rfl
theorem sub_176 : tabRun Tryz.prog noO 3000 60 465 subT 176 16 = true := by kernel_rfl
end Go.Ev

namespace Go.Ev
open Go.Proofs
theorem sub_192 : tabRun Tryz.prog noO 3000 60 465 subT 192 16 = true := by kernel_rfl
theorem sub_208 : tabRun Tryz.prog noO 3000 60 465 subT 208 16 = true := by kernel_rfl
theorem sub_224 : tabRun Tryz.prog noO 3000 60 465 subT 224 16 = true := by kernel_rfl
theorem sub_240 : tabRun Tryz.prog noO 3000 60 465 subT 240 16 = true := by kernel_rfl
end Go.Ev

namespace Go.Ev
open Go.Proofs
theorem mul1_0 : tab2Run Tryz.prog noO 3000 60 478 1 mul1T 0 64 = true := by kernel_rfl
theorem mul1_64 : tab2Run Tryz.prog noO 3000 60 478 1 mul1T 64 64 = true := by kernel_rfl
theorem mul1_128 : tab2Run Tryz.prog noO 3000 60 478 1 mul1T 128 64 = true := by kernel_rfl
theorem mul1_192 : tab2Run Tryz.prog noO 3000 60 478 1 mul1T 192 64 = true := by kernel_rfl
theorem mul2_0 : tab2Run Tryz.prog noO 3000 60 478 2 mul2T 0 64 = true := by kernel_rfl
theorem mul2_64 : tab2Run Tryz.prog noO 3000 60 478 2 mul2T 64 64 = true := by kernel_rfl
theorem mul2_128 : tab2Run Tryz.prog noO 3000 60 478 2 mul2T 128 64 = true := by kernel_rfl
theorem mul2_192 : tab2Run Tryz.prog noO 3000 60 478 2 mul2T 192 64 = true := by kernel_rfl
theorem mul3_0 : tab2Run Tryz.prog noO 3000 60 478 3 mul3T 0 64 = true := by kernel_rfl
theorem mul3_64 : tab2Run Tryz.prog noO 3000 60 478 3 mul3T 64 64 = true := by kernel_rfl
theorem mul3_128 : tab2Run Tryz.prog noO 3000 60 478 3 mul3T 128 64 = true := by kernel_rfl
theorem mul3_192 : tab2Run Tryz.prog noO 3000 60 478 3 mul3T 192 64 = true := by kernel_rfl
theorem pow_run : (powTs.all fun p => pureRun Tryz.prog noO 3000 60 466 p.1 p.2) = true := by kernel_rfl
end Go.Ev
