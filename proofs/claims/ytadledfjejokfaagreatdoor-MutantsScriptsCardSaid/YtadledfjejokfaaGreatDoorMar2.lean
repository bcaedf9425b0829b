/- What these calls do, as the kernel reckons it (part 2 of 4). -/
import Derived.Test.YtadledfjejokfaaGreatDoorMam
import Derived.KernelRfl
set_option maxRecDepth 4000

namespace Go.Ev
open Go.Proofs
theorem cMa5r : runsK Tryz.prog (pick oMa0) 27 cMa5 = true := by kernel_rfl
theorem cMa10r : runsK Tryz.prog (pick oMa3) 210 cMa10 = true := by kernel_rfl
theorem cMa13r : runsK Tryz.prog (pick oMa3) 210 cMa13 = true := by kernel_rfl
theorem cMa16r : runsK Tryz.prog (pick oMa3) 210 cMa16 = true := by kernel_rfl
theorem cMa18r : runsK Tryz.prog (pick oMa4) 213 cMa18 = true := by kernel_rfl
theorem cMa19r : runsK Tryz.prog (pick oMa5) 218 cMa19 = true := by kernel_rfl
theorem cMa25r : runsK Tryz.prog (pick oMa8) 448 cMa25 = true := by kernel_rfl
theorem cMa27r : runsK Tryz.prog (pick oMa8) 448 cMa27 = true := by kernel_rfl
theorem cMa29r : runsK Tryz.prog (pick oMa10) 125 cMa29 = true := by kernel_rfl
theorem cMa30r : runsK Tryz.prog (pick oMa11) 83 cMa30 = true := by kernel_rfl
theorem cMa36r : runsK Tryz.prog (pick oMa11) 83 cMa36 = true := by kernel_rfl
theorem cMa40r : runsK Tryz.prog (pick oMa12) 170 cMa40 = true := by kernel_rfl
theorem cMa49r : runsK Tryz.prog (pick oMa13) 196 cMa49 = true := by kernel_rfl
theorem cMa59r : runsK Tryz.prog (pick oMa13) 196 cMa59 = true := by kernel_rfl
theorem cMa60r : runsK Tryz.prog (pick oMa13) 196 cMa60 = true := by kernel_rfl
theorem cMa61r : runsK Tryz.prog (pick oMa13) 196 cMa61 = true := by kernel_rfl
theorem cMa65r : runsK Tryz.prog (pick oMa13) 196 cMa65 = true := by kernel_rfl
theorem cMa67r : runsK Tryz.prog (pick oMa13) 196 cMa67 = true := by kernel_rfl
theorem cMa69r : runsK Tryz.prog (pick oMa13) 196 cMa69 = true := by kernel_rfl
theorem cMa72r : runsK Tryz.prog (pick oMa13) 196 cMa72 = true := by kernel_rfl
theorem cMa75r : runsK Tryz.prog (pick oMa15) 23 cMa75 = true := by kernel_rfl
theorem cMa77r : runsK Tryz.prog (pick oMa15) 23 cMa77 = true := by kernel_rfl
theorem cMa81r : runsK Tryz.prog (pick oMa16) 211 cMa81 = true := by kernel_rfl
theorem cMa85r : runsK Tryz.prog (pick oMa16) 211 cMa85 = true := by kernel_rfl
theorem cMa89r : runsK Tryz.prog (pick oMa16) 211 cMa89 = true := by kernel_rfl
theorem cMa100r : runsK Tryz.prog (pick oMa17) 10 cMa100 = true := by kernel_rfl
theorem cMa101r : runsK Tryz.prog (pick oMa17) 10 cMa101 = true := by kernel_rfl
theorem cMa104r : runsK Tryz.prog (pick oMa17) 10 cMa104 = true := by kernel_rfl
theorem cMa108r : runsK Tryz.prog (pick oMa17) 10 cMa108 = true := by kernel_rfl
theorem cMa113r : runsK Tryz.prog (pick oMa17) 10 cMa113 = true := by kernel_rfl
theorem cMa115r : runsK Tryz.prog (pick oMa17) 10 cMa115 = true := by kernel_rfl
end Go.Ev
