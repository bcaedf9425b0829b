/- What these calls do, as the kernel reckons it (part 1 of 4). -/
import Derived.Test.YtadledfjejokfaaGreatDoorMam
import Derived.KernelRfl
set_option maxRecDepth 4000

namespace Go.Ev
open Go.Proofs
theorem cMa17r : runsK Tryz.prog (pick oMa3) 210 cMa17 = true := by kernel_rfl
theorem cMa20r : runsK Tryz.prog (pick oMa6) 225 cMa20 = true := by kernel_rfl
theorem cMa22r : runsK Tryz.prog (pick oMa8) 448 cMa22 = true := by kernel_rfl
theorem cMa26r : runsK Tryz.prog (pick oMa8) 448 cMa26 = true := by kernel_rfl
theorem cMa34r : runsK Tryz.prog (pick oMa11) 83 cMa34 = true := by kernel_rfl
theorem cMa35r : runsK Tryz.prog (pick oMa11) 83 cMa35 = true := by kernel_rfl
theorem cMa37r : runsK Tryz.prog (pick oMa11) 83 cMa37 = true := by kernel_rfl
theorem cMa43r : runsK Tryz.prog (pick oMa13) 196 cMa43 = true := by kernel_rfl
theorem cMa46r : runsK Tryz.prog (pick oMa13) 196 cMa46 = true := by kernel_rfl
theorem cMa47r : runsK Tryz.prog (pick oMa13) 196 cMa47 = true := by kernel_rfl
theorem cMa48r : runsK Tryz.prog (pick oMa13) 196 cMa48 = true := by kernel_rfl
theorem cMa51r : runsK Tryz.prog (pick oMa13) 196 cMa51 = true := by kernel_rfl
theorem cMa53r : runsK Tryz.prog (pick oMa13) 196 cMa53 = true := by kernel_rfl
theorem cMa54r : runsK Tryz.prog (pick oMa13) 196 cMa54 = true := by kernel_rfl
theorem cMa56r : runsK Tryz.prog (pick oMa13) 196 cMa56 = true := by kernel_rfl
theorem cMa64r : runsK Tryz.prog (pick oMa13) 196 cMa64 = true := by kernel_rfl
theorem cMa66r : runsK Tryz.prog (pick oMa13) 196 cMa66 = true := by kernel_rfl
theorem cMa78r : runsK Tryz.prog (pick oMa15) 23 cMa78 = true := by kernel_rfl
theorem cMa86r : runsK Tryz.prog (pick oMa16) 211 cMa86 = true := by kernel_rfl
theorem cMa90r : runsK Tryz.prog (pick oMa16) 211 cMa90 = true := by kernel_rfl
theorem cMa91r : runsK Tryz.prog (pick oMa16) 211 cMa91 = true := by kernel_rfl
theorem cMa93r : runsK Tryz.prog (pick oMa17) 10 cMa93 = true := by kernel_rfl
theorem cMa99r : runsK Tryz.prog (pick oMa17) 10 cMa99 = true := by kernel_rfl
theorem cMa102r : runsK Tryz.prog (pick oMa17) 10 cMa102 = true := by kernel_rfl
theorem cMa105r : runsK Tryz.prog (pick oMa17) 10 cMa105 = true := by kernel_rfl
theorem cMa107r : runsK Tryz.prog (pick oMa17) 10 cMa107 = true := by kernel_rfl
theorem cMa110r : runsK Tryz.prog (pick oMa17) 10 cMa110 = true := by kernel_rfl
theorem cMa111r : runsK Tryz.prog (pick oMa17) 10 cMa111 = true := by kernel_rfl
theorem cMa114r : runsK Tryz.prog (pick oMa17) 10 cMa114 = true := by kernel_rfl
theorem cMa119r : runsK Tryz.prog (pick oMa17) 10 cMa119 = true := by kernel_rfl
end Go.Ev
