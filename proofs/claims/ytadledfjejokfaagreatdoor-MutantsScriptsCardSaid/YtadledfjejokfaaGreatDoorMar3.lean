/- What these calls do, as the kernel reckons it (part 3 of 4). -/
import Derived.Test.YtadledfjejokfaaGreatDoorMam
import Derived.KernelRfl
set_option maxRecDepth 4000

namespace Go.Ev
open Go.Proofs
theorem cMa3r : runsK Tryz.prog (pick orcsL) 21 cMa3 = true := by kernel_rfl
theorem cMa4r : runsK Tryz.prog (pick orcsL) 21 cMa4 = true := by kernel_rfl
theorem cMa8r : runsK Tryz.prog (pick oMa2) 168 cMa8 = true := by kernel_rfl
theorem cMa12r : runsK Tryz.prog (pick oMa3) 210 cMa12 = true := by kernel_rfl
theorem cMa14r : runsK Tryz.prog (pick oMa3) 210 cMa14 = true := by kernel_rfl
theorem cMa15r : runsK Tryz.prog (pick oMa3) 210 cMa15 = true := by kernel_rfl
theorem cMa21r : runsK Tryz.prog (pick oMa7) 447 cMa21 = true := by kernel_rfl
theorem cMa23r : runsK Tryz.prog (pick oMa8) 448 cMa23 = true := by kernel_rfl
theorem cMa28r : runsK Tryz.prog (pick oMa9) 124 cMa28 = true := by kernel_rfl
theorem cMa33r : runsK Tryz.prog (pick oMa11) 83 cMa33 = true := by kernel_rfl
theorem cMa38r : runsK Tryz.prog (pick oMa11) 83 cMa38 = true := by kernel_rfl
theorem cMa42r : runsK Tryz.prog (pick oMa12) 170 cMa42 = true := by kernel_rfl
theorem cMa44r : runsK Tryz.prog (pick oMa13) 196 cMa44 = true := by kernel_rfl
theorem cMa45r : runsK Tryz.prog (pick oMa13) 196 cMa45 = true := by kernel_rfl
theorem cMa52r : runsK Tryz.prog (pick oMa13) 196 cMa52 = true := by kernel_rfl
theorem cMa62r : runsK Tryz.prog (pick oMa13) 196 cMa62 = true := by kernel_rfl
theorem cMa63r : runsK Tryz.prog (pick oMa13) 196 cMa63 = true := by kernel_rfl
theorem cMa71r : runsK Tryz.prog (pick oMa13) 196 cMa71 = true := by kernel_rfl
theorem cMa73r : runsK Tryz.prog (pick oMa14) 200 cMa73 = true := by kernel_rfl
theorem cMa76r : runsK Tryz.prog (pick oMa15) 23 cMa76 = true := by kernel_rfl
theorem cMa80r : runsK Tryz.prog (pick oMa16) 211 cMa80 = true := by kernel_rfl
theorem cMa83r : runsK Tryz.prog (pick oMa16) 211 cMa83 = true := by kernel_rfl
theorem cMa88r : runsK Tryz.prog (pick oMa16) 211 cMa88 = true := by kernel_rfl
theorem cMa94r : runsK Tryz.prog (pick oMa17) 10 cMa94 = true := by kernel_rfl
theorem cMa95r : runsK Tryz.prog (pick oMa17) 10 cMa95 = true := by kernel_rfl
theorem cMa106r : runsK Tryz.prog (pick oMa17) 10 cMa106 = true := by kernel_rfl
theorem cMa109r : runsK Tryz.prog (pick oMa17) 10 cMa109 = true := by kernel_rfl
theorem cMa116r : runsK Tryz.prog (pick oMa17) 10 cMa116 = true := by kernel_rfl
theorem cMa117r : runsK Tryz.prog (pick oMa17) 10 cMa117 = true := by kernel_rfl
theorem cMa120r : runsK Tryz.prog (pick oMa18) 6 cMa120 = true := by kernel_rfl
end Go.Ev
