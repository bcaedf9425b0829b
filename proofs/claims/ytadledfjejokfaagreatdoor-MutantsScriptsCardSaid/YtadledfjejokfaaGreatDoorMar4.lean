/- What these calls do, as the kernel reckons it (part 4 of 4). -/
import Derived.Test.YtadledfjejokfaaGreatDoorMam
import Derived.KernelRfl
set_option maxRecDepth 4000

namespace Go.Ev
open Go.Proofs
theorem cMa0r : runsK Tryz.prog (pick orcsL) 21 cMa0 = true := by kernel_rfl
theorem cMa1r : runsK Tryz.prog (pick orcsL) 21 cMa1 = true := by kernel_rfl
theorem cMa2r : runsK Tryz.prog (pick orcsL) 21 cMa2 = true := by kernel_rfl
theorem cMa6r : runsK Tryz.prog (pick oMa1) 147 cMa6 = true := by kernel_rfl
theorem cMa7r : runsK Tryz.prog (pick oMa1) 147 cMa7 = true := by kernel_rfl
theorem cMa9r : runsK Tryz.prog (pick oMa3) 210 cMa9 = true := by kernel_rfl
theorem cMa11r : runsK Tryz.prog (pick oMa3) 210 cMa11 = true := by kernel_rfl
theorem cMa24r : runsK Tryz.prog (pick oMa8) 448 cMa24 = true := by kernel_rfl
theorem cMa31r : runsK Tryz.prog (pick oMa11) 83 cMa31 = true := by kernel_rfl
theorem cMa32r : runsK Tryz.prog (pick oMa11) 83 cMa32 = true := by kernel_rfl
theorem cMa39r : runsK Tryz.prog (pick oMa11) 83 cMa39 = true := by kernel_rfl
theorem cMa41r : runsK Tryz.prog (pick oMa12) 170 cMa41 = true := by kernel_rfl
theorem cMa50r : runsK Tryz.prog (pick oMa13) 196 cMa50 = true := by kernel_rfl
theorem cMa55r : runsK Tryz.prog (pick oMa13) 196 cMa55 = true := by kernel_rfl
theorem cMa57r : runsK Tryz.prog (pick oMa13) 196 cMa57 = true := by kernel_rfl
theorem cMa58r : runsK Tryz.prog (pick oMa13) 196 cMa58 = true := by kernel_rfl
theorem cMa68r : runsK Tryz.prog (pick oMa13) 196 cMa68 = true := by kernel_rfl
theorem cMa70r : runsK Tryz.prog (pick oMa13) 196 cMa70 = true := by kernel_rfl
theorem cMa74r : runsK Tryz.prog (pick oMa14) 200 cMa74 = true := by kernel_rfl
theorem cMa79r : runsK Tryz.prog (pick oMa16) 211 cMa79 = true := by kernel_rfl
theorem cMa82r : runsK Tryz.prog (pick oMa16) 211 cMa82 = true := by kernel_rfl
theorem cMa84r : runsK Tryz.prog (pick oMa16) 211 cMa84 = true := by kernel_rfl
theorem cMa87r : runsK Tryz.prog (pick oMa16) 211 cMa87 = true := by kernel_rfl
theorem cMa92r : runsK Tryz.prog (pick oMa16) 211 cMa92 = true := by kernel_rfl
theorem cMa96r : runsK Tryz.prog (pick oMa17) 10 cMa96 = true := by kernel_rfl
theorem cMa97r : runsK Tryz.prog (pick oMa17) 10 cMa97 = true := by kernel_rfl
theorem cMa98r : runsK Tryz.prog (pick oMa17) 10 cMa98 = true := by kernel_rfl
theorem cMa103r : runsK Tryz.prog (pick oMa17) 10 cMa103 = true := by kernel_rfl
theorem cMa112r : runsK Tryz.prog (pick oMa17) 10 cMa112 = true := by kernel_rfl
theorem cMa118r : runsK Tryz.prog (pick oMa17) 10 cMa118 = true := by kernel_rfl
end Go.Ev
