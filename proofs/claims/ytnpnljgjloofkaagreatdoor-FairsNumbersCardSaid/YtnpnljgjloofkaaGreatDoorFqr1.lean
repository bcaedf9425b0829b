/- What these calls do, as the kernel reckons it. -/
import Derived.Test.YtnpnljgjloofkaaGreatDoorFqm
import Derived.KernelRfl
set_option maxRecDepth 4000

namespace Go.Ev
open Go.Proofs
theorem rk0:XK0 ck0=true:=by kernel_rfl
theorem rk1:XK1 ck1=true:=by kernel_rfl
theorem rk2:XK2 ck2=true:=by kernel_rfl
theorem rk3:XK3 ck3=true:=by kernel_rfl
theorem rk4:XK4 ck4=true:=by kernel_rfl
theorem rk5:XK5 ck5=true:=by kernel_rfl
theorem rk6:XK6 ck6=true:=by kernel_rfl
theorem rk7:XK7 ck7=true:=by kernel_rfl
theorem rk8:XK7 ck8=true:=by kernel_rfl
theorem rk9:XK7 ck9=true:=by kernel_rfl
theorem rk10:XK8 ck10=true:=by kernel_rfl
theorem rk11:XK8 ck11=true:=by kernel_rfl
theorem rk12:XK8 ck12=true:=by kernel_rfl
end Go.Ev
