/- What these calls do, as the kernel reckons it (part 3 of 4). -/
import Derived.Test.YtmjbpmdbhbjndaaGreatDoorDkm
import Derived.KernelRfl
set_option maxRecDepth 4000

namespace Go.Ev
open Go.Proofs
theorem rk3:XK1 ck3=true:=by kernel_rfl
theorem rk10:XK1 ck10=true:=by kernel_rfl
theorem rk19:XK1 ck19=true:=by kernel_rfl
theorem rk21:XK1 ck21=true:=by kernel_rfl
theorem rk22:XK1 ck22=true:=by kernel_rfl
theorem rk24:XK1 ck24=true:=by kernel_rfl
theorem rk26:XK1 ck26=true:=by kernel_rfl
theorem rk27:XK1 ck27=true:=by kernel_rfl
theorem rk28:XK1 ck28=true:=by kernel_rfl
theorem rk35:XK1 ck35=true:=by kernel_rfl
theorem rk36:XK1 ck36=true:=by kernel_rfl
theorem rk38:XK1 ck38=true:=by kernel_rfl
theorem rk43:XK1 ck43=true:=by kernel_rfl
theorem rk47:XK1 ck47=true:=by kernel_rfl
theorem rk50:XK1 ck50=true:=by kernel_rfl
theorem rk54:XK1 ck54=true:=by kernel_rfl
theorem rk59:XK1 ck59=true:=by kernel_rfl
theorem rk64:XK4 ck64=true:=by kernel_rfl
theorem rk69:XK9 ck69=true:=by kernel_rfl
theorem rk83:XK12 ck83=true:=by kernel_rfl
theorem rk90:XK12 ck90=true:=by kernel_rfl
theorem rk92:XK13 ck92=true:=by kernel_rfl
theorem rk93:XK13 ck93=true:=by kernel_rfl
theorem rk95:XK13 ck95=true:=by kernel_rfl
theorem rk102:XK13 ck102=true:=by kernel_rfl
theorem rk106:XK13 ck106=true:=by kernel_rfl
theorem rk107:XK13 ck107=true:=by kernel_rfl
theorem rk108:XK13 ck108=true:=by kernel_rfl
theorem rk113:XK13 ck113=true:=by kernel_rfl
theorem rk117:XK13 ck117=true:=by kernel_rfl
theorem rk120:XK13 ck120=true:=by kernel_rfl
theorem rk124:XK13 ck124=true:=by kernel_rfl
theorem rk128:XK15 ck128=true:=by kernel_rfl
end Go.Ev
