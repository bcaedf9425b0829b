/- What these calls do, as the kernel reckons it (part 2 of 4). -/
import Derived.Test.YtmjbpmdbhbjndaaGreatDoorDkm
import Derived.KernelRfl
set_option maxRecDepth 4000

namespace Go.Ev
open Go.Proofs
theorem rk2:XK1 ck2=true:=by kernel_rfl
theorem rk5:XK1 ck5=true:=by kernel_rfl
theorem rk9:XK1 ck9=true:=by kernel_rfl
theorem rk14:XK1 ck14=true:=by kernel_rfl
theorem rk17:XK1 ck17=true:=by kernel_rfl
theorem rk20:XK1 ck20=true:=by kernel_rfl
theorem rk31:XK1 ck31=true:=by kernel_rfl
theorem rk34:XK1 ck34=true:=by kernel_rfl
theorem rk41:XK1 ck41=true:=by kernel_rfl
theorem rk44:XK1 ck44=true:=by kernel_rfl
theorem rk48:XK1 ck48=true:=by kernel_rfl
theorem rk53:XK1 ck53=true:=by kernel_rfl
theorem rk55:XK1 ck55=true:=by kernel_rfl
theorem rk57:XK1 ck57=true:=by kernel_rfl
theorem rk58:XK1 ck58=true:=by kernel_rfl
theorem rk61:XK1 ck61=true:=by kernel_rfl
theorem rk63:XK3 ck63=true:=by kernel_rfl
theorem rk68:XK8 ck68=true:=by kernel_rfl
theorem rk74:XK10 ck74=true:=by kernel_rfl
theorem rk75:XK10 ck75=true:=by kernel_rfl
theorem rk77:XK10 ck77=true:=by kernel_rfl
theorem rk79:XK10 ck79=true:=by kernel_rfl
theorem rk81:XK10 ck81=true:=by kernel_rfl
theorem rk86:XK12 ck86=true:=by kernel_rfl
theorem rk89:XK12 ck89=true:=by kernel_rfl
theorem rk94:XK13 ck94=true:=by kernel_rfl
theorem rk96:XK13 ck96=true:=by kernel_rfl
theorem rk104:XK13 ck104=true:=by kernel_rfl
theorem rk110:XK13 ck110=true:=by kernel_rfl
theorem rk118:XK13 ck118=true:=by kernel_rfl
theorem rk129:XK16 ck129=true:=by kernel_rfl
theorem rk130:XK16 ck130=true:=by kernel_rfl
theorem rk133:XK18 ck133=true:=by kernel_rfl
end Go.Ev
