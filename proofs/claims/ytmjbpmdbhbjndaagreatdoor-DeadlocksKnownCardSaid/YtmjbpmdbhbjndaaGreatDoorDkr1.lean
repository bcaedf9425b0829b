/- What these calls do, as the kernel reckons it (part 1 of 4). -/
import Derived.Test.YtmjbpmdbhbjndaaGreatDoorDkm
import Derived.KernelRfl
set_option maxRecDepth 4000

namespace Go.Ev
open Go.Proofs
theorem rk0:XK0 ck0=true:=by kernel_rfl
theorem rk4:XK1 ck4=true:=by kernel_rfl
theorem rk6:XK1 ck6=true:=by kernel_rfl
theorem rk7:XK1 ck7=true:=by kernel_rfl
theorem rk11:XK1 ck11=true:=by kernel_rfl
theorem rk12:XK1 ck12=true:=by kernel_rfl
theorem rk16:XK1 ck16=true:=by kernel_rfl
theorem rk18:XK1 ck18=true:=by kernel_rfl
theorem rk23:XK1 ck23=true:=by kernel_rfl
theorem rk33:XK1 ck33=true:=by kernel_rfl
theorem rk37:XK1 ck37=true:=by kernel_rfl
theorem rk39:XK1 ck39=true:=by kernel_rfl
theorem rk42:XK1 ck42=true:=by kernel_rfl
theorem rk45:XK1 ck45=true:=by kernel_rfl
theorem rk49:XK1 ck49=true:=by kernel_rfl
theorem rk52:XK1 ck52=true:=by kernel_rfl
theorem rk56:XK1 ck56=true:=by kernel_rfl
theorem rk60:XK1 ck60=true:=by kernel_rfl
theorem rk65:XK5 ck65=true:=by kernel_rfl
theorem rk66:XK6 ck66=true:=by kernel_rfl
theorem rk67:XK7 ck67=true:=by kernel_rfl
theorem rk73:XK10 ck73=true:=by kernel_rfl
theorem rk78:XK10 ck78=true:=by kernel_rfl
theorem rk80:XK10 ck80=true:=by kernel_rfl
theorem rk82:XK11 ck82=true:=by kernel_rfl
theorem rk85:XK12 ck85=true:=by kernel_rfl
theorem rk87:XK12 ck87=true:=by kernel_rfl
theorem rk105:XK13 ck105=true:=by kernel_rfl
theorem rk109:XK13 ck109=true:=by kernel_rfl
theorem rk112:XK13 ck112=true:=by kernel_rfl
theorem rk114:XK13 ck114=true:=by kernel_rfl
theorem rk115:XK13 ck115=true:=by kernel_rfl
theorem rk119:XK13 ck119=true:=by kernel_rfl
theorem rk125:XK14 ck125=true:=by kernel_rfl
theorem rk131:XK16 ck131=true:=by kernel_rfl
end Go.Ev
