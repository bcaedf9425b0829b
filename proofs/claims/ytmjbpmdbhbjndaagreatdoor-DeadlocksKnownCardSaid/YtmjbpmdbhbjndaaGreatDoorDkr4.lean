/- What these calls do, as the kernel reckons it (part 4 of 4). -/
import Derived.Test.YtmjbpmdbhbjndaaGreatDoorDkm
import Derived.KernelRfl
set_option maxRecDepth 4000

namespace Go.Ev
open Go.Proofs
theorem rk1:XK1 ck1=true:=by kernel_rfl
theorem rk8:XK1 ck8=true:=by kernel_rfl
theorem rk13:XK1 ck13=true:=by kernel_rfl
theorem rk15:XK1 ck15=true:=by kernel_rfl
theorem rk25:XK1 ck25=true:=by kernel_rfl
theorem rk29:XK1 ck29=true:=by kernel_rfl
theorem rk30:XK1 ck30=true:=by kernel_rfl
theorem rk32:XK1 ck32=true:=by kernel_rfl
theorem rk40:XK1 ck40=true:=by kernel_rfl
theorem rk46:XK1 ck46=true:=by kernel_rfl
theorem rk51:XK1 ck51=true:=by kernel_rfl
theorem rk62:XK2 ck62=true:=by kernel_rfl
theorem rk70:XK9 ck70=true:=by kernel_rfl
theorem rk71:XK9 ck71=true:=by kernel_rfl
theorem rk72:XK10 ck72=true:=by kernel_rfl
theorem rk76:XK10 ck76=true:=by kernel_rfl
theorem rk84:XK12 ck84=true:=by kernel_rfl
theorem rk88:XK12 ck88=true:=by kernel_rfl
theorem rk91:XK12 ck91=true:=by kernel_rfl
theorem rk97:XK13 ck97=true:=by kernel_rfl
theorem rk98:XK13 ck98=true:=by kernel_rfl
theorem rk99:XK13 ck99=true:=by kernel_rfl
theorem rk100:XK13 ck100=true:=by kernel_rfl
theorem rk101:XK13 ck101=true:=by kernel_rfl
theorem rk103:XK13 ck103=true:=by kernel_rfl
theorem rk111:XK13 ck111=true:=by kernel_rfl
theorem rk116:XK13 ck116=true:=by kernel_rfl
theorem rk121:XK13 ck121=true:=by kernel_rfl
theorem rk122:XK13 ck122=true:=by kernel_rfl
theorem rk123:XK13 ck123=true:=by kernel_rfl
theorem rk126:XK15 ck126=true:=by kernel_rfl
theorem rk127:XK15 ck127=true:=by kernel_rfl
theorem rk132:XK17 ck132=true:=by kernel_rfl
end Go.Ev
