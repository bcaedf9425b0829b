/- What these calls do, as the kernel reckons it (part 5 of 10). -/
import Derived.Test.YtbkpgmlibiclfaaGreatDoorMkm
import Derived.KernelRfl
set_option maxRecDepth 4000

namespace Go.Ev
open Go.Proofs
theorem rk15:XK4 ck15=true:=by kernel_rfl
theorem rk22:XK4 ck22=true:=by kernel_rfl
theorem rk30:XK9 ck30=true:=by kernel_rfl
theorem rk51:XK11 ck51=true:=by kernel_rfl
theorem rk62:XK14 ck62=true:=by kernel_rfl
theorem rk78:XK15 ck78=true:=by kernel_rfl
theorem rk79:XK15 ck79=true:=by kernel_rfl
theorem rk81:XK15 ck81=true:=by kernel_rfl
theorem rk87:XK16 ck87=true:=by kernel_rfl
theorem rk94:XK16 ck94=true:=by kernel_rfl
theorem rk104:XK16 ck104=true:=by kernel_rfl
theorem rk108:XK16 ck108=true:=by kernel_rfl
theorem rk113:XK16 ck113=true:=by kernel_rfl
theorem rk118:XK16 ck118=true:=by kernel_rfl
theorem rk136:XK19 ck136=true:=by kernel_rfl
theorem rk137:XK19 ck137=true:=by kernel_rfl
theorem rk173:XK19 ck173=true:=by kernel_rfl
theorem rk181:XK19 ck181=true:=by kernel_rfl
theorem rk184:XK19 ck184=true:=by kernel_rfl
theorem rk236:XK19 ck236=true:=by kernel_rfl
theorem rk246:XK19 ck246=true:=by kernel_rfl
theorem rk250:XK19 ck250=true:=by kernel_rfl
theorem rk252:XK19 ck252=true:=by kernel_rfl
theorem rk263:XK19 ck263=true:=by kernel_rfl
theorem rk268:XK19 ck268=true:=by kernel_rfl
theorem rk270:XK20 ck270=true:=by kernel_rfl
theorem rk275:XK20 ck275=true:=by kernel_rfl
theorem rk285:XK22 ck285=true:=by kernel_rfl
theorem rk287:XK22 ck287=true:=by kernel_rfl
theorem rk314:XK22 ck314=true:=by kernel_rfl
theorem rk333:XK22 ck333=true:=by kernel_rfl
theorem rk335:XK22 ck335=true:=by kernel_rfl
theorem rk346:XK22 ck346=true:=by kernel_rfl
theorem rk350:XK22 ck350=true:=by kernel_rfl
theorem rk359:XK22 ck359=true:=by kernel_rfl
theorem rk364:XK22 ck364=true:=by kernel_rfl
theorem rk397:XK22 ck397=true:=by kernel_rfl
theorem rk401:XK22 ck401=true:=by kernel_rfl
theorem rk406:XK22 ck406=true:=by kernel_rfl
theorem rk408:XK22 ck408=true:=by kernel_rfl
theorem rk417:XK22 ck417=true:=by kernel_rfl
theorem rk434:XK22 ck434=true:=by kernel_rfl
theorem rk442:XK22 ck442=true:=by kernel_rfl
theorem rk450:XK22 ck450=true:=by kernel_rfl
theorem rk453:XK22 ck453=true:=by kernel_rfl
theorem rk458:XK22 ck458=true:=by kernel_rfl
theorem rk468:XK22 ck468=true:=by kernel_rfl
theorem rk478:XK24 ck478=true:=by kernel_rfl
end Go.Ev
