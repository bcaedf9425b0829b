/- What these calls do, as the kernel reckons it (part 6 of 10). -/
import Derived.Test.YtbkpgmlibiclfaaGreatDoorMkm
import Derived.KernelRfl
set_option maxRecDepth 4000

namespace Go.Ev
open Go.Proofs
theorem rk21:XK4 ck21=true:=by kernel_rfl
theorem rk29:XK8 ck29=true:=by kernel_rfl
theorem rk39:XK10 ck39=true:=by kernel_rfl
theorem rk41:XK10 ck41=true:=by kernel_rfl
theorem rk57:XK14 ck57=true:=by kernel_rfl
theorem rk66:XK15 ck66=true:=by kernel_rfl
theorem rk85:XK16 ck85=true:=by kernel_rfl
theorem rk105:XK16 ck105=true:=by kernel_rfl
theorem rk107:XK16 ck107=true:=by kernel_rfl
theorem rk110:XK16 ck110=true:=by kernel_rfl
theorem rk117:XK16 ck117=true:=by kernel_rfl
theorem rk119:XK17 ck119=true:=by kernel_rfl
theorem rk126:XK18 ck126=true:=by kernel_rfl
theorem rk130:XK18 ck130=true:=by kernel_rfl
theorem rk134:XK19 ck134=true:=by kernel_rfl
theorem rk138:XK19 ck138=true:=by kernel_rfl
theorem rk142:XK19 ck142=true:=by kernel_rfl
theorem rk149:XK19 ck149=true:=by kernel_rfl
theorem rk167:XK19 ck167=true:=by kernel_rfl
theorem rk191:XK19 ck191=true:=by kernel_rfl
theorem rk197:XK19 ck197=true:=by kernel_rfl
theorem rk204:XK19 ck204=true:=by kernel_rfl
theorem rk205:XK19 ck205=true:=by kernel_rfl
theorem rk214:XK19 ck214=true:=by kernel_rfl
theorem rk238:XK19 ck238=true:=by kernel_rfl
theorem rk245:XK19 ck245=true:=by kernel_rfl
theorem rk260:XK19 ck260=true:=by kernel_rfl
theorem rk271:XK20 ck271=true:=by kernel_rfl
theorem rk273:XK20 ck273=true:=by kernel_rfl
theorem rk295:XK22 ck295=true:=by kernel_rfl
theorem rk307:XK22 ck307=true:=by kernel_rfl
theorem rk312:XK22 ck312=true:=by kernel_rfl
theorem rk322:XK22 ck322=true:=by kernel_rfl
theorem rk323:XK22 ck323=true:=by kernel_rfl
theorem rk334:XK22 ck334=true:=by kernel_rfl
theorem rk349:XK22 ck349=true:=by kernel_rfl
theorem rk369:XK22 ck369=true:=by kernel_rfl
theorem rk374:XK22 ck374=true:=by kernel_rfl
theorem rk375:XK22 ck375=true:=by kernel_rfl
theorem rk391:XK22 ck391=true:=by kernel_rfl
theorem rk402:XK22 ck402=true:=by kernel_rfl
theorem rk416:XK22 ck416=true:=by kernel_rfl
theorem rk421:XK22 ck421=true:=by kernel_rfl
theorem rk429:XK22 ck429=true:=by kernel_rfl
theorem rk436:XK22 ck436=true:=by kernel_rfl
theorem rk451:XK22 ck451=true:=by kernel_rfl
theorem rk455:XK22 ck455=true:=by kernel_rfl
theorem rk469:XK22 ck469=true:=by kernel_rfl
end Go.Ev
