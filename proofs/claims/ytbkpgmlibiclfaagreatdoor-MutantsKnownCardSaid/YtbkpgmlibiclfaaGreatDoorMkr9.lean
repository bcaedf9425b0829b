/- What these calls do, as the kernel reckons it (part 9 of 10). -/
import Derived.Test.YtbkpgmlibiclfaaGreatDoorMkm
import Derived.KernelRfl
set_option maxRecDepth 4000

namespace Go.Ev
open Go.Proofs
theorem rk5:XK0 ck5=true:=by kernel_rfl
theorem rk31:XK9 ck31=true:=by kernel_rfl
theorem rk42:XK10 ck42=true:=by kernel_rfl
theorem rk43:XK10 ck43=true:=by kernel_rfl
theorem rk53:XK13 ck53=true:=by kernel_rfl
theorem rk59:XK14 ck59=true:=by kernel_rfl
theorem rk61:XK14 ck61=true:=by kernel_rfl
theorem rk69:XK15 ck69=true:=by kernel_rfl
theorem rk75:XK15 ck75=true:=by kernel_rfl
theorem rk82:XK16 ck82=true:=by kernel_rfl
theorem rk84:XK16 ck84=true:=by kernel_rfl
theorem rk127:XK18 ck127=true:=by kernel_rfl
theorem rk135:XK19 ck135=true:=by kernel_rfl
theorem rk144:XK19 ck144=true:=by kernel_rfl
theorem rk145:XK19 ck145=true:=by kernel_rfl
theorem rk148:XK19 ck148=true:=by kernel_rfl
theorem rk150:XK19 ck150=true:=by kernel_rfl
theorem rk178:XK19 ck178=true:=by kernel_rfl
theorem rk195:XK19 ck195=true:=by kernel_rfl
theorem rk229:XK19 ck229=true:=by kernel_rfl
theorem rk230:XK19 ck230=true:=by kernel_rfl
theorem rk231:XK19 ck231=true:=by kernel_rfl
theorem rk232:XK19 ck232=true:=by kernel_rfl
theorem rk235:XK19 ck235=true:=by kernel_rfl
theorem rk261:XK19 ck261=true:=by kernel_rfl
theorem rk264:XK19 ck264=true:=by kernel_rfl
theorem rk281:XK21 ck281=true:=by kernel_rfl
theorem rk301:XK22 ck301=true:=by kernel_rfl
theorem rk302:XK22 ck302=true:=by kernel_rfl
theorem rk311:XK22 ck311=true:=by kernel_rfl
theorem rk315:XK22 ck315=true:=by kernel_rfl
theorem rk328:XK22 ck328=true:=by kernel_rfl
theorem rk332:XK22 ck332=true:=by kernel_rfl
theorem rk372:XK22 ck372=true:=by kernel_rfl
theorem rk373:XK22 ck373=true:=by kernel_rfl
theorem rk377:XK22 ck377=true:=by kernel_rfl
theorem rk384:XK22 ck384=true:=by kernel_rfl
theorem rk394:XK22 ck394=true:=by kernel_rfl
theorem rk396:XK22 ck396=true:=by kernel_rfl
theorem rk400:XK22 ck400=true:=by kernel_rfl
theorem rk410:XK22 ck410=true:=by kernel_rfl
theorem rk439:XK22 ck439=true:=by kernel_rfl
theorem rk457:XK22 ck457=true:=by kernel_rfl
theorem rk460:XK22 ck460=true:=by kernel_rfl
theorem rk463:XK22 ck463=true:=by kernel_rfl
theorem rk465:XK22 ck465=true:=by kernel_rfl
theorem rk467:XK22 ck467=true:=by kernel_rfl
theorem rk472:XK23 ck472=true:=by kernel_rfl
theorem rk479:XK24 ck479=true:=by kernel_rfl
end Go.Ev
