/- What these calls do, as the kernel reckons it (part 7 of 10). -/
import Derived.Test.YtbkpgmlibiclfaaGreatDoorMkm
import Derived.KernelRfl
set_option maxRecDepth 4000

namespace Go.Ev
open Go.Proofs
theorem rk12:XK3 ck12=true:=by kernel_rfl
theorem rk24:XK4 ck24=true:=by kernel_rfl
theorem rk70:XK15 ck70=true:=by kernel_rfl
theorem rk77:XK15 ck77=true:=by kernel_rfl
theorem rk90:XK16 ck90=true:=by kernel_rfl
theorem rk93:XK16 ck93=true:=by kernel_rfl
theorem rk99:XK16 ck99=true:=by kernel_rfl
theorem rk114:XK16 ck114=true:=by kernel_rfl
theorem rk124:XK18 ck124=true:=by kernel_rfl
theorem rk139:XK19 ck139=true:=by kernel_rfl
theorem rk147:XK19 ck147=true:=by kernel_rfl
theorem rk157:XK19 ck157=true:=by kernel_rfl
theorem rk172:XK19 ck172=true:=by kernel_rfl
theorem rk182:XK19 ck182=true:=by kernel_rfl
theorem rk198:XK19 ck198=true:=by kernel_rfl
theorem rk201:XK19 ck201=true:=by kernel_rfl
theorem rk202:XK19 ck202=true:=by kernel_rfl
theorem rk215:XK19 ck215=true:=by kernel_rfl
theorem rk224:XK19 ck224=true:=by kernel_rfl
theorem rk248:XK19 ck248=true:=by kernel_rfl
theorem rk249:XK19 ck249=true:=by kernel_rfl
theorem rk256:XK19 ck256=true:=by kernel_rfl
theorem rk257:XK19 ck257=true:=by kernel_rfl
theorem rk258:XK19 ck258=true:=by kernel_rfl
theorem rk269:XK19 ck269=true:=by kernel_rfl
theorem rk274:XK20 ck274=true:=by kernel_rfl
theorem rk276:XK20 ck276=true:=by kernel_rfl
theorem rk296:XK22 ck296=true:=by kernel_rfl
theorem rk297:XK22 ck297=true:=by kernel_rfl
theorem rk298:XK22 ck298=true:=by kernel_rfl
theorem rk313:XK22 ck313=true:=by kernel_rfl
theorem rk337:XK22 ck337=true:=by kernel_rfl
theorem rk354:XK22 ck354=true:=by kernel_rfl
theorem rk358:XK22 ck358=true:=by kernel_rfl
theorem rk363:XK22 ck363=true:=by kernel_rfl
theorem rk376:XK22 ck376=true:=by kernel_rfl
theorem rk387:XK22 ck387=true:=by kernel_rfl
theorem rk413:XK22 ck413=true:=by kernel_rfl
theorem rk414:XK22 ck414=true:=by kernel_rfl
theorem rk423:XK22 ck423=true:=by kernel_rfl
theorem rk428:XK22 ck428=true:=by kernel_rfl
theorem rk431:XK22 ck431=true:=by kernel_rfl
theorem rk437:XK22 ck437=true:=by kernel_rfl
theorem rk440:XK22 ck440=true:=by kernel_rfl
theorem rk447:XK22 ck447=true:=by kernel_rfl
theorem rk470:XK22 ck470=true:=by kernel_rfl
theorem rk473:XK23 ck473=true:=by kernel_rfl
theorem rk483:XK24 ck483=true:=by kernel_rfl
end Go.Ev
