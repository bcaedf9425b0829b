/- What these calls do, as the kernel reckons it (part 8 of 10). -/
import Derived.Test.YtbkpgmlibiclfaaGreatDoorMkm
import Derived.KernelRfl
set_option maxRecDepth 4000

namespace Go.Ev
open Go.Proofs
theorem rk0:XK0 ck0=true:=by kernel_rfl
theorem rk6:XK0 ck6=true:=by kernel_rfl
theorem rk9:XK0 ck9=true:=by kernel_rfl
theorem rk11:XK2 ck11=true:=by kernel_rfl
theorem rk17:XK4 ck17=true:=by kernel_rfl
theorem rk34:XK9 ck34=true:=by kernel_rfl
theorem rk40:XK10 ck40=true:=by kernel_rfl
theorem rk46:XK10 ck46=true:=by kernel_rfl
theorem rk47:XK10 ck47=true:=by kernel_rfl
theorem rk48:XK10 ck48=true:=by kernel_rfl
theorem rk96:XK16 ck96=true:=by kernel_rfl
theorem rk106:XK16 ck106=true:=by kernel_rfl
theorem rk125:XK18 ck125=true:=by kernel_rfl
theorem rk128:XK18 ck128=true:=by kernel_rfl
theorem rk129:XK18 ck129=true:=by kernel_rfl
theorem rk140:XK19 ck140=true:=by kernel_rfl
theorem rk141:XK19 ck141=true:=by kernel_rfl
theorem rk159:XK19 ck159=true:=by kernel_rfl
theorem rk164:XK19 ck164=true:=by kernel_rfl
theorem rk166:XK19 ck166=true:=by kernel_rfl
theorem rk196:XK19 ck196=true:=by kernel_rfl
theorem rk199:XK19 ck199=true:=by kernel_rfl
theorem rk200:XK19 ck200=true:=by kernel_rfl
theorem rk203:XK19 ck203=true:=by kernel_rfl
theorem rk216:XK19 ck216=true:=by kernel_rfl
theorem rk240:XK19 ck240=true:=by kernel_rfl
theorem rk247:XK19 ck247=true:=by kernel_rfl
theorem rk254:XK19 ck254=true:=by kernel_rfl
theorem rk255:XK19 ck255=true:=by kernel_rfl
theorem rk265:XK19 ck265=true:=by kernel_rfl
theorem rk266:XK19 ck266=true:=by kernel_rfl
theorem rk290:XK22 ck290=true:=by kernel_rfl
theorem rk303:XK22 ck303=true:=by kernel_rfl
theorem rk308:XK22 ck308=true:=by kernel_rfl
theorem rk320:XK22 ck320=true:=by kernel_rfl
theorem rk329:XK22 ck329=true:=by kernel_rfl
theorem rk331:XK22 ck331=true:=by kernel_rfl
theorem rk347:XK22 ck347=true:=by kernel_rfl
theorem rk368:XK22 ck368=true:=by kernel_rfl
theorem rk398:XK22 ck398=true:=by kernel_rfl
theorem rk399:XK22 ck399=true:=by kernel_rfl
theorem rk412:XK22 ck412=true:=by kernel_rfl
theorem rk422:XK22 ck422=true:=by kernel_rfl
theorem rk427:XK22 ck427=true:=by kernel_rfl
theorem rk432:XK22 ck432=true:=by kernel_rfl
theorem rk441:XK22 ck441=true:=by kernel_rfl
theorem rk445:XK22 ck445=true:=by kernel_rfl
theorem rk459:XK22 ck459=true:=by kernel_rfl
theorem rk482:XK24 ck482=true:=by kernel_rfl
end Go.Ev
