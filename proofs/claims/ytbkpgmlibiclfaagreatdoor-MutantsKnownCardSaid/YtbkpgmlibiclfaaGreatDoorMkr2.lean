/- What these calls do, as the kernel reckons it (part 2 of 10). -/
import Derived.Test.YtbkpgmlibiclfaaGreatDoorMkm
import Derived.KernelRfl
set_option maxRecDepth 4000

namespace Go.Ev
open Go.Proofs
theorem rk3:XK0 ck3=true:=by kernel_rfl
theorem rk16:XK4 ck16=true:=by kernel_rfl
theorem rk25:XK4 ck25=true:=by kernel_rfl
theorem rk37:XK10 ck37=true:=by kernel_rfl
theorem rk44:XK10 ck44=true:=by kernel_rfl
theorem rk50:XK10 ck50=true:=by kernel_rfl
theorem rk54:XK14 ck54=true:=by kernel_rfl
theorem rk64:XK15 ck64=true:=by kernel_rfl
theorem rk80:XK15 ck80=true:=by kernel_rfl
theorem rk86:XK16 ck86=true:=by kernel_rfl
theorem rk116:XK16 ck116=true:=by kernel_rfl
theorem rk133:XK18 ck133=true:=by kernel_rfl
theorem rk153:XK19 ck153=true:=by kernel_rfl
theorem rk155:XK19 ck155=true:=by kernel_rfl
theorem rk158:XK19 ck158=true:=by kernel_rfl
theorem rk163:XK19 ck163=true:=by kernel_rfl
theorem rk169:XK19 ck169=true:=by kernel_rfl
theorem rk183:XK19 ck183=true:=by kernel_rfl
theorem rk221:XK19 ck221=true:=by kernel_rfl
theorem rk225:XK19 ck225=true:=by kernel_rfl
theorem rk228:XK19 ck228=true:=by kernel_rfl
theorem rk259:XK19 ck259=true:=by kernel_rfl
theorem rk279:XK20 ck279=true:=by kernel_rfl
theorem rk283:XK22 ck283=true:=by kernel_rfl
theorem rk286:XK22 ck286=true:=by kernel_rfl
theorem rk293:XK22 ck293=true:=by kernel_rfl
theorem rk294:XK22 ck294=true:=by kernel_rfl
theorem rk310:XK22 ck310=true:=by kernel_rfl
theorem rk330:XK22 ck330=true:=by kernel_rfl
theorem rk338:XK22 ck338=true:=by kernel_rfl
theorem rk344:XK22 ck344=true:=by kernel_rfl
theorem rk353:XK22 ck353=true:=by kernel_rfl
theorem rk357:XK22 ck357=true:=by kernel_rfl
theorem rk365:XK22 ck365=true:=by kernel_rfl
theorem rk371:XK22 ck371=true:=by kernel_rfl
theorem rk388:XK22 ck388=true:=by kernel_rfl
theorem rk390:XK22 ck390=true:=by kernel_rfl
theorem rk409:XK22 ck409=true:=by kernel_rfl
theorem rk415:XK22 ck415=true:=by kernel_rfl
theorem rk419:XK22 ck419=true:=by kernel_rfl
theorem rk424:XK22 ck424=true:=by kernel_rfl
theorem rk443:XK22 ck443=true:=by kernel_rfl
theorem rk449:XK22 ck449=true:=by kernel_rfl
theorem rk452:XK22 ck452=true:=by kernel_rfl
theorem rk464:XK22 ck464=true:=by kernel_rfl
theorem rk471:XK22 ck471=true:=by kernel_rfl
theorem rk475:XK24 ck475=true:=by kernel_rfl
end Go.Ev
