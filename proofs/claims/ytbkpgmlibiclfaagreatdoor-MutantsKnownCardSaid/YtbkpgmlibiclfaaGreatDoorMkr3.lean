/- What these calls do, as the kernel reckons it (part 3 of 10). -/
import Derived.Test.YtbkpgmlibiclfaaGreatDoorMkm
import Derived.KernelRfl
set_option maxRecDepth 4000

namespace Go.Ev
open Go.Proofs
theorem rk1:XK0 ck1=true:=by kernel_rfl
theorem rk19:XK4 ck19=true:=by kernel_rfl
theorem rk26:XK5 ck26=true:=by kernel_rfl
theorem rk27:XK6 ck27=true:=by kernel_rfl
theorem rk32:XK9 ck32=true:=by kernel_rfl
theorem rk49:XK10 ck49=true:=by kernel_rfl
theorem rk52:XK12 ck52=true:=by kernel_rfl
theorem rk58:XK14 ck58=true:=by kernel_rfl
theorem rk63:XK14 ck63=true:=by kernel_rfl
theorem rk65:XK15 ck65=true:=by kernel_rfl
theorem rk72:XK15 ck72=true:=by kernel_rfl
theorem rk73:XK15 ck73=true:=by kernel_rfl
theorem rk76:XK15 ck76=true:=by kernel_rfl
theorem rk88:XK16 ck88=true:=by kernel_rfl
theorem rk132:XK18 ck132=true:=by kernel_rfl
theorem rk143:XK19 ck143=true:=by kernel_rfl
theorem rk160:XK19 ck160=true:=by kernel_rfl
theorem rk170:XK19 ck170=true:=by kernel_rfl
theorem rk179:XK19 ck179=true:=by kernel_rfl
theorem rk185:XK19 ck185=true:=by kernel_rfl
theorem rk186:XK19 ck186=true:=by kernel_rfl
theorem rk192:XK19 ck192=true:=by kernel_rfl
theorem rk210:XK19 ck210=true:=by kernel_rfl
theorem rk218:XK19 ck218=true:=by kernel_rfl
theorem rk219:XK19 ck219=true:=by kernel_rfl
theorem rk220:XK19 ck220=true:=by kernel_rfl
theorem rk234:XK19 ck234=true:=by kernel_rfl
theorem rk272:XK20 ck272=true:=by kernel_rfl
theorem rk277:XK20 ck277=true:=by kernel_rfl
theorem rk280:XK20 ck280=true:=by kernel_rfl
theorem rk284:XK22 ck284=true:=by kernel_rfl
theorem rk291:XK22 ck291=true:=by kernel_rfl
theorem rk305:XK22 ck305=true:=by kernel_rfl
theorem rk316:XK22 ck316=true:=by kernel_rfl
theorem rk317:XK22 ck317=true:=by kernel_rfl
theorem rk319:XK22 ck319=true:=by kernel_rfl
theorem rk345:XK22 ck345=true:=by kernel_rfl
theorem rk348:XK22 ck348=true:=by kernel_rfl
theorem rk356:XK22 ck356=true:=by kernel_rfl
theorem rk361:XK22 ck361=true:=by kernel_rfl
theorem rk370:XK22 ck370=true:=by kernel_rfl
theorem rk378:XK22 ck378=true:=by kernel_rfl
theorem rk389:XK22 ck389=true:=by kernel_rfl
theorem rk395:XK22 ck395=true:=by kernel_rfl
theorem rk403:XK22 ck403=true:=by kernel_rfl
theorem rk411:XK22 ck411=true:=by kernel_rfl
theorem rk430:XK22 ck430=true:=by kernel_rfl
theorem rk433:XK22 ck433=true:=by kernel_rfl
theorem rk444:XK22 ck444=true:=by kernel_rfl
theorem rk456:XK22 ck456=true:=by kernel_rfl
theorem rk480:XK24 ck480=true:=by kernel_rfl
theorem rk481:XK24 ck481=true:=by kernel_rfl
end Go.Ev
