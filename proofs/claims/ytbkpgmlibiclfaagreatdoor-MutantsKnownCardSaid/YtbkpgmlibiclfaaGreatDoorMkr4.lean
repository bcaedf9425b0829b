/- What these calls do, as the kernel reckons it (part 4 of 10). -/
import Derived.Test.YtbkpgmlibiclfaaGreatDoorMkm
import Derived.KernelRfl
set_option maxRecDepth 4000

namespace Go.Ev
open Go.Proofs
theorem rk2:XK0 ck2=true:=by kernel_rfl
theorem rk4:XK0 ck4=true:=by kernel_rfl
theorem rk8:XK0 ck8=true:=by kernel_rfl
theorem rk13:XK4 ck13=true:=by kernel_rfl
theorem rk28:XK7 ck28=true:=by kernel_rfl
theorem rk38:XK10 ck38=true:=by kernel_rfl
theorem rk89:XK16 ck89=true:=by kernel_rfl
theorem rk97:XK16 ck97=true:=by kernel_rfl
theorem rk98:XK16 ck98=true:=by kernel_rfl
theorem rk101:XK16 ck101=true:=by kernel_rfl
theorem rk109:XK16 ck109=true:=by kernel_rfl
theorem rk115:XK16 ck115=true:=by kernel_rfl
theorem rk120:XK17 ck120=true:=by kernel_rfl
theorem rk123:XK17 ck123=true:=by kernel_rfl
theorem rk151:XK19 ck151=true:=by kernel_rfl
theorem rk152:XK19 ck152=true:=by kernel_rfl
theorem rk176:XK19 ck176=true:=by kernel_rfl
theorem rk177:XK19 ck177=true:=by kernel_rfl
theorem rk180:XK19 ck180=true:=by kernel_rfl
theorem rk189:XK19 ck189=true:=by kernel_rfl
theorem rk193:XK19 ck193=true:=by kernel_rfl
theorem rk207:XK19 ck207=true:=by kernel_rfl
theorem rk209:XK19 ck209=true:=by kernel_rfl
theorem rk212:XK19 ck212=true:=by kernel_rfl
theorem rk213:XK19 ck213=true:=by kernel_rfl
theorem rk217:XK19 ck217=true:=by kernel_rfl
theorem rk226:XK19 ck226=true:=by kernel_rfl
theorem rk251:XK19 ck251=true:=by kernel_rfl
theorem rk253:XK19 ck253=true:=by kernel_rfl
theorem rk262:XK19 ck262=true:=by kernel_rfl
theorem rk267:XK19 ck267=true:=by kernel_rfl
theorem rk300:XK22 ck300=true:=by kernel_rfl
theorem rk309:XK22 ck309=true:=by kernel_rfl
theorem rk318:XK22 ck318=true:=by kernel_rfl
theorem rk326:XK22 ck326=true:=by kernel_rfl
theorem rk327:XK22 ck327=true:=by kernel_rfl
theorem rk341:XK22 ck341=true:=by kernel_rfl
theorem rk367:XK22 ck367=true:=by kernel_rfl
theorem rk383:XK22 ck383=true:=by kernel_rfl
theorem rk385:XK22 ck385=true:=by kernel_rfl
theorem rk393:XK22 ck393=true:=by kernel_rfl
theorem rk407:XK22 ck407=true:=by kernel_rfl
theorem rk418:XK22 ck418=true:=by kernel_rfl
theorem rk425:XK22 ck425=true:=by kernel_rfl
theorem rk426:XK22 ck426=true:=by kernel_rfl
theorem rk435:XK22 ck435=true:=by kernel_rfl
theorem rk461:XK22 ck461=true:=by kernel_rfl
theorem rk476:XK24 ck476=true:=by kernel_rfl
end Go.Ev
