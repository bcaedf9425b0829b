/- What these calls do, as the kernel reckons it (part 10 of 10). -/
import Derived.Test.YtbkpgmlibiclfaaGreatDoorMkm
import Derived.KernelRfl
set_option maxRecDepth 4000

namespace Go.Ev
open Go.Proofs
theorem rk7:XK0 ck7=true:=by kernel_rfl
theorem rk10:XK1 ck10=true:=by kernel_rfl
theorem rk14:XK4 ck14=true:=by kernel_rfl
theorem rk18:XK4 ck18=true:=by kernel_rfl
theorem rk35:XK9 ck35=true:=by kernel_rfl
theorem rk36:XK10 ck36=true:=by kernel_rfl
theorem rk45:XK10 ck45=true:=by kernel_rfl
theorem rk56:XK14 ck56=true:=by kernel_rfl
theorem rk68:XK15 ck68=true:=by kernel_rfl
theorem rk71:XK15 ck71=true:=by kernel_rfl
theorem rk74:XK15 ck74=true:=by kernel_rfl
theorem rk83:XK16 ck83=true:=by kernel_rfl
theorem rk95:XK16 ck95=true:=by kernel_rfl
theorem rk100:XK16 ck100=true:=by kernel_rfl
theorem rk112:XK16 ck112=true:=by kernel_rfl
theorem rk121:XK17 ck121=true:=by kernel_rfl
theorem rk131:XK18 ck131=true:=by kernel_rfl
theorem rk154:XK19 ck154=true:=by kernel_rfl
theorem rk162:XK19 ck162=true:=by kernel_rfl
theorem rk168:XK19 ck168=true:=by kernel_rfl
theorem rk206:XK19 ck206=true:=by kernel_rfl
theorem rk211:XK19 ck211=true:=by kernel_rfl
theorem rk227:XK19 ck227=true:=by kernel_rfl
theorem rk239:XK19 ck239=true:=by kernel_rfl
theorem rk243:XK19 ck243=true:=by kernel_rfl
theorem rk288:XK22 ck288=true:=by kernel_rfl
theorem rk299:XK22 ck299=true:=by kernel_rfl
theorem rk304:XK22 ck304=true:=by kernel_rfl
theorem rk306:XK22 ck306=true:=by kernel_rfl
theorem rk321:XK22 ck321=true:=by kernel_rfl
theorem rk324:XK22 ck324=true:=by kernel_rfl
theorem rk339:XK22 ck339=true:=by kernel_rfl
theorem rk342:XK22 ck342=true:=by kernel_rfl
theorem rk351:XK22 ck351=true:=by kernel_rfl
theorem rk352:XK22 ck352=true:=by kernel_rfl
theorem rk355:XK22 ck355=true:=by kernel_rfl
theorem rk360:XK22 ck360=true:=by kernel_rfl
theorem rk362:XK22 ck362=true:=by kernel_rfl
theorem rk379:XK22 ck379=true:=by kernel_rfl
theorem rk381:XK22 ck381=true:=by kernel_rfl
theorem rk386:XK22 ck386=true:=by kernel_rfl
theorem rk404:XK22 ck404=true:=by kernel_rfl
theorem rk420:XK22 ck420=true:=by kernel_rfl
theorem rk438:XK22 ck438=true:=by kernel_rfl
theorem rk446:XK22 ck446=true:=by kernel_rfl
theorem rk454:XK22 ck454=true:=by kernel_rfl
theorem rk462:XK22 ck462=true:=by kernel_rfl
theorem rk466:XK22 ck466=true:=by kernel_rfl
theorem rk477:XK24 ck477=true:=by kernel_rfl
end Go.Ev
