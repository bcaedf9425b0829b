/- What these calls do, as the kernel reckons it (part 1 of 10). -/
import Derived.Test.YtbkpgmlibiclfaaGreatDoorMkm
import Derived.KernelRfl
set_option maxRecDepth 4000

namespace Go.Ev
open Go.Proofs
theorem rk20:XK4 ck20=true:=by kernel_rfl
theorem rk23:XK4 ck23=true:=by kernel_rfl
theorem rk33:XK9 ck33=true:=by kernel_rfl
theorem rk55:XK14 ck55=true:=by kernel_rfl
theorem rk60:XK14 ck60=true:=by kernel_rfl
theorem rk67:XK15 ck67=true:=by kernel_rfl
theorem rk91:XK16 ck91=true:=by kernel_rfl
theorem rk92:XK16 ck92=true:=by kernel_rfl
theorem rk102:XK16 ck102=true:=by kernel_rfl
theorem rk103:XK16 ck103=true:=by kernel_rfl
theorem rk111:XK16 ck111=true:=by kernel_rfl
theorem rk122:XK17 ck122=true:=by kernel_rfl
theorem rk146:XK19 ck146=true:=by kernel_rfl
theorem rk156:XK19 ck156=true:=by kernel_rfl
theorem rk161:XK19 ck161=true:=by kernel_rfl
theorem rk165:XK19 ck165=true:=by kernel_rfl
theorem rk171:XK19 ck171=true:=by kernel_rfl
theorem rk174:XK19 ck174=true:=by kernel_rfl
theorem rk175:XK19 ck175=true:=by kernel_rfl
theorem rk187:XK19 ck187=true:=by kernel_rfl
theorem rk188:XK19 ck188=true:=by kernel_rfl
theorem rk190:XK19 ck190=true:=by kernel_rfl
theorem rk194:XK19 ck194=true:=by kernel_rfl
theorem rk208:XK19 ck208=true:=by kernel_rfl
theorem rk222:XK19 ck222=true:=by kernel_rfl
theorem rk223:XK19 ck223=true:=by kernel_rfl
theorem rk233:XK19 ck233=true:=by kernel_rfl
theorem rk237:XK19 ck237=true:=by kernel_rfl
theorem rk241:XK19 ck241=true:=by kernel_rfl
theorem rk242:XK19 ck242=true:=by kernel_rfl
theorem rk244:XK19 ck244=true:=by kernel_rfl
theorem rk278:XK20 ck278=true:=by kernel_rfl
theorem rk282:XK22 ck282=true:=by kernel_rfl
theorem rk289:XK22 ck289=true:=by kernel_rfl
theorem rk292:XK22 ck292=true:=by kernel_rfl
theorem rk325:XK22 ck325=true:=by kernel_rfl
theorem rk336:XK22 ck336=true:=by kernel_rfl
theorem rk340:XK22 ck340=true:=by kernel_rfl
theorem rk343:XK22 ck343=true:=by kernel_rfl
theorem rk366:XK22 ck366=true:=by kernel_rfl
theorem rk380:XK22 ck380=true:=by kernel_rfl
theorem rk382:XK22 ck382=true:=by kernel_rfl
theorem rk392:XK22 ck392=true:=by kernel_rfl
theorem rk405:XK22 ck405=true:=by kernel_rfl
theorem rk448:XK22 ck448=true:=by kernel_rfl
theorem rk474:XK23 ck474=true:=by kernel_rfl
end Go.Ev
