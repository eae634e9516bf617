/-The known runs, by the kernel-/
import Derived.Test.YtfeehbdhikiikaaGreatDoorMxIn3
set_option linter.all false
namespace Go.Mx
open Go
set_option maxRecDepth 1000000
def A.z97:A.e A.Nr A.Ia:=by decide+kernel
def A.z80:A.e A.A7 A.E7:=by decide+kernel
def A.Yk:A.e A.kI A.XN:=by decide+kernel
def A.z89:A.e A.DT A.uT:=by decide+kernel
def A.z45:A.e A.HZ A.E0:=by decide+kernel
def A.z79:A.e A.A7 A.E6:=by decide+kernel
def A.z86:A.p A.DT A.E7:=by decide+kernel
def A.z24:A.p A.Ww A.E:=by decide+kernel
def A.z36:A.p A.WL A.E:=by decide+kernel
def A.z25:A.p A.Wx A.E:=by decide+kernel
def A.z5:A.p A.L5 A.E:=by decide+kernel
def A.z14:A.p A.Wk A.E:=by decide+kernel
def A.z30:A.p A.WE A.E:=by decide+kernel
def A.z34:A.p A.WJ A.E:=by decide+kernel
def A.z58:A.p A.Xc A.E1:=by decide+kernel
def A.z27:A.p A.WB A.E:=by decide+kernel
def A.z35:A.p A.WK A.E:=by decide+kernel
def A.z48:A.p A.WV A.E1:=by decide+kernel
def A.z3:A.p A.L3 A.E:=by decide+kernel
def A.z66:A.p A.Xk A.E1:=by decide+kernel
end Go.Mx
