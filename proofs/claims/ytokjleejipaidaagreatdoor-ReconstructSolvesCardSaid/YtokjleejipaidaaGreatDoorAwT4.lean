/-The known runs, by the kernel-/
import Derived.Test.YtokjleejipaidaaGreatDoorAwD
set_option linter.all false
namespace Go.Mx
open Go
set_option maxRecDepth 1000000
def A.z97:A.e A.K8 A.Gg:=by decide+kernel
def A.z80:A.e A.zZ A.E7:=by decide+kernel
def A.Vm:A.e A.jr A.UP:=by decide+kernel
def A.z89:A.e A.Cu A.tH:=by decide+kernel
def A.z45:A.e A.Ge A.E0:=by decide+kernel
def A.z79:A.e A.zZ A.E6:=by decide+kernel
def A.z86:A.p A.Cu A.E7:=by decide+kernel
def A.z24:A.p A.TH A.E:=by decide+kernel
def A.z36:A.p A.TU A.E:=by decide+kernel
def A.z25:A.p A.TI A.E:=by decide+kernel
def A.z5:A.p A.L5 A.E:=by decide+kernel
def A.z14:A.p A.Tv A.E:=by decide+kernel
def A.z30:A.p A.TN A.E:=by decide+kernel
def A.z34:A.p A.TS A.E:=by decide+kernel
def A.z58:A.p A.Ud A.E1:=by decide+kernel
def A.z27:A.p A.TK A.E:=by decide+kernel
def A.z35:A.p A.TT A.E:=by decide+kernel
def A.z48:A.p A.T3 A.E1:=by decide+kernel
def A.z3:A.p A.L3 A.E:=by decide+kernel
def A.z66:A.p A.Ul A.E1:=by decide+kernel
end Go.Mx
