/-The known runs, by the kernel-/
import Derived.Test.YteoackkadadmdaaGreatDoorMxInp
set_option linter.all false
namespace Go.Mx
open Go
set_option maxRecDepth 1000000
def A.z97:A.e A.JE A.ET:=by decide+kernel
def A.z80:A.e A.yQ A.E7:=by decide+kernel
def A.S0:A.e A.jh A.Sy:=by decide+kernel
def A.z89:A.e A.Br A.sq:=by decide+kernel
def A.z45:A.e A.ER A.E0:=by decide+kernel
def A.z79:A.e A.yQ A.E6:=by decide+kernel
def A.z86:A.p A.Br A.E7:=by decide+kernel
def A.z24:A.p A.Ri A.E:=by decide+kernel
def A.z36:A.p A.Rv A.E:=by decide+kernel
def A.z25:A.p A.Rj A.E:=by decide+kernel
def A.z5:A.p A.L5 A.E:=by decide+kernel
def A.z14:A.p A.Q6 A.E:=by decide+kernel
def A.z30:A.p A.Ro A.E:=by decide+kernel
def A.z34:A.p A.Rt A.E:=by decide+kernel
def A.z58:A.p A.RO A.E1:=by decide+kernel
def A.z27:A.p A.Rl A.E:=by decide+kernel
def A.z35:A.p A.Ru A.E:=by decide+kernel
def A.z48:A.p A.RE A.E1:=by decide+kernel
def A.z3:A.p A.L3 A.E:=by decide+kernel
def A.z66:A.p A.RX A.E1:=by decide+kernel
end Go.Mx
