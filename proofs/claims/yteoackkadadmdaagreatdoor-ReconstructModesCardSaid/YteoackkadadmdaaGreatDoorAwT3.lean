/-The known runs, by the kernel-/
import Derived.Test.YteoackkadadmdaaGreatDoorMxInp
set_option linter.all false
namespace Go.Mx
open Go
set_option maxRecDepth 1000000
def A.SX:A.e A.jh A.Sv:=by decide+kernel
def A.S8:A.e A.jh A.SD:=by decide+kernel
def A.z87:A.e A.Br A.E8:=by decide+kernel
def A.SQ:A.e A.xw A.Sq:=by decide+kernel
def A.z77:A.e A.yQ A.E4:=by decide+kernel
def A.S7:A.e A.jh A.SC:=by decide+kernel
def A.z4:A.p A.L4 A.E:=by decide+kernel
def A.z54:A.p A.RK A.E1:=by decide+kernel
def A.z52:A.p A.RI A.E1:=by decide+kernel
def A.z99:A.p A.EU A.ET:=by decide+kernel
def A.z90:A.p A.Se A.sq:=by decide+kernel
def A.z20:A.p A.Rc A.E:=by decide+kernel
def A.z61:A.p A.RS A.E1:=by decide+kernel
def A.z55:A.p A.RL A.E1:=by decide+kernel
def A.z21:A.p A.Re A.E:=by decide+kernel
def A.z1:A.p A.L1 A.E:=by decide+kernel
def A.z38:A.p A.Rx A.E:=by decide+kernel
def A.z0:A.p A.L0 A.E:=by decide+kernel
def A.z64:A.p A.RV A.E1:=by decide+kernel
end Go.Mx
