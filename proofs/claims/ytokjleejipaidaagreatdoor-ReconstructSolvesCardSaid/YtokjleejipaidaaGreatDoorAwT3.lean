/-The known runs, by the kernel-/
import Derived.Test.YtokjleejipaidaaGreatDoorAwD
set_option linter.all false
namespace Go.Mx
open Go
set_option maxRecDepth 1000000
def A.Vj:A.e A.jr A.UM:=by decide+kernel
def A.Vr:A.e A.jr A.UU:=by decide+kernel
def A.z87:A.e A.Cu A.E8:=by decide+kernel
def A.Vc:A.e A.yz A.UI:=by decide+kernel
def A.z77:A.e A.zZ A.E4:=by decide+kernel
def A.Vq:A.e A.jr A.UT:=by decide+kernel
def A.z4:A.p A.L4 A.E:=by decide+kernel
def A.z54:A.p A.T9 A.E1:=by decide+kernel
def A.z52:A.p A.T7 A.E1:=by decide+kernel
def A.z99:A.p A.Gh A.Gg:=by decide+kernel
def A.z90:A.p A.Ux A.tH:=by decide+kernel
def A.z20:A.p A.TD A.E:=by decide+kernel
def A.z61:A.p A.Ug A.E1:=by decide+kernel
def A.z55:A.p A.Ua A.E1:=by decide+kernel
def A.z21:A.p A.TE A.E:=by decide+kernel
def A.z1:A.p A.L1 A.E:=by decide+kernel
def A.z38:A.p A.TW A.E:=by decide+kernel
def A.z0:A.p A.L0 A.E:=by decide+kernel
def A.z64:A.p A.Uj A.E1:=by decide+kernel
end Go.Mx
