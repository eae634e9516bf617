/-The known runs, by the kernel-/
import Derived.Test.YtlfdeoomaccciaaGreatDoorAwD
set_option linter.all false
namespace Go.Mx
open Go
set_option maxRecDepth 1000000
def A.Ul:A.e A.jt A.TU:=by decide+kernel
def A.Ut:A.e A.jt A.T2:=by decide+kernel
def A.z87:A.e A.BY A.E8:=by decide+kernel
def A.Uf:A.e A.xQ A.TQ:=by decide+kernel
def A.z77:A.e A.zp A.E4:=by decide+kernel
def A.Us:A.e A.jt A.T1:=by decide+kernel
def A.z4:A.p A.L4 A.E:=by decide+kernel
def A.z54:A.p A.Tf A.E1:=by decide+kernel
def A.z52:A.p A.Td A.E1:=by decide+kernel
def A.z99:A.p A.Fy A.Fw:=by decide+kernel
def A.z90:A.p A.TF A.ti:=by decide+kernel
def A.z20:A.p A.SH A.E:=by decide+kernel
def A.z61:A.p A.Tm A.E1:=by decide+kernel
def A.z55:A.p A.Tg A.E1:=by decide+kernel
def A.z21:A.p A.SI A.E:=by decide+kernel
def A.z1:A.p A.L1 A.E:=by decide+kernel
def A.z38:A.p A.S0 A.E:=by decide+kernel
def A.z0:A.p A.L0 A.E:=by decide+kernel
def A.z64:A.p A.Tp A.E1:=by decide+kernel
end Go.Mx
