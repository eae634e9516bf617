/-The known runs, by the kernel-/
import Derived.Test.YtfeehbdhikiikaaGreatDoorMxIn3
set_option linter.all false
namespace Go.Mx
open Go
set_option maxRecDepth 1000000
def A.Yh:A.e A.kI A.XK:=by decide+kernel
def A.Yp:A.e A.kI A.XT:=by decide+kernel
def A.z87:A.e A.DT A.E8:=by decide+kernel
def A.Yb:A.e A.zC A.XG:=by decide+kernel
def A.z77:A.e A.A7 A.E4:=by decide+kernel
def A.Yo:A.e A.kI A.XR:=by decide+kernel
def A.z4:A.p A.L4 A.E:=by decide+kernel
def A.z54:A.p A.W8 A.E1:=by decide+kernel
def A.z52:A.p A.WZ A.E1:=by decide+kernel
def A.z99:A.p A.Ib A.Ia:=by decide+kernel
def A.z90:A.p A.Xw A.uT:=by decide+kernel
def A.z20:A.p A.Wr A.E:=by decide+kernel
def A.z61:A.p A.Xf A.E1:=by decide+kernel
def A.z55:A.p A.W9 A.E1:=by decide+kernel
def A.z21:A.p A.Ws A.E:=by decide+kernel
def A.z1:A.p A.L1 A.E:=by decide+kernel
def A.z38:A.p A.WN A.E:=by decide+kernel
def A.z0:A.p A.L0 A.E:=by decide+kernel
def A.z64:A.p A.Xi A.E1:=by decide+kernel
end Go.Mx
