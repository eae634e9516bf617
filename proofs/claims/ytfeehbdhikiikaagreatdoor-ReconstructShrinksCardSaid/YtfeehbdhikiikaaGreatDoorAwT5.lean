/-The known runs, by the kernel-/
import Derived.Test.YtfeehbdhikiikaaGreatDoorMxIn3
set_option linter.all false
namespace Go.Mx
open Go
set_option maxRecDepth 1000000
def A.Yg:A.e A.kI A.XJ:=by decide+kernel
def A.X7:A.e A.Ib A.Ns:=by decide+kernel
def A.Ys:A.e A.kI A.SL:=by decide+kernel
def A.z88:A.e A.DT A.E9:=by decide+kernel
def A.z46:A.e A.HZ A.E1:=by decide+kernel
def A.Yj:A.e A.kI A.XM:=by decide+kernel
def A.z49:A.p A.WW A.E1:=by decide+kernel
def A.z98:A.p A.XC A.Ia:=by decide+kernel
def A.z81:A.p A.Xr A.E7:=by decide+kernel
def A.z60:A.p A.Xe A.E1:=by decide+kernel
def A.K9:A.p A.Wg A.E:=by decide+kernel
def A.z41:A.p A.WR A.E:=by decide+kernel
def A.z19:A.p A.Wq A.E:=by decide+kernel
def A.z9:A.p A.L9 A.E:=by decide+kernel
def A.z68:A.p A.Xm A.E1:=by decide+kernel
def A.z56:A.p A.Xa A.E1:=by decide+kernel
def A.Ii:A.p A.Wh A.E:=by decide+kernel
def A.z65:A.p A.Xj A.E1:=by decide+kernel
def A.FR:A.p A.Wf A.E:=by decide+kernel
def A.Yf:A.p A.kI A.Ic:=by decide+kernel
end Go.Mx
