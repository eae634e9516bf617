/-The known runs, by the kernel-/
import Derived.Test.YtgccnjdneojagaaGreatDoorAwD
set_option linter.all false
namespace Go.Mx
open Go
set_option maxRecDepth 1000000
def A.Ys:A.e A.kv A.XV:=by decide+kernel
def A.YA:A.e A.kv A.X9:=by decide+kernel
def A.z87:A.e A.DW A.E8:=by decide+kernel
def A.Ym:A.e A.zD A.XQ:=by decide+kernel
def A.z77:A.e A.AZ A.E4:=by decide+kernel
def A.Yz:A.e A.kv A.X8:=by decide+kernel
def A.z4:A.p A.L4 A.E:=by decide+kernel
def A.z54:A.p A.Xi A.E1:=by decide+kernel
def A.z52:A.p A.Xg A.E1:=by decide+kernel
def A.z99:A.p A.HP A.HO:=by decide+kernel
def A.z90:A.p A.XG A.uY:=by decide+kernel
def A.z20:A.p A.WD A.E:=by decide+kernel
def A.z61:A.p A.Xp A.E1:=by decide+kernel
def A.z55:A.p A.Xj A.E1:=by decide+kernel
def A.z21:A.p A.WE A.E:=by decide+kernel
def A.z1:A.p A.L1 A.E:=by decide+kernel
def A.z38:A.p A.WX A.E:=by decide+kernel
def A.z0:A.p A.L0 A.E:=by decide+kernel
def A.z64:A.p A.Xs A.E1:=by decide+kernel
end Go.Mx
