/-The known runs, by the kernel-/
import Derived.Test.YteojhfjdbpdolaaGreatDoorMxOpn
set_option linter.all false
namespace Go.Mx
open Go
set_option maxRecDepth 1000000
def A.Uk:A.e A.jl A.Uj:=by decide+kernel
def A.UA:A.e A.jl A.Uz:=by decide+kernel
def A.z87:A.e A.BY A.E8:=by decide+kernel
def A.Ua:A.e A.xS A.T9:=by decide+kernel
def A.z77:A.e A.zv A.E4:=by decide+kernel
def A.Uy:A.e A.jl A.Ux:=by decide+kernel
def A.z4:A.p A.L4 A.E:=by decide+kernel
def A.z54:A.p A.Tt A.E1:=by decide+kernel
def A.z52:A.p A.Tr A.E1:=by decide+kernel
def A.z99:A.p A.Fw A.Fv:=by decide+kernel
def A.z90:A.p A.TU A.sY:=by decide+kernel
def A.z20:A.p A.SW A.E:=by decide+kernel
def A.z61:A.p A.TC A.E1:=by decide+kernel
def A.z55:A.p A.Tu A.E1:=by decide+kernel
def A.z21:A.p A.SX A.E:=by decide+kernel
def A.z1:A.p A.L1 A.E:=by decide+kernel
def A.z38:A.p A.Tg A.E:=by decide+kernel
def A.z0:A.p A.L0 A.E:=by decide+kernel
def A.z64:A.p A.TF A.E1:=by decide+kernel
end Go.Mx
