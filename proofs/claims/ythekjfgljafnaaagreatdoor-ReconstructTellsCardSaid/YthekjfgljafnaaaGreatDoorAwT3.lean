/-The known runs, by the kernel-/
import Derived.Test.YthekjfgljafnaaaGreatDoorAwD
set_option linter.all false
namespace Go.Mx
open Go
set_option maxRecDepth 1000000
def A.z111:A.e A.L90 A.E20:=by decide+kernel
def A.z119:A.e A.L90 A.E28:=by decide+kernel
def A.z87:A.e A.L78 A.E8:=by decide+kernel
def A.z105:A.e A.L88 A.E16:=by decide+kernel
def A.z77:A.e A.L72 A.E4:=by decide+kernel
def A.z118:A.e A.L90 A.E27:=by decide+kernel
def A.z4:A.p A.L4 A.E:=by decide+kernel
def A.z54:A.p A.L52 A.E1:=by decide+kernel
def A.z52:A.p A.L50 A.E1:=by decide+kernel
def A.z99:A.p A.L87 A.E11:=by decide+kernel
def A.z90:A.p A.L79 A.E10:=by decide+kernel
def A.z20:A.p A.L20 A.E:=by decide+kernel
def A.z61:A.p A.L59 A.E1:=by decide+kernel
def A.z55:A.p A.L53 A.E1:=by decide+kernel
def A.z21:A.p A.L21 A.E:=by decide+kernel
def A.z1:A.p A.L1 A.E:=by decide+kernel
def A.z38:A.p A.L38 A.E:=by decide+kernel
def A.z0:A.p A.L0 A.E:=by decide+kernel
def A.z64:A.p A.L62 A.E1:=by decide+kernel
end Go.Mx
