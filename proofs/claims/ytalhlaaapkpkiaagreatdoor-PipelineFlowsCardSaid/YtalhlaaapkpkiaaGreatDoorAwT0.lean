/-The known runs, by the kernel-/
import Derived.Test.YtalhlaaapkpkiaaGreatDoorAwD
set_option linter.all false
namespace Go.Mx
open Go
set_option maxRecDepth 1000000
def A.z31:A.p A.L21 A.E9:=by decide+kernel
def A.z24:A.e A.L20 A.E3:=by decide+kernel
def A.z14:A.p A.L14 A.E:=by decide+kernel
def A.z0:A.p A.L0 A.E:=by decide+kernel
def A.z18:A.p A.L18 A.E:=by decide+kernel
def A.z19:A.p A.L19 A.E:=by decide+kernel
def A.z3:A.p A.L3 A.E:=by decide+kernel
def A.z5:A.p A.L5 A.E:=by decide+kernel
def A.z2:A.p A.L2 A.E:=by decide+kernel
def A.z26:A.e A.L20 A.E5:=by decide+kernel
def A.z10:A.p A.L10 A.E:=by decide+kernel
def A.z16:A.p A.L16 A.E:=by decide+kernel
def A.z15:A.p A.L15 A.E:=by decide+kernel
def A.z20:A.p A.L20 A.E:=by decide+kernel
def A.z6:A.p A.L6 A.E:=by decide+kernel
def A.z8:A.p A.L8 A.E:=by decide+kernel
end Go.Mx
