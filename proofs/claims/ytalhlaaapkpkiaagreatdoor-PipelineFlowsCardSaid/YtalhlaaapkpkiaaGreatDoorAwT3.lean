/-The known runs, by the kernel-/
import Derived.Test.YtalhlaaapkpkiaaGreatDoorAwD
set_option linter.all false
namespace Go.Mx
open Go
set_option maxRecDepth 1000000
def A.z22:A.e A.L20 A.E1:=by decide+kernel
def A.z25:A.e A.L20 A.E4:=by decide+kernel
def A.z12:A.p A.L12 A.E:=by decide+kernel
def A.z11:A.p A.L11 A.E:=by decide+kernel
def A.z13:A.p A.L13 A.E:=by decide+kernel
def A.z17:A.p A.L17 A.E:=by decide+kernel
def A.z1:A.p A.L1 A.E:=by decide+kernel
def A.z9:A.p A.L9 A.E:=by decide+kernel
def A.z7:A.p A.L7 A.E:=by decide+kernel
def A.z4:A.p A.L4 A.E:=by decide+kernel
end Go.Mx
