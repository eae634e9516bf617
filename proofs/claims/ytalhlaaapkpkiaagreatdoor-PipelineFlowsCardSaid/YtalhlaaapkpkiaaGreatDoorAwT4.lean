/-The known runs, by the kernel-/
import Derived.Test.YtalhlaaapkpkiaaGreatDoorAwD
set_option linter.all false
namespace Go.Mx
open Go
set_option maxRecDepth 1000000
def A.z21:A.e A.L20 A.E0:=by decide+kernel
def A.z29:A.e A.L20 A.E8:=by decide+kernel
def A.z23:A.e A.L20 A.E2:=by decide+kernel
end Go.Mx
