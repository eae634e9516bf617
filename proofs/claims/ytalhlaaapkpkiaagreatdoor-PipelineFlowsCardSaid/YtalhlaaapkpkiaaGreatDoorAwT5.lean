/-The known runs, by the kernel-/
import Derived.Test.YtalhlaaapkpkiaaGreatDoorAwD
set_option linter.all false
namespace Go.Mx
open Go
set_option maxRecDepth 1000000
def A.z28:A.e A.L20 A.E7:=by decide+kernel
def A.z30:A.e A.L20 A.E9:=by decide+kernel
def A.z27:A.e A.L20 A.E6:=by decide+kernel
end Go.Mx
