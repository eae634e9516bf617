/-The known runs, by the kernel-/
import Derived.Test.YtjjmkflbfpeagaaGreatDoorNaC
set_option linter.all false
namespace Go.Mx
open Go
set_option maxRecDepth 1000000
def A.z12:A.e A.CN A.E0:=by decide+kernel
def A.z38:A.e A.bC A.PS:=by decide+kernel
def A.z48:A.e A.bC A.P2:=by decide+kernel
def A.z17:A.e A.bC A.E4:=by decide+kernel
def A.z19:A.e A.bC A.E6:=by decide+kernel
def A.z22:A.e A.bC A.E9:=by decide+kernel
def A.z36:A.e A.bC A.PQ:=by decide+kernel
def A.z32:A.e A.bC A.PL:=by decide+kernel
def A.z29:A.e A.bC A.PH:=by decide+kernel
def A.z41:A.e A.bC A.PV:=by decide+kernel
def A.z0:A.p A.L0 A.E:=by decide+kernel
def A.z4:A.p A.L4 A.E:=by decide+kernel
end Go.Mx
