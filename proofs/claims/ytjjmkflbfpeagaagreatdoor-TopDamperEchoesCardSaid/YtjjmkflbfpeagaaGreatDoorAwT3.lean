/-The known runs, by the kernel-/
import Derived.Test.YtjjmkflbfpeagaaGreatDoorNaC
set_option linter.all false
namespace Go.Mx
open Go
set_option maxRecDepth 1000000
def A.z52:A.e A.bC A.P7:=by decide+kernel
def A.z23:A.e A.bC A.PC:=by decide+kernel
def A.z43:A.e A.bC A.PX:=by decide+kernel
def A.z13:A.e A.CN A.E1:=by decide+kernel
def A.z28:A.e A.bC A.PG:=by decide+kernel
def A.z16:A.e A.bC A.E3:=by decide+kernel
def A.z46:A.e A.bC A.P0:=by decide+kernel
def A.z42:A.e A.bC A.PW:=by decide+kernel
def A.z47:A.e A.bC A.P1:=by decide+kernel
def A.z56:A.e A.bC A.Qd:=by decide+kernel
def A.PB:A.p A.PA A.E:=by decide+kernel
def A.z1:A.p A.L1 A.E:=by decide+kernel
end Go.Mx
