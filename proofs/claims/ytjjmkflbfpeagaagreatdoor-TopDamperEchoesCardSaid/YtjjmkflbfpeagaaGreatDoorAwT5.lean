/-The known runs, by the kernel-/
import Derived.Test.YtjjmkflbfpeagaaGreatDoorNaC
set_option linter.all false
namespace Go.Mx
open Go
set_option maxRecDepth 1000000
def A.z63:A.e A.bC A.Mn:=by decide+kernel
def A.z58:A.e A.bC A.Qf:=by decide+kernel
def A.z40:A.e A.bC A.PU:=by decide+kernel
def A.z27:A.e A.bC A.PF:=by decide+kernel
def A.z24:A.e A.bC A.PD:=by decide+kernel
def A.z33:A.e A.bC A.PM:=by decide+kernel
def A.z44:A.e A.bC A.PY:=by decide+kernel
def A.z21:A.e A.bC A.E8:=by decide+kernel
def A.z26:A.e A.bC A.PE:=by decide+kernel
def A.z39:A.e A.bC A.PT:=by decide+kernel
def A.z7:A.p A.L7 A.E:=by decide+kernel
end Go.Mx
