/-The known runs, by the kernel-/
import Derived.Test.YtjjmkflbfpeagaaGreatDoorNaC
set_option linter.all false
namespace Go.Mx
open Go
set_option maxRecDepth 1000000
def A.z37:A.e A.bC A.PR:=by decide+kernel
def A.z20:A.e A.bC A.E7:=by decide+kernel
def A.z55:A.e A.bC A.Qc:=by decide+kernel
def A.z57:A.e A.bC A.Qe:=by decide+kernel
def A.z49:A.e A.bC A.P3:=by decide+kernel
def A.z51:A.e A.bC A.P6:=by decide+kernel
def A.z3:A.p A.L3 A.E:=by decide+kernel
def A.z9:A.p A.L9 A.E:=by decide+kernel
def A.z61:A.e A.bC A.Qi:=by decide+kernel
def A.z64:A.p A.Wx A.Mn:=by decide+kernel
def A.z15:A.e A.bC A.E2:=by decide+kernel
def A.z30:A.e A.bC A.PI:=by decide+kernel
def A.z25:A.e A.bC A.Mm:=by decide+kernel
def A.z59:A.e A.bC A.Qg:=by decide+kernel
def A.z14:A.p A.bC A.E1:=by decide+kernel
def A.z50:A.e A.bC A.P4:=by decide+kernel
def A.z54:A.e A.bC A.Qa:=by decide+kernel
def A.z11:A.p A.CN A.E:=by decide+kernel
def A.z60:A.e A.bC A.Qh:=by decide+kernel
def A.z34:A.e A.bC A.PN:=by decide+kernel
def A.z8:A.p A.L8 A.E:=by decide+kernel
def A.z53:A.e A.bC A.P9:=by decide+kernel
def A.z35:A.e A.bC A.PO:=by decide+kernel
def A.z31:A.e A.bC A.PJ:=by decide+kernel
def A.z45:A.e A.bC A.PZ:=by decide+kernel
def A.z18:A.e A.bC A.E5:=by decide+kernel
def A.z62:A.e A.bC A.Qj:=by decide+kernel
def A.z6:A.p A.L6 A.E:=by decide+kernel
def A.z5:A.p A.L5 A.E:=by decide+kernel
def A.z2:A.p A.L2 A.E:=by decide+kernel
end Go.Mx
