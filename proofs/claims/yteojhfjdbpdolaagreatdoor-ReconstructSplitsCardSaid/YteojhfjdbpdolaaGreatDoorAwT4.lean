/-The known runs, by the kernel-/
import Derived.Test.YteojhfjdbpdolaaGreatDoorMxOpn
set_option linter.all false
namespace Go.Mx
open Go
set_option maxRecDepth 1000000
def A.z97:A.e A.Kj A.Fv:=by decide+kernel
def A.z80:A.e A.zv A.E7:=by decide+kernel
def A.Uq:A.e A.jl A.Up:=by decide+kernel
def A.z89:A.e A.BY A.sY:=by decide+kernel
def A.z45:A.e A.Ft A.E0:=by decide+kernel
def A.z79:A.e A.zv A.E6:=by decide+kernel
def A.z86:A.p A.BY A.E7:=by decide+kernel
def A.z24:A.p A.S0 A.E:=by decide+kernel
def A.z36:A.p A.Te A.E:=by decide+kernel
def A.z25:A.p A.S3 A.E:=by decide+kernel
def A.z5:A.p A.L5 A.E:=by decide+kernel
def A.z14:A.p A.SP A.E:=by decide+kernel
def A.z30:A.p A.S8 A.E:=by decide+kernel
def A.z34:A.p A.Tc A.E:=by decide+kernel
def A.z58:A.p A.Ty A.E1:=by decide+kernel
def A.z27:A.p A.S5 A.E:=by decide+kernel
def A.z35:A.p A.Td A.E:=by decide+kernel
def A.z48:A.p A.Tn A.E1:=by decide+kernel
def A.z3:A.p A.L3 A.E:=by decide+kernel
def A.z66:A.p A.TH A.E1:=by decide+kernel
end Go.Mx
