/-The known runs, by the kernel-/
import Derived.Test.YtokjleejipaidaaGreatDoorAwD
set_option linter.all false
namespace Go.Mx
open Go
set_option maxRecDepth 1000000
def A.Vi:A.e A.jr A.UL:=by decide+kernel
def A.U8:A.e A.Gh A.K9:=by decide+kernel
def A.Vu:A.e A.jr A.Qj:=by decide+kernel
def A.z88:A.e A.Cu A.E9:=by decide+kernel
def A.z46:A.e A.Ge A.E1:=by decide+kernel
def A.Vl:A.e A.jr A.UO:=by decide+kernel
def A.z49:A.p A.T4 A.E1:=by decide+kernel
def A.z98:A.p A.UE A.Gg:=by decide+kernel
def A.z81:A.p A.Us A.E7:=by decide+kernel
def A.z60:A.p A.Uf A.E1:=by decide+kernel
def A.z11:A.p A.Ts A.E:=by decide+kernel
def A.z41:A.p A.TZ A.E:=by decide+kernel
def A.z19:A.p A.TC A.E:=by decide+kernel
def A.z9:A.p A.L9 A.E:=by decide+kernel
def A.z68:A.p A.Un A.E1:=by decide+kernel
def A.z56:A.p A.Ub A.E1:=by decide+kernel
def A.z12:A.p A.Tt A.E:=by decide+kernel
def A.z65:A.p A.Uk A.E1:=by decide+kernel
def A.U6:A.p A.Tr A.E:=by decide+kernel
def A.Vh:A.p A.jr A.Gi:=by decide+kernel
end Go.Mx
