/-The known runs, by the kernel-/
import Derived.Test.YtlfdeoomaccciaaGreatDoorAwD
set_option linter.all false
namespace Go.Mx
open Go
set_option maxRecDepth 1000000
def A.Uk:A.e A.jt A.TT:=by decide+kernel
def A.Ub:A.e A.Fy A.Kn:=by decide+kernel
def A.Uw:A.e A.jt A.Pr:=by decide+kernel
def A.z88:A.e A.BY A.E9:=by decide+kernel
def A.z46:A.e A.Fu A.E1:=by decide+kernel
def A.Un:A.e A.jt A.TW:=by decide+kernel
def A.z49:A.p A.Ta A.E1:=by decide+kernel
def A.z98:A.p A.TL A.Fw:=by decide+kernel
def A.z81:A.p A.Tz A.E7:=by decide+kernel
def A.z60:A.p A.Tl A.E1:=by decide+kernel
def A.z11:A.p A.Sy A.E:=by decide+kernel
def A.z41:A.p A.S5 A.E:=by decide+kernel
def A.z19:A.p A.SG A.E:=by decide+kernel
def A.z9:A.p A.L9 A.E:=by decide+kernel
def A.z68:A.p A.Tt A.E1:=by decide+kernel
def A.z56:A.p A.Th A.E1:=by decide+kernel
def A.z12:A.p A.Sz A.E:=by decide+kernel
def A.z65:A.p A.Tq A.E1:=by decide+kernel
def A.T9:A.p A.Sx A.E:=by decide+kernel
def A.Uj:A.p A.jt A.Fz:=by decide+kernel
end Go.Mx
