/-The known runs, by the kernel-/
import Derived.Test.YteoackkadadmdaaGreatDoorMxInp
set_option linter.all false
namespace Go.Mx
open Go
set_option maxRecDepth 1000000
def A.SW:A.e A.jh A.Su:=by decide+kernel
def A.SM:A.e A.EU A.JF:=by decide+kernel
def A.Tb:A.e A.jh A.NS:=by decide+kernel
def A.z88:A.e A.Br A.E9:=by decide+kernel
def A.z46:A.e A.ER A.E1:=by decide+kernel
def A.SZ:A.e A.jh A.Sx:=by decide+kernel
def A.z49:A.p A.RF A.E1:=by decide+kernel
def A.z98:A.p A.Sk A.ET:=by decide+kernel
def A.z81:A.p A.R8 A.E7:=by decide+kernel
def A.z60:A.p A.RQ A.E1:=by decide+kernel
def A.z11:A.p A.Q3 A.E:=by decide+kernel
def A.z41:A.p A.RA A.E:=by decide+kernel
def A.z19:A.p A.Rb A.E:=by decide+kernel
def A.z9:A.p A.L9 A.E:=by decide+kernel
def A.z68:A.p A.RZ A.E1:=by decide+kernel
def A.z56:A.p A.RM A.E1:=by decide+kernel
def A.z12:A.p A.Q4 A.E:=by decide+kernel
def A.z65:A.p A.RW A.E1:=by decide+kernel
def A.SK:A.p A.Q2 A.E:=by decide+kernel
def A.SV:A.p A.jh A.EV:=by decide+kernel
end Go.Mx
