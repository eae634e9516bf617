/-The known runs, by the kernel-/
import Derived.Test.YthekjfgljafnaaaGreatDoorAwD
set_option linter.all false
namespace Go.Mx
open Go
set_option maxRecDepth 1000000
def A.z97:A.e A.L85 A.E11:=by decide+kernel
def A.z80:A.e A.L72 A.E7:=by decide+kernel
def A.z114:A.e A.L90 A.E23:=by decide+kernel
def A.z89:A.e A.L78 A.E10:=by decide+kernel
def A.z45:A.e A.L44 A.E0:=by decide+kernel
def A.z79:A.e A.L72 A.E6:=by decide+kernel
def A.z86:A.p A.L78 A.E7:=by decide+kernel
def A.z24:A.p A.L24 A.E:=by decide+kernel
def A.z36:A.p A.L36 A.E:=by decide+kernel
def A.z25:A.p A.L25 A.E:=by decide+kernel
def A.z5:A.p A.L5 A.E:=by decide+kernel
def A.z14:A.p A.L14 A.E:=by decide+kernel
def A.z30:A.p A.L30 A.E:=by decide+kernel
def A.z34:A.p A.L34 A.E:=by decide+kernel
def A.z58:A.p A.L56 A.E1:=by decide+kernel
def A.z27:A.p A.L27 A.E:=by decide+kernel
def A.z35:A.p A.L35 A.E:=by decide+kernel
def A.z48:A.p A.L46 A.E1:=by decide+kernel
def A.z3:A.p A.L3 A.E:=by decide+kernel
def A.z66:A.p A.L64 A.E1:=by decide+kernel
end Go.Mx
