/-The known runs, by the kernel-/
import Derived.Test.YthekjfgljafnaaaGreatDoorAwD
set_option linter.all false
namespace Go.Mx
open Go
set_option maxRecDepth 1000000
def A.z110:A.e A.L90 A.E19:=by decide+kernel
def A.z101:A.e A.L87 A.E13:=by decide+kernel
def A.z122:A.e A.L90 A.E31:=by decide+kernel
def A.z88:A.e A.L78 A.E9:=by decide+kernel
def A.z46:A.e A.L44 A.E1:=by decide+kernel
def A.z113:A.e A.L90 A.E22:=by decide+kernel
def A.z49:A.p A.L47 A.E1:=by decide+kernel
def A.z98:A.p A.L86 A.E11:=by decide+kernel
def A.z81:A.p A.L73 A.E7:=by decide+kernel
def A.z60:A.p A.L58 A.E1:=by decide+kernel
def A.z11:A.p A.L11 A.E:=by decide+kernel
def A.z41:A.p A.L41 A.E:=by decide+kernel
def A.z19:A.p A.L19 A.E:=by decide+kernel
def A.z9:A.p A.L9 A.E:=by decide+kernel
def A.z68:A.p A.L66 A.E1:=by decide+kernel
def A.z56:A.p A.L54 A.E1:=by decide+kernel
def A.z12:A.p A.L12 A.E:=by decide+kernel
def A.z65:A.p A.L63 A.E1:=by decide+kernel
def A.z10:A.p A.L10 A.E:=by decide+kernel
def A.z109:A.p A.L90 A.E18:=by decide+kernel
end Go.Mx
