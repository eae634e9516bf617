/-The known runs, by the kernel-/
import Derived.Test.YtnkdakmfipgidaaGreatDoorAwD
set_option linter.all false
namespace Go.Mx
open Go
set_option maxRecDepth 1000000
def A.XU:A.e A.jX A.Xs:=by decide+kernel
def A.XK:A.e A.HO A.M7:=by decide+kernel
def A.Yc:A.e A.jX A.Se:=by decide+kernel
def A.z88:A.e A.DE A.E9:=by decide+kernel
def A.z46:A.e A.HL A.E1:=by decide+kernel
def A.XX:A.e A.jX A.Xv:=by decide+kernel
def A.z49:A.p A.WC A.E1:=by decide+kernel
def A.z98:A.p A.Xl A.HN:=by decide+kernel
def A.z81:A.p A.Xa A.E7:=by decide+kernel
def A.z60:A.p A.WO A.E1:=by decide+kernel
def A.z11:A.p A.VZ A.E:=by decide+kernel
def A.z41:A.p A.Ww A.E:=by decide+kernel
def A.z19:A.p A.V7 A.E:=by decide+kernel
def A.z9:A.p A.L9 A.E:=by decide+kernel
def A.z68:A.p A.WX A.E1:=by decide+kernel
def A.z56:A.p A.WK A.E1:=by decide+kernel
def A.z12:A.p A.V0 A.E:=by decide+kernel
def A.z65:A.p A.WU A.E1:=by decide+kernel
def A.XI:A.p A.VY A.E:=by decide+kernel
def A.XT:A.p A.jX A.HP:=by decide+kernel
end Go.Mx
