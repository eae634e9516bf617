/-The known runs, by the kernel-/
import Derived.Test.YtnkdakmfipgidaaGreatDoorAwD
set_option linter.all false
namespace Go.Mx
open Go
set_option maxRecDepth 1000000
def A.XV:A.e A.jX A.Xt:=by decide+kernel
def A.X9:A.e A.jX A.XB:=by decide+kernel
def A.z87:A.e A.DE A.E8:=by decide+kernel
def A.XO:A.e A.zf A.Xp:=by decide+kernel
def A.z77:A.e A.AA A.E4:=by decide+kernel
def A.X8:A.e A.jX A.XA:=by decide+kernel
def A.z4:A.p A.L4 A.E:=by decide+kernel
def A.z54:A.p A.WI A.E1:=by decide+kernel
def A.z52:A.p A.WG A.E1:=by decide+kernel
def A.z99:A.p A.HO A.HN:=by decide+kernel
def A.z90:A.p A.Xf A.uo:=by decide+kernel
def A.z20:A.p A.V8 A.E:=by decide+kernel
def A.z61:A.p A.WQ A.E1:=by decide+kernel
def A.z55:A.p A.WJ A.E1:=by decide+kernel
def A.z21:A.p A.V9 A.E:=by decide+kernel
def A.z1:A.p A.L1 A.E:=by decide+kernel
def A.z38:A.p A.Ws A.E:=by decide+kernel
def A.z0:A.p A.L0 A.E:=by decide+kernel
def A.z64:A.p A.WT A.E1:=by decide+kernel
end Go.Mx
