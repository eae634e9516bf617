/-The known runs, by the kernel-/
import Derived.Test.YtnkdakmfipgidaaGreatDoorAwD
set_option linter.all false
namespace Go.Mx
open Go
set_option maxRecDepth 1000000
def A.z97:A.e A.M5 A.HN:=by decide+kernel
def A.z80:A.e A.AA A.E7:=by decide+kernel
def A.XY:A.e A.jX A.Xw:=by decide+kernel
def A.z89:A.e A.DE A.uo:=by decide+kernel
def A.z45:A.e A.HL A.E0:=by decide+kernel
def A.z79:A.e A.AA A.E6:=by decide+kernel
def A.z86:A.p A.DE A.E7:=by decide+kernel
def A.z24:A.p A.Wc A.E:=by decide+kernel
def A.z36:A.p A.Wq A.E:=by decide+kernel
def A.z25:A.p A.Wd A.E:=by decide+kernel
def A.z5:A.p A.L5 A.E:=by decide+kernel
def A.z14:A.p A.V2 A.E:=by decide+kernel
def A.z30:A.p A.Wj A.E:=by decide+kernel
def A.z34:A.p A.Wo A.E:=by decide+kernel
def A.z58:A.p A.WM A.E1:=by decide+kernel
def A.z27:A.p A.Wf A.E:=by decide+kernel
def A.z35:A.p A.Wp A.E:=by decide+kernel
def A.z48:A.p A.WB A.E1:=by decide+kernel
def A.z3:A.p A.L3 A.E:=by decide+kernel
def A.z66:A.p A.WV A.E1:=by decide+kernel
end Go.Mx
