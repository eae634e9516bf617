/-The known runs, by the kernel-/
import Derived.Test.YtlfdeoomaccciaaGreatDoorAwD
set_option linter.all false
namespace Go.Mx
open Go
set_option maxRecDepth 1000000
def A.z97:A.e A.Km A.Fw:=by decide+kernel
def A.z80:A.e A.zp A.E7:=by decide+kernel
def A.Uo:A.e A.jt A.TX:=by decide+kernel
def A.z89:A.e A.BY A.ti:=by decide+kernel
def A.z45:A.e A.Fu A.E0:=by decide+kernel
def A.z79:A.e A.zp A.E6:=by decide+kernel
def A.z86:A.p A.BY A.E7:=by decide+kernel
def A.z24:A.p A.SL A.E:=by decide+kernel
def A.z36:A.p A.SY A.E:=by decide+kernel
def A.z25:A.p A.SM A.E:=by decide+kernel
def A.z5:A.p A.L5 A.E:=by decide+kernel
def A.z14:A.p A.SB A.E:=by decide+kernel
def A.z30:A.p A.SR A.E:=by decide+kernel
def A.z34:A.p A.SW A.E:=by decide+kernel
def A.z58:A.p A.Tj A.E1:=by decide+kernel
def A.z27:A.p A.SO A.E:=by decide+kernel
def A.z35:A.p A.SX A.E:=by decide+kernel
def A.z48:A.p A.S9 A.E1:=by decide+kernel
def A.z3:A.p A.L3 A.E:=by decide+kernel
def A.z66:A.p A.Tr A.E1:=by decide+kernel
end Go.Mx
