/-
  The known runs, by the kernel. Printed by a program (wip/dev/Gen.lean).
-/
import Derived.Test.YtlbophlgohokkaaGreatDoorAwD
set_option linter.all false
namespace Go.Mx
open Go
set_option maxRecDepth 1000000
theorem A.z97:A.e A.Hq A.CD:=by decide+kernel
theorem A.z80:A.e A.wG A.E7:=by decide+kernel
theorem A.QH:A.e A.iw A.Qj:=by decide+kernel
theorem A.z89:A.e A.zu A.qt:=by decide+kernel
theorem A.z45:A.e A.CB A.E0:=by decide+kernel
theorem A.z79:A.e A.wG A.E6:=by decide+kernel
theorem A.z86:A.p A.zu A.E7:=by decide+kernel
theorem A.z24:A.p A.O6 A.E:=by decide+kernel
theorem A.z36:A.p A.Pj A.E:=by decide+kernel
theorem A.z25:A.p A.O7 A.E:=by decide+kernel
theorem A.z5:A.p A.L5 A.E:=by decide+kernel
theorem A.z14:A.p A.OU A.E:=by decide+kernel
theorem A.z30:A.p A.Pc A.E:=by decide+kernel
theorem A.z34:A.p A.Pg A.E:=by decide+kernel
theorem A.z58:A.p A.PF A.E1:=by decide+kernel
theorem A.z27:A.p A.O9 A.E:=by decide+kernel
theorem A.z35:A.p A.Ph A.E:=by decide+kernel
theorem A.z48:A.p A.Pv A.E1:=by decide+kernel
theorem A.z3:A.p A.L3 A.E:=by decide+kernel
theorem A.z66:A.p A.PO A.E1:=by decide+kernel
end Go.Mx
