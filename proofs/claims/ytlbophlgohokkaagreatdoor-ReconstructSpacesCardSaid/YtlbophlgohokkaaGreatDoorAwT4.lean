/-
  The known runs, by the kernel. Printed by a program (wip/dev/Gen.lean).
-/
import Derived.Test.YtlbophlgohokkaaGreatDoorAwD
set_option linter.all false
namespace Go.Mx
open Go
set_option maxRecDepth 1000000
theorem A.z55:A.e A.eZ A.MR:=by decide+kernel
theorem A.Z9:A.e A.eZ A.MJ:=by decide+kernel
theorem A.Z2:A.e A.lL A.E7:=by decide+kernel
theorem A.z35:A.e A.lL A.E5:=by decide+kernel
theorem A.Z6:A.e A.eZ A.MF:=by decide+kernel
theorem A.Z5:A.p A.eZ A.Fh:=by decide+kernel
theorem A.z8:A.p A.L8 A.E:=by decide+kernel
theorem A.ZQ:A.p A.Mr A.E:=by decide+kernel
theorem A.z30:A.p A.MD A.E1:=by decide+kernel
theorem A.z20:A.p A.Mv A.E:=by decide+kernel
theorem A.z6:A.p A.L6 A.E:=by decide+kernel
theorem A.M0:A.p A.Mk A.E:=by decide+kernel
theorem A.ZL:A.p A.Mm A.E:=by decide+kernel
theorem A.ZY:A.p A.lL A.E1:=by decide+kernel
end Go.Mx
