/-
  The known runs, by the kernel. Printed by a program (wip/dev/Gen.lean).
-/
import Derived.Test.YtlbophlgohokkaaGreatDoorAwD
set_option linter.all false
namespace Go.Mx
open Go
set_option maxRecDepth 1000000
theorem A.z36:A.e A.lL A.E6:=by decide+kernel
theorem A.z48:A.e A.eZ A.MK:=by decide+kernel
theorem A.z56:A.e A.eZ A.MS:=by decide+kernel
theorem A.z54:A.e A.eZ A.MQ:=by decide+kernel
theorem A.z51:A.e A.eZ A.MN:=by decide+kernel
theorem A.ZW:A.p A.MB A.E1:=by decide+kernel
theorem A.ZO:A.p A.Mp A.E:=by decide+kernel
theorem A.z4:A.p A.L4 A.E:=by decide+kernel
theorem A.z9:A.p A.L9 A.E:=by decide+kernel
theorem A.z22:A.p A.My A.E:=by decide+kernel
theorem A.z21:A.p A.Mw A.E:=by decide+kernel
theorem A.z7:A.p A.L7 A.E:=by decide+kernel
theorem A.z3:A.p A.L3 A.E:=by decide+kernel
end Go.Mx
