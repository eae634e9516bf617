/-
  The known runs, by the kernel. Printed by a program (wip/dev/Gen.lean).
-/
import Derived.Test.YtlbophlgohokkaaGreatDoorAwD
set_option linter.all false
namespace Go.Mx
open Go
set_option maxRecDepth 1000000
theorem A.z59:A.e A.eZ A.Jc:=by decide+kernel
theorem A.z49:A.e A.eZ A.ML:=by decide+kernel
theorem A.z44:A.e A.eZ A.MG:=by decide+kernel
theorem A.ZU:A.e A.AV A.E0:=by decide+kernel
theorem A.z42:A.e A.eZ A.ME:=by decide+kernel
theorem A.ZK:A.p A.Ml A.E:=by decide+kernel
theorem A.z0:A.p A.L0 A.E:=by decide+kernel
theorem A.ZT:A.p A.AV A.E:=by decide+kernel
end Go.Mx
