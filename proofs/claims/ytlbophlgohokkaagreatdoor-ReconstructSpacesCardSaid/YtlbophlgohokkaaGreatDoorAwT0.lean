/-
  The known runs, by the kernel. Printed by a program (wip/dev/Gen.lean).
-/
import Derived.Test.YtlbophlgohokkaaGreatDoorAwD
set_option linter.all false
namespace Go.Mx
open Go
set_option maxRecDepth 1000000
theorem A.z60:A.p A.SV A.Jc:=by decide+kernel
theorem A.z57:A.e A.eZ A.MT:=by decide+kernel
theorem A.z50:A.e A.eZ A.MM:=by decide+kernel
theorem A.Z1:A.e A.lL A.E4:=by decide+kernel
theorem A.z58:A.e A.eZ A.MU:=by decide+kernel
theorem A.z33:A.e A.lL A.E3:=by decide+kernel
theorem A.z38:A.e A.lL A.E8:=by decide+kernel
theorem A.Z7:A.e A.eZ A.MH:=by decide+kernel
theorem A.z52:A.e A.eZ A.MO:=by decide+kernel
theorem A.Z3:A.e A.lL A.E9:=by decide+kernel
theorem A.Z0:A.e A.lL A.E2:=by decide+kernel
theorem A.Z8:A.e A.eZ A.MI:=by decide+kernel
theorem A.Z4:A.e A.lL A.Fh:=by decide+kernel
theorem A.z25:A.e A.AV A.E1:=by decide+kernel
theorem A.z53:A.e A.eZ A.MP:=by decide+kernel
theorem A.ZS:A.p A.Mt A.E:=by decide+kernel
theorem A.ZV:A.p A.Mz A.E1:=by decide+kernel
theorem A.z1:A.p A.L1 A.E:=by decide+kernel
theorem A.z27:A.p A.MA A.E1:=by decide+kernel
theorem A.z5:A.p A.L5 A.E:=by decide+kernel
theorem A.ZR:A.p A.Ms A.E:=by decide+kernel
theorem A.z2:A.p A.L2 A.E:=by decide+kernel
theorem A.ZN:A.p A.Mo A.E:=by decide+kernel
theorem A.ZM:A.p A.Mn A.E:=by decide+kernel
theorem A.ZP:A.p A.Mq A.E:=by decide+kernel
theorem A.ZX:A.p A.MC A.E1:=by decide+kernel
end Go.Mx
