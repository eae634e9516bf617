/-
  The known runs, by the kernel. Printed by a program (wip/dev/Gen.lean).
-/
import Derived.Test.YtlbophlgohokkaaGreatDoorAwD
set_option linter.all false
namespace Go.Mx
open Go
set_option maxRecDepth 1000000
theorem A.QE:A.e A.iw A.Qg:=by decide+kernel
theorem A.QM:A.e A.iw A.Qo:=by decide+kernel
theorem A.z87:A.e A.zu A.E8:=by decide+kernel
theorem A.Qx:A.e A.uN A.Qc:=by decide+kernel
theorem A.z77:A.e A.wG A.E4:=by decide+kernel
theorem A.QL:A.e A.iw A.Qn:=by decide+kernel
theorem A.z4:A.p A.L4 A.E:=by decide+kernel
theorem A.z54:A.p A.PB A.E1:=by decide+kernel
theorem A.z52:A.p A.Pz A.E1:=by decide+kernel
theorem A.z99:A.p A.CE A.CD:=by decide+kernel
theorem A.z90:A.p A.P1 A.qt:=by decide+kernel
theorem A.z20:A.p A.O0 A.E:=by decide+kernel
theorem A.z61:A.p A.PI A.E1:=by decide+kernel
theorem A.z55:A.p A.PC A.E1:=by decide+kernel
theorem A.z21:A.p A.O3 A.E:=by decide+kernel
theorem A.z1:A.p A.L1 A.E:=by decide+kernel
theorem A.z38:A.p A.Pn A.E:=by decide+kernel
theorem A.z0:A.p A.L0 A.E:=by decide+kernel
theorem A.z64:A.p A.PM A.E1:=by decide+kernel
end Go.Mx
