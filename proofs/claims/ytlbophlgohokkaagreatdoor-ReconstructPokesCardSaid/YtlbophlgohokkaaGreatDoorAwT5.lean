/-
  The known runs, by the kernel. Printed by a program (wip/dev/Gen.lean).
-/
import Derived.Test.YtlbophlgohokkaaGreatDoorAwD
set_option linter.all false
namespace Go.Mx
open Go
set_option maxRecDepth 1000000
theorem A.QD:A.e A.iw A.Qf:=by decide+kernel
theorem A.Qt:A.e A.CE A.Hr:=by decide+kernel
theorem A.QP:A.e A.iw A.Ls:=by decide+kernel
theorem A.z88:A.e A.zu A.E9:=by decide+kernel
theorem A.z46:A.e A.CB A.E1:=by decide+kernel
theorem A.QG:A.e A.iw A.Qi:=by decide+kernel
theorem A.z49:A.p A.Pw A.E1:=by decide+kernel
theorem A.z98:A.p A.P7 A.CD:=by decide+kernel
theorem A.z81:A.p A.PW A.E7:=by decide+kernel
theorem A.z60:A.p A.PH A.E1:=by decide+kernel
theorem A.z11:A.p A.OR A.E:=by decide+kernel
theorem A.z41:A.p A.Pq A.E:=by decide+kernel
theorem A.z19:A.p A.OZ A.E:=by decide+kernel
theorem A.z9:A.p A.L9 A.E:=by decide+kernel
theorem A.z68:A.p A.PR A.E1:=by decide+kernel
theorem A.z56:A.p A.PD A.E1:=by decide+kernel
theorem A.z12:A.p A.OS A.E:=by decide+kernel
theorem A.z65:A.p A.PN A.E1:=by decide+kernel
theorem A.Qr:A.p A.OQ A.E:=by decide+kernel
theorem A.QC:A.p A.iw A.CF:=by decide+kernel
end Go.Mx
