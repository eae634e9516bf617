/-
  The known runs, by the kernel. Printed by a program (wip/dev/Gen.lean).
-/
import Derived.Test.YtlbophlgohokkaaGreatDoorAwD
set_option linter.all false
namespace Go.Mx
open Go
set_option maxRecDepth 1000000
theorem A.z74:A.e A.CC A.E3:=by decide+kernel
theorem A.QF:A.e A.iw A.Qh:=by decide+kernel
theorem A.QO:A.e A.iw A.Qq:=by decide+kernel
theorem A.Qy:A.e A.uN A.Qd:=by decide+kernel
theorem A.Qv:A.e A.uN A.P9:=by decide+kernel
theorem A.z92:A.p A.P3 A.qt:=by decide+kernel
theorem A.z83:A.p A.PY A.E7:=by decide+kernel
theorem A.z84:A.p A.PZ A.E7:=by decide+kernel
theorem A.z67:A.p A.PQ A.E1:=by decide+kernel
theorem A.z47:A.p A.Pt A.E1:=by decide+kernel
theorem A.z17:A.p A.OX A.E:=by decide+kernel
theorem A.z29:A.p A.Pb A.E:=by decide+kernel
theorem A.z53:A.p A.PA A.E1:=by decide+kernel
theorem A.z18:A.p A.OY A.E:=by decide+kernel
theorem A.z23:A.p A.O5 A.E:=by decide+kernel
theorem A.z28:A.p A.Pa A.E:=by decide+kernel
theorem A.z91:A.p A.P2 A.qt:=by decide+kernel
theorem A.z40:A.p A.Pp A.E:=by decide+kernel
theorem A.z44:A.p A.CB A.E:=by decide+kernel
theorem A.QQ:A.p A.Wk A.Ls:=by decide+kernel
theorem A.QK:A.e A.iw A.Qm:=by decide+kernel
theorem A.Qz:A.e A.uN A.CF:=by decide+kernel
theorem A.QI:A.e A.iw A.Qk:=by decide+kernel
theorem A.Qw:A.e A.uN A.Qa:=by decide+kernel
theorem A.z63:A.p A.PL A.E1:=by decide+kernel
theorem A.z85:A.p A.P0 A.E7:=by decide+kernel
theorem A.z93:A.p A.P4 A.qt:=by decide+kernel
theorem A.Qu:A.p A.uN A.Hr:=by decide+kernel
theorem A.z8:A.p A.L8 A.E:=by decide+kernel
theorem A.z13:A.p A.OT A.E:=by decide+kernel
theorem A.z96:A.p A.Hq A.qt:=by decide+kernel
theorem A.z43:A.p A.Ps A.E:=by decide+kernel
theorem A.z51:A.p A.Py A.E1:=by decide+kernel
theorem A.z62:A.p A.PJ A.E1:=by decide+kernel
theorem A.z37:A.p A.Pm A.E:=by decide+kernel
theorem A.z71:A.p A.PU A.E1:=by decide+kernel
theorem A.z57:A.p A.PE A.E1:=by decide+kernel
theorem A.z31:A.p A.Pd A.E:=by decide+kernel
theorem A.z42:A.p A.Pr A.E:=by decide+kernel
theorem A.z15:A.p A.OV A.E:=by decide+kernel
theorem A.z76:A.p A.wG A.E3:=by decide+kernel
theorem A.z73:A.e A.CC A.E2:=by decide+kernel
theorem A.z78:A.e A.wG A.E5:=by decide+kernel
theorem A.QN:A.e A.iw A.Qp:=by decide+kernel
theorem A.Qs:A.e A.CE A.P8:=by decide+kernel
theorem A.QJ:A.e A.iw A.Ql:=by decide+kernel
theorem A.QA:A.p A.Qe A.CF:=by decide+kernel
theorem A.z75:A.p A.PV A.E3:=by decide+kernel
theorem A.z72:A.p A.CC A.E1:=by decide+kernel
theorem A.z94:A.p A.P5 A.qt:=by decide+kernel
theorem A.z26:A.p A.O8 A.E:=by decide+kernel
theorem A.z70:A.p A.PT A.E1:=by decide+kernel
theorem A.z39:A.p A.Po A.E:=by decide+kernel
theorem A.z7:A.p A.L7 A.E:=by decide+kernel
theorem A.z95:A.p A.P6 A.qt:=by decide+kernel
theorem A.z22:A.p A.O4 A.E:=by decide+kernel
theorem A.z33:A.p A.Pf A.E:=by decide+kernel
theorem A.CG:A.p A.OW A.E:=by decide+kernel
theorem A.z50:A.p A.Px A.E1:=by decide+kernel
theorem A.z82:A.p A.PX A.E7:=by decide+kernel
theorem A.z69:A.p A.PS A.E1:=by decide+kernel
theorem A.z32:A.p A.Pe A.E:=by decide+kernel
theorem A.z6:A.p A.L6 A.E:=by decide+kernel
theorem A.z2:A.p A.L2 A.E:=by decide+kernel
theorem A.z59:A.p A.PG A.E1:=by decide+kernel
end Go.Mx
