/-The known runs, by the kernel-/
import Derived.Test.YteojhfjdbpdolaaGreatDoorMxOpn
set_option linter.all false
namespace Go.Mx
open Go
set_option maxRecDepth 1000000
def A.z74:A.e A.Fu A.E3:=by decide+kernel
def A.Um:A.e A.jl A.Ul:=by decide+kernel
def A.UE:A.e A.jl A.UD:=by decide+kernel
def A.Uc:A.e A.xS A.Ub:=by decide+kernel
def A.T6:A.e A.xS A.T5:=by decide+kernel
def A.z92:A.p A.TW A.sY:=by decide+kernel
def A.z83:A.p A.TR A.E7:=by decide+kernel
def A.z84:A.p A.TS A.E7:=by decide+kernel
def A.z67:A.p A.TI A.E1:=by decide+kernel
def A.z47:A.p A.Tm A.E1:=by decide+kernel
def A.z17:A.p A.SS A.E:=by decide+kernel
def A.z29:A.p A.S7 A.E:=by decide+kernel
def A.z53:A.p A.Ts A.E1:=by decide+kernel
def A.z18:A.p A.SU A.E:=by decide+kernel
def A.z23:A.p A.SZ A.E:=by decide+kernel
def A.z28:A.p A.S6 A.E:=by decide+kernel
def A.z91:A.p A.TV A.sY:=by decide+kernel
def A.z40:A.p A.Ti A.E:=by decide+kernel
def A.z44:A.p A.Ft A.E:=by decide+kernel
def A.UG:A.p A.L91 A.PA:=by decide+kernel
def A.Uw:A.e A.jl A.Uv:=by decide+kernel
def A.Ud:A.e A.xS A.Fy:=by decide+kernel
def A.Us:A.e A.jl A.Ur:=by decide+kernel
def A.T8:A.e A.xS A.T7:=by decide+kernel
def A.z63:A.p A.TE A.E1:=by decide+kernel
def A.z85:A.p A.TT A.E7:=by decide+kernel
def A.z93:A.p A.TX A.sY:=by decide+kernel
def A.T4:A.p A.xS A.Kk:=by decide+kernel
def A.z8:A.p A.L8 A.E:=by decide+kernel
def A.z13:A.p A.SO A.E:=by decide+kernel
def A.z96:A.p A.Kj A.sY:=by decide+kernel
def A.z43:A.p A.Tl A.E:=by decide+kernel
def A.z51:A.p A.Tq A.E1:=by decide+kernel
def A.z62:A.p A.TD A.E1:=by decide+kernel
def A.z37:A.p A.Tf A.E:=by decide+kernel
def A.z71:A.p A.TM A.E1:=by decide+kernel
def A.z57:A.p A.Tw A.E1:=by decide+kernel
def A.z31:A.p A.S9 A.E:=by decide+kernel
def A.z42:A.p A.Tk A.E:=by decide+kernel
def A.z15:A.p A.SQ A.E:=by decide+kernel
def A.z76:A.p A.zv A.E3:=by decide+kernel
def A.z73:A.e A.Fu A.E2:=by decide+kernel
def A.z78:A.e A.zv A.E5:=by decide+kernel
def A.UC:A.e A.jl A.UB:=by decide+kernel
def A.T2:A.e A.Fw A.T1:=by decide+kernel
def A.Uu:A.e A.jl A.Ut:=by decide+kernel
def A.Uf:A.p A.Ue A.Fy:=by decide+kernel
def A.z75:A.p A.TN A.E3:=by decide+kernel
def A.z72:A.p A.Fu A.E1:=by decide+kernel
def A.z94:A.p A.TY A.sY:=by decide+kernel
def A.z26:A.p A.S4 A.E:=by decide+kernel
def A.z70:A.p A.TL A.E1:=by decide+kernel
def A.z39:A.p A.Th A.E:=by decide+kernel
def A.z7:A.p A.L7 A.E:=by decide+kernel
def A.z95:A.p A.TZ A.sY:=by decide+kernel
def A.z22:A.p A.SY A.E:=by decide+kernel
def A.z33:A.p A.Tb A.E:=by decide+kernel
def A.z16:A.p A.SR A.E:=by decide+kernel
def A.z50:A.p A.Tp A.E1:=by decide+kernel
def A.z82:A.p A.TQ A.E7:=by decide+kernel
def A.z69:A.p A.TK A.E1:=by decide+kernel
def A.z32:A.p A.Ta A.E:=by decide+kernel
def A.z6:A.p A.L6 A.E:=by decide+kernel
def A.z2:A.p A.L2 A.E:=by decide+kernel
def A.z59:A.p A.Tz A.E1:=by decide+kernel
end Go.Mx
