/-The known runs, by the kernel-/
import Derived.Test.YtlfdeoomaccciaaGreatDoorAwD
set_option linter.all false
namespace Go.Mx
open Go
set_option maxRecDepth 1000000
def A.z74:A.e A.Fv A.E3:=by decide+kernel
def A.Um:A.e A.jt A.TV:=by decide+kernel
def A.Uv:A.e A.jt A.T4:=by decide+kernel
def A.Ug:A.e A.xQ A.TR:=by decide+kernel
def A.Ud:A.e A.xQ A.TN:=by decide+kernel
def A.z92:A.p A.TH A.ti:=by decide+kernel
def A.z83:A.p A.TC A.E7:=by decide+kernel
def A.z84:A.p A.TD A.E7:=by decide+kernel
def A.z67:A.p A.Ts A.E1:=by decide+kernel
def A.z47:A.p A.S8 A.E1:=by decide+kernel
def A.z17:A.p A.SE A.E:=by decide+kernel
def A.z29:A.p A.SQ A.E:=by decide+kernel
def A.z53:A.p A.Te A.E1:=by decide+kernel
def A.z18:A.p A.SF A.E:=by decide+kernel
def A.z23:A.p A.SK A.E:=by decide+kernel
def A.z28:A.p A.SP A.E:=by decide+kernel
def A.z91:A.p A.TG A.ti:=by decide+kernel
def A.z40:A.p A.S4 A.E:=by decide+kernel
def A.z44:A.p A.Fu A.E:=by decide+kernel
def A.Ux:A.p A.L91 A.Pr:=by decide+kernel
def A.Ur:A.e A.jt A.T0:=by decide+kernel
def A.Uh:A.e A.xQ A.Fz:=by decide+kernel
def A.Up:A.e A.jt A.TY:=by decide+kernel
def A.Ue:A.e A.xQ A.TO:=by decide+kernel
def A.z63:A.p A.To A.E1:=by decide+kernel
def A.z85:A.p A.TE A.E7:=by decide+kernel
def A.z93:A.p A.TI A.ti:=by decide+kernel
def A.Uc:A.p A.xQ A.Kn:=by decide+kernel
def A.z8:A.p A.L8 A.E:=by decide+kernel
def A.z13:A.p A.SA A.E:=by decide+kernel
def A.z96:A.p A.Km A.ti:=by decide+kernel
def A.z43:A.p A.S7 A.E:=by decide+kernel
def A.z51:A.p A.Tc A.E1:=by decide+kernel
def A.z62:A.p A.Tn A.E1:=by decide+kernel
def A.z37:A.p A.SZ A.E:=by decide+kernel
def A.z71:A.p A.Tw A.E1:=by decide+kernel
def A.z57:A.p A.Ti A.E1:=by decide+kernel
def A.z31:A.p A.SS A.E:=by decide+kernel
def A.z42:A.p A.S6 A.E:=by decide+kernel
def A.z15:A.p A.SC A.E:=by decide+kernel
def A.z76:A.p A.zp A.E3:=by decide+kernel
def A.z73:A.e A.Fv A.E2:=by decide+kernel
def A.z78:A.e A.zp A.E5:=by decide+kernel
def A.Uu:A.e A.jt A.T3:=by decide+kernel
def A.Ua:A.e A.Fy A.TM:=by decide+kernel
def A.Uq:A.e A.jt A.TZ:=by decide+kernel
def A.Ui:A.p A.TS A.Fz:=by decide+kernel
def A.z75:A.p A.Ty A.E3:=by decide+kernel
def A.z72:A.p A.Fv A.E1:=by decide+kernel
def A.z94:A.p A.TJ A.ti:=by decide+kernel
def A.z26:A.p A.SN A.E:=by decide+kernel
def A.z70:A.p A.Tv A.E1:=by decide+kernel
def A.z39:A.p A.S3 A.E:=by decide+kernel
def A.z7:A.p A.L7 A.E:=by decide+kernel
def A.z95:A.p A.TK A.ti:=by decide+kernel
def A.z22:A.p A.SJ A.E:=by decide+kernel
def A.z33:A.p A.SV A.E:=by decide+kernel
def A.z16:A.p A.SD A.E:=by decide+kernel
def A.z50:A.p A.Tb A.E1:=by decide+kernel
def A.z82:A.p A.TA A.E7:=by decide+kernel
def A.z69:A.p A.Tu A.E1:=by decide+kernel
def A.z32:A.p A.SU A.E:=by decide+kernel
def A.z6:A.p A.L6 A.E:=by decide+kernel
def A.z2:A.p A.L2 A.E:=by decide+kernel
def A.z59:A.p A.Tk A.E1:=by decide+kernel
end Go.Mx
