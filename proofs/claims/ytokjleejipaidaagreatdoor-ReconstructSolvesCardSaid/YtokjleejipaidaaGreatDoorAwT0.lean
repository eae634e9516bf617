/-The known runs, by the kernel-/
import Derived.Test.YtokjleejipaidaaGreatDoorAwD
set_option linter.all false
namespace Go.Mx
open Go
set_option maxRecDepth 1000000
def A.z74:A.e A.Gf A.E3:=by decide+kernel
def A.Vk:A.e A.jr A.UN:=by decide+kernel
def A.Vt:A.e A.jr A.UX:=by decide+kernel
def A.Vd:A.e A.yz A.UJ:=by decide+kernel
def A.Va:A.e A.yz A.UG:=by decide+kernel
def A.z92:A.p A.Uz A.tH:=by decide+kernel
def A.z83:A.p A.Uu A.E7:=by decide+kernel
def A.z84:A.p A.Uv A.E7:=by decide+kernel
def A.z67:A.p A.Um A.E1:=by decide+kernel
def A.z47:A.p A.T2 A.E1:=by decide+kernel
def A.z17:A.p A.Tz A.E:=by decide+kernel
def A.z29:A.p A.TM A.E:=by decide+kernel
def A.z53:A.p A.T8 A.E1:=by decide+kernel
def A.z18:A.p A.TA A.E:=by decide+kernel
def A.z23:A.p A.TG A.E:=by decide+kernel
def A.z28:A.p A.TL A.E:=by decide+kernel
def A.z91:A.p A.Uy A.tH:=by decide+kernel
def A.z40:A.p A.TY A.E:=by decide+kernel
def A.z44:A.p A.Ge A.E:=by decide+kernel
def A.Vv:A.p A.L91 A.Qj:=by decide+kernel
def A.Vp:A.e A.jr A.US:=by decide+kernel
def A.Ve:A.e A.yz A.Gi:=by decide+kernel
def A.Vn:A.e A.jr A.UQ:=by decide+kernel
def A.Vb:A.e A.yz A.UH:=by decide+kernel
def A.z63:A.p A.Ui A.E1:=by decide+kernel
def A.z85:A.p A.Uw A.E7:=by decide+kernel
def A.z93:A.p A.UA A.tH:=by decide+kernel
def A.U9:A.p A.yz A.K9:=by decide+kernel
def A.z8:A.p A.L8 A.E:=by decide+kernel
def A.z13:A.p A.Tu A.E:=by decide+kernel
def A.z96:A.p A.K8 A.tH:=by decide+kernel
def A.z43:A.p A.T1 A.E:=by decide+kernel
def A.z51:A.p A.T6 A.E1:=by decide+kernel
def A.z62:A.p A.Uh A.E1:=by decide+kernel
def A.z37:A.p A.TV A.E:=by decide+kernel
def A.z71:A.p A.Uq A.E1:=by decide+kernel
def A.z57:A.p A.Uc A.E1:=by decide+kernel
def A.z31:A.p A.TO A.E:=by decide+kernel
def A.z42:A.p A.T0 A.E:=by decide+kernel
def A.z15:A.p A.Tw A.E:=by decide+kernel
def A.z76:A.p A.zZ A.E3:=by decide+kernel
def A.z73:A.e A.Gf A.E2:=by decide+kernel
def A.z78:A.e A.zZ A.E5:=by decide+kernel
def A.Vs:A.e A.jr A.UW:=by decide+kernel
def A.U7:A.e A.Gh A.UF:=by decide+kernel
def A.Vo:A.e A.jr A.UR:=by decide+kernel
def A.Vg:A.p A.UK A.Gi:=by decide+kernel
def A.z75:A.p A.Ur A.E3:=by decide+kernel
def A.z72:A.p A.Gf A.E1:=by decide+kernel
def A.z94:A.p A.UC A.tH:=by decide+kernel
def A.z26:A.p A.TJ A.E:=by decide+kernel
def A.z70:A.p A.Up A.E1:=by decide+kernel
def A.z39:A.p A.TX A.E:=by decide+kernel
def A.z7:A.p A.L7 A.E:=by decide+kernel
def A.z95:A.p A.UD A.tH:=by decide+kernel
def A.z22:A.p A.TF A.E:=by decide+kernel
def A.z33:A.p A.TR A.E:=by decide+kernel
def A.z16:A.p A.Ty A.E:=by decide+kernel
def A.z50:A.p A.T5 A.E1:=by decide+kernel
def A.z82:A.p A.Ut A.E7:=by decide+kernel
def A.z69:A.p A.Uo A.E1:=by decide+kernel
def A.z32:A.p A.TQ A.E:=by decide+kernel
def A.z6:A.p A.L6 A.E:=by decide+kernel
def A.z2:A.p A.L2 A.E:=by decide+kernel
def A.z59:A.p A.Ue A.E1:=by decide+kernel
end Go.Mx
