/-The known runs, by the kernel-/
import Derived.Test.YteoackkadadmdaaGreatDoorMxInp
set_option linter.all false
namespace Go.Mx
open Go
set_option maxRecDepth 1000000
def A.z74:A.e A.ES A.E3:=by decide+kernel
def A.SY:A.e A.jh A.Sw:=by decide+kernel
def A.Ta:A.e A.jh A.SF:=by decide+kernel
def A.SR:A.e A.xw A.Sr:=by decide+kernel
def A.SO:A.e A.xw A.So:=by decide+kernel
def A.z92:A.p A.Sg A.sq:=by decide+kernel
def A.z83:A.p A.Sa A.E7:=by decide+kernel
def A.z84:A.p A.Sb A.E7:=by decide+kernel
def A.z67:A.p A.RY A.E1:=by decide+kernel
def A.z47:A.p A.RD A.E1:=by decide+kernel
def A.z17:A.p A.Q9 A.E:=by decide+kernel
def A.z29:A.p A.Rn A.E:=by decide+kernel
def A.z53:A.p A.RJ A.E1:=by decide+kernel
def A.z18:A.p A.Ra A.E:=by decide+kernel
def A.z23:A.p A.Rh A.E:=by decide+kernel
def A.z28:A.p A.Rm A.E:=by decide+kernel
def A.z91:A.p A.Sf A.sq:=by decide+kernel
def A.z40:A.p A.Rz A.E:=by decide+kernel
def A.z44:A.p A.ER A.E:=by decide+kernel
def A.Tc:A.p A.Y5 A.NS:=by decide+kernel
def A.S6:A.e A.jh A.SB:=by decide+kernel
def A.SS:A.e A.xw A.EV:=by decide+kernel
def A.S4:A.e A.jh A.Sz:=by decide+kernel
def A.SP:A.e A.xw A.Sp:=by decide+kernel
def A.z63:A.p A.RU A.E1:=by decide+kernel
def A.z85:A.p A.Sd A.E7:=by decide+kernel
def A.z93:A.p A.Sh A.sq:=by decide+kernel
def A.SN:A.p A.xw A.JF:=by decide+kernel
def A.z8:A.p A.L8 A.E:=by decide+kernel
def A.z13:A.p A.Q5 A.E:=by decide+kernel
def A.z96:A.p A.JE A.sq:=by decide+kernel
def A.z43:A.p A.RC A.E:=by decide+kernel
def A.z51:A.p A.RH A.E1:=by decide+kernel
def A.z62:A.p A.RT A.E1:=by decide+kernel
def A.z37:A.p A.Rw A.E:=by decide+kernel
def A.z71:A.p A.R6 A.E1:=by decide+kernel
def A.z57:A.p A.RN A.E1:=by decide+kernel
def A.z31:A.p A.Rp A.E:=by decide+kernel
def A.z42:A.p A.RB A.E:=by decide+kernel
def A.z15:A.p A.Q7 A.E:=by decide+kernel
def A.z76:A.p A.yQ A.E3:=by decide+kernel
def A.z73:A.e A.ES A.E2:=by decide+kernel
def A.z78:A.e A.yQ A.E5:=by decide+kernel
def A.S9:A.e A.jh A.SE:=by decide+kernel
def A.SL:A.e A.EU A.Sm:=by decide+kernel
def A.S5:A.e A.jh A.SA:=by decide+kernel
def A.SU:A.p A.Ss A.EV:=by decide+kernel
def A.z75:A.p A.R7 A.E3:=by decide+kernel
def A.z72:A.p A.ES A.E1:=by decide+kernel
def A.z94:A.p A.Si A.sq:=by decide+kernel
def A.z26:A.p A.Rk A.E:=by decide+kernel
def A.z70:A.p A.R5 A.E1:=by decide+kernel
def A.z39:A.p A.Ry A.E:=by decide+kernel
def A.z7:A.p A.L7 A.E:=by decide+kernel
def A.z95:A.p A.Sj A.sq:=by decide+kernel
def A.z22:A.p A.Rf A.E:=by decide+kernel
def A.z33:A.p A.Rr A.E:=by decide+kernel
def A.z16:A.p A.Q8 A.E:=by decide+kernel
def A.z50:A.p A.RG A.E1:=by decide+kernel
def A.z82:A.p A.R9 A.E7:=by decide+kernel
def A.z69:A.p A.R4 A.E1:=by decide+kernel
def A.z32:A.p A.Rq A.E:=by decide+kernel
def A.z6:A.p A.L6 A.E:=by decide+kernel
def A.z2:A.p A.L2 A.E:=by decide+kernel
def A.z59:A.p A.RP A.E1:=by decide+kernel
end Go.Mx
