/-The known runs, by the kernel-/
import Derived.Test.YthekjfgljafnaaaGreatDoorAwD
set_option linter.all false
namespace Go.Mx
open Go
set_option maxRecDepth 1000000
def A.z74:A.e A.L70 A.E3:=by decide+kernel
def A.z112:A.e A.L90 A.E21:=by decide+kernel
def A.z121:A.e A.L90 A.E30:=by decide+kernel
def A.z106:A.e A.L88 A.E17:=by decide+kernel
def A.z103:A.e A.L88 A.E14:=by decide+kernel
def A.z92:A.p A.L81 A.E10:=by decide+kernel
def A.z83:A.p A.L75 A.E7:=by decide+kernel
def A.z84:A.p A.L76 A.E7:=by decide+kernel
def A.z67:A.p A.L65 A.E1:=by decide+kernel
def A.z47:A.p A.L45 A.E1:=by decide+kernel
def A.z17:A.p A.L17 A.E:=by decide+kernel
def A.z29:A.p A.L29 A.E:=by decide+kernel
def A.z53:A.p A.L51 A.E1:=by decide+kernel
def A.z18:A.p A.L18 A.E:=by decide+kernel
def A.z23:A.p A.L23 A.E:=by decide+kernel
def A.z28:A.p A.L28 A.E:=by decide+kernel
def A.z91:A.p A.L80 A.E10:=by decide+kernel
def A.z40:A.p A.L40 A.E:=by decide+kernel
def A.z44:A.p A.L44 A.E:=by decide+kernel
def A.z123:A.p A.L91 A.E31:=by decide+kernel
def A.z117:A.e A.L90 A.E26:=by decide+kernel
def A.z107:A.e A.L88 A.E18:=by decide+kernel
def A.z115:A.e A.L90 A.E24:=by decide+kernel
def A.z104:A.e A.L88 A.E15:=by decide+kernel
def A.z63:A.p A.L61 A.E1:=by decide+kernel
def A.z85:A.p A.L77 A.E7:=by decide+kernel
def A.z93:A.p A.L82 A.E10:=by decide+kernel
def A.z102:A.p A.L88 A.E13:=by decide+kernel
def A.z8:A.p A.L8 A.E:=by decide+kernel
def A.z13:A.p A.L13 A.E:=by decide+kernel
def A.z96:A.p A.L85 A.E10:=by decide+kernel
def A.z43:A.p A.L43 A.E:=by decide+kernel
def A.z51:A.p A.L49 A.E1:=by decide+kernel
def A.z62:A.p A.L60 A.E1:=by decide+kernel
def A.z37:A.p A.L37 A.E:=by decide+kernel
def A.z71:A.p A.L69 A.E1:=by decide+kernel
def A.z57:A.p A.L55 A.E1:=by decide+kernel
def A.z31:A.p A.L31 A.E:=by decide+kernel
def A.z42:A.p A.L42 A.E:=by decide+kernel
def A.z15:A.p A.L15 A.E:=by decide+kernel
def A.z76:A.p A.L72 A.E3:=by decide+kernel
def A.z73:A.e A.L70 A.E2:=by decide+kernel
def A.z78:A.e A.L72 A.E5:=by decide+kernel
def A.z120:A.e A.L90 A.E29:=by decide+kernel
def A.z100:A.e A.L87 A.E12:=by decide+kernel
def A.z116:A.e A.L90 A.E25:=by decide+kernel
def A.z108:A.p A.L89 A.E18:=by decide+kernel
def A.z75:A.p A.L71 A.E3:=by decide+kernel
def A.z72:A.p A.L70 A.E1:=by decide+kernel
def A.z94:A.p A.L83 A.E10:=by decide+kernel
def A.z26:A.p A.L26 A.E:=by decide+kernel
def A.z70:A.p A.L68 A.E1:=by decide+kernel
def A.z39:A.p A.L39 A.E:=by decide+kernel
def A.z7:A.p A.L7 A.E:=by decide+kernel
def A.z95:A.p A.L84 A.E10:=by decide+kernel
def A.z22:A.p A.L22 A.E:=by decide+kernel
def A.z33:A.p A.L33 A.E:=by decide+kernel
def A.z16:A.p A.L16 A.E:=by decide+kernel
def A.z50:A.p A.L48 A.E1:=by decide+kernel
def A.z82:A.p A.L74 A.E7:=by decide+kernel
def A.z69:A.p A.L67 A.E1:=by decide+kernel
def A.z32:A.p A.L32 A.E:=by decide+kernel
def A.z6:A.p A.L6 A.E:=by decide+kernel
def A.z2:A.p A.L2 A.E:=by decide+kernel
def A.z59:A.p A.L57 A.E1:=by decide+kernel
end Go.Mx
