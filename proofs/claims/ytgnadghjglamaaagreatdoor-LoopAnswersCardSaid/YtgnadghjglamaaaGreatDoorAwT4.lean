/-The known runs, by the kernel-/
import Derived.Test.YtgnadghjglamaaaGreatDoorAwD
set_option linter.all false
namespace Go.Mx
open Go
set_option maxRecDepth 1000000
def A.z110:A.e A.L83 A.E26:=by decide+kernel
def A.z268:A.e A.L152 A.E115:=by decide+kernel
def A.z266:A.e A.L152 A.E113:=by decide+kernel
def A.z373:A.p A.L202 A.E170:=by decide+kernel
def A.z197:A.e A.L129 A.E67:=by decide+kernel
def A.z81:A.e A.L72 A.E8:=by decide+kernel
def A.z223:A.e A.L138 A.E84:=by decide+kernel
def A.z322:A.e A.L178 A.E143:=by decide+kernel
def A.z236:A.e A.L142 A.E93:=by decide+kernel
def A.z243:A.e A.L143 A.E99:=by decide+kernel
def A.z142:A.e A.L96 A.E45:=by decide+kernel
def A.z227:A.e A.L138 A.E88:=by decide+kernel
def A.z386:A.e A.L202 A.E183:=by decide+kernel
def A.z104:A.e A.L83 A.E20:=by decide+kernel
def A.z385:A.e A.L202 A.E182:=by decide+kernel
def A.z238:A.e A.L142 A.E95:=by decide+kernel
def A.z349:A.e A.L192 A.E156:=by decide+kernel
def A.z107:A.e A.L83 A.E23:=by decide+kernel
def A.z264:A.e A.L152 A.E111:=by decide+kernel
def A.z263:A.e A.L152 A.E110:=by decide+kernel
def A.z353:A.e A.L192 A.E160:=by decide+kernel
def A.z276:A.e A.L156 A.E119:=by decide+kernel
def A.z97:A.e A.L81 A.E15:=by decide+kernel
def A.z102:A.e A.L83 A.E18:=by decide+kernel
def A.z265:A.e A.L152 A.E112:=by decide+kernel
def A.z121:A.e A.L85 A.E35:=by decide+kernel
def A.z251:A.e A.L146 A.E104:=by decide+kernel
def A.z309:A.e A.L176 A.E132:=by decide+kernel
def A.z133:A.e A.L91 A.E41:=by decide+kernel
def A.z260:A.e A.L152 A.E107:=by decide+kernel
def A.z374:A.e A.L202 A.E171:=by decide+kernel
def A.z316:A.e A.L178 A.E137:=by decide+kernel
def A.z355:A.e A.L192 A.E162:=by decide+kernel
def A.z277:A.e A.L156 A.E120:=by decide+kernel
def A.z252:A.p A.L147 A.E104:=by decide+kernel
def A.z333:A.p A.L180 A.E152:=by decide+kernel
def A.z248:A.p A.L144 A.E103:=by decide+kernel
def A.z258:A.p A.L152 A.E105:=by decide+kernel
def A.z99:A.p A.L83 A.E15:=by decide+kernel
def A.z169:A.p A.L116 A.E52:=by decide+kernel
def A.z65:A.p A.L63 A.E1:=by decide+kernel
def A.z189:A.p A.L129 A.E59:=by decide+kernel
def A.z292:A.p A.L162 A.E129:=by decide+kernel
def A.z64:A.p A.L62 A.E1:=by decide+kernel
def A.z171:A.p A.L118 A.E52:=by decide+kernel
def A.z83:A.p A.L73 A.E9:=by decide+kernel
def A.z19:A.p A.L19 A.E:=by decide+kernel
def A.z53:A.p A.L53 A.E:=by decide+kernel
def A.z16:A.p A.L16 A.E:=by decide+kernel
def A.z50:A.p A.L50 A.E:=by decide+kernel
def A.z272:A.p A.L156 A.E115:=by decide+kernel
def A.z39:A.p A.L39 A.E:=by decide+kernel
def A.z111:A.p A.L84 A.E26:=by decide+kernel
def A.z287:A.p A.L161 A.E125:=by decide+kernel
def A.z154:A.p A.L101 A.E52:=by decide+kernel
def A.z311:A.p A.L178 A.E132:=by decide+kernel
def A.z167:A.p A.L114 A.E52:=by decide+kernel
def A.z175:A.p A.L120 A.E54:=by decide+kernel
def A.z67:A.p A.L65 A.E1:=by decide+kernel
def A.z48:A.p A.L48 A.E:=by decide+kernel
def A.z130:A.p A.L91 A.E38:=by decide+kernel
def A.z231:A.p A.L140 A.E90:=by decide+kernel
def A.z7:A.p A.L7 A.E:=by decide+kernel
def A.z157:A.p A.L104 A.E52:=by decide+kernel
def A.z298:A.p A.L168 A.E129:=by decide+kernel
def A.z9:A.p A.L9 A.E:=by decide+kernel
end Go.Mx
