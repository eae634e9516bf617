/-The known runs, by the kernel-/
import Derived.Test.YtgnadghjglamaaaGreatDoorAwD
set_option linter.all false
namespace Go.Mx
open Go
set_option maxRecDepth 1000000
def A.z124:A.e A.L85 A.E38:=by decide+kernel
def A.z60:A.e A.L58 A.E1:=by decide+kernel
def A.z210:A.e A.L136 A.E73:=by decide+kernel
def A.z328:A.e A.L178 A.E149:=by decide+kernel
def A.z85:A.e A.L74 A.E10:=by decide+kernel
def A.z246:A.e A.L143 A.E102:=by decide+kernel
def A.z388:A.p A.L203 A.E184:=by decide+kernel
def A.z74:A.e A.L66 A.E7:=by decide+kernel
def A.z267:A.e A.L152 A.E114:=by decide+kernel
def A.z190:A.e A.L129 A.E60:=by decide+kernel
def A.z327:A.e A.L178 A.E148:=by decide+kernel
def A.z240:A.e A.L142 A.E97:=by decide+kernel
def A.z382:A.e A.L202 A.E179:=by decide+kernel
def A.z380:A.e A.L202 A.E177:=by decide+kernel
def A.z325:A.e A.L178 A.E146:=by decide+kernel
def A.z185:A.e A.L128 A.E56:=by decide+kernel
def A.z209:A.e A.L136 A.E72:=by decide+kernel
def A.z113:A.e A.L85 A.E27:=by decide+kernel
def A.z320:A.e A.L178 A.E141:=by decide+kernel
def A.z68:A.e A.L65 A.E2:=by decide+kernel
def A.z134:A.e A.L91 A.E42:=by decide+kernel
def A.z274:A.e A.L156 A.E117:=by decide+kernel
def A.z244:A.e A.L143 A.E100:=by decide+kernel
def A.z370:A.e A.L201 A.E168:=by decide+kernel
def A.z145:A.e A.L97 A.E47:=by decide+kernel
def A.z280:A.e A.L156 A.E123:=by decide+kernel
def A.z69:A.e A.L65 A.E3:=by decide+kernel
def A.z103:A.e A.L83 A.E19:=by decide+kernel
def A.z273:A.e A.L156 A.E116:=by decide+kernel
def A.z115:A.e A.L85 A.E29:=by decide+kernel
def A.z196:A.e A.L129 A.E66:=by decide+kernel
def A.z317:A.e A.L178 A.E138:=by decide+kernel
def A.z356:A.e A.L192 A.E163:=by decide+kernel
def A.z329:A.e A.L178 A.E150:=by decide+kernel
def A.z284:A.p A.L158 A.E125:=by decide+kernel
def A.z61:A.p A.L59 A.E1:=by decide+kernel
def A.z257:A.p A.L151 A.E105:=by decide+kernel
def A.z338:A.p A.L185 A.E152:=by decide+kernel
def A.z346:A.p A.L192 A.E153:=by decide+kernel
def A.z30:A.p A.L30 A.E:=by decide+kernel
def A.z88:A.p A.L76 A.E11:=by decide+kernel
def A.z25:A.p A.L25 A.E:=by decide+kernel
def A.z344:A.p A.L190 A.E153:=by decide+kernel
def A.z307:A.p A.L175 A.E131:=by decide+kernel
def A.z5:A.p A.L5 A.E:=by decide+kernel
def A.z199:A.p A.L131 A.E67:=by decide+kernel
def A.z89:A.p A.L77 A.E11:=by decide+kernel
def A.z93:A.p A.L81 A.E11:=by decide+kernel
def A.z36:A.p A.L36 A.E:=by decide+kernel
def A.z269:A.p A.L153 A.E115:=by decide+kernel
def A.z336:A.p A.L183 A.E152:=by decide+kernel
def A.z47:A.p A.L47 A.E:=by decide+kernel
def A.z129:A.p A.L90 A.E38:=by decide+kernel
def A.z293:A.p A.L163 A.E129:=by decide+kernel
def A.z217:A.p A.L137 A.E79:=by decide+kernel
def A.z35:A.p A.L35 A.E:=by decide+kernel
def A.z55:A.p A.L55 A.E:=by decide+kernel
def A.z27:A.p A.L27 A.E:=by decide+kernel
def A.z26:A.p A.L26 A.E:=by decide+kernel
def A.z66:A.p A.L64 A.E1:=by decide+kernel
def A.z176:A.p A.L121 A.E54:=by decide+kernel
def A.z271:A.p A.L155 A.E115:=by decide+kernel
def A.z28:A.p A.L28 A.E:=by decide+kernel
def A.z42:A.p A.L42 A.E:=by decide+kernel
def A.z218:A.p A.L138 A.E79:=by decide+kernel
def A.z8:A.p A.L8 A.E:=by decide+kernel
end Go.Mx
