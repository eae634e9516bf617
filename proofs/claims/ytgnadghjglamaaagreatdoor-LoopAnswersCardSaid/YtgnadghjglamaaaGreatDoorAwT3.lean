/-The known runs, by the kernel-/
import Derived.Test.YtgnadghjglamaaaGreatDoorAwD
set_option linter.all false
namespace Go.Mx
open Go
set_option maxRecDepth 1000000
def A.z279:A.e A.L156 A.E122:=by decide+kernel
def A.z188:A.e A.L128 A.E59:=by decide+kernel
def A.z207:A.e A.L136 A.E70:=by decide+kernel
def A.z242:A.e A.L143 A.E98:=by decide+kernel
def A.z186:A.e A.L128 A.E57:=by decide+kernel
def A.z312:A.e A.L178 A.E133:=by decide+kernel
def A.z384:A.e A.L202 A.E181:=by decide+kernel
def A.z364:A.p A.L196 A.E167:=by decide+kernel
def A.z187:A.e A.L128 A.E58:=by decide+kernel
def A.z208:A.e A.L136 A.E71:=by decide+kernel
def A.z367:A.p A.L199 A.E167:=by decide+kernel
def A.z59:A.e A.L58 A.E0:=by decide+kernel
def A.z323:A.e A.L178 A.E144:=by decide+kernel
def A.z82:A.e A.L72 A.E9:=by decide+kernel
def A.z224:A.e A.L138 A.E85:=by decide+kernel
def A.z221:A.e A.L138 A.E82:=by decide+kernel
def A.z300:A.e A.L169 A.E130:=by decide+kernel
def A.z206:A.e A.L136 A.E69:=by decide+kernel
def A.z352:A.e A.L192 A.E159:=by decide+kernel
def A.z214:A.e A.L136 A.E77:=by decide+kernel
def A.z147:A.e A.L97 A.E49:=by decide+kernel
def A.z184:A.e A.L128 A.E55:=by decide+kernel
def A.z116:A.e A.L85 A.E30:=by decide+kernel
def A.z372:A.e A.L201 A.E170:=by decide+kernel
def A.z100:A.e A.L83 A.E16:=by decide+kernel
def A.z119:A.e A.L85 A.E33:=by decide+kernel
def A.z222:A.e A.L138 A.E83:=by decide+kernel
def A.z350:A.e A.L192 A.E157:=by decide+kernel
def A.z281:A.e A.L156 A.E124:=by decide+kernel
def A.z194:A.e A.L129 A.E64:=by decide+kernel
def A.z237:A.e A.L142 A.E94:=by decide+kernel
def A.z339:A.e A.L185 A.E153:=by decide+kernel
def A.z106:A.e A.L83 A.E22:=by decide+kernel
def A.z295:A.p A.L165 A.E129:=by decide+kernel
def A.z256:A.p A.L150 A.E105:=by decide+kernel
def A.z341:A.p A.L187 A.E153:=by decide+kernel
def A.z283:A.p A.L157 A.E125:=by decide+kernel
def A.z310:A.p A.L177 A.E132:=by decide+kernel
def A.z299:A.p A.L169 A.E129:=by decide+kernel
def A.z62:A.p A.L60 A.E1:=by decide+kernel
def A.z161:A.p A.L108 A.E52:=by decide+kernel
def A.z126:A.p A.L87 A.E38:=by decide+kernel
def A.z203:A.p A.L135 A.E67:=by decide+kernel
def A.z296:A.p A.L166 A.E129:=by decide+kernel
def A.z301:A.p A.L170 A.E130:=by decide+kernel
def A.z200:A.p A.L132 A.E67:=by decide+kernel
def A.z37:A.p A.L37 A.E:=by decide+kernel
def A.z44:A.p A.L44 A.E:=by decide+kernel
def A.z270:A.p A.L154 A.E115:=by decide+kernel
def A.z179:A.p A.L124 A.E54:=by decide+kernel
def A.z182:A.p A.L127 A.E54:=by decide+kernel
def A.z23:A.p A.L23 A.E:=by decide+kernel
def A.z54:A.p A.L54 A.E:=by decide+kernel
def A.z198:A.p A.L130 A.E67:=by decide+kernel
def A.z153:A.p A.L100 A.E52:=by decide+kernel
def A.z305:A.p A.L174 A.E130:=by decide+kernel
def A.z165:A.p A.L112 A.E52:=by decide+kernel
def A.z156:A.p A.L103 A.E52:=by decide+kernel
def A.z33:A.p A.L33 A.E:=by decide+kernel
def A.z160:A.p A.L107 A.E52:=by decide+kernel
def A.z138:A.p A.L93 A.E44:=by decide+kernel
def A.z233:A.p A.L142 A.E90:=by decide+kernel
def A.z12:A.p A.L12 A.E:=by decide+kernel
def A.z1:A.p A.L1 A.E:=by decide+kernel
def A.z297:A.p A.L167 A.E129:=by decide+kernel
def A.z80:A.p A.L72 A.E7:=by decide+kernel
end Go.Mx
