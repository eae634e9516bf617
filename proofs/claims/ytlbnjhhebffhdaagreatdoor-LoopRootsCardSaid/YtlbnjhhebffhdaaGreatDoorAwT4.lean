/-The known runs, by the kernel-/
import Derived.Test.YtlbnjhhebffhdaaGreatDoorAwD
set_option linter.all false
namespace Go.Mx
open Go
set_option maxRecDepth 1000000
def A.YF:A.e A.kR A.EO:=by decide+kernel
def A.zbh:A.e A.eS A.mT:=by decide+kernel
def A.zbf:A.e A.eS A.F4:=by decide+kernel
def A.zds:A.p A.dj A.yx:=by decide+kernel
def A.Z9:A.e A.fI A.rU:=by decide+kernel
def A.z81:A.e A.EL A.E8:=by decide+kernel
def A.zaz:A.e A.eD A.Yg:=by decide+kernel
def A.zb9:A.e A.cD A.GQ:=by decide+kernel
def A.zaM:A.e A.zgi A.Yo:=by decide+kernel
def A.zaT:A.e A.iO A.Yt:=by decide+kernel
def A.Zf:A.e A.MU A.MV:=by decide+kernel
def A.zaD:A.e A.eD A.Yk:=by decide+kernel
def A.zdS:A.e A.dj A.HO:=by decide+kernel
def A.Yz:A.e A.kR A.WU:=by decide+kernel
def A.zdQ:A.e A.dj A.HN:=by decide+kernel
def A.zaO:A.e A.zgi A.Yq:=by decide+kernel
def A.zcH:A.e A.eE A.Hg:=by decide+kernel
def A.YC:A.e A.kR A.WY:=by decide+kernel
def A.zbd:A.e A.eS A.F0:=by decide+kernel
def A.zbc:A.e A.eS A.FZ:=by decide+kernel
def A.zcP:A.e A.eE A.Hk:=by decide+kernel
def A.zbp:A.e A.eW A.Gc:=by decide+kernel
def A.z97:A.e A.yo A.EN:=by decide+kernel
def A.Yx:A.e A.kR A.WS:=by decide+kernel
def A.zbe:A.e A.eS A.F3:=by decide+kernel
def A.YQ:A.e A.jV A.Xi:=by decide+kernel
def A.za1:A.e A.yq A.pG:=by decide+kernel
def A.zbW:A.e A.yv A.tQ:=by decide+kernel
def A.Y5:A.e A.tN A.Xs:=by decide+kernel
def A.za_:A.e A.eS A.FW:=by decide+kernel
def A.zdu:A.e A.dj A.Hz:=by decide+kernel
def A.zb3:A.e A.cD A.GK:=by decide+kernel
def A.zcT:A.e A.eE A.Hm:=by decide+kernel
def A.zbq:A.e A.eW A.Gd:=by decide+kernel
def A.za2:A.p A.FQ A.pG:=by decide+kernel
def A.zcj:A.p A.G3 A.gl:=by decide+kernel
def A.zaY:A.p A.FN A.pF:=by decide+kernel
def A.za8:A.p A.eS A.pH:=by decide+kernel
def A.z99:A.p A.kR A.EN:=by decide+kernel
def A.ZG:A.p A.Fi A.eR:=by decide+kernel
def A.z65:A.p A.Ww A.E1:=by decide+kernel
def A.Z1:A.p A.fI A.MW:=by decide+kernel
def A.zbF:A.p A.Gq A.fJ:=by decide+kernel
def A.z64:A.p A.Wv A.E1:=by decide+kernel
def A.ZI:A.p A.Fk A.eR:=by decide+kernel
def A.z83:A.p A.WD A.E9:=by decide+kernel
def A.z19:A.p A.VJ A.E:=by decide+kernel
def A.z53:A.p A.Wm A.E:=by decide+kernel
def A.z16:A.p A.VG A.E:=by decide+kernel
def A.z50:A.p A.Wj A.E:=by decide+kernel
def A.zbl:A.p A.eW A.mT:=by decide+kernel
def A.z39:A.p A.V7 A.E:=by decide+kernel
def A.YG:A.p A.W9 A.EO:=by decide+kernel
def A.zbA:A.p A.mU A.jX:=by decide+kernel
def A.Zr:A.p A.ER A.eR:=by decide+kernel
def A.zbY:A.p A.cD A.tQ:=by decide+kernel
def A.ZE:A.p A.Fg A.eR:=by decide+kernel
def A.ZM:A.p A.Fl A.oF:=by decide+kernel
def A.z67:A.p A.Bv A.E1:=by decide+kernel
def A.z48:A.p A.Wg A.E:=by decide+kernel
def A.Y0:A.p A.tN A.tM:=by decide+kernel
def A.zaH:A.p A.FH A.yp:=by decide+kernel
def A.z7:A.p A.L7 A.E:=by decide+kernel
def A.Zu:A.p A.EU A.eR:=by decide+kernel
def A.zbL:A.p A.Gy A.fJ:=by decide+kernel
def A.z9:A.p A.L9 A.E:=by decide+kernel
end Go.Mx
