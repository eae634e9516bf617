/-The known runs, by the kernel-/
import Derived.Test.YtlbnjhhebffhdaaGreatDoorAwD
set_option linter.all false
namespace Go.Mx
open Go
set_option maxRecDepth 1000000
def A.zbs:A.e A.eW A.Gf:=by decide+kernel
def A.zhQ:A.e A.jW A.MW:=by decide+kernel
def A.zaj:A.e A.dR A.XW:=by decide+kernel
def A.zaS:A.e A.iO A.Ys:=by decide+kernel
def A.ZX:A.e A.jW A.XK:=by decide+kernel
def A.zbZ:A.e A.cD A.GG:=by decide+kernel
def A.zdO:A.e A.dj A.zhv:=by decide+kernel
def A.zda:A.p A.Hs A.iP:=by decide+kernel
def A.ZY:A.e A.jW A.XL:=by decide+kernel
def A.zak:A.e A.dR A.XX:=by decide+kernel
def A.zdg:A.p A.Hv A.iP:=by decide+kernel
def A.z59:A.e A.EK A.E0:=by decide+kernel
def A.zb_:A.e A.cD A.GR:=by decide+kernel
def A.z82:A.e A.EL A.E9:=by decide+kernel
def A.zaA:A.e A.eD A.Yh:=by decide+kernel
def A.zax:A.e A.eD A.Ye:=by decide+kernel
def A.zbN:A.e A.yt A.jY:=by decide+kernel
def A.zai:A.e A.dR A.XV:=by decide+kernel
def A.zcN:A.e A.eE A.Hj:=by decide+kernel
def A.zaq:A.e A.dR A.Ya:=by decide+kernel
def A.Zk:A.e A.rT A.XC:=by decide+kernel
def A.ZV:A.e A.jW A.XI:=by decide+kernel
def A.YL:A.e A.jV A.Xd:=by decide+kernel
def A.zdq:A.e A.pL A.yx:=by decide+kernel
def A.Yv:A.e A.kR A.WQ:=by decide+kernel
def A.YO:A.e A.jV A.Xg:=by decide+kernel
def A.zay:A.e A.eD A.Yf:=by decide+kernel
def A.zcJ:A.e A.eE A.Hh:=by decide+kernel
def A.zbu:A.e A.eW A.Gh:=by decide+kernel
def A.Z6:A.e A.fI A.XQ:=by decide+kernel
def A.zaN:A.e A.zgi A.Yp:=by decide+kernel
def A.zcp:A.e A.yw A.gm:=by decide+kernel
def A.YB:A.e A.kR A.WX:=by decide+kernel
def A.zbI:A.p A.Gu A.fJ:=by decide+kernel
def A.za6:A.p A.FT A.pH:=by decide+kernel
def A.zcr:A.p A.G9 A.gm:=by decide+kernel
def A.zbw:A.p A.Gi A.jX:=by decide+kernel
def A.zbX:A.p A.GF A.tQ:=by decide+kernel
def A.zbM:A.p A.yt A.fJ:=by decide+kernel
def A.z62:A.p A.Wt A.E1:=by decide+kernel
def A.Zy:A.p A.EY A.eR:=by decide+kernel
def A.YW:A.p A.Xm A.tM:=by decide+kernel
def A.zaf:A.p A.FC A.rU:=by decide+kernel
def A.zbJ:A.p A.Gw A.fJ:=by decide+kernel
def A.zbO:A.p A.Gz A.jY:=by decide+kernel
def A.zac:A.p A.Fz A.rU:=by decide+kernel
def A.z37:A.p A.V5 A.E:=by decide+kernel
def A.z44:A.p A.Wc A.E:=by decide+kernel
def A.zbj:A.p A.F7 A.mT:=by decide+kernel
def A.ZQ:A.p A.Fs A.oF:=by decide+kernel
def A.ZT:A.p A.Fv A.oF:=by decide+kernel
def A.z23:A.p A.VN A.E:=by decide+kernel
def A.z54:A.p A.Wo A.E:=by decide+kernel
def A.zaa:A.p A.Fw A.rU:=by decide+kernel
def A.Zq:A.p A.EP A.eR:=by decide+kernel
def A.zbS:A.p A.zhb A.jY:=by decide+kernel
def A.ZC:A.p A.Fe A.eR:=by decide+kernel
def A.Zt:A.p A.ET A.eR:=by decide+kernel
def A.z33:A.p A.VY A.E:=by decide+kernel
def A.Zx:A.p A.EX A.eR:=by decide+kernel
def A.Zb:A.p A.Xw A.wJ:=by decide+kernel
def A.zaJ:A.p A.zgi A.yp:=by decide+kernel
def A.z12:A.p A.VB A.E:=by decide+kernel
def A.z1:A.p A.L1 A.E:=by decide+kernel
def A.zbK:A.p A.Gx A.fJ:=by decide+kernel
def A.z80:A.p A.EL A.E7:=by decide+kernel
end Go.Mx
