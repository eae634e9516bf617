/-The known runs, by the kernel-/
import Derived.Test.YtlbnjhhebffhdaaGreatDoorAwD
set_option linter.all false
namespace Go.Mx
open Go
set_option maxRecDepth 1000000
def A.YU:A.e A.jV A.tM:=by decide+kernel
def A.z60:A.e A.EK A.E1:=by decide+kernel
def A.zam:A.e A.dR A.XZ:=by decide+kernel
def A.zce:A.e A.cD A.GX:=by decide+kernel
def A.z85:A.e A.EM A.WE:=by decide+kernel
def A.zaW:A.e A.iO A.FM:=by decide+kernel
def A.zdW:A.p A.MZ A.Bx:=by decide+kernel
def A.z74:A.e A.Bw A.E7:=by decide+kernel
def A.zbg:A.e A.eS A.F5:=by decide+kernel
def A.Z2:A.e A.fI A.XM:=by decide+kernel
def A.zcd:A.e A.cD A.GW:=by decide+kernel
def A.zaQ:A.e A.zgi A.MY:=by decide+kernel
def A.zdK:A.e A.dj A.HK:=by decide+kernel
def A.zdG:A.e A.dj A.HH:=by decide+kernel
def A.zcb:A.e A.cD A.GU:=by decide+kernel
def A.ZW:A.e A.jW A.XJ:=by decide+kernel
def A.zal:A.e A.dR A.XY:=by decide+kernel
def A.YI:A.e A.jV A.Xa:=by decide+kernel
def A.zb7:A.e A.cD A.GO:=by decide+kernel
def A.z68:A.e A.Bv A.E2:=by decide+kernel
def A.Y6:A.e A.tN A.Xt:=by decide+kernel
def A.zbn:A.e A.eW A.Ga:=by decide+kernel
def A.zaU:A.e A.iO A.FJ:=by decide+kernel
def A.zdm:A.e A.pL A.Hx:=by decide+kernel
def A.Zi:A.e A.rT A.XA:=by decide+kernel
def A.zbt:A.e A.eW A.Gg:=by decide+kernel
def A.z69:A.e A.Bv A.E3:=by decide+kernel
def A.Yy:A.e A.kR A.WT:=by decide+kernel
def A.zbm:A.e A.eW A.F9:=by decide+kernel
def A.YK:A.e A.jV A.Xc:=by decide+kernel
def A.Z8:A.e A.fI A.XT:=by decide+kernel
def A.zb4:A.e A.cD A.GL:=by decide+kernel
def A.zcV:A.e A.eE A.Hn:=by decide+kernel
def A.zcf:A.e A.cD A.GY:=by decide+kernel
def A.zbx:A.p A.Gj A.jX:=by decide+kernel
def A.z61:A.p A.Ws A.E1:=by decide+kernel
def A.za7:A.p A.FU A.pH:=by decide+kernel
def A.zco:A.p A.yw A.gl:=by decide+kernel
def A.zcB:A.p A.eE A.gm:=by decide+kernel
def A.z30:A.p A.VV A.E:=by decide+kernel
def A.z88:A.p A.WH A.rS:=by decide+kernel
def A.z25:A.p A.VP A.E:=by decide+kernel
def A.zcx:A.p A.Hc A.gm:=by decide+kernel
def A.zbU:A.p A.GD A.tP:=by decide+kernel
def A.z5:A.p A.L5 A.E:=by decide+kernel
def A.zab:A.p A.Fy A.rU:=by decide+kernel
def A.z89:A.p A.WJ A.rS:=by decide+kernel
def A.z93:A.p A.yo A.rS:=by decide+kernel
def A.z36:A.p A.V4 A.E:=by decide+kernel
def A.zbi:A.p A.F6 A.mT:=by decide+kernel
def A.zcm:A.p A.G6 A.gl:=by decide+kernel
def A.z47:A.p A.Wf A.E:=by decide+kernel
def A.YZ:A.p A.L90 A.tM:=by decide+kernel
def A.zbG:A.p A.Gs A.fJ:=by decide+kernel
def A.zat:A.p A.FF A.FD:=by decide+kernel
def A.z35:A.p A.V3 A.E:=by decide+kernel
def A.z55:A.p A.Wp A.E:=by decide+kernel
def A.z27:A.p A.VS A.E:=by decide+kernel
def A.z26:A.p A.VQ A.E:=by decide+kernel
def A.z66:A.p A.Wx A.E1:=by decide+kernel
def A.ZN:A.p A.Fm A.oF:=by decide+kernel
def A.zbk:A.p A.F8 A.mT:=by decide+kernel
def A.z28:A.p A.VT A.E:=by decide+kernel
def A.z42:A.p A.Wa A.E:=by decide+kernel
def A.zau:A.p A.eD A.FD:=by decide+kernel
def A.z8:A.p A.L8 A.E:=by decide+kernel
end Go.Mx
