/-The known runs, by the kernel-/
import Derived.Test.YtgnadghjglamaaaGreatDoorAwD
set_option linter.all false
namespace Go.Mx
open Go
set_option maxRecDepth 1000000
def A.XZ:A.e A.kl A.uf:=by decide+kernel
def A.z60:A.e A.EL A.E1:=by decide+kernel
def A.Zx:A.e A.dT A.Xb:=by decide+kernel
def A.zbr:A.e A.cB A.GW:=by decide+kernel
def A.z85:A.e A.EN A.VN:=by decide+kernel
def A.Z8:A.e A.jc A.Iy:=by decide+kernel
def A.zdf:A.p A.MU A.BE:=by decide+kernel
def A.z74:A.e A.BD A.E7:=by decide+kernel
def A.zat:A.e A.eW A.F4:=by decide+kernel
def A.Zd:A.e A.fQ A.WQ:=by decide+kernel
def A.zbq:A.e A.cB A.GV:=by decide+kernel
def A.Z2:A.e A.gW A.MT:=by decide+kernel
def A.zc4:A.e A.di A.HR:=by decide+kernel
def A.zc0:A.e A.di A.HP:=by decide+kernel
def A.zbo:A.e A.cB A.GS:=by decide+kernel
def A.Y7:A.e A.km A.WM:=by decide+kernel
def A.Zw:A.e A.dT A.Xa:=by decide+kernel
def A.XN:A.e A.kl A.Wa:=by decide+kernel
def A.zbj:A.e A.cB A.GN:=by decide+kernel
def A.z68:A.e A.BC A.E2:=by decide+kernel
def A.Yf:A.e A.ui A.Wv:=by decide+kernel
def A.zaA:A.e A.eX A.F9:=by decide+kernel
def A.Z6:A.e A.jc A.FJ:=by decide+kernel
def A.zcG:A.e A.ot A.HF:=by decide+kernel
def A.Yq:A.e A.sq A.WC:=by decide+kernel
def A.zaG:A.e A.eX A.Gf:=by decide+kernel
def A.z69:A.e A.BC A.E3:=by decide+kernel
def A.XD:A.e A.lV A.V2:=by decide+kernel
def A.zaz:A.e A.eX A.F8:=by decide+kernel
def A.XP:A.e A.kl A.Wc:=by decide+kernel
def A.Zj:A.e A.fQ A.WX:=by decide+kernel
def A.zbg:A.e A.cB A.GK:=by decide+kernel
def A.zce:A.e A.eF A.Hq:=by decide+kernel
def A.zbs:A.e A.cB A.GX:=by decide+kernel
def A.zaK:A.p A.Gi A.ko:=by decide+kernel
def A.z61:A.p A.VB A.E1:=by decide+kernel
def A.zaj:A.p A.FT A.p_:=by decide+kernel
def A.zbF:A.p A.yN A.gY:=by decide+kernel
def A.zbV:A.p A.eF A.gZ:=by decide+kernel
def A.z30:A.p A.U8 A.E:=by decide+kernel
def A.z88:A.p A.VP A.si:=by decide+kernel
def A.z25:A.p A.U0 A.E:=by decide+kernel
def A.zbR:A.p A.Hf A.gZ:=by decide+kernel
def A.za7:A.p A.GC A.uk:=by decide+kernel
def A.z5:A.p A.L5 A.E:=by decide+kernel
def A.Zm:A.p A.Fy A.sw:=by decide+kernel
def A.z89:A.p A.VQ A.si:=by decide+kernel
def A.z93:A.p A.yE A.si:=by decide+kernel
def A.z36:A.p A.Ve A.E:=by decide+kernel
def A.zav:A.p A.F5 A.pQ:=by decide+kernel
def A.zbB:A.p A.G9 A.gY:=by decide+kernel
def A.z47:A.p A.Vq A.E:=by decide+kernel
def A.Ya:A.p A.Wr A.uf:=by decide+kernel
def A.zaT:A.p A.Gq A.fR:=by decide+kernel
def A.ZE:A.p A.FF A.FD:=by decide+kernel
def A.z35:A.p A.Vd A.E:=by decide+kernel
def A.z55:A.p A.Vy A.E:=by decide+kernel
def A.z27:A.p A.U4 A.E:=by decide+kernel
def A.z26:A.p A.U1 A.E:=by decide+kernel
def A.z66:A.p A.VG A.E1:=by decide+kernel
def A.YW:A.p A.Fo A.o8:=by decide+kernel
def A.zax:A.p A.F7 A.pQ:=by decide+kernel
def A.z28:A.p A.U6 A.E:=by decide+kernel
def A.z42:A.p A.Vl A.E:=by decide+kernel
def A.ZF:A.p A.eE A.FD:=by decide+kernel
def A.z8:A.p A.L8 A.E:=by decide+kernel
end Go.Mx
