/-The known runs, by the kernel-/
import Derived.Test.YtgnadghjglamaaaGreatDoorAwD
set_option linter.all false
namespace Go.Mx
open Go
set_option maxRecDepth 1000000
def A.XK:A.e A.lV A.EP:=by decide+kernel
def A.zau:A.e A.eW A.pQ:=by decide+kernel
def A.zas:A.e A.eW A.F3:=by decide+kernel
def A.zcM:A.p A.di A.yO:=by decide+kernel
def A.Zk:A.e A.fQ A.sw:=by decide+kernel
def A.z81:A.e A.EM A.E8:=by decide+kernel
def A.ZK:A.e A.eE A.Xl:=by decide+kernel
def A.zbl:A.e A.cB A.GP:=by decide+kernel
def A.ZX:A.e A.gW A.Xt:=by decide+kernel
def A.Z5:A.e A.jc A.Xy:=by decide+kernel
def A.Yn:A.e A.MQ A.MR:=by decide+kernel
def A.ZO:A.e A.eE A.Xp:=by decide+kernel
def A.zdb:A.e A.di A.HV:=by decide+kernel
def A.XE:A.e A.lV A.V3:=by decide+kernel
def A.zc_:A.e A.di A.HU:=by decide+kernel
def A.Z0:A.e A.gW A.Xv:=by decide+kernel
def A.zb1:A.e A.eF A.Hj:=by decide+kernel
def A.XH:A.e A.lV A.V6:=by decide+kernel
def A.zaq:A.e A.eW A.FZ:=by decide+kernel
def A.zap:A.e A.eW A.FY:=by decide+kernel
def A.zb9:A.e A.eF A.Hn:=by decide+kernel
def A.zaC:A.e A.eX A.Gb:=by decide+kernel
def A.z97:A.e A.yE A.EO:=by decide+kernel
def A.XC:A.e A.lV A.V1:=by decide+kernel
def A.zar:A.e A.eW A.F0:=by decide+kernel
def A.XW:A.e A.kl A.Wj:=by decide+kernel
def A.zad:A.e A.yH A.p9:=by decide+kernel
def A.za9:A.e A.yM A.uo:=by decide+kernel
def A.Ye:A.e A.ui A.Wu:=by decide+kernel
def A.zam:A.e A.eW A.FV:=by decide+kernel
def A.zcO:A.e A.di A.HH:=by decide+kernel
def A.zbf:A.e A.cB A.GJ:=by decide+kernel
def A.zcc:A.e A.eF A.Hp:=by decide+kernel
def A.zaD:A.e A.eX A.Gc:=by decide+kernel
def A.zae:A.p A.FO A.p9:=by decide+kernel
def A.zbw:A.p A.G0 A.gY:=by decide+kernel
def A.zaa:A.p A.FM A.pZ:=by decide+kernel
def A.zak:A.p A.eW A.p_:=by decide+kernel
def A.z99:A.p A.lV A.EO:=by decide+kernel
def A.YO:A.p A.Fj A.eS:=by decide+kernel
def A.z65:A.p A.VF A.E1:=by decide+kernel
def A.Zc:A.p A.fQ A.MS:=by decide+kernel
def A.zaS:A.p A.Gp A.fR:=by decide+kernel
def A.z64:A.p A.VE A.E1:=by decide+kernel
def A.YQ:A.p A.Fl A.eS:=by decide+kernel
def A.z83:A.p A.VM A.E9:=by decide+kernel
def A.z19:A.p A.UT A.E:=by decide+kernel
def A.z53:A.p A.Vw A.E:=by decide+kernel
def A.z16:A.p A.UQ A.E:=by decide+kernel
def A.z50:A.p A.Vt A.E:=by decide+kernel
def A.zay:A.p A.eX A.pQ:=by decide+kernel
def A.z39:A.p A.Vi A.E:=by decide+kernel
def A.XL:A.p A.V9 A.EP:=by decide+kernel
def A.zaN:A.p A.nJ A.ko:=by decide+kernel
def A.Yz:A.p A.ES A.eS:=by decide+kernel
def A.zba:A.p A.cB A.uo:=by decide+kernel
def A.YM:A.p A.Fh A.eS:=by decide+kernel
def A.YV:A.p A.Fm A.o8:=by decide+kernel
def A.z67:A.p A.BC A.E1:=by decide+kernel
def A.z48:A.p A.Vr A.E:=by decide+kernel
def A.Yb:A.p A.ui A.uf:=by decide+kernel
def A.ZS:A.p A.FH A.yF:=by decide+kernel
def A.z7:A.p A.L7 A.E:=by decide+kernel
def A.YC:A.p A.EV A.eS:=by decide+kernel
def A.zaY:A.p A.Gx A.fR:=by decide+kernel
def A.z9:A.p A.L9 A.E:=by decide+kernel
end Go.Mx
