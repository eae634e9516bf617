/-The known runs, by the kernel-/
import Derived.Test.YtgnadghjglamaaaGreatDoorAwD
set_option linter.all false
namespace Go.Mx
open Go
set_option maxRecDepth 1000000
def A.zaF:A.e A.eX A.Ge:=by decide+kernel
def A.Zb:A.e A.km A.MS:=by decide+kernel
def A.Zu:A.e A.dT A.W8:=by decide+kernel
def A.Z4:A.e A.jc A.Xx:=by decide+kernel
def A.Y9:A.e A.km A.WN:=by decide+kernel
def A.zbb:A.e A.cB A.GF:=by decide+kernel
def A.zc8:A.e A.di A.HT:=by decide+kernel
def A.zcu:A.p A.Hv A.jd:=by decide+kernel
def A.Za:A.e A.km A.WO:=by decide+kernel
def A.Zv:A.e A.dT A.W9:=by decide+kernel
def A.zcA:A.p A.Hy A.jd:=by decide+kernel
def A.z59:A.e A.EL A.E0:=by decide+kernel
def A.zbm:A.e A.cB A.GQ:=by decide+kernel
def A.z82:A.e A.EM A.E9:=by decide+kernel
def A.ZL:A.e A.eE A.Xm:=by decide+kernel
def A.ZI:A.e A.eE A.Xj:=by decide+kernel
def A.za0:A.e A.yJ A.kp:=by decide+kernel
def A.Zt:A.e A.dT A.WZ:=by decide+kernel
def A.zb7:A.e A.eF A.Hm:=by decide+kernel
def A.ZB:A.e A.dT A.Xf:=by decide+kernel
def A.Ys:A.e A.sq A.WE:=by decide+kernel
def A.Y6:A.e A.km A.WL:=by decide+kernel
def A.XQ:A.e A.kl A.Wd:=by decide+kernel
def A.zcK:A.e A.ot A.yO:=by decide+kernel
def A.XA:A.e A.lV A.VZ:=by decide+kernel
def A.XU:A.e A.kl A.Wg:=by decide+kernel
def A.ZJ:A.e A.eE A.Xk:=by decide+kernel
def A.zb3:A.e A.eF A.Hk:=by decide+kernel
def A.zaH:A.e A.eX A.Gg:=by decide+kernel
def A.Zh:A.e A.fQ A.WU:=by decide+kernel
def A.ZY:A.e A.gW A.Xu:=by decide+kernel
def A.zbH:A.e A.yN A.gZ:=by decide+kernel
def A.XG:A.e A.lV A.V5:=by decide+kernel
def A.zaV:A.p A.Gt A.fR:=by decide+kernel
def A.zai:A.p A.FR A.p_:=by decide+kernel
def A.zbL:A.p A.Hc A.gZ:=by decide+kernel
def A.zaJ:A.p A.Gh A.ko:=by decide+kernel
def A.za_:A.p A.GD A.uo:=by decide+kernel
def A.zaZ:A.p A.yJ A.fR:=by decide+kernel
def A.z62:A.p A.VC A.E1:=by decide+kernel
def A.YG:A.p A.EZ A.eS:=by decide+kernel
def A.X7:A.p A.Wo A.uf:=by decide+kernel
def A.Zq:A.p A.FC A.sw:=by decide+kernel
def A.zaW:A.p A.Gu A.fR:=by decide+kernel
def A.za1:A.p A.Gy A.kp:=by decide+kernel
def A.Zn:A.p A.Fz A.sw:=by decide+kernel
def A.z37:A.p A.Vg A.E:=by decide+kernel
def A.z44:A.p A.Vn A.E:=by decide+kernel
def A.zaw:A.p A.F6 A.pQ:=by decide+kernel
def A.YZ:A.p A.Fs A.o8:=by decide+kernel
def A.Y4:A.p A.Fv A.o8:=by decide+kernel
def A.z23:A.p A.UY A.E:=by decide+kernel
def A.z54:A.p A.Vx A.E:=by decide+kernel
def A.Zl:A.p A.Fw A.sw:=by decide+kernel
def A.Yy:A.p A.ER A.eS:=by decide+kernel
def A.za5:A.p A.yL A.kp:=by decide+kernel
def A.YK:A.p A.Ff A.eS:=by decide+kernel
def A.YB:A.p A.EU A.eS:=by decide+kernel
def A.z33:A.p A.Vb A.E:=by decide+kernel
def A.YF:A.p A.EY A.eS:=by decide+kernel
def A.Yj:A.p A.Wy A.xd:=by decide+kernel
def A.ZU:A.p A.gW A.yF:=by decide+kernel
def A.z12:A.p A.UM A.E:=by decide+kernel
def A.z1:A.p A.L1 A.E:=by decide+kernel
def A.zaX:A.p A.Gw A.fR:=by decide+kernel
def A.z80:A.p A.EM A.E7:=by decide+kernel
end Go.Mx
