/-The known runs, by the kernel-/
import Derived.Test.YtfeehbdhikiikaaGreatDoorMxIn3
set_option linter.all false
namespace Go.Mx
open Go
set_option maxRecDepth 1000000
def A.z74:A.e A.H0 A.E3:=by decide+kernel
def A.Yi:A.e A.kI A.XL:=by decide+kernel
def A.Yr:A.e A.kI A.XV:=by decide+kernel
def A.Yc:A.e A.zC A.XH:=by decide+kernel
def A.X9:A.e A.zC A.XE:=by decide+kernel
def A.z92:A.p A.Xy A.uT:=by decide+kernel
def A.z83:A.p A.Xt A.E7:=by decide+kernel
def A.z84:A.p A.Xu A.E7:=by decide+kernel
def A.z67:A.p A.Xl A.E1:=by decide+kernel
def A.z47:A.p A.WU A.E1:=by decide+kernel
def A.z17:A.p A.Wo A.E:=by decide+kernel
def A.z29:A.p A.WD A.E:=by decide+kernel
def A.z53:A.p A.W7 A.E1:=by decide+kernel
def A.z18:A.p A.Wp A.E:=by decide+kernel
def A.z23:A.p A.Wv A.E:=by decide+kernel
def A.z28:A.p A.WC A.E:=by decide+kernel
def A.z91:A.p A.Xx A.uT:=by decide+kernel
def A.z40:A.p A.WQ A.E:=by decide+kernel
def A.z44:A.p A.HZ A.E:=by decide+kernel
def A.Yt:A.p A.L91 A.SL:=by decide+kernel
def A.Yn:A.e A.kI A.XQ:=by decide+kernel
def A.Yd:A.e A.zC A.Ic:=by decide+kernel
def A.Yl:A.e A.kI A.XO:=by decide+kernel
def A.Ya:A.e A.zC A.XF:=by decide+kernel
def A.z63:A.p A.Xh A.E1:=by decide+kernel
def A.z85:A.p A.Xv A.E7:=by decide+kernel
def A.z93:A.p A.Xz A.uT:=by decide+kernel
def A.X8:A.p A.zC A.Ns:=by decide+kernel
def A.z8:A.p A.L8 A.E:=by decide+kernel
def A.z13:A.p A.Wj A.E:=by decide+kernel
def A.z96:A.p A.Nr A.uT:=by decide+kernel
def A.z43:A.p A.WT A.E:=by decide+kernel
def A.z51:A.p A.WY A.E1:=by decide+kernel
def A.z62:A.p A.Xg A.E1:=by decide+kernel
def A.z37:A.p A.WM A.E:=by decide+kernel
def A.z71:A.p A.Xp A.E1:=by decide+kernel
def A.z57:A.p A.Xb A.E1:=by decide+kernel
def A.z31:A.p A.WG A.E:=by decide+kernel
def A.z42:A.p A.WS A.E:=by decide+kernel
def A.z15:A.p A.Wl A.E:=by decide+kernel
def A.z76:A.p A.A7 A.E3:=by decide+kernel
def A.z73:A.e A.H0 A.E2:=by decide+kernel
def A.z78:A.e A.A7 A.E5:=by decide+kernel
def A.Yq:A.e A.kI A.XU:=by decide+kernel
def A.X0:A.e A.Ib A.XD:=by decide+kernel
def A.Ym:A.e A.kI A.XP:=by decide+kernel
def A.Ye:A.p A.XI A.Ic:=by decide+kernel
def A.z75:A.p A.Xq A.E3:=by decide+kernel
def A.z72:A.p A.H0 A.E1:=by decide+kernel
def A.z94:A.p A.XA A.uT:=by decide+kernel
def A.z26:A.p A.WA A.E:=by decide+kernel
def A.z70:A.p A.Xo A.E1:=by decide+kernel
def A.z39:A.p A.WO A.E:=by decide+kernel
def A.z7:A.p A.L7 A.E:=by decide+kernel
def A.z95:A.p A.XB A.uT:=by decide+kernel
def A.z22:A.p A.Wu A.E:=by decide+kernel
def A.z33:A.p A.WI A.E:=by decide+kernel
def A.z16:A.p A.Wm A.E:=by decide+kernel
def A.z50:A.p A.WX A.E1:=by decide+kernel
def A.z82:A.p A.Xs A.E7:=by decide+kernel
def A.z69:A.p A.Xn A.E1:=by decide+kernel
def A.z32:A.p A.WH A.E:=by decide+kernel
def A.z6:A.p A.L6 A.E:=by decide+kernel
def A.z2:A.p A.L2 A.E:=by decide+kernel
def A.z59:A.p A.Xd A.E1:=by decide+kernel
end Go.Mx
