/-The known runs, by the kernel-/
import Derived.Test.YtgccnjdneojagaaGreatDoorAwD
set_option linter.all false
namespace Go.Mx
open Go
set_option maxRecDepth 1000000
def A.z74:A.e A.HN A.E3:=by decide+kernel
def A.Yt:A.e A.kv A.XW:=by decide+kernel
def A.YC:A.e A.kv A.Yb:=by decide+kernel
def A.Yn:A.e A.zD A.XR:=by decide+kernel
def A.Yk:A.e A.zD A.XO:=by decide+kernel
def A.z92:A.p A.XI A.uY:=by decide+kernel
def A.z83:A.p A.XD A.E7:=by decide+kernel
def A.z84:A.p A.XE A.E7:=by decide+kernel
def A.z67:A.p A.Xv A.E1:=by decide+kernel
def A.z47:A.p A.Xb A.E1:=by decide+kernel
def A.z17:A.p A.WA A.E:=by decide+kernel
def A.z29:A.p A.WN A.E:=by decide+kernel
def A.z53:A.p A.Xh A.E1:=by decide+kernel
def A.z18:A.p A.WB A.E:=by decide+kernel
def A.z23:A.p A.WH A.E:=by decide+kernel
def A.z28:A.p A.WM A.E:=by decide+kernel
def A.z91:A.p A.XH A.uY:=by decide+kernel
def A.z40:A.p A.WZ A.E:=by decide+kernel
def A.z44:A.p A.HM A.E:=by decide+kernel
def A.YE:A.p A.L91 A.SL:=by decide+kernel
def A.Yy:A.e A.kv A.X7:=by decide+kernel
def A.Yo:A.e A.zD A.HQ:=by decide+kernel
def A.Yw:A.e A.kv A.XZ:=by decide+kernel
def A.Yl:A.e A.zD A.XP:=by decide+kernel
def A.z63:A.p A.Xr A.E1:=by decide+kernel
def A.z85:A.p A.XF A.E7:=by decide+kernel
def A.z93:A.p A.XJ A.uY:=by decide+kernel
def A.Yj:A.p A.zD A.M9:=by decide+kernel
def A.z8:A.p A.L8 A.E:=by decide+kernel
def A.z13:A.p A.Wv A.E:=by decide+kernel
def A.z96:A.p A.M8 A.uY:=by decide+kernel
def A.z43:A.p A.Xa A.E:=by decide+kernel
def A.z51:A.p A.Xf A.E1:=by decide+kernel
def A.z62:A.p A.Xq A.E1:=by decide+kernel
def A.z37:A.p A.WW A.E:=by decide+kernel
def A.z71:A.p A.Xz A.E1:=by decide+kernel
def A.z57:A.p A.Xl A.E1:=by decide+kernel
def A.z31:A.p A.WQ A.E:=by decide+kernel
def A.z42:A.p A.W9 A.E:=by decide+kernel
def A.z15:A.p A.Wx A.E:=by decide+kernel
def A.z76:A.p A.AZ A.E3:=by decide+kernel
def A.z73:A.e A.HN A.E2:=by decide+kernel
def A.z78:A.e A.AZ A.E5:=by decide+kernel
def A.YB:A.e A.kv A.Ya:=by decide+kernel
def A.Yh:A.e A.HP A.XN:=by decide+kernel
def A.Yx:A.e A.kv A.X0:=by decide+kernel
def A.Yp:A.p A.XT A.HQ:=by decide+kernel
def A.z75:A.p A.XA A.E3:=by decide+kernel
def A.z72:A.p A.HN A.E1:=by decide+kernel
def A.z94:A.p A.XK A.uY:=by decide+kernel
def A.z26:A.p A.WK A.E:=by decide+kernel
def A.z70:A.p A.Xy A.E1:=by decide+kernel
def A.z39:A.p A.WY A.E:=by decide+kernel
def A.z7:A.p A.L7 A.E:=by decide+kernel
def A.z95:A.p A.XL A.uY:=by decide+kernel
def A.z22:A.p A.WG A.E:=by decide+kernel
def A.z33:A.p A.WS A.E:=by decide+kernel
def A.z16:A.p A.Wy A.E:=by decide+kernel
def A.z50:A.p A.Xe A.E1:=by decide+kernel
def A.z82:A.p A.XC A.E7:=by decide+kernel
def A.z69:A.p A.Xx A.E1:=by decide+kernel
def A.z32:A.p A.WR A.E:=by decide+kernel
def A.z6:A.p A.L6 A.E:=by decide+kernel
def A.z2:A.p A.L2 A.E:=by decide+kernel
def A.z59:A.p A.Xn A.E1:=by decide+kernel
end Go.Mx
