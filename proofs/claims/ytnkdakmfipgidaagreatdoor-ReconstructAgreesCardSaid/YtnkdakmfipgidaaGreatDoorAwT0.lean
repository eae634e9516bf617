/-The known runs, by the kernel-/
import Derived.Test.YtnkdakmfipgidaaGreatDoorAwD
set_option linter.all false
namespace Go.Mx
open Go
set_option maxRecDepth 1000000
def A.z74:A.e A.HM A.E3:=by decide+kernel
def A.XW:A.e A.jX A.Xu:=by decide+kernel
def A.Yb:A.e A.jX A.XD:=by decide+kernel
def A.XP:A.e A.zf A.Xq:=by decide+kernel
def A.XM:A.e A.zf A.Xn:=by decide+kernel
def A.z92:A.p A.Xh A.uo:=by decide+kernel
def A.z83:A.p A.Xc A.E7:=by decide+kernel
def A.z84:A.p A.Xd A.E7:=by decide+kernel
def A.z67:A.p A.WW A.E1:=by decide+kernel
def A.z47:A.p A.WA A.E1:=by decide+kernel
def A.z17:A.p A.V5 A.E:=by decide+kernel
def A.z29:A.p A.Wh A.E:=by decide+kernel
def A.z53:A.p A.WH A.E1:=by decide+kernel
def A.z18:A.p A.V6 A.E:=by decide+kernel
def A.z23:A.p A.Wb A.E:=by decide+kernel
def A.z28:A.p A.Wg A.E:=by decide+kernel
def A.z91:A.p A.Xg A.uo:=by decide+kernel
def A.z40:A.p A.Wv A.E:=by decide+kernel
def A.z44:A.p A.HL A.E:=by decide+kernel
def A.Yd:A.p A.L91 A.Se:=by decide+kernel
def A.X7:A.e A.jX A.Xz:=by decide+kernel
def A.XQ:A.e A.zf A.HP:=by decide+kernel
def A.XZ:A.e A.jX A.Xx:=by decide+kernel
def A.XN:A.e A.zf A.Xo:=by decide+kernel
def A.z63:A.p A.WS A.E1:=by decide+kernel
def A.z85:A.p A.Xe A.E7:=by decide+kernel
def A.z93:A.p A.Xi A.uo:=by decide+kernel
def A.XL:A.p A.zf A.M7:=by decide+kernel
def A.z8:A.p A.L8 A.E:=by decide+kernel
def A.z13:A.p A.V1 A.E:=by decide+kernel
def A.z96:A.p A.M5 A.uo:=by decide+kernel
def A.z43:A.p A.Wy A.E:=by decide+kernel
def A.z51:A.p A.WE A.E1:=by decide+kernel
def A.z62:A.p A.WR A.E1:=by decide+kernel
def A.z37:A.p A.Wr A.E:=by decide+kernel
def A.z71:A.p A.W7 A.E1:=by decide+kernel
def A.z57:A.p A.WL A.E1:=by decide+kernel
def A.z31:A.p A.Wk A.E:=by decide+kernel
def A.z42:A.p A.Wx A.E:=by decide+kernel
def A.z15:A.p A.V3 A.E:=by decide+kernel
def A.z76:A.p A.AA A.E3:=by decide+kernel
def A.z73:A.e A.HM A.E2:=by decide+kernel
def A.z78:A.e A.AA A.E5:=by decide+kernel
def A.Ya:A.e A.jX A.XC:=by decide+kernel
def A.XJ:A.e A.HO A.Xm:=by decide+kernel
def A.X0:A.e A.jX A.Xy:=by decide+kernel
def A.XR:A.p A.Xr A.HP:=by decide+kernel
def A.z75:A.p A.W9 A.E3:=by decide+kernel
def A.z72:A.p A.HM A.E1:=by decide+kernel
def A.z94:A.p A.Xj A.uo:=by decide+kernel
def A.z26:A.p A.We A.E:=by decide+kernel
def A.z70:A.p A.WZ A.E1:=by decide+kernel
def A.z39:A.p A.Wu A.E:=by decide+kernel
def A.z7:A.p A.L7 A.E:=by decide+kernel
def A.z95:A.p A.Xk A.uo:=by decide+kernel
def A.z22:A.p A.Wa A.E:=by decide+kernel
def A.z33:A.p A.Wm A.E:=by decide+kernel
def A.z16:A.p A.V4 A.E:=by decide+kernel
def A.z50:A.p A.WD A.E1:=by decide+kernel
def A.z82:A.p A.Xb A.E7:=by decide+kernel
def A.z69:A.p A.WY A.E1:=by decide+kernel
def A.z32:A.p A.Wl A.E:=by decide+kernel
def A.z6:A.p A.L6 A.E:=by decide+kernel
def A.z2:A.p A.L2 A.E:=by decide+kernel
def A.z59:A.p A.WN A.E1:=by decide+kernel
end Go.Mx
