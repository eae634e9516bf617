/-The known runs, by the kernel-/
import Derived.Test.YtgccnjdneojagaaGreatDoorAwD
set_option linter.all false
namespace Go.Mx
open Go
set_option maxRecDepth 1000000
def A.Yr:A.e A.kv A.XU:=by decide+kernel
def A.Yi:A.e A.HP A.M9:=by decide+kernel
def A.YD:A.e A.kv A.SL:=by decide+kernel
def A.z88:A.e A.DW A.E9:=by decide+kernel
def A.z46:A.e A.HM A.E1:=by decide+kernel
def A.Yu:A.e A.kv A.XX:=by decide+kernel
def A.z49:A.p A.Xd A.E1:=by decide+kernel
def A.z98:A.p A.XM A.HO:=by decide+kernel
def A.z81:A.p A.XB A.E7:=by decide+kernel
def A.z60:A.p A.Xo A.E1:=by decide+kernel
def A.z11:A.p A.Ws A.E:=by decide+kernel
def A.z41:A.p A.W7 A.E:=by decide+kernel
def A.z19:A.p A.WC A.E:=by decide+kernel
def A.z9:A.p A.L9 A.E:=by decide+kernel
def A.z68:A.p A.Xw A.E1:=by decide+kernel
def A.z56:A.p A.Xk A.E1:=by decide+kernel
def A.z12:A.p A.Wu A.E:=by decide+kernel
def A.z65:A.p A.Xt A.E1:=by decide+kernel
def A.Yg:A.p A.Wr A.E:=by decide+kernel
def A.Yq:A.p A.kv A.HQ:=by decide+kernel
end Go.Mx
