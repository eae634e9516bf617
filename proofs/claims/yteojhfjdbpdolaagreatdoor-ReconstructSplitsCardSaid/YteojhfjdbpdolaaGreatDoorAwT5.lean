/-The known runs, by the kernel-/
import Derived.Test.YteojhfjdbpdolaaGreatDoorMxOpn
set_option linter.all false
namespace Go.Mx
open Go
set_option maxRecDepth 1000000
def A.Ui:A.e A.jl A.Uh:=by decide+kernel
def A.T3:A.e A.Fw A.Kk:=by decide+kernel
def A.UF:A.e A.jl A.PA:=by decide+kernel
def A.z88:A.e A.BY A.E9:=by decide+kernel
def A.z46:A.e A.Ft A.E1:=by decide+kernel
def A.Uo:A.e A.jl A.Un:=by decide+kernel
def A.z49:A.p A.To A.E1:=by decide+kernel
def A.z98:A.p A.T0 A.Fv:=by decide+kernel
def A.z81:A.p A.TO A.E7:=by decide+kernel
def A.z60:A.p A.TA A.E1:=by decide+kernel
def A.z11:A.p A.SM A.E:=by decide+kernel
def A.z41:A.p A.Tj A.E:=by decide+kernel
def A.z19:A.p A.SV A.E:=by decide+kernel
def A.z9:A.p A.L9 A.E:=by decide+kernel
def A.z68:A.p A.TJ A.E1:=by decide+kernel
def A.z56:A.p A.Tv A.E1:=by decide+kernel
def A.z12:A.p A.SN A.E:=by decide+kernel
def A.z65:A.p A.TG A.E1:=by decide+kernel
def A.SL:A.p A.SK A.E:=by decide+kernel
def A.Ug:A.p A.jl A.Fy:=by decide+kernel
end Go.Mx
