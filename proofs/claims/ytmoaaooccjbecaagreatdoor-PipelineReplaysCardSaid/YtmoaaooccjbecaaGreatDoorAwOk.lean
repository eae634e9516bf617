/-The table of the known runs is sound, fo-/
import Derived.Test.YtmoaaooccjbecaaGreatDoorAwT0
import Derived.Test.YtmoaaooccjbecaaGreatDoorAwT3
import Derived.Test.YtmoaaooccjbecaaGreatDoorAwT4
import Derived.Test.YtmoaaooccjbecaaGreatDoorAwT5
import Derived.Test.YtmoaaooccjbecaaGreatDoorMxIn3
set_option linter.all false
namespace Go.Mx
open Go
set_option maxRecDepth 1000000
section
variable {P:Program} (hP:Zln P A.tbl 10)
include hP
def A.t0:Zbr P A.TB A.L0 A.E:=Zbr.nil.p1 hP A.z0
def A.t1:Zbr P A.TB A.L1 A.E:=(A.t0 hP).p1 hP A.z1
def A.t2:Zbr P A.TB A.L2 A.E:=(A.t1 hP).p1 hP A.z2
def A.t3:Zbr P A.TB A.L3 A.E:=(A.t2 hP).p1 hP A.z3
def A.t4:Zbr P A.TB A.L4 A.E:=(A.t3 hP).p1 hP A.z4
def A.t5:Zbr P A.TB A.L5 A.E:=(A.t4 hP).p1 hP A.z5
def A.t6:Zbr P A.TB A.L6 A.E:=(A.t5 hP).p1 hP A.z6
def A.t7:Zbr P A.TB A.L7 A.E:=(A.t6 hP).p1 hP A.z7
def A.t8:Zbr P A.TB A.L8 A.E:=(A.t7 hP).p1 hP A.z8
def A.t9:Zbr P A.TB A.L9 A.E:=(A.t8 hP).p1 hP A.z9
def A.t10:Zbr P A.TB A.L10 A.E:=(A.t9 hP).p1 hP A.z10
def A.t11:Zbr P A.TB A.L11 A.E:=(A.t10 hP).p1 hP A.z11
def A.t12:Zbr P A.TB A.L12 A.E:=(A.t11 hP).p1 hP A.z12
def A.t13:Zbr P A.TB A.L13 A.E:=(A.t12 hP).p1 hP A.z13
def A.t14:Zbr P A.TB A.L14 A.E:=(A.t13 hP).p1 hP A.z14
def A.t15:Zbr P A.TB A.L15 A.E:=(A.t14 hP).p1 hP A.z15
def A.t16:Zbr P A.TB A.L16 A.E:=(A.t15 hP).p1 hP A.z16
def A.t17:Zbr P A.TB A.L17 A.E:=(A.t16 hP).p1 hP A.z17
def A.t18:Zbr P A.TB A.L18 A.E:=(A.t17 hP).p1 hP A.z18
def A.t19:Zbr P A.TB A.L19 A.E:=(A.t18 hP).p1 hP A.z19
def A.t20:Zbr P A.TB A.L20 A.E:=(A.t19 hP).p1 hP A.z20
def A.t21:Zbr P A.TB A.L20 A.E0:=(A.t20 hP).e1 hP A.z21
def A.t22:Zbr P A.TB A.L20 A.E1:=(A.t21 hP).e1 hP A.z22
def A.t23:Zbr P A.TB A.L20 A.E2:=(A.t22 hP).e1 hP A.z23
def A.t24:Zbr P A.TB A.L20 A.E3:=(A.t23 hP).e1 hP A.z24
def A.t25:Zbr P A.TB A.L20 A.E4:=(A.t24 hP).e1 hP A.z25
def A.t26:Zbr P A.TB A.L20 A.E5:=(A.t25 hP).e1 hP A.z26
def A.t27:Zbr P A.TB A.L20 A.E6:=(A.t26 hP).e1 hP A.z27
def A.t28:Zbr P A.TB A.L20 A.E7:=(A.t27 hP).e1 hP A.z28
def A.t29:Zbr P A.TB A.L20 A.E8:=(A.t28 hP).e1 hP A.z29
def A.t30:Zbr P A.TB A.L20 A.E9:=(A.t29 hP).e1 hP A.z30
def A.t31:Zbr P A.TB A.L21 A.E9:=(A.t30 hP).p1 hP A.z31
end
open Go Go.Proofs
def A.xOk:Zb2 Tryz.prog A.C.x:=Zv9 fun e he=>by
 simp only[Yt7,List.not_mem_nil,or_false]at he
 subst he
 exact(A.t31 A.progOk).p ⟨7,[],.bool true⟩ (Yuj (l:=A.L20))
end Go.Mx
