/-The table of the known runs is sound, fo-/
import Derived.Test.YtalhlaaapkpkiaaGreatDoorAwT0
import Derived.Test.YtalhlaaapkpkiaaGreatDoorAwT3
import Derived.Test.YtalhlaaapkpkiaaGreatDoorAwT4
import Derived.Test.YtalhlaaapkpkiaaGreatDoorAwT5
import Derived.Test.YtalhlaaapkpkiaaGreatDoorMxIn3
set_option linter.all false
namespace Go.Mx
open Go
set_option maxRecDepth 1000000
section
variable {P:Program} (hP:Zln P A.tbl 10)
include hP
def A.t0:Zbk P A.TB A.L0 A.E:=Zbk.nil.p1 hP A.z0
def A.t1:Zbk P A.TB A.L1 A.E:=(A.t0 hP).p1 hP A.z1
def A.t2:Zbk P A.TB A.L2 A.E:=(A.t1 hP).p1 hP A.z2
def A.t3:Zbk P A.TB A.L3 A.E:=(A.t2 hP).p1 hP A.z3
def A.t4:Zbk P A.TB A.L4 A.E:=(A.t3 hP).p1 hP A.z4
def A.t5:Zbk P A.TB A.L5 A.E:=(A.t4 hP).p1 hP A.z5
def A.t6:Zbk P A.TB A.L6 A.E:=(A.t5 hP).p1 hP A.z6
def A.t7:Zbk P A.TB A.L7 A.E:=(A.t6 hP).p1 hP A.z7
def A.t8:Zbk P A.TB A.L8 A.E:=(A.t7 hP).p1 hP A.z8
def A.t9:Zbk P A.TB A.L9 A.E:=(A.t8 hP).p1 hP A.z9
def A.t10:Zbk P A.TB A.L10 A.E:=(A.t9 hP).p1 hP A.z10
def A.t11:Zbk P A.TB A.L11 A.E:=(A.t10 hP).p1 hP A.z11
def A.t12:Zbk P A.TB A.L12 A.E:=(A.t11 hP).p1 hP A.z12
def A.t13:Zbk P A.TB A.L13 A.E:=(A.t12 hP).p1 hP A.z13
def A.t14:Zbk P A.TB A.L14 A.E:=(A.t13 hP).p1 hP A.z14
def A.t15:Zbk P A.TB A.L15 A.E:=(A.t14 hP).p1 hP A.z15
def A.t16:Zbk P A.TB A.L16 A.E:=(A.t15 hP).p1 hP A.z16
def A.t17:Zbk P A.TB A.L17 A.E:=(A.t16 hP).p1 hP A.z17
def A.t18:Zbk P A.TB A.L18 A.E:=(A.t17 hP).p1 hP A.z18
def A.t19:Zbk P A.TB A.L19 A.E:=(A.t18 hP).p1 hP A.z19
def A.t20:Zbk P A.TB A.L20 A.E:=(A.t19 hP).p1 hP A.z20
def A.t21:Zbk P A.TB A.L20 A.E0:=(A.t20 hP).e1 hP A.z21
def A.t22:Zbk P A.TB A.L20 A.E1:=(A.t21 hP).e1 hP A.z22
def A.t23:Zbk P A.TB A.L20 A.E2:=(A.t22 hP).e1 hP A.z23
def A.t24:Zbk P A.TB A.L20 A.E3:=(A.t23 hP).e1 hP A.z24
def A.t25:Zbk P A.TB A.L20 A.E4:=(A.t24 hP).e1 hP A.z25
def A.t26:Zbk P A.TB A.L20 A.E5:=(A.t25 hP).e1 hP A.z26
def A.t27:Zbk P A.TB A.L20 A.E6:=(A.t26 hP).e1 hP A.z27
def A.t28:Zbk P A.TB A.L20 A.E7:=(A.t27 hP).e1 hP A.z28
def A.t29:Zbk P A.TB A.L20 A.E8:=(A.t28 hP).e1 hP A.z29
def A.t30:Zbk P A.TB A.L20 A.E9:=(A.t29 hP).e1 hP A.z30
def A.t31:Zbk P A.TB A.L21 A.E9:=(A.t30 hP).p1 hP A.z31
end
open Go Go.Proofs
def A.xOk:Zbw Tryz.prog A.C.x:=Zv8 fun e he=>by
 simp only[Yt1,List.not_mem_nil,or_false]at he
 subst he
 exact(A.t31 A.progOk).p ⟨8,[],.bool true⟩ (Yt2 (l:=A.L20))
end Go.Mx
