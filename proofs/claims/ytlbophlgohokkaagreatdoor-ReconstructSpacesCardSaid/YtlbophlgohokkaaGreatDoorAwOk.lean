/-
  The table of the known runs is sound, for a program that has these functions. Printed by a program.
-/
import Derived.Test.YtlbophlgohokkaaGreatDoorAwT0
import Derived.Test.YtlbophlgohokkaaGreatDoorAwT3
import Derived.Test.YtlbophlgohokkaaGreatDoorAwT4
import Derived.Test.YtlbophlgohokkaaGreatDoorAwT5
import Derived.Test.YtlbophlgohokkaaGreatDoorSpI
import Derived.Test.YtlbophlgohokkaaGreatDoorAwD
set_option linter.all false
namespace Go.Mx
open Go
set_option maxRecDepth 1000000
section
variable {P:Program} (hP:zj P A.dm 10)
include hP
theorem A.t0:cy P A.TB A.L0 A.E:=cy.nil.p1 hP A.z0
theorem A.t1:cy P A.TB A.L1 A.E:=(A.t0 hP).p1 hP A.z1
theorem A.t2:cy P A.TB A.L2 A.E:=(A.t1 hP).p1 hP A.z2
theorem A.t3:cy P A.TB A.L3 A.E:=(A.t2 hP).p1 hP A.z3
theorem A.t4:cy P A.TB A.L4 A.E:=(A.t3 hP).p1 hP A.z4
theorem A.t5:cy P A.TB A.L5 A.E:=(A.t4 hP).p1 hP A.z5
theorem A.t6:cy P A.TB A.L6 A.E:=(A.t5 hP).p1 hP A.z6
theorem A.t7:cy P A.TB A.L7 A.E:=(A.t6 hP).p1 hP A.z7
theorem A.t8:cy P A.TB A.L8 A.E:=(A.t7 hP).p1 hP A.z8
theorem A.t9:cy P A.TB A.L9 A.E:=(A.t8 hP).p1 hP A.z9
theorem A.t10:cy P A.TB A.Mk A.E:=(A.t9 hP).p1 hP A.M0
theorem A.t11:cy P A.TB A.Ml A.E:=(A.t10 hP).p1 hP A.ZK
theorem A.t12:cy P A.TB A.Mm A.E:=(A.t11 hP).p1 hP A.ZL
theorem A.t13:cy P A.TB A.Mn A.E:=(A.t12 hP).p1 hP A.ZM
theorem A.t14:cy P A.TB A.Mo A.E:=(A.t13 hP).p1 hP A.ZN
theorem A.t15:cy P A.TB A.Mp A.E:=(A.t14 hP).p1 hP A.ZO
theorem A.t16:cy P A.TB A.Mq A.E:=(A.t15 hP).p1 hP A.ZP
theorem A.t17:cy P A.TB A.Mr A.E:=(A.t16 hP).p1 hP A.ZQ
theorem A.t18:cy P A.TB A.Ms A.E:=(A.t17 hP).p1 hP A.ZR
theorem A.t19:cy P A.TB A.Mt A.E:=(A.t18 hP).p1 hP A.ZS
theorem A.t20:cy P A.TB A.Mv A.E:=(A.t19 hP).p1 hP A.z20
theorem A.t21:cy P A.TB A.Mw A.E:=(A.t20 hP).p1 hP A.z21
theorem A.t22:cy P A.TB A.My A.E:=(A.t21 hP).p1 hP A.z22
theorem A.t23:cy P A.TB A.AV A.E:=(A.t22 hP).p1 hP A.ZT
theorem A.t24:cy P A.TB A.AV A.E0:=(A.t23 hP).e1 hP A.ZU
theorem A.t25:cy P A.TB A.AV A.E1:=(A.t24 hP).e1 hP A.z25
theorem A.t26:cy P A.TB A.Mz A.E1:=(A.t25 hP).p1 hP A.ZV
theorem A.t27:cy P A.TB A.MA A.E1:=(A.t26 hP).p1 hP A.z27
theorem A.t28:cy P A.TB A.MB A.E1:=(A.t27 hP).p1 hP A.ZW
theorem A.t29:cy P A.TB A.MC A.E1:=(A.t28 hP).p1 hP A.ZX
theorem A.t30:cy P A.TB A.MD A.E1:=(A.t29 hP).p1 hP A.z30
theorem A.t31:cy P A.TB A.lL A.E1:=(A.t30 hP).p1 hP A.ZY
theorem A.t32:cy P A.TB A.lL A.E2:=(A.t31 hP).e1 hP A.Z0
theorem A.t33:cy P A.TB A.lL A.E3:=(A.t32 hP).e1 hP A.z33
theorem A.t34:cy P A.TB A.lL A.E4:=(A.t33 hP).e1 hP A.Z1
theorem A.t35:cy P A.TB A.lL A.E5:=(A.t34 hP).e1 hP A.z35
theorem A.t36:cy P A.TB A.lL A.E6:=(A.t35 hP).e1 hP A.z36
theorem A.t37:cy P A.TB A.lL A.E7:=(A.t36 hP).e1 hP A.Z2
theorem A.t38:cy P A.TB A.lL A.E8:=(A.t37 hP).e1 hP A.z38
theorem A.t39:cy P A.TB A.lL A.E9:=(A.t38 hP).e1 hP A.Z3
theorem A.t40:cy P A.TB A.lL A.Fh:=(A.t39 hP).e1 hP A.Z4
theorem A.t41:cy P A.TB A.eZ A.Fh:=(A.t40 hP).p1 hP A.Z5
theorem A.t42:cy P A.TB A.eZ A.ME:=(A.t41 hP).e1 hP A.z42
theorem A.t43:cy P A.TB A.eZ A.MF:=(A.t42 hP).e1 hP A.Z6
theorem A.t44:cy P A.TB A.eZ A.MG:=(A.t43 hP).e1 hP A.z44
theorem A.t45:cy P A.TB A.eZ A.MH:=(A.t44 hP).e1 hP A.Z7
theorem A.t46:cy P A.TB A.eZ A.MI:=(A.t45 hP).e1 hP A.Z8
theorem A.t47:cy P A.TB A.eZ A.MJ:=(A.t46 hP).e1 hP A.Z9
theorem A.t48:cy P A.TB A.eZ A.MK:=(A.t47 hP).e1 hP A.z48
theorem A.t49:cy P A.TB A.eZ A.ML:=(A.t48 hP).e1 hP A.z49
theorem A.t50:cy P A.TB A.eZ A.MM:=(A.t49 hP).e1 hP A.z50
theorem A.t51:cy P A.TB A.eZ A.MN:=(A.t50 hP).e1 hP A.z51
theorem A.t52:cy P A.TB A.eZ A.MO:=(A.t51 hP).e1 hP A.z52
theorem A.t53:cy P A.TB A.eZ A.MP:=(A.t52 hP).e1 hP A.z53
theorem A.t54:cy P A.TB A.eZ A.MQ:=(A.t53 hP).e1 hP A.z54
theorem A.t55:cy P A.TB A.eZ A.MR:=(A.t54 hP).e1 hP A.z55
theorem A.t56:cy P A.TB A.eZ A.MS:=(A.t55 hP).e1 hP A.z56
theorem A.t57:cy P A.TB A.eZ A.MT:=(A.t56 hP).e1 hP A.z57
theorem A.t58:cy P A.TB A.eZ A.MU:=(A.t57 hP).e1 hP A.z58
theorem A.t59:cy P A.TB A.eZ A.Jc:=(A.t58 hP).e1 hP A.z59
theorem A.t60:cy P A.TB A.SV A.Jc:=(A.t59 hP).p1 hP A.z60
end
open Go Go.Proofs
theorem A.xOk:ik Tryz.prog A.C.x:=SW fun e he=>by
 simp only[jN,List.not_mem_nil,or_false]at he
 subst he
 exact(A.t60 A.ue).p ⟨10,[],.bool true⟩ (mS (l:=A.eZ))
end Go.Mx
