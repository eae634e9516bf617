/-
  The table of the known runs is sound, for a program that has these functions. Printed by a program.
-/
import Derived.Test.YtlbophlgohokkaaGreatDoorAwT0
import Derived.Test.YtlbophlgohokkaaGreatDoorAwT3
import Derived.Test.YtlbophlgohokkaaGreatDoorAwT4
import Derived.Test.YtlbophlgohokkaaGreatDoorAwT5
import Derived.Test.YtlbophlgohokkaaGreatDoorPkM
import Derived.Test.YtlbophlgohokkaaGreatDoorPkK
import Derived.Test.YtlbophlgohokkaaGreatDoorStQ
set_option linter.all false
namespace Go.Mx
open Go
set_option maxRecDepth 1000000
section
variable {P:Program} (hP:A5 P A.dc 10)
include hP
theorem A.t0:bf P A.TB A.L0 A.E:=bf.nil.p1 hP A.z0
theorem A.t1:bf P A.TB A.L1 A.E:=(A.t0 hP).p1 hP A.z1
theorem A.t2:bf P A.TB A.L2 A.E:=(A.t1 hP).p1 hP A.z2
theorem A.t3:bf P A.TB A.L3 A.E:=(A.t2 hP).p1 hP A.z3
theorem A.t4:bf P A.TB A.L4 A.E:=(A.t3 hP).p1 hP A.z4
theorem A.t5:bf P A.TB A.L5 A.E:=(A.t4 hP).p1 hP A.z5
theorem A.t6:bf P A.TB A.L6 A.E:=(A.t5 hP).p1 hP A.z6
theorem A.t7:bf P A.TB A.L7 A.E:=(A.t6 hP).p1 hP A.z7
theorem A.t8:bf P A.TB A.L8 A.E:=(A.t7 hP).p1 hP A.z8
theorem A.t9:bf P A.TB A.L9 A.E:=(A.t8 hP).p1 hP A.z9
theorem A.t10:bf P A.TB A.OQ A.E:=(A.t9 hP).p1 hP A.Qr
theorem A.t11:bf P A.TB A.OR A.E:=(A.t10 hP).p1 hP A.z11
theorem A.t12:bf P A.TB A.OS A.E:=(A.t11 hP).p1 hP A.z12
theorem A.t13:bf P A.TB A.OT A.E:=(A.t12 hP).p1 hP A.z13
theorem A.t14:bf P A.TB A.OU A.E:=(A.t13 hP).p1 hP A.z14
theorem A.t15:bf P A.TB A.OV A.E:=(A.t14 hP).p1 hP A.z15
theorem A.t16:bf P A.TB A.OW A.E:=(A.t15 hP).p1 hP A.CG
theorem A.t17:bf P A.TB A.OX A.E:=(A.t16 hP).p1 hP A.z17
theorem A.t18:bf P A.TB A.OY A.E:=(A.t17 hP).p1 hP A.z18
theorem A.t19:bf P A.TB A.OZ A.E:=(A.t18 hP).p1 hP A.z19
theorem A.t20:bf P A.TB A.O0 A.E:=(A.t19 hP).p1 hP A.z20
theorem A.t21:bf P A.TB A.O3 A.E:=(A.t20 hP).p1 hP A.z21
theorem A.t22:bf P A.TB A.O4 A.E:=(A.t21 hP).p1 hP A.z22
theorem A.t23:bf P A.TB A.O5 A.E:=(A.t22 hP).p1 hP A.z23
theorem A.t24:bf P A.TB A.O6 A.E:=(A.t23 hP).p1 hP A.z24
theorem A.t25:bf P A.TB A.O7 A.E:=(A.t24 hP).p1 hP A.z25
theorem A.t26:bf P A.TB A.O8 A.E:=(A.t25 hP).p1 hP A.z26
theorem A.t27:bf P A.TB A.O9 A.E:=(A.t26 hP).p1 hP A.z27
theorem A.t28:bf P A.TB A.Pa A.E:=(A.t27 hP).p1 hP A.z28
theorem A.t29:bf P A.TB A.Pb A.E:=(A.t28 hP).p1 hP A.z29
theorem A.t30:bf P A.TB A.Pc A.E:=(A.t29 hP).p1 hP A.z30
theorem A.t31:bf P A.TB A.Pd A.E:=(A.t30 hP).p1 hP A.z31
theorem A.t32:bf P A.TB A.Pe A.E:=(A.t31 hP).p1 hP A.z32
theorem A.t33:bf P A.TB A.Pf A.E:=(A.t32 hP).p1 hP A.z33
theorem A.t34:bf P A.TB A.Pg A.E:=(A.t33 hP).p1 hP A.z34
theorem A.t35:bf P A.TB A.Ph A.E:=(A.t34 hP).p1 hP A.z35
theorem A.t36:bf P A.TB A.Pj A.E:=(A.t35 hP).p1 hP A.z36
theorem A.t37:bf P A.TB A.Pm A.E:=(A.t36 hP).p1 hP A.z37
theorem A.t38:bf P A.TB A.Pn A.E:=(A.t37 hP).p1 hP A.z38
theorem A.t39:bf P A.TB A.Po A.E:=(A.t38 hP).p1 hP A.z39
theorem A.t40:bf P A.TB A.Pp A.E:=(A.t39 hP).p1 hP A.z40
theorem A.t41:bf P A.TB A.Pq A.E:=(A.t40 hP).p1 hP A.z41
theorem A.t42:bf P A.TB A.Pr A.E:=(A.t41 hP).p1 hP A.z42
theorem A.t43:bf P A.TB A.Ps A.E:=(A.t42 hP).p1 hP A.z43
theorem A.t44:bf P A.TB A.CB A.E:=(A.t43 hP).p1 hP A.z44
theorem A.t45:bf P A.TB A.CB A.E0:=(A.t44 hP).e1 hP A.z45
theorem A.t46:bf P A.TB A.CB A.E1:=(A.t45 hP).e1 hP A.z46
theorem A.t47:bf P A.TB A.Pt A.E1:=(A.t46 hP).p1 hP A.z47
theorem A.t48:bf P A.TB A.Pv A.E1:=(A.t47 hP).p1 hP A.z48
theorem A.t49:bf P A.TB A.Pw A.E1:=(A.t48 hP).p1 hP A.z49
theorem A.t50:bf P A.TB A.Px A.E1:=(A.t49 hP).p1 hP A.z50
theorem A.t51:bf P A.TB A.Py A.E1:=(A.t50 hP).p1 hP A.z51
theorem A.t52:bf P A.TB A.Pz A.E1:=(A.t51 hP).p1 hP A.z52
theorem A.t53:bf P A.TB A.PA A.E1:=(A.t52 hP).p1 hP A.z53
theorem A.t54:bf P A.TB A.PB A.E1:=(A.t53 hP).p1 hP A.z54
theorem A.t55:bf P A.TB A.PC A.E1:=(A.t54 hP).p1 hP A.z55
theorem A.t56:bf P A.TB A.PD A.E1:=(A.t55 hP).p1 hP A.z56
theorem A.t57:bf P A.TB A.PE A.E1:=(A.t56 hP).p1 hP A.z57
theorem A.t58:bf P A.TB A.PF A.E1:=(A.t57 hP).p1 hP A.z58
theorem A.t59:bf P A.TB A.PG A.E1:=(A.t58 hP).p1 hP A.z59
theorem A.t60:bf P A.TB A.PH A.E1:=(A.t59 hP).p1 hP A.z60
theorem A.t61:bf P A.TB A.PI A.E1:=(A.t60 hP).p1 hP A.z61
theorem A.t62:bf P A.TB A.PJ A.E1:=(A.t61 hP).p1 hP A.z62
theorem A.t63:bf P A.TB A.PL A.E1:=(A.t62 hP).p1 hP A.z63
theorem A.t64:bf P A.TB A.PM A.E1:=(A.t63 hP).p1 hP A.z64
theorem A.t65:bf P A.TB A.PN A.E1:=(A.t64 hP).p1 hP A.z65
theorem A.t66:bf P A.TB A.PO A.E1:=(A.t65 hP).p1 hP A.z66
theorem A.t67:bf P A.TB A.PQ A.E1:=(A.t66 hP).p1 hP A.z67
theorem A.t68:bf P A.TB A.PR A.E1:=(A.t67 hP).p1 hP A.z68
theorem A.t69:bf P A.TB A.PS A.E1:=(A.t68 hP).p1 hP A.z69
theorem A.t70:bf P A.TB A.PT A.E1:=(A.t69 hP).p1 hP A.z70
theorem A.t71:bf P A.TB A.PU A.E1:=(A.t70 hP).p1 hP A.z71
theorem A.t72:bf P A.TB A.CC A.E1:=(A.t71 hP).p1 hP A.z72
theorem A.t73:bf P A.TB A.CC A.E2:=(A.t72 hP).e1 hP A.z73
theorem A.t74:bf P A.TB A.CC A.E3:=(A.t73 hP).e1 hP A.z74
theorem A.t75:bf P A.TB A.PV A.E3:=(A.t74 hP).p1 hP A.z75
theorem A.t76:bf P A.TB A.wG A.E3:=(A.t75 hP).p1 hP A.z76
theorem A.t77:bf P A.TB A.wG A.E4:=(A.t76 hP).e1 hP A.z77
theorem A.t78:bf P A.TB A.wG A.E5:=(A.t77 hP).e1 hP A.z78
theorem A.t79:bf P A.TB A.wG A.E6:=(A.t78 hP).e1 hP A.z79
theorem A.t80:bf P A.TB A.wG A.E7:=(A.t79 hP).e1 hP A.z80
theorem A.t81:bf P A.TB A.PW A.E7:=(A.t80 hP).p1 hP A.z81
theorem A.t82:bf P A.TB A.PX A.E7:=(A.t81 hP).p1 hP A.z82
theorem A.t83:bf P A.TB A.PY A.E7:=(A.t82 hP).p1 hP A.z83
theorem A.t84:bf P A.TB A.PZ A.E7:=(A.t83 hP).p1 hP A.z84
theorem A.t85:bf P A.TB A.P0 A.E7:=(A.t84 hP).p1 hP A.z85
theorem A.t86:bf P A.TB A.zu A.E7:=(A.t85 hP).p1 hP A.z86
theorem A.t87:bf P A.TB A.zu A.E8:=(A.t86 hP).e1 hP A.z87
theorem A.t88:bf P A.TB A.zu A.E9:=(A.t87 hP).e1 hP A.z88
theorem A.t89:bf P A.TB A.zu A.qt:=(A.t88 hP).e1 hP A.z89
theorem A.t90:bf P A.TB A.P1 A.qt:=(A.t89 hP).p1 hP A.z90
theorem A.t91:bf P A.TB A.P2 A.qt:=(A.t90 hP).p1 hP A.z91
theorem A.t92:bf P A.TB A.P3 A.qt:=(A.t91 hP).p1 hP A.z92
theorem A.t93:bf P A.TB A.P4 A.qt:=(A.t92 hP).p1 hP A.z93
theorem A.t94:bf P A.TB A.P5 A.qt:=(A.t93 hP).p1 hP A.z94
theorem A.t95:bf P A.TB A.P6 A.qt:=(A.t94 hP).p1 hP A.z95
theorem A.t96:bf P A.TB A.Hq A.qt:=(A.t95 hP).p1 hP A.z96
theorem A.t97:bf P A.TB A.Hq A.CD:=(A.t96 hP).e1 hP A.z97
theorem A.t98:bf P A.TB A.P7 A.CD:=(A.t97 hP).p1 hP A.z98
theorem A.t99:bf P A.TB A.CE A.CD:=(A.t98 hP).p1 hP A.z99
theorem A.t100:bf P A.TB A.CE A.P8:=(A.t99 hP).e1 hP A.Qs
theorem A.t101:bf P A.TB A.CE A.Hr:=(A.t100 hP).e1 hP A.Qt
theorem A.t102:bf P A.TB A.uN A.Hr:=(A.t101 hP).p1 hP A.Qu
theorem A.t103:bf P A.TB A.uN A.P9:=(A.t102 hP).e1 hP A.Qv
theorem A.t104:bf P A.TB A.uN A.Qa:=(A.t103 hP).e1 hP A.Qw
theorem A.t105:bf P A.TB A.uN A.Qc:=(A.t104 hP).e1 hP A.Qx
theorem A.t106:bf P A.TB A.uN A.Qd:=(A.t105 hP).e1 hP A.Qy
theorem A.t107:bf P A.TB A.uN A.CF:=(A.t106 hP).e1 hP A.Qz
theorem A.t108:bf P A.TB A.Qe A.CF:=(A.t107 hP).p1 hP A.QA
theorem A.t109:bf P A.TB A.iw A.CF:=(A.t108 hP).p1 hP A.QC
theorem A.t110:bf P A.TB A.iw A.Qf:=(A.t109 hP).e1 hP A.QD
theorem A.t111:bf P A.TB A.iw A.Qg:=(A.t110 hP).e1 hP A.QE
theorem A.t112:bf P A.TB A.iw A.Qh:=(A.t111 hP).e1 hP A.QF
theorem A.t113:bf P A.TB A.iw A.Qi:=(A.t112 hP).e1 hP A.QG
theorem A.t114:bf P A.TB A.iw A.Qj:=(A.t113 hP).e1 hP A.QH
theorem A.t115:bf P A.TB A.iw A.Qk:=(A.t114 hP).e1 hP A.QI
theorem A.t116:bf P A.TB A.iw A.Ql:=(A.t115 hP).e1 hP A.QJ
theorem A.t117:bf P A.TB A.iw A.Qm:=(A.t116 hP).e1 hP A.QK
theorem A.t118:bf P A.TB A.iw A.Qn:=(A.t117 hP).e1 hP A.QL
theorem A.t119:bf P A.TB A.iw A.Qo:=(A.t118 hP).e1 hP A.QM
theorem A.t120:bf P A.TB A.iw A.Qp:=(A.t119 hP).e1 hP A.QN
theorem A.t121:bf P A.TB A.iw A.Qq:=(A.t120 hP).e1 hP A.QO
theorem A.t122:bf P A.TB A.iw A.Ls:=(A.t121 hP).e1 hP A.QP
theorem A.t123:bf P A.TB A.Wk A.Ls:=(A.t122 hP).p1 hP A.QQ
end
open Go Go.Proofs
theorem A.xOk:ix Tryz.prog A.C.x:=Wl fun e he=>by
 simp only[kb,List.not_mem_nil,or_false]at he
 subst he
 exact(A.t123 A.wH).p ⟨10,[],.bool true⟩ (jk (l:=A.iw))
end Go.Mx
