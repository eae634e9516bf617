/-
  The table of the known runs is sound, for a program that has these functions. Printed by a program.
-/
import Derived.Test.YtlbophlgohokkaaGreatDoorAwT0
import Derived.Test.YtlbophlgohokkaaGreatDoorAwT3
import Derived.Test.YtlbophlgohokkaaGreatDoorAwT4
import Derived.Test.YtlbophlgohokkaaGreatDoorAwT5
import Derived.Test.YtlbophlgohokkaaGreatDoorRkC
import Derived.Test.YtlbophlgohokkaaGreatDoorMxIn3
import Derived.Test.YtlbophlgohokkaaGreatDoorStQ
set_option linter.all false
namespace Go.Mx
open Go
set_option maxRecDepth 1000000
section
variable {P:Program} (hP:Zkh P A.tbl 10)
include hP
theorem A.t0:Zam P A.TB A.L0 A.E:=Zam.nil.p1 hP A.z0
theorem A.t1:Zam P A.TB A.L1 A.E:=(A.t0 hP).p1 hP A.z1
theorem A.t2:Zam P A.TB A.L2 A.E:=(A.t1 hP).p1 hP A.z2
theorem A.t3:Zam P A.TB A.L3 A.E:=(A.t2 hP).p1 hP A.z3
theorem A.t4:Zam P A.TB A.L4 A.E:=(A.t3 hP).p1 hP A.z4
theorem A.t5:Zam P A.TB A.L5 A.E:=(A.t4 hP).p1 hP A.z5
theorem A.t6:Zam P A.TB A.L6 A.E:=(A.t5 hP).p1 hP A.z6
theorem A.t7:Zam P A.TB A.L7 A.E:=(A.t6 hP).p1 hP A.z7
theorem A.t8:Zam P A.TB A.L8 A.E:=(A.t7 hP).p1 hP A.z8
theorem A.t9:Zam P A.TB A.L9 A.E:=(A.t8 hP).p1 hP A.z9
theorem A.t10:Zam P A.TB A.L10 A.E:=(A.t9 hP).p1 hP A.z10
theorem A.t11:Zam P A.TB A.L11 A.E:=(A.t10 hP).p1 hP A.z11
theorem A.t12:Zam P A.TB A.L12 A.E:=(A.t11 hP).p1 hP A.z12
theorem A.t13:Zam P A.TB A.L13 A.E:=(A.t12 hP).p1 hP A.z13
theorem A.t14:Zam P A.TB A.L14 A.E:=(A.t13 hP).p1 hP A.z14
theorem A.t15:Zam P A.TB A.L15 A.E:=(A.t14 hP).p1 hP A.z15
theorem A.t16:Zam P A.TB A.L16 A.E:=(A.t15 hP).p1 hP A.z16
theorem A.t17:Zam P A.TB A.L17 A.E:=(A.t16 hP).p1 hP A.z17
theorem A.t18:Zam P A.TB A.L18 A.E:=(A.t17 hP).p1 hP A.z18
theorem A.t19:Zam P A.TB A.L19 A.E:=(A.t18 hP).p1 hP A.z19
theorem A.t20:Zam P A.TB A.L20 A.E:=(A.t19 hP).p1 hP A.z20
theorem A.t21:Zam P A.TB A.L21 A.E:=(A.t20 hP).p1 hP A.z21
theorem A.t22:Zam P A.TB A.L22 A.E:=(A.t21 hP).p1 hP A.z22
theorem A.t23:Zam P A.TB A.L23 A.E:=(A.t22 hP).p1 hP A.z23
theorem A.t24:Zam P A.TB A.L24 A.E:=(A.t23 hP).p1 hP A.z24
theorem A.t25:Zam P A.TB A.L25 A.E:=(A.t24 hP).p1 hP A.z25
theorem A.t26:Zam P A.TB A.L26 A.E:=(A.t25 hP).p1 hP A.z26
theorem A.t27:Zam P A.TB A.L27 A.E:=(A.t26 hP).p1 hP A.z27
theorem A.t28:Zam P A.TB A.L28 A.E:=(A.t27 hP).p1 hP A.z28
theorem A.t29:Zam P A.TB A.L29 A.E:=(A.t28 hP).p1 hP A.z29
theorem A.t30:Zam P A.TB A.L30 A.E:=(A.t29 hP).p1 hP A.z30
theorem A.t31:Zam P A.TB A.L31 A.E:=(A.t30 hP).p1 hP A.z31
theorem A.t32:Zam P A.TB A.L32 A.E:=(A.t31 hP).p1 hP A.z32
theorem A.t33:Zam P A.TB A.L33 A.E:=(A.t32 hP).p1 hP A.z33
theorem A.t34:Zam P A.TB A.L34 A.E:=(A.t33 hP).p1 hP A.z34
theorem A.t35:Zam P A.TB A.L35 A.E:=(A.t34 hP).p1 hP A.z35
theorem A.t36:Zam P A.TB A.L36 A.E:=(A.t35 hP).p1 hP A.z36
theorem A.t37:Zam P A.TB A.L37 A.E:=(A.t36 hP).p1 hP A.z37
theorem A.t38:Zam P A.TB A.L38 A.E:=(A.t37 hP).p1 hP A.z38
theorem A.t39:Zam P A.TB A.L39 A.E:=(A.t38 hP).p1 hP A.z39
theorem A.t40:Zam P A.TB A.L40 A.E:=(A.t39 hP).p1 hP A.z40
theorem A.t41:Zam P A.TB A.L41 A.E:=(A.t40 hP).p1 hP A.z41
theorem A.t42:Zam P A.TB A.L42 A.E:=(A.t41 hP).p1 hP A.z42
theorem A.t43:Zam P A.TB A.L43 A.E:=(A.t42 hP).p1 hP A.z43
theorem A.t44:Zam P A.TB A.L44 A.E:=(A.t43 hP).p1 hP A.z44
theorem A.t45:Zam P A.TB A.L44 A.E0:=(A.t44 hP).e1 hP A.z45
theorem A.t46:Zam P A.TB A.L44 A.E1:=(A.t45 hP).e1 hP A.z46
theorem A.t47:Zam P A.TB A.L45 A.E1:=(A.t46 hP).p1 hP A.z47
theorem A.t48:Zam P A.TB A.L46 A.E1:=(A.t47 hP).p1 hP A.z48
theorem A.t49:Zam P A.TB A.L47 A.E1:=(A.t48 hP).p1 hP A.z49
theorem A.t50:Zam P A.TB A.L48 A.E1:=(A.t49 hP).p1 hP A.z50
theorem A.t51:Zam P A.TB A.L49 A.E1:=(A.t50 hP).p1 hP A.z51
theorem A.t52:Zam P A.TB A.L50 A.E1:=(A.t51 hP).p1 hP A.z52
theorem A.t53:Zam P A.TB A.L51 A.E1:=(A.t52 hP).p1 hP A.z53
theorem A.t54:Zam P A.TB A.L52 A.E1:=(A.t53 hP).p1 hP A.z54
theorem A.t55:Zam P A.TB A.L53 A.E1:=(A.t54 hP).p1 hP A.z55
theorem A.t56:Zam P A.TB A.L54 A.E1:=(A.t55 hP).p1 hP A.z56
theorem A.t57:Zam P A.TB A.L55 A.E1:=(A.t56 hP).p1 hP A.z57
theorem A.t58:Zam P A.TB A.L56 A.E1:=(A.t57 hP).p1 hP A.z58
theorem A.t59:Zam P A.TB A.L57 A.E1:=(A.t58 hP).p1 hP A.z59
theorem A.t60:Zam P A.TB A.L58 A.E1:=(A.t59 hP).p1 hP A.z60
theorem A.t61:Zam P A.TB A.L59 A.E1:=(A.t60 hP).p1 hP A.z61
theorem A.t62:Zam P A.TB A.L60 A.E1:=(A.t61 hP).p1 hP A.z62
theorem A.t63:Zam P A.TB A.L61 A.E1:=(A.t62 hP).p1 hP A.z63
theorem A.t64:Zam P A.TB A.L62 A.E1:=(A.t63 hP).p1 hP A.z64
theorem A.t65:Zam P A.TB A.L63 A.E1:=(A.t64 hP).p1 hP A.z65
theorem A.t66:Zam P A.TB A.L64 A.E1:=(A.t65 hP).p1 hP A.z66
theorem A.t67:Zam P A.TB A.L65 A.E1:=(A.t66 hP).p1 hP A.z67
theorem A.t68:Zam P A.TB A.L66 A.E1:=(A.t67 hP).p1 hP A.z68
theorem A.t69:Zam P A.TB A.L67 A.E1:=(A.t68 hP).p1 hP A.z69
theorem A.t70:Zam P A.TB A.L68 A.E1:=(A.t69 hP).p1 hP A.z70
theorem A.t71:Zam P A.TB A.L69 A.E1:=(A.t70 hP).p1 hP A.z71
theorem A.t72:Zam P A.TB A.L70 A.E1:=(A.t71 hP).p1 hP A.z72
theorem A.t73:Zam P A.TB A.L70 A.E2:=(A.t72 hP).e1 hP A.z73
theorem A.t74:Zam P A.TB A.L70 A.E3:=(A.t73 hP).e1 hP A.z74
theorem A.t75:Zam P A.TB A.L71 A.E3:=(A.t74 hP).p1 hP A.z75
theorem A.t76:Zam P A.TB A.L72 A.E3:=(A.t75 hP).p1 hP A.z76
theorem A.t77:Zam P A.TB A.L72 A.E4:=(A.t76 hP).e1 hP A.z77
theorem A.t78:Zam P A.TB A.L72 A.E5:=(A.t77 hP).e1 hP A.z78
theorem A.t79:Zam P A.TB A.L72 A.E6:=(A.t78 hP).e1 hP A.z79
theorem A.t80:Zam P A.TB A.L72 A.E7:=(A.t79 hP).e1 hP A.z80
theorem A.t81:Zam P A.TB A.L73 A.E7:=(A.t80 hP).p1 hP A.z81
theorem A.t82:Zam P A.TB A.L74 A.E7:=(A.t81 hP).p1 hP A.z82
theorem A.t83:Zam P A.TB A.L75 A.E7:=(A.t82 hP).p1 hP A.z83
theorem A.t84:Zam P A.TB A.L76 A.E7:=(A.t83 hP).p1 hP A.z84
theorem A.t85:Zam P A.TB A.L77 A.E7:=(A.t84 hP).p1 hP A.z85
theorem A.t86:Zam P A.TB A.L78 A.E7:=(A.t85 hP).p1 hP A.z86
theorem A.t87:Zam P A.TB A.L78 A.E8:=(A.t86 hP).e1 hP A.z87
theorem A.t88:Zam P A.TB A.L78 A.E9:=(A.t87 hP).e1 hP A.z88
theorem A.t89:Zam P A.TB A.L78 A.E10:=(A.t88 hP).e1 hP A.z89
theorem A.t90:Zam P A.TB A.L79 A.E10:=(A.t89 hP).p1 hP A.z90
theorem A.t91:Zam P A.TB A.L80 A.E10:=(A.t90 hP).p1 hP A.z91
theorem A.t92:Zam P A.TB A.L81 A.E10:=(A.t91 hP).p1 hP A.z92
theorem A.t93:Zam P A.TB A.L82 A.E10:=(A.t92 hP).p1 hP A.z93
theorem A.t94:Zam P A.TB A.L83 A.E10:=(A.t93 hP).p1 hP A.z94
theorem A.t95:Zam P A.TB A.L84 A.E10:=(A.t94 hP).p1 hP A.z95
theorem A.t96:Zam P A.TB A.L85 A.E10:=(A.t95 hP).p1 hP A.z96
theorem A.t97:Zam P A.TB A.L85 A.E11:=(A.t96 hP).e1 hP A.z97
theorem A.t98:Zam P A.TB A.L86 A.E11:=(A.t97 hP).p1 hP A.z98
theorem A.t99:Zam P A.TB A.L87 A.E11:=(A.t98 hP).p1 hP A.z99
theorem A.t100:Zam P A.TB A.L87 A.E12:=(A.t99 hP).e1 hP A.z100
theorem A.t101:Zam P A.TB A.L87 A.E13:=(A.t100 hP).e1 hP A.z101
theorem A.t102:Zam P A.TB A.L88 A.E13:=(A.t101 hP).p1 hP A.z102
theorem A.t103:Zam P A.TB A.L88 A.E14:=(A.t102 hP).e1 hP A.z103
theorem A.t104:Zam P A.TB A.L88 A.E15:=(A.t103 hP).e1 hP A.z104
theorem A.t105:Zam P A.TB A.L88 A.E16:=(A.t104 hP).e1 hP A.z105
theorem A.t106:Zam P A.TB A.L88 A.E17:=(A.t105 hP).e1 hP A.z106
theorem A.t107:Zam P A.TB A.L88 A.E18:=(A.t106 hP).e1 hP A.z107
theorem A.t108:Zam P A.TB A.L89 A.E18:=(A.t107 hP).p1 hP A.z108
theorem A.t109:Zam P A.TB A.L90 A.E18:=(A.t108 hP).p1 hP A.z109
theorem A.t110:Zam P A.TB A.L90 A.E19:=(A.t109 hP).e1 hP A.z110
theorem A.t111:Zam P A.TB A.L90 A.E20:=(A.t110 hP).e1 hP A.z111
theorem A.t112:Zam P A.TB A.L90 A.E21:=(A.t111 hP).e1 hP A.z112
theorem A.t113:Zam P A.TB A.L90 A.E22:=(A.t112 hP).e1 hP A.z113
theorem A.t114:Zam P A.TB A.L90 A.E23:=(A.t113 hP).e1 hP A.z114
theorem A.t115:Zam P A.TB A.L90 A.E24:=(A.t114 hP).e1 hP A.z115
theorem A.t116:Zam P A.TB A.L90 A.E25:=(A.t115 hP).e1 hP A.z116
theorem A.t117:Zam P A.TB A.L90 A.E26:=(A.t116 hP).e1 hP A.z117
theorem A.t118:Zam P A.TB A.L90 A.E27:=(A.t117 hP).e1 hP A.z118
theorem A.t119:Zam P A.TB A.L90 A.E28:=(A.t118 hP).e1 hP A.z119
theorem A.t120:Zam P A.TB A.L90 A.E29:=(A.t119 hP).e1 hP A.z120
theorem A.t121:Zam P A.TB A.L90 A.E30:=(A.t120 hP).e1 hP A.z121
theorem A.t122:Zam P A.TB A.L90 A.E31:=(A.t121 hP).e1 hP A.z122
theorem A.t123:Zam P A.TB A.L91 A.E31:=(A.t122 hP).p1 hP A.z123
end
open Go Go.Proofs
theorem A.xOk:Zbn Tryz.prog A.C.x:=Ztw fun e he=>by
 simp only[Ypy,List.not_mem_nil,or_false]at he
 subst he
 exact(A.t123 A.progOk).p ⟨10,[],.bool true⟩ (Ypw (l:=A.L90))
end Go.Mx
