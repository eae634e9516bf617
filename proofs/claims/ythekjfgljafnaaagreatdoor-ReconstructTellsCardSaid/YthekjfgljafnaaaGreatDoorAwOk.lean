/-The table of the known runs is sound, fo-/
import Derived.Test.YthekjfgljafnaaaGreatDoorAwT0
import Derived.Test.YthekjfgljafnaaaGreatDoorAwT3
import Derived.Test.YthekjfgljafnaaaGreatDoorAwT4
import Derived.Test.YthekjfgljafnaaaGreatDoorAwT5
import Derived.Test.YthekjfgljafnaaaGreatDoorMxIn3
set_option linter.all false
namespace Go.Mx
open Go
set_option maxRecDepth 1000000
section
variable {P:Program} (hP:Zl2 P A.tbl 10)
include hP
def A.t0:Zap P A.TB A.L0 A.E:=Zap.nil.p1 hP A.z0
def A.t1:Zap P A.TB A.L1 A.E:=(A.t0 hP).p1 hP A.z1
def A.t2:Zap P A.TB A.L2 A.E:=(A.t1 hP).p1 hP A.z2
def A.t3:Zap P A.TB A.L3 A.E:=(A.t2 hP).p1 hP A.z3
def A.t4:Zap P A.TB A.L4 A.E:=(A.t3 hP).p1 hP A.z4
def A.t5:Zap P A.TB A.L5 A.E:=(A.t4 hP).p1 hP A.z5
def A.t6:Zap P A.TB A.L6 A.E:=(A.t5 hP).p1 hP A.z6
def A.t7:Zap P A.TB A.L7 A.E:=(A.t6 hP).p1 hP A.z7
def A.t8:Zap P A.TB A.L8 A.E:=(A.t7 hP).p1 hP A.z8
def A.t9:Zap P A.TB A.L9 A.E:=(A.t8 hP).p1 hP A.z9
def A.t10:Zap P A.TB A.L10 A.E:=(A.t9 hP).p1 hP A.z10
def A.t11:Zap P A.TB A.L11 A.E:=(A.t10 hP).p1 hP A.z11
def A.t12:Zap P A.TB A.L12 A.E:=(A.t11 hP).p1 hP A.z12
def A.t13:Zap P A.TB A.L13 A.E:=(A.t12 hP).p1 hP A.z13
def A.t14:Zap P A.TB A.L14 A.E:=(A.t13 hP).p1 hP A.z14
def A.t15:Zap P A.TB A.L15 A.E:=(A.t14 hP).p1 hP A.z15
def A.t16:Zap P A.TB A.L16 A.E:=(A.t15 hP).p1 hP A.z16
def A.t17:Zap P A.TB A.L17 A.E:=(A.t16 hP).p1 hP A.z17
def A.t18:Zap P A.TB A.L18 A.E:=(A.t17 hP).p1 hP A.z18
def A.t19:Zap P A.TB A.L19 A.E:=(A.t18 hP).p1 hP A.z19
def A.t20:Zap P A.TB A.L20 A.E:=(A.t19 hP).p1 hP A.z20
def A.t21:Zap P A.TB A.L21 A.E:=(A.t20 hP).p1 hP A.z21
def A.t22:Zap P A.TB A.L22 A.E:=(A.t21 hP).p1 hP A.z22
def A.t23:Zap P A.TB A.L23 A.E:=(A.t22 hP).p1 hP A.z23
def A.t24:Zap P A.TB A.L24 A.E:=(A.t23 hP).p1 hP A.z24
def A.t25:Zap P A.TB A.L25 A.E:=(A.t24 hP).p1 hP A.z25
def A.t26:Zap P A.TB A.L26 A.E:=(A.t25 hP).p1 hP A.z26
def A.t27:Zap P A.TB A.L27 A.E:=(A.t26 hP).p1 hP A.z27
def A.t28:Zap P A.TB A.L28 A.E:=(A.t27 hP).p1 hP A.z28
def A.t29:Zap P A.TB A.L29 A.E:=(A.t28 hP).p1 hP A.z29
def A.t30:Zap P A.TB A.L30 A.E:=(A.t29 hP).p1 hP A.z30
def A.t31:Zap P A.TB A.L31 A.E:=(A.t30 hP).p1 hP A.z31
def A.t32:Zap P A.TB A.L32 A.E:=(A.t31 hP).p1 hP A.z32
def A.t33:Zap P A.TB A.L33 A.E:=(A.t32 hP).p1 hP A.z33
def A.t34:Zap P A.TB A.L34 A.E:=(A.t33 hP).p1 hP A.z34
def A.t35:Zap P A.TB A.L35 A.E:=(A.t34 hP).p1 hP A.z35
def A.t36:Zap P A.TB A.L36 A.E:=(A.t35 hP).p1 hP A.z36
def A.t37:Zap P A.TB A.L37 A.E:=(A.t36 hP).p1 hP A.z37
def A.t38:Zap P A.TB A.L38 A.E:=(A.t37 hP).p1 hP A.z38
def A.t39:Zap P A.TB A.L39 A.E:=(A.t38 hP).p1 hP A.z39
def A.t40:Zap P A.TB A.L40 A.E:=(A.t39 hP).p1 hP A.z40
def A.t41:Zap P A.TB A.L41 A.E:=(A.t40 hP).p1 hP A.z41
def A.t42:Zap P A.TB A.L42 A.E:=(A.t41 hP).p1 hP A.z42
def A.t43:Zap P A.TB A.L43 A.E:=(A.t42 hP).p1 hP A.z43
def A.t44:Zap P A.TB A.L44 A.E:=(A.t43 hP).p1 hP A.z44
def A.t45:Zap P A.TB A.L44 A.E0:=(A.t44 hP).e1 hP A.z45
def A.t46:Zap P A.TB A.L44 A.E1:=(A.t45 hP).e1 hP A.z46
def A.t47:Zap P A.TB A.L45 A.E1:=(A.t46 hP).p1 hP A.z47
def A.t48:Zap P A.TB A.L46 A.E1:=(A.t47 hP).p1 hP A.z48
def A.t49:Zap P A.TB A.L47 A.E1:=(A.t48 hP).p1 hP A.z49
def A.t50:Zap P A.TB A.L48 A.E1:=(A.t49 hP).p1 hP A.z50
def A.t51:Zap P A.TB A.L49 A.E1:=(A.t50 hP).p1 hP A.z51
def A.t52:Zap P A.TB A.L50 A.E1:=(A.t51 hP).p1 hP A.z52
def A.t53:Zap P A.TB A.L51 A.E1:=(A.t52 hP).p1 hP A.z53
def A.t54:Zap P A.TB A.L52 A.E1:=(A.t53 hP).p1 hP A.z54
def A.t55:Zap P A.TB A.L53 A.E1:=(A.t54 hP).p1 hP A.z55
def A.t56:Zap P A.TB A.L54 A.E1:=(A.t55 hP).p1 hP A.z56
def A.t57:Zap P A.TB A.L55 A.E1:=(A.t56 hP).p1 hP A.z57
def A.t58:Zap P A.TB A.L56 A.E1:=(A.t57 hP).p1 hP A.z58
def A.t59:Zap P A.TB A.L57 A.E1:=(A.t58 hP).p1 hP A.z59
def A.t60:Zap P A.TB A.L58 A.E1:=(A.t59 hP).p1 hP A.z60
def A.t61:Zap P A.TB A.L59 A.E1:=(A.t60 hP).p1 hP A.z61
def A.t62:Zap P A.TB A.L60 A.E1:=(A.t61 hP).p1 hP A.z62
def A.t63:Zap P A.TB A.L61 A.E1:=(A.t62 hP).p1 hP A.z63
def A.t64:Zap P A.TB A.L62 A.E1:=(A.t63 hP).p1 hP A.z64
def A.t65:Zap P A.TB A.L63 A.E1:=(A.t64 hP).p1 hP A.z65
def A.t66:Zap P A.TB A.L64 A.E1:=(A.t65 hP).p1 hP A.z66
def A.t67:Zap P A.TB A.L65 A.E1:=(A.t66 hP).p1 hP A.z67
def A.t68:Zap P A.TB A.L66 A.E1:=(A.t67 hP).p1 hP A.z68
def A.t69:Zap P A.TB A.L67 A.E1:=(A.t68 hP).p1 hP A.z69
def A.t70:Zap P A.TB A.L68 A.E1:=(A.t69 hP).p1 hP A.z70
def A.t71:Zap P A.TB A.L69 A.E1:=(A.t70 hP).p1 hP A.z71
def A.t72:Zap P A.TB A.L70 A.E1:=(A.t71 hP).p1 hP A.z72
def A.t73:Zap P A.TB A.L70 A.E2:=(A.t72 hP).e1 hP A.z73
def A.t74:Zap P A.TB A.L70 A.E3:=(A.t73 hP).e1 hP A.z74
def A.t75:Zap P A.TB A.L71 A.E3:=(A.t74 hP).p1 hP A.z75
def A.t76:Zap P A.TB A.L72 A.E3:=(A.t75 hP).p1 hP A.z76
def A.t77:Zap P A.TB A.L72 A.E4:=(A.t76 hP).e1 hP A.z77
def A.t78:Zap P A.TB A.L72 A.E5:=(A.t77 hP).e1 hP A.z78
def A.t79:Zap P A.TB A.L72 A.E6:=(A.t78 hP).e1 hP A.z79
def A.t80:Zap P A.TB A.L72 A.E7:=(A.t79 hP).e1 hP A.z80
def A.t81:Zap P A.TB A.L73 A.E7:=(A.t80 hP).p1 hP A.z81
def A.t82:Zap P A.TB A.L74 A.E7:=(A.t81 hP).p1 hP A.z82
def A.t83:Zap P A.TB A.L75 A.E7:=(A.t82 hP).p1 hP A.z83
def A.t84:Zap P A.TB A.L76 A.E7:=(A.t83 hP).p1 hP A.z84
def A.t85:Zap P A.TB A.L77 A.E7:=(A.t84 hP).p1 hP A.z85
def A.t86:Zap P A.TB A.L78 A.E7:=(A.t85 hP).p1 hP A.z86
def A.t87:Zap P A.TB A.L78 A.E8:=(A.t86 hP).e1 hP A.z87
def A.t88:Zap P A.TB A.L78 A.E9:=(A.t87 hP).e1 hP A.z88
def A.t89:Zap P A.TB A.L78 A.E10:=(A.t88 hP).e1 hP A.z89
def A.t90:Zap P A.TB A.L79 A.E10:=(A.t89 hP).p1 hP A.z90
def A.t91:Zap P A.TB A.L80 A.E10:=(A.t90 hP).p1 hP A.z91
def A.t92:Zap P A.TB A.L81 A.E10:=(A.t91 hP).p1 hP A.z92
def A.t93:Zap P A.TB A.L82 A.E10:=(A.t92 hP).p1 hP A.z93
def A.t94:Zap P A.TB A.L83 A.E10:=(A.t93 hP).p1 hP A.z94
def A.t95:Zap P A.TB A.L84 A.E10:=(A.t94 hP).p1 hP A.z95
def A.t96:Zap P A.TB A.L85 A.E10:=(A.t95 hP).p1 hP A.z96
def A.t97:Zap P A.TB A.L85 A.E11:=(A.t96 hP).e1 hP A.z97
def A.t98:Zap P A.TB A.L86 A.E11:=(A.t97 hP).p1 hP A.z98
def A.t99:Zap P A.TB A.L87 A.E11:=(A.t98 hP).p1 hP A.z99
def A.t100:Zap P A.TB A.L87 A.E12:=(A.t99 hP).e1 hP A.z100
def A.t101:Zap P A.TB A.L87 A.E13:=(A.t100 hP).e1 hP A.z101
def A.t102:Zap P A.TB A.L88 A.E13:=(A.t101 hP).p1 hP A.z102
def A.t103:Zap P A.TB A.L88 A.E14:=(A.t102 hP).e1 hP A.z103
def A.t104:Zap P A.TB A.L88 A.E15:=(A.t103 hP).e1 hP A.z104
def A.t105:Zap P A.TB A.L88 A.E16:=(A.t104 hP).e1 hP A.z105
def A.t106:Zap P A.TB A.L88 A.E17:=(A.t105 hP).e1 hP A.z106
def A.t107:Zap P A.TB A.L88 A.E18:=(A.t106 hP).e1 hP A.z107
def A.t108:Zap P A.TB A.L89 A.E18:=(A.t107 hP).p1 hP A.z108
def A.t109:Zap P A.TB A.L90 A.E18:=(A.t108 hP).p1 hP A.z109
def A.t110:Zap P A.TB A.L90 A.E19:=(A.t109 hP).e1 hP A.z110
def A.t111:Zap P A.TB A.L90 A.E20:=(A.t110 hP).e1 hP A.z111
def A.t112:Zap P A.TB A.L90 A.E21:=(A.t111 hP).e1 hP A.z112
def A.t113:Zap P A.TB A.L90 A.E22:=(A.t112 hP).e1 hP A.z113
def A.t114:Zap P A.TB A.L90 A.E23:=(A.t113 hP).e1 hP A.z114
def A.t115:Zap P A.TB A.L90 A.E24:=(A.t114 hP).e1 hP A.z115
def A.t116:Zap P A.TB A.L90 A.E25:=(A.t115 hP).e1 hP A.z116
def A.t117:Zap P A.TB A.L90 A.E26:=(A.t116 hP).e1 hP A.z117
def A.t118:Zap P A.TB A.L90 A.E27:=(A.t117 hP).e1 hP A.z118
def A.t119:Zap P A.TB A.L90 A.E28:=(A.t118 hP).e1 hP A.z119
def A.t120:Zap P A.TB A.L90 A.E29:=(A.t119 hP).e1 hP A.z120
def A.t121:Zap P A.TB A.L90 A.E30:=(A.t120 hP).e1 hP A.z121
def A.t122:Zap P A.TB A.L90 A.E31:=(A.t121 hP).e1 hP A.z122
def A.t123:Zap P A.TB A.L91 A.E31:=(A.t122 hP).p1 hP A.z123
end
open Go Go.Proofs
def A.xOk:Zbx Tryz.prog A.C.x:=Zwq fun e he=>by
 simp only[Yxa,List.not_mem_nil,or_false]at he
 subst he
 exact(A.t123 A.progOk).p ⟨5,[],.bool true⟩ (Yw6 (l:=A.L90))
end Go.Mx
