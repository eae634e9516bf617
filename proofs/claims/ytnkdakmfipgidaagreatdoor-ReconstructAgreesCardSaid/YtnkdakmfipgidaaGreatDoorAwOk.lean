/-The table of the known runs is sound, fo-/
import Derived.Test.YtnkdakmfipgidaaGreatDoorAwT0
import Derived.Test.YtnkdakmfipgidaaGreatDoorAwT3
import Derived.Test.YtnkdakmfipgidaaGreatDoorAwT4
import Derived.Test.YtnkdakmfipgidaaGreatDoorAwT5
import Derived.Test.YtnkdakmfipgidaaGreatDoorMxIn3
set_option linter.all false
namespace Go.Mx
open Go
set_option maxRecDepth 1000000
section
variable {P:Program} (hP:FN P A.dV 10)
include hP
def A.t0:aZ P A.TB A.L0 A.E:=aZ.nil.p1 hP A.z0
def A.t1:aZ P A.TB A.L1 A.E:=(A.t0 hP).p1 hP A.z1
def A.t2:aZ P A.TB A.L2 A.E:=(A.t1 hP).p1 hP A.z2
def A.t3:aZ P A.TB A.L3 A.E:=(A.t2 hP).p1 hP A.z3
def A.t4:aZ P A.TB A.L4 A.E:=(A.t3 hP).p1 hP A.z4
def A.t5:aZ P A.TB A.L5 A.E:=(A.t4 hP).p1 hP A.z5
def A.t6:aZ P A.TB A.L6 A.E:=(A.t5 hP).p1 hP A.z6
def A.t7:aZ P A.TB A.L7 A.E:=(A.t6 hP).p1 hP A.z7
def A.t8:aZ P A.TB A.L8 A.E:=(A.t7 hP).p1 hP A.z8
def A.t9:aZ P A.TB A.L9 A.E:=(A.t8 hP).p1 hP A.z9
def A.t10:aZ P A.TB A.VY A.E:=(A.t9 hP).p1 hP A.XI
def A.t11:aZ P A.TB A.VZ A.E:=(A.t10 hP).p1 hP A.z11
def A.t12:aZ P A.TB A.V0 A.E:=(A.t11 hP).p1 hP A.z12
def A.t13:aZ P A.TB A.V1 A.E:=(A.t12 hP).p1 hP A.z13
def A.t14:aZ P A.TB A.V2 A.E:=(A.t13 hP).p1 hP A.z14
def A.t15:aZ P A.TB A.V3 A.E:=(A.t14 hP).p1 hP A.z15
def A.t16:aZ P A.TB A.V4 A.E:=(A.t15 hP).p1 hP A.z16
def A.t17:aZ P A.TB A.V5 A.E:=(A.t16 hP).p1 hP A.z17
def A.t18:aZ P A.TB A.V6 A.E:=(A.t17 hP).p1 hP A.z18
def A.t19:aZ P A.TB A.V7 A.E:=(A.t18 hP).p1 hP A.z19
def A.t20:aZ P A.TB A.V8 A.E:=(A.t19 hP).p1 hP A.z20
def A.t21:aZ P A.TB A.V9 A.E:=(A.t20 hP).p1 hP A.z21
def A.t22:aZ P A.TB A.Wa A.E:=(A.t21 hP).p1 hP A.z22
def A.t23:aZ P A.TB A.Wb A.E:=(A.t22 hP).p1 hP A.z23
def A.t24:aZ P A.TB A.Wc A.E:=(A.t23 hP).p1 hP A.z24
def A.t25:aZ P A.TB A.Wd A.E:=(A.t24 hP).p1 hP A.z25
def A.t26:aZ P A.TB A.We A.E:=(A.t25 hP).p1 hP A.z26
def A.t27:aZ P A.TB A.Wf A.E:=(A.t26 hP).p1 hP A.z27
def A.t28:aZ P A.TB A.Wg A.E:=(A.t27 hP).p1 hP A.z28
def A.t29:aZ P A.TB A.Wh A.E:=(A.t28 hP).p1 hP A.z29
def A.t30:aZ P A.TB A.Wj A.E:=(A.t29 hP).p1 hP A.z30
def A.t31:aZ P A.TB A.Wk A.E:=(A.t30 hP).p1 hP A.z31
def A.t32:aZ P A.TB A.Wl A.E:=(A.t31 hP).p1 hP A.z32
def A.t33:aZ P A.TB A.Wm A.E:=(A.t32 hP).p1 hP A.z33
def A.t34:aZ P A.TB A.Wo A.E:=(A.t33 hP).p1 hP A.z34
def A.t35:aZ P A.TB A.Wp A.E:=(A.t34 hP).p1 hP A.z35
def A.t36:aZ P A.TB A.Wq A.E:=(A.t35 hP).p1 hP A.z36
def A.t37:aZ P A.TB A.Wr A.E:=(A.t36 hP).p1 hP A.z37
def A.t38:aZ P A.TB A.Ws A.E:=(A.t37 hP).p1 hP A.z38
def A.t39:aZ P A.TB A.Wu A.E:=(A.t38 hP).p1 hP A.z39
def A.t40:aZ P A.TB A.Wv A.E:=(A.t39 hP).p1 hP A.z40
def A.t41:aZ P A.TB A.Ww A.E:=(A.t40 hP).p1 hP A.z41
def A.t42:aZ P A.TB A.Wx A.E:=(A.t41 hP).p1 hP A.z42
def A.t43:aZ P A.TB A.Wy A.E:=(A.t42 hP).p1 hP A.z43
def A.t44:aZ P A.TB A.HL A.E:=(A.t43 hP).p1 hP A.z44
def A.t45:aZ P A.TB A.HL A.E0:=(A.t44 hP).e1 hP A.z45
def A.t46:aZ P A.TB A.HL A.E1:=(A.t45 hP).e1 hP A.z46
def A.t47:aZ P A.TB A.WA A.E1:=(A.t46 hP).p1 hP A.z47
def A.t48:aZ P A.TB A.WB A.E1:=(A.t47 hP).p1 hP A.z48
def A.t49:aZ P A.TB A.WC A.E1:=(A.t48 hP).p1 hP A.z49
def A.t50:aZ P A.TB A.WD A.E1:=(A.t49 hP).p1 hP A.z50
def A.t51:aZ P A.TB A.WE A.E1:=(A.t50 hP).p1 hP A.z51
def A.t52:aZ P A.TB A.WG A.E1:=(A.t51 hP).p1 hP A.z52
def A.t53:aZ P A.TB A.WH A.E1:=(A.t52 hP).p1 hP A.z53
def A.t54:aZ P A.TB A.WI A.E1:=(A.t53 hP).p1 hP A.z54
def A.t55:aZ P A.TB A.WJ A.E1:=(A.t54 hP).p1 hP A.z55
def A.t56:aZ P A.TB A.WK A.E1:=(A.t55 hP).p1 hP A.z56
def A.t57:aZ P A.TB A.WL A.E1:=(A.t56 hP).p1 hP A.z57
def A.t58:aZ P A.TB A.WM A.E1:=(A.t57 hP).p1 hP A.z58
def A.t59:aZ P A.TB A.WN A.E1:=(A.t58 hP).p1 hP A.z59
def A.t60:aZ P A.TB A.WO A.E1:=(A.t59 hP).p1 hP A.z60
def A.t61:aZ P A.TB A.WQ A.E1:=(A.t60 hP).p1 hP A.z61
def A.t62:aZ P A.TB A.WR A.E1:=(A.t61 hP).p1 hP A.z62
def A.t63:aZ P A.TB A.WS A.E1:=(A.t62 hP).p1 hP A.z63
def A.t64:aZ P A.TB A.WT A.E1:=(A.t63 hP).p1 hP A.z64
def A.t65:aZ P A.TB A.WU A.E1:=(A.t64 hP).p1 hP A.z65
def A.t66:aZ P A.TB A.WV A.E1:=(A.t65 hP).p1 hP A.z66
def A.t67:aZ P A.TB A.WW A.E1:=(A.t66 hP).p1 hP A.z67
def A.t68:aZ P A.TB A.WX A.E1:=(A.t67 hP).p1 hP A.z68
def A.t69:aZ P A.TB A.WY A.E1:=(A.t68 hP).p1 hP A.z69
def A.t70:aZ P A.TB A.WZ A.E1:=(A.t69 hP).p1 hP A.z70
def A.t71:aZ P A.TB A.W7 A.E1:=(A.t70 hP).p1 hP A.z71
def A.t72:aZ P A.TB A.HM A.E1:=(A.t71 hP).p1 hP A.z72
def A.t73:aZ P A.TB A.HM A.E2:=(A.t72 hP).e1 hP A.z73
def A.t74:aZ P A.TB A.HM A.E3:=(A.t73 hP).e1 hP A.z74
def A.t75:aZ P A.TB A.W9 A.E3:=(A.t74 hP).p1 hP A.z75
def A.t76:aZ P A.TB A.AA A.E3:=(A.t75 hP).p1 hP A.z76
def A.t77:aZ P A.TB A.AA A.E4:=(A.t76 hP).e1 hP A.z77
def A.t78:aZ P A.TB A.AA A.E5:=(A.t77 hP).e1 hP A.z78
def A.t79:aZ P A.TB A.AA A.E6:=(A.t78 hP).e1 hP A.z79
def A.t80:aZ P A.TB A.AA A.E7:=(A.t79 hP).e1 hP A.z80
def A.t81:aZ P A.TB A.Xa A.E7:=(A.t80 hP).p1 hP A.z81
def A.t82:aZ P A.TB A.Xb A.E7:=(A.t81 hP).p1 hP A.z82
def A.t83:aZ P A.TB A.Xc A.E7:=(A.t82 hP).p1 hP A.z83
def A.t84:aZ P A.TB A.Xd A.E7:=(A.t83 hP).p1 hP A.z84
def A.t85:aZ P A.TB A.Xe A.E7:=(A.t84 hP).p1 hP A.z85
def A.t86:aZ P A.TB A.DE A.E7:=(A.t85 hP).p1 hP A.z86
def A.t87:aZ P A.TB A.DE A.E8:=(A.t86 hP).e1 hP A.z87
def A.t88:aZ P A.TB A.DE A.E9:=(A.t87 hP).e1 hP A.z88
def A.t89:aZ P A.TB A.DE A.uo:=(A.t88 hP).e1 hP A.z89
def A.t90:aZ P A.TB A.Xf A.uo:=(A.t89 hP).p1 hP A.z90
def A.t91:aZ P A.TB A.Xg A.uo:=(A.t90 hP).p1 hP A.z91
def A.t92:aZ P A.TB A.Xh A.uo:=(A.t91 hP).p1 hP A.z92
def A.t93:aZ P A.TB A.Xi A.uo:=(A.t92 hP).p1 hP A.z93
def A.t94:aZ P A.TB A.Xj A.uo:=(A.t93 hP).p1 hP A.z94
def A.t95:aZ P A.TB A.Xk A.uo:=(A.t94 hP).p1 hP A.z95
def A.t96:aZ P A.TB A.M5 A.uo:=(A.t95 hP).p1 hP A.z96
def A.t97:aZ P A.TB A.M5 A.HN:=(A.t96 hP).e1 hP A.z97
def A.t98:aZ P A.TB A.Xl A.HN:=(A.t97 hP).p1 hP A.z98
def A.t99:aZ P A.TB A.HO A.HN:=(A.t98 hP).p1 hP A.z99
def A.t100:aZ P A.TB A.HO A.Xm:=(A.t99 hP).e1 hP A.XJ
def A.t101:aZ P A.TB A.HO A.M7:=(A.t100 hP).e1 hP A.XK
def A.t102:aZ P A.TB A.zf A.M7:=(A.t101 hP).p1 hP A.XL
def A.t103:aZ P A.TB A.zf A.Xn:=(A.t102 hP).e1 hP A.XM
def A.t104:aZ P A.TB A.zf A.Xo:=(A.t103 hP).e1 hP A.XN
def A.t105:aZ P A.TB A.zf A.Xp:=(A.t104 hP).e1 hP A.XO
def A.t106:aZ P A.TB A.zf A.Xq:=(A.t105 hP).e1 hP A.XP
def A.t107:aZ P A.TB A.zf A.HP:=(A.t106 hP).e1 hP A.XQ
def A.t108:aZ P A.TB A.Xr A.HP:=(A.t107 hP).p1 hP A.XR
def A.t109:aZ P A.TB A.jX A.HP:=(A.t108 hP).p1 hP A.XT
def A.t110:aZ P A.TB A.jX A.Xs:=(A.t109 hP).e1 hP A.XU
def A.t111:aZ P A.TB A.jX A.Xt:=(A.t110 hP).e1 hP A.XV
def A.t112:aZ P A.TB A.jX A.Xu:=(A.t111 hP).e1 hP A.XW
def A.t113:aZ P A.TB A.jX A.Xv:=(A.t112 hP).e1 hP A.XX
def A.t114:aZ P A.TB A.jX A.Xw:=(A.t113 hP).e1 hP A.XY
def A.t115:aZ P A.TB A.jX A.Xx:=(A.t114 hP).e1 hP A.XZ
def A.t116:aZ P A.TB A.jX A.Xy:=(A.t115 hP).e1 hP A.X0
def A.t117:aZ P A.TB A.jX A.Xz:=(A.t116 hP).e1 hP A.X7
def A.t118:aZ P A.TB A.jX A.XA:=(A.t117 hP).e1 hP A.X8
def A.t119:aZ P A.TB A.jX A.XB:=(A.t118 hP).e1 hP A.X9
def A.t120:aZ P A.TB A.jX A.XC:=(A.t119 hP).e1 hP A.Ya
def A.t121:aZ P A.TB A.jX A.XD:=(A.t120 hP).e1 hP A.Yb
def A.t122:aZ P A.TB A.jX A.Se:=(A.t121 hP).e1 hP A.Yc
def A.t123:aZ P A.TB A.L91 A.Se:=(A.t122 hP).p1 hP A.Yd
end
open Go Go.Proofs
def A.xOk:jZ Tryz.prog A.C.x:=Zy9 fun e he=>by
 simp only[iW,List.not_mem_nil,or_false]at he
 subst he
 exact(A.t123 A.AB).p ⟨10,[],.bool true⟩ (qQ (l:=A.jX))
end Go.Mx
