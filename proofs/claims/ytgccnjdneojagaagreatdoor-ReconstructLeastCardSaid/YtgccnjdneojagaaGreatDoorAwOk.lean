/-The table of the known runs is sound, fo-/
import Derived.Test.YtgccnjdneojagaaGreatDoorAwT0
import Derived.Test.YtgccnjdneojagaaGreatDoorAwT3
import Derived.Test.YtgccnjdneojagaaGreatDoorAwT4
import Derived.Test.YtgccnjdneojagaaGreatDoorAwT5
import Derived.Test.YtgccnjdneojagaaGreatDoorLsM
set_option linter.all false
namespace Go.Mx
open Go
set_option maxRecDepth 1000000
section
variable {P:Program} (hP:FO P A.ec 10)
include hP
def A.t0:bf P A.TB A.L0 A.E:=bf.nil.p1 hP A.z0
def A.t1:bf P A.TB A.L1 A.E:=(A.t0 hP).p1 hP A.z1
def A.t2:bf P A.TB A.L2 A.E:=(A.t1 hP).p1 hP A.z2
def A.t3:bf P A.TB A.L3 A.E:=(A.t2 hP).p1 hP A.z3
def A.t4:bf P A.TB A.L4 A.E:=(A.t3 hP).p1 hP A.z4
def A.t5:bf P A.TB A.L5 A.E:=(A.t4 hP).p1 hP A.z5
def A.t6:bf P A.TB A.L6 A.E:=(A.t5 hP).p1 hP A.z6
def A.t7:bf P A.TB A.L7 A.E:=(A.t6 hP).p1 hP A.z7
def A.t8:bf P A.TB A.L8 A.E:=(A.t7 hP).p1 hP A.z8
def A.t9:bf P A.TB A.L9 A.E:=(A.t8 hP).p1 hP A.z9
def A.t10:bf P A.TB A.Wr A.E:=(A.t9 hP).p1 hP A.Yg
def A.t11:bf P A.TB A.Ws A.E:=(A.t10 hP).p1 hP A.z11
def A.t12:bf P A.TB A.Wu A.E:=(A.t11 hP).p1 hP A.z12
def A.t13:bf P A.TB A.Wv A.E:=(A.t12 hP).p1 hP A.z13
def A.t14:bf P A.TB A.Ww A.E:=(A.t13 hP).p1 hP A.z14
def A.t15:bf P A.TB A.Wx A.E:=(A.t14 hP).p1 hP A.z15
def A.t16:bf P A.TB A.Wy A.E:=(A.t15 hP).p1 hP A.z16
def A.t17:bf P A.TB A.WA A.E:=(A.t16 hP).p1 hP A.z17
def A.t18:bf P A.TB A.WB A.E:=(A.t17 hP).p1 hP A.z18
def A.t19:bf P A.TB A.WC A.E:=(A.t18 hP).p1 hP A.z19
def A.t20:bf P A.TB A.WD A.E:=(A.t19 hP).p1 hP A.z20
def A.t21:bf P A.TB A.WE A.E:=(A.t20 hP).p1 hP A.z21
def A.t22:bf P A.TB A.WG A.E:=(A.t21 hP).p1 hP A.z22
def A.t23:bf P A.TB A.WH A.E:=(A.t22 hP).p1 hP A.z23
def A.t24:bf P A.TB A.WI A.E:=(A.t23 hP).p1 hP A.z24
def A.t25:bf P A.TB A.WJ A.E:=(A.t24 hP).p1 hP A.z25
def A.t26:bf P A.TB A.WK A.E:=(A.t25 hP).p1 hP A.z26
def A.t27:bf P A.TB A.WL A.E:=(A.t26 hP).p1 hP A.z27
def A.t28:bf P A.TB A.WM A.E:=(A.t27 hP).p1 hP A.z28
def A.t29:bf P A.TB A.WN A.E:=(A.t28 hP).p1 hP A.z29
def A.t30:bf P A.TB A.WO A.E:=(A.t29 hP).p1 hP A.z30
def A.t31:bf P A.TB A.WQ A.E:=(A.t30 hP).p1 hP A.z31
def A.t32:bf P A.TB A.WR A.E:=(A.t31 hP).p1 hP A.z32
def A.t33:bf P A.TB A.WS A.E:=(A.t32 hP).p1 hP A.z33
def A.t34:bf P A.TB A.WT A.E:=(A.t33 hP).p1 hP A.z34
def A.t35:bf P A.TB A.WU A.E:=(A.t34 hP).p1 hP A.z35
def A.t36:bf P A.TB A.WV A.E:=(A.t35 hP).p1 hP A.z36
def A.t37:bf P A.TB A.WW A.E:=(A.t36 hP).p1 hP A.z37
def A.t38:bf P A.TB A.WX A.E:=(A.t37 hP).p1 hP A.z38
def A.t39:bf P A.TB A.WY A.E:=(A.t38 hP).p1 hP A.z39
def A.t40:bf P A.TB A.WZ A.E:=(A.t39 hP).p1 hP A.z40
def A.t41:bf P A.TB A.W7 A.E:=(A.t40 hP).p1 hP A.z41
def A.t42:bf P A.TB A.W9 A.E:=(A.t41 hP).p1 hP A.z42
def A.t43:bf P A.TB A.Xa A.E:=(A.t42 hP).p1 hP A.z43
def A.t44:bf P A.TB A.HM A.E:=(A.t43 hP).p1 hP A.z44
def A.t45:bf P A.TB A.HM A.E0:=(A.t44 hP).e1 hP A.z45
def A.t46:bf P A.TB A.HM A.E1:=(A.t45 hP).e1 hP A.z46
def A.t47:bf P A.TB A.Xb A.E1:=(A.t46 hP).p1 hP A.z47
def A.t48:bf P A.TB A.Xc A.E1:=(A.t47 hP).p1 hP A.z48
def A.t49:bf P A.TB A.Xd A.E1:=(A.t48 hP).p1 hP A.z49
def A.t50:bf P A.TB A.Xe A.E1:=(A.t49 hP).p1 hP A.z50
def A.t51:bf P A.TB A.Xf A.E1:=(A.t50 hP).p1 hP A.z51
def A.t52:bf P A.TB A.Xg A.E1:=(A.t51 hP).p1 hP A.z52
def A.t53:bf P A.TB A.Xh A.E1:=(A.t52 hP).p1 hP A.z53
def A.t54:bf P A.TB A.Xi A.E1:=(A.t53 hP).p1 hP A.z54
def A.t55:bf P A.TB A.Xj A.E1:=(A.t54 hP).p1 hP A.z55
def A.t56:bf P A.TB A.Xk A.E1:=(A.t55 hP).p1 hP A.z56
def A.t57:bf P A.TB A.Xl A.E1:=(A.t56 hP).p1 hP A.z57
def A.t58:bf P A.TB A.Xm A.E1:=(A.t57 hP).p1 hP A.z58
def A.t59:bf P A.TB A.Xn A.E1:=(A.t58 hP).p1 hP A.z59
def A.t60:bf P A.TB A.Xo A.E1:=(A.t59 hP).p1 hP A.z60
def A.t61:bf P A.TB A.Xp A.E1:=(A.t60 hP).p1 hP A.z61
def A.t62:bf P A.TB A.Xq A.E1:=(A.t61 hP).p1 hP A.z62
def A.t63:bf P A.TB A.Xr A.E1:=(A.t62 hP).p1 hP A.z63
def A.t64:bf P A.TB A.Xs A.E1:=(A.t63 hP).p1 hP A.z64
def A.t65:bf P A.TB A.Xt A.E1:=(A.t64 hP).p1 hP A.z65
def A.t66:bf P A.TB A.Xu A.E1:=(A.t65 hP).p1 hP A.z66
def A.t67:bf P A.TB A.Xv A.E1:=(A.t66 hP).p1 hP A.z67
def A.t68:bf P A.TB A.Xw A.E1:=(A.t67 hP).p1 hP A.z68
def A.t69:bf P A.TB A.Xx A.E1:=(A.t68 hP).p1 hP A.z69
def A.t70:bf P A.TB A.Xy A.E1:=(A.t69 hP).p1 hP A.z70
def A.t71:bf P A.TB A.Xz A.E1:=(A.t70 hP).p1 hP A.z71
def A.t72:bf P A.TB A.HN A.E1:=(A.t71 hP).p1 hP A.z72
def A.t73:bf P A.TB A.HN A.E2:=(A.t72 hP).e1 hP A.z73
def A.t74:bf P A.TB A.HN A.E3:=(A.t73 hP).e1 hP A.z74
def A.t75:bf P A.TB A.XA A.E3:=(A.t74 hP).p1 hP A.z75
def A.t76:bf P A.TB A.AZ A.E3:=(A.t75 hP).p1 hP A.z76
def A.t77:bf P A.TB A.AZ A.E4:=(A.t76 hP).e1 hP A.z77
def A.t78:bf P A.TB A.AZ A.E5:=(A.t77 hP).e1 hP A.z78
def A.t79:bf P A.TB A.AZ A.E6:=(A.t78 hP).e1 hP A.z79
def A.t80:bf P A.TB A.AZ A.E7:=(A.t79 hP).e1 hP A.z80
def A.t81:bf P A.TB A.XB A.E7:=(A.t80 hP).p1 hP A.z81
def A.t82:bf P A.TB A.XC A.E7:=(A.t81 hP).p1 hP A.z82
def A.t83:bf P A.TB A.XD A.E7:=(A.t82 hP).p1 hP A.z83
def A.t84:bf P A.TB A.XE A.E7:=(A.t83 hP).p1 hP A.z84
def A.t85:bf P A.TB A.XF A.E7:=(A.t84 hP).p1 hP A.z85
def A.t86:bf P A.TB A.DW A.E7:=(A.t85 hP).p1 hP A.z86
def A.t87:bf P A.TB A.DW A.E8:=(A.t86 hP).e1 hP A.z87
def A.t88:bf P A.TB A.DW A.E9:=(A.t87 hP).e1 hP A.z88
def A.t89:bf P A.TB A.DW A.uY:=(A.t88 hP).e1 hP A.z89
def A.t90:bf P A.TB A.XG A.uY:=(A.t89 hP).p1 hP A.z90
def A.t91:bf P A.TB A.XH A.uY:=(A.t90 hP).p1 hP A.z91
def A.t92:bf P A.TB A.XI A.uY:=(A.t91 hP).p1 hP A.z92
def A.t93:bf P A.TB A.XJ A.uY:=(A.t92 hP).p1 hP A.z93
def A.t94:bf P A.TB A.XK A.uY:=(A.t93 hP).p1 hP A.z94
def A.t95:bf P A.TB A.XL A.uY:=(A.t94 hP).p1 hP A.z95
def A.t96:bf P A.TB A.M8 A.uY:=(A.t95 hP).p1 hP A.z96
def A.t97:bf P A.TB A.M8 A.HO:=(A.t96 hP).e1 hP A.z97
def A.t98:bf P A.TB A.XM A.HO:=(A.t97 hP).p1 hP A.z98
def A.t99:bf P A.TB A.HP A.HO:=(A.t98 hP).p1 hP A.z99
def A.t100:bf P A.TB A.HP A.XN:=(A.t99 hP).e1 hP A.Yh
def A.t101:bf P A.TB A.HP A.M9:=(A.t100 hP).e1 hP A.Yi
def A.t102:bf P A.TB A.zD A.M9:=(A.t101 hP).p1 hP A.Yj
def A.t103:bf P A.TB A.zD A.XO:=(A.t102 hP).e1 hP A.Yk
def A.t104:bf P A.TB A.zD A.XP:=(A.t103 hP).e1 hP A.Yl
def A.t105:bf P A.TB A.zD A.XQ:=(A.t104 hP).e1 hP A.Ym
def A.t106:bf P A.TB A.zD A.XR:=(A.t105 hP).e1 hP A.Yn
def A.t107:bf P A.TB A.zD A.HQ:=(A.t106 hP).e1 hP A.Yo
def A.t108:bf P A.TB A.XT A.HQ:=(A.t107 hP).p1 hP A.Yp
def A.t109:bf P A.TB A.kv A.HQ:=(A.t108 hP).p1 hP A.Yq
def A.t110:bf P A.TB A.kv A.XU:=(A.t109 hP).e1 hP A.Yr
def A.t111:bf P A.TB A.kv A.XV:=(A.t110 hP).e1 hP A.Ys
def A.t112:bf P A.TB A.kv A.XW:=(A.t111 hP).e1 hP A.Yt
def A.t113:bf P A.TB A.kv A.XX:=(A.t112 hP).e1 hP A.Yu
def A.t114:bf P A.TB A.kv A.XY:=(A.t113 hP).e1 hP A.Yv
def A.t115:bf P A.TB A.kv A.XZ:=(A.t114 hP).e1 hP A.Yw
def A.t116:bf P A.TB A.kv A.X0:=(A.t115 hP).e1 hP A.Yx
def A.t117:bf P A.TB A.kv A.X7:=(A.t116 hP).e1 hP A.Yy
def A.t118:bf P A.TB A.kv A.X8:=(A.t117 hP).e1 hP A.Yz
def A.t119:bf P A.TB A.kv A.X9:=(A.t118 hP).e1 hP A.YA
def A.t120:bf P A.TB A.kv A.Ya:=(A.t119 hP).e1 hP A.YB
def A.t121:bf P A.TB A.kv A.Yb:=(A.t120 hP).e1 hP A.YC
def A.t122:bf P A.TB A.kv A.SL:=(A.t121 hP).e1 hP A.YD
def A.t123:bf P A.TB A.L91 A.SL:=(A.t122 hP).p1 hP A.YE
end
open Go Go.Proofs
def A.xOk:kI Tryz.prog A.C.x:=Yah fun e he=>by
 simp only[ky,List.not_mem_nil,or_false]at he
 subst he
 exact(A.t123 A.A1).p ⟨9,[],.bool true⟩ (rI (l:=A.kv))
end Go.Mx
