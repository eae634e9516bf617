/-Runs-/
import Derived.Test.YtfeehbdhikiikaaGreatDoorAwT0
import Derived.Test.YtfeehbdhikiikaaGreatDoorAwT3
import Derived.Test.YtfeehbdhikiikaaGreatDoorAwT4
import Derived.Test.YtfeehbdhikiikaaGreatDoorAwT5
set_option linter.all false
namespace Go.Mx
open Go
set_option maxRecDepth 1000000
section
variable {P:Program} (hP:FQ P A.eg 10)
include hP
def A.t0:a_ P A.TB A.L0 A.E:=a_.nil.p1 hP A.z0
def A.t1:a_ P A.TB A.L1 A.E:=(A.t0 hP).p1 hP A.z1
def A.t2:a_ P A.TB A.L2 A.E:=(A.t1 hP).p1 hP A.z2
def A.t3:a_ P A.TB A.L3 A.E:=(A.t2 hP).p1 hP A.z3
def A.t4:a_ P A.TB A.L4 A.E:=(A.t3 hP).p1 hP A.z4
def A.t5:a_ P A.TB A.L5 A.E:=(A.t4 hP).p1 hP A.z5
def A.t6:a_ P A.TB A.L6 A.E:=(A.t5 hP).p1 hP A.z6
def A.t7:a_ P A.TB A.L7 A.E:=(A.t6 hP).p1 hP A.z7
def A.t8:a_ P A.TB A.L8 A.E:=(A.t7 hP).p1 hP A.z8
def A.t9:a_ P A.TB A.L9 A.E:=(A.t8 hP).p1 hP A.z9
def A.t10:a_ P A.TB A.Wf A.E:=(A.t9 hP).p1 hP A.FR
def A.t11:a_ P A.TB A.Wg A.E:=(A.t10 hP).p1 hP A.K9
def A.t12:a_ P A.TB A.Wh A.E:=(A.t11 hP).p1 hP A.Ii
def A.t13:a_ P A.TB A.Wj A.E:=(A.t12 hP).p1 hP A.z13
def A.t14:a_ P A.TB A.Wk A.E:=(A.t13 hP).p1 hP A.z14
def A.t15:a_ P A.TB A.Wl A.E:=(A.t14 hP).p1 hP A.z15
def A.t16:a_ P A.TB A.Wm A.E:=(A.t15 hP).p1 hP A.z16
def A.t17:a_ P A.TB A.Wo A.E:=(A.t16 hP).p1 hP A.z17
def A.t18:a_ P A.TB A.Wp A.E:=(A.t17 hP).p1 hP A.z18
def A.t19:a_ P A.TB A.Wq A.E:=(A.t18 hP).p1 hP A.z19
def A.t20:a_ P A.TB A.Wr A.E:=(A.t19 hP).p1 hP A.z20
def A.t21:a_ P A.TB A.Ws A.E:=(A.t20 hP).p1 hP A.z21
def A.t22:a_ P A.TB A.Wu A.E:=(A.t21 hP).p1 hP A.z22
def A.t23:a_ P A.TB A.Wv A.E:=(A.t22 hP).p1 hP A.z23
def A.t24:a_ P A.TB A.Ww A.E:=(A.t23 hP).p1 hP A.z24
def A.t25:a_ P A.TB A.Wx A.E:=(A.t24 hP).p1 hP A.z25
def A.t26:a_ P A.TB A.WA A.E:=(A.t25 hP).p1 hP A.z26
def A.t27:a_ P A.TB A.WB A.E:=(A.t26 hP).p1 hP A.z27
def A.t28:a_ P A.TB A.WC A.E:=(A.t27 hP).p1 hP A.z28
def A.t29:a_ P A.TB A.WD A.E:=(A.t28 hP).p1 hP A.z29
def A.t30:a_ P A.TB A.WE A.E:=(A.t29 hP).p1 hP A.z30
def A.t31:a_ P A.TB A.WG A.E:=(A.t30 hP).p1 hP A.z31
def A.t32:a_ P A.TB A.WH A.E:=(A.t31 hP).p1 hP A.z32
def A.t33:a_ P A.TB A.WI A.E:=(A.t32 hP).p1 hP A.z33
def A.t34:a_ P A.TB A.WJ A.E:=(A.t33 hP).p1 hP A.z34
def A.t35:a_ P A.TB A.WK A.E:=(A.t34 hP).p1 hP A.z35
def A.t36:a_ P A.TB A.WL A.E:=(A.t35 hP).p1 hP A.z36
def A.t37:a_ P A.TB A.WM A.E:=(A.t36 hP).p1 hP A.z37
def A.t38:a_ P A.TB A.WN A.E:=(A.t37 hP).p1 hP A.z38
def A.t39:a_ P A.TB A.WO A.E:=(A.t38 hP).p1 hP A.z39
def A.t40:a_ P A.TB A.WQ A.E:=(A.t39 hP).p1 hP A.z40
def A.t41:a_ P A.TB A.WR A.E:=(A.t40 hP).p1 hP A.z41
def A.t42:a_ P A.TB A.WS A.E:=(A.t41 hP).p1 hP A.z42
def A.t43:a_ P A.TB A.WT A.E:=(A.t42 hP).p1 hP A.z43
def A.t44:a_ P A.TB A.HZ A.E:=(A.t43 hP).p1 hP A.z44
def A.t45:a_ P A.TB A.HZ A.E0:=(A.t44 hP).e1 hP A.z45
def A.t46:a_ P A.TB A.HZ A.E1:=(A.t45 hP).e1 hP A.z46
def A.t47:a_ P A.TB A.WU A.E1:=(A.t46 hP).p1 hP A.z47
def A.t48:a_ P A.TB A.WV A.E1:=(A.t47 hP).p1 hP A.z48
def A.t49:a_ P A.TB A.WW A.E1:=(A.t48 hP).p1 hP A.z49
def A.t50:a_ P A.TB A.WX A.E1:=(A.t49 hP).p1 hP A.z50
def A.t51:a_ P A.TB A.WY A.E1:=(A.t50 hP).p1 hP A.z51
def A.t52:a_ P A.TB A.WZ A.E1:=(A.t51 hP).p1 hP A.z52
def A.t53:a_ P A.TB A.W7 A.E1:=(A.t52 hP).p1 hP A.z53
def A.t54:a_ P A.TB A.W8 A.E1:=(A.t53 hP).p1 hP A.z54
def A.t55:a_ P A.TB A.W9 A.E1:=(A.t54 hP).p1 hP A.z55
def A.t56:a_ P A.TB A.Xa A.E1:=(A.t55 hP).p1 hP A.z56
def A.t57:a_ P A.TB A.Xb A.E1:=(A.t56 hP).p1 hP A.z57
def A.t58:a_ P A.TB A.Xc A.E1:=(A.t57 hP).p1 hP A.z58
def A.t59:a_ P A.TB A.Xd A.E1:=(A.t58 hP).p1 hP A.z59
def A.t60:a_ P A.TB A.Xe A.E1:=(A.t59 hP).p1 hP A.z60
def A.t61:a_ P A.TB A.Xf A.E1:=(A.t60 hP).p1 hP A.z61
def A.t62:a_ P A.TB A.Xg A.E1:=(A.t61 hP).p1 hP A.z62
def A.t63:a_ P A.TB A.Xh A.E1:=(A.t62 hP).p1 hP A.z63
def A.t64:a_ P A.TB A.Xi A.E1:=(A.t63 hP).p1 hP A.z64
def A.t65:a_ P A.TB A.Xj A.E1:=(A.t64 hP).p1 hP A.z65
def A.t66:a_ P A.TB A.Xk A.E1:=(A.t65 hP).p1 hP A.z66
def A.t67:a_ P A.TB A.Xl A.E1:=(A.t66 hP).p1 hP A.z67
def A.t68:a_ P A.TB A.Xm A.E1:=(A.t67 hP).p1 hP A.z68
def A.t69:a_ P A.TB A.Xn A.E1:=(A.t68 hP).p1 hP A.z69
def A.t70:a_ P A.TB A.Xo A.E1:=(A.t69 hP).p1 hP A.z70
def A.t71:a_ P A.TB A.Xp A.E1:=(A.t70 hP).p1 hP A.z71
def A.t72:a_ P A.TB A.H0 A.E1:=(A.t71 hP).p1 hP A.z72
def A.t73:a_ P A.TB A.H0 A.E2:=(A.t72 hP).e1 hP A.z73
def A.t74:a_ P A.TB A.H0 A.E3:=(A.t73 hP).e1 hP A.z74
def A.t75:a_ P A.TB A.Xq A.E3:=(A.t74 hP).p1 hP A.z75
def A.t76:a_ P A.TB A.A7 A.E3:=(A.t75 hP).p1 hP A.z76
def A.t77:a_ P A.TB A.A7 A.E4:=(A.t76 hP).e1 hP A.z77
def A.t78:a_ P A.TB A.A7 A.E5:=(A.t77 hP).e1 hP A.z78
def A.t79:a_ P A.TB A.A7 A.E6:=(A.t78 hP).e1 hP A.z79
def A.t80:a_ P A.TB A.A7 A.E7:=(A.t79 hP).e1 hP A.z80
def A.t81:a_ P A.TB A.Xr A.E7:=(A.t80 hP).p1 hP A.z81
def A.t82:a_ P A.TB A.Xs A.E7:=(A.t81 hP).p1 hP A.z82
def A.t83:a_ P A.TB A.Xt A.E7:=(A.t82 hP).p1 hP A.z83
def A.t84:a_ P A.TB A.Xu A.E7:=(A.t83 hP).p1 hP A.z84
def A.t85:a_ P A.TB A.Xv A.E7:=(A.t84 hP).p1 hP A.z85
def A.t86:a_ P A.TB A.DT A.E7:=(A.t85 hP).p1 hP A.z86
def A.t87:a_ P A.TB A.DT A.E8:=(A.t86 hP).e1 hP A.z87
def A.t88:a_ P A.TB A.DT A.E9:=(A.t87 hP).e1 hP A.z88
def A.t89:a_ P A.TB A.DT A.uT:=(A.t88 hP).e1 hP A.z89
def A.t90:a_ P A.TB A.Xw A.uT:=(A.t89 hP).p1 hP A.z90
def A.t91:a_ P A.TB A.Xx A.uT:=(A.t90 hP).p1 hP A.z91
def A.t92:a_ P A.TB A.Xy A.uT:=(A.t91 hP).p1 hP A.z92
def A.t93:a_ P A.TB A.Xz A.uT:=(A.t92 hP).p1 hP A.z93
def A.t94:a_ P A.TB A.XA A.uT:=(A.t93 hP).p1 hP A.z94
def A.t95:a_ P A.TB A.XB A.uT:=(A.t94 hP).p1 hP A.z95
def A.t96:a_ P A.TB A.Nr A.uT:=(A.t95 hP).p1 hP A.z96
def A.t97:a_ P A.TB A.Nr A.Ia:=(A.t96 hP).e1 hP A.z97
def A.t98:a_ P A.TB A.XC A.Ia:=(A.t97 hP).p1 hP A.z98
def A.t99:a_ P A.TB A.Ib A.Ia:=(A.t98 hP).p1 hP A.z99
def A.t100:a_ P A.TB A.Ib A.XD:=(A.t99 hP).e1 hP A.X0
def A.t101:a_ P A.TB A.Ib A.Ns:=(A.t100 hP).e1 hP A.X7
def A.t102:a_ P A.TB A.zC A.Ns:=(A.t101 hP).p1 hP A.X8
def A.t103:a_ P A.TB A.zC A.XE:=(A.t102 hP).e1 hP A.X9
def A.t104:a_ P A.TB A.zC A.XF:=(A.t103 hP).e1 hP A.Ya
def A.t105:a_ P A.TB A.zC A.XG:=(A.t104 hP).e1 hP A.Yb
def A.t106:a_ P A.TB A.zC A.XH:=(A.t105 hP).e1 hP A.Yc
def A.t107:a_ P A.TB A.zC A.Ic:=(A.t106 hP).e1 hP A.Yd
def A.t108:a_ P A.TB A.XI A.Ic:=(A.t107 hP).p1 hP A.Ye
def A.t109:a_ P A.TB A.kI A.Ic:=(A.t108 hP).p1 hP A.Yf
def A.t110:a_ P A.TB A.kI A.XJ:=(A.t109 hP).e1 hP A.Yg
def A.t111:a_ P A.TB A.kI A.XK:=(A.t110 hP).e1 hP A.Yh
def A.t112:a_ P A.TB A.kI A.XL:=(A.t111 hP).e1 hP A.Yi
def A.t113:a_ P A.TB A.kI A.XM:=(A.t112 hP).e1 hP A.Yj
def A.t114:a_ P A.TB A.kI A.XN:=(A.t113 hP).e1 hP A.Yk
def A.t115:a_ P A.TB A.kI A.XO:=(A.t114 hP).e1 hP A.Yl
def A.t116:a_ P A.TB A.kI A.XP:=(A.t115 hP).e1 hP A.Ym
def A.t117:a_ P A.TB A.kI A.XQ:=(A.t116 hP).e1 hP A.Yn
def A.t118:a_ P A.TB A.kI A.XR:=(A.t117 hP).e1 hP A.Yo
def A.t119:a_ P A.TB A.kI A.XT:=(A.t118 hP).e1 hP A.Yp
def A.t120:a_ P A.TB A.kI A.XU:=(A.t119 hP).e1 hP A.Yq
def A.t121:a_ P A.TB A.kI A.XV:=(A.t120 hP).e1 hP A.Yr
def A.t122:a_ P A.TB A.kI A.SL:=(A.t121 hP).e1 hP A.Ys
def A.t123:a_ P A.TB A.L91 A.SL:=(A.t122 hP).p1 hP A.Yt
end
open Go Go.Proofs
def A.xOk:kK Tryz.prog A.C.x:=Zzz fun e he=>by
 simp only[iP,List.not_mem_nil,or_false]at he
 subst he
 exact(A.t123 A.A8).p ⟨11,[],.bool true⟩ (oa (l:=A.kI))
end Go.Mx
