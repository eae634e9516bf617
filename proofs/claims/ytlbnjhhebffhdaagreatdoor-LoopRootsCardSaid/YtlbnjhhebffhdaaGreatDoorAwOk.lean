/-The table of the known runs is sound, fo-/
import Derived.Test.YtlbnjhhebffhdaaGreatDoorAwT0
import Derived.Test.YtlbnjhhebffhdaaGreatDoorAwT3
import Derived.Test.YtlbnjhhebffhdaaGreatDoorAwT4
import Derived.Test.YtlbnjhhebffhdaaGreatDoorAwT5
import Derived.Test.YtlbnjhhebffhdaaGreatDoorMxIn3
import Derived.Test.YtlbnjhhebffhdaaGreatDoorStQ
import Derived.OpenShut
set_option linter.all false
namespace Go.Mx
noncomputable section
open Go
set_option maxRecDepth 1000000
section
variable {P:Program} (hP:C7 P A.dL 11)
include hP
def A.t0:ar P A.TB A.L0 A.E:=ar.nil.p1 hP A.z0
def A.t1:ar P A.TB A.L1 A.E:=(A.t0 hP).p1 hP A.z1
def A.t2:ar P A.TB A.L2 A.E:=(A.t1 hP).p1 hP A.z2
def A.t3:ar P A.TB A.L3 A.E:=(A.t2 hP).p1 hP A.z3
def A.t4:ar P A.TB A.L4 A.E:=(A.t3 hP).p1 hP A.z4
def A.t5:ar P A.TB A.L5 A.E:=(A.t4 hP).p1 hP A.z5
def A.t6:ar P A.TB A.L6 A.E:=(A.t5 hP).p1 hP A.z6
def A.t7:ar P A.TB A.L7 A.E:=(A.t6 hP).p1 hP A.z7
def A.t8:ar P A.TB A.L8 A.E:=(A.t7 hP).p1 hP A.z8
def A.t9:ar P A.TB A.L9 A.E:=(A.t8 hP).p1 hP A.z9
def A.t10:ar P A.TB A.Vz A.E:=(A.t9 hP).p1 hP A.Yu
def A.t11:ar P A.TB A.VA A.E:=(A.t10 hP).p1 hP A.z11
def A.t12:ar P A.TB A.VB A.E:=(A.t11 hP).p1 hP A.z12
def A.t13:ar P A.TB A.VC A.E:=(A.t12 hP).p1 hP A.z13
def A.t14:ar P A.TB A.VD A.E:=(A.t13 hP).p1 hP A.z14
def A.t15:ar P A.TB A.VE A.E:=(A.t14 hP).p1 hP A.z15
def A.t16:ar P A.TB A.VG A.E:=(A.t15 hP).p1 hP A.z16
def A.t17:ar P A.TB A.VH A.E:=(A.t16 hP).p1 hP A.z17
def A.t18:ar P A.TB A.VI A.E:=(A.t17 hP).p1 hP A.z18
def A.t19:ar P A.TB A.VJ A.E:=(A.t18 hP).p1 hP A.z19
def A.t20:ar P A.TB A.VK A.E:=(A.t19 hP).p1 hP A.z20
def A.t21:ar P A.TB A.VL A.E:=(A.t20 hP).p1 hP A.z21
def A.t22:ar P A.TB A.VM A.E:=(A.t21 hP).p1 hP A.z22
def A.t23:ar P A.TB A.VN A.E:=(A.t22 hP).p1 hP A.z23
def A.t24:ar P A.TB A.VO A.E:=(A.t23 hP).p1 hP A.z24
def A.t25:ar P A.TB A.VP A.E:=(A.t24 hP).p1 hP A.z25
def A.t26:ar P A.TB A.VQ A.E:=(A.t25 hP).p1 hP A.z26
def A.t27:ar P A.TB A.VS A.E:=(A.t26 hP).p1 hP A.z27
def A.t28:ar P A.TB A.VT A.E:=(A.t27 hP).p1 hP A.z28
def A.t29:ar P A.TB A.VU A.E:=(A.t28 hP).p1 hP A.z29
def A.t30:ar P A.TB A.VV A.E:=(A.t29 hP).p1 hP A.z30
def A.t31:ar P A.TB A.VW A.E:=(A.t30 hP).p1 hP A.z31
def A.t32:ar P A.TB A.VX A.E:=(A.t31 hP).p1 hP A.z32
def A.t33:ar P A.TB A.VY A.E:=(A.t32 hP).p1 hP A.z33
def A.t34:ar P A.TB A.VZ A.E:=(A.t33 hP).p1 hP A.z34
def A.t35:ar P A.TB A.V3 A.E:=(A.t34 hP).p1 hP A.z35
def A.t36:ar P A.TB A.V4 A.E:=(A.t35 hP).p1 hP A.z36
def A.t37:ar P A.TB A.V5 A.E:=(A.t36 hP).p1 hP A.z37
def A.t38:ar P A.TB A.V6 A.E:=(A.t37 hP).p1 hP A.z38
def A.t39:ar P A.TB A.V7 A.E:=(A.t38 hP).p1 hP A.z39
def A.t40:ar P A.TB A.V8 A.E:=(A.t39 hP).p1 hP A.z40
def A.t41:ar P A.TB A.V9 A.E:=(A.t40 hP).p1 hP A.z41
def A.t42:ar P A.TB A.Wa A.E:=(A.t41 hP).p1 hP A.z42
def A.t43:ar P A.TB A.Wb A.E:=(A.t42 hP).p1 hP A.z43
def A.t44:ar P A.TB A.Wc A.E:=(A.t43 hP).p1 hP A.z44
def A.t45:ar P A.TB A.Wd A.E:=(A.t44 hP).p1 hP A.z45
def A.t46:ar P A.TB A.We A.E:=(A.t45 hP).p1 hP A.z46
def A.t47:ar P A.TB A.Wf A.E:=(A.t46 hP).p1 hP A.z47
def A.t48:ar P A.TB A.Wg A.E:=(A.t47 hP).p1 hP A.z48
def A.t49:ar P A.TB A.Wh A.E:=(A.t48 hP).p1 hP A.z49
def A.t50:ar P A.TB A.Wj A.E:=(A.t49 hP).p1 hP A.z50
def A.t51:ar P A.TB A.Wk A.E:=(A.t50 hP).p1 hP A.z51
def A.t52:ar P A.TB A.Wl A.E:=(A.t51 hP).p1 hP A.z52
def A.t53:ar P A.TB A.Wm A.E:=(A.t52 hP).p1 hP A.z53
def A.t54:ar P A.TB A.Wo A.E:=(A.t53 hP).p1 hP A.z54
def A.t55:ar P A.TB A.Wp A.E:=(A.t54 hP).p1 hP A.z55
def A.t56:ar P A.TB A.Wq A.E:=(A.t55 hP).p1 hP A.z56
def A.t57:ar P A.TB A.Wr A.E:=(A.t56 hP).p1 hP A.z57
def A.t58:ar P A.TB A.EK A.E:=(A.t57 hP).p1 hP A.z58
def A.t59:ar P A.TB A.EK A.E0:=(A.t58 hP).e1 hP A.z59
def A.t60:ar P A.TB A.EK A.E1:=(A.t59 hP).e1 hP A.z60
def A.t61:ar P A.TB A.Ws A.E1:=(A.t60 hP).p1 hP A.z61
def A.t62:ar P A.TB A.Wt A.E1:=(A.t61 hP).p1 hP A.z62
def A.t63:ar P A.TB A.Wu A.E1:=(A.t62 hP).p1 hP A.z63
def A.t64:ar P A.TB A.Wv A.E1:=(A.t63 hP).p1 hP A.z64
def A.t65:ar P A.TB A.Ww A.E1:=(A.t64 hP).p1 hP A.z65
def A.t66:ar P A.TB A.Wx A.E1:=(A.t65 hP).p1 hP A.z66
def A.t67:ar P A.TB A.Bv A.E1:=(A.t66 hP).p1 hP A.z67
def A.t68:ar P A.TB A.Bv A.E2:=(A.t67 hP).e1 hP A.z68
def A.t69:ar P A.TB A.Bv A.E3:=(A.t68 hP).e1 hP A.z69
def A.t70:ar P A.TB A.Bv A.E4:=(A.t69 hP).e1 hP A.z70
def A.t71:ar P A.TB A.Bw A.E4:=(A.t70 hP).p1 hP A.z71
def A.t72:ar P A.TB A.Bw A.E5:=(A.t71 hP).e1 hP A.z72
def A.t73:ar P A.TB A.Bw A.E6:=(A.t72 hP).e1 hP A.z73
def A.t74:ar P A.TB A.Bw A.E7:=(A.t73 hP).e1 hP A.z74
def A.t75:ar P A.TB A.Wy A.E7:=(A.t74 hP).p1 hP A.z75
def A.t76:ar P A.TB A.Wz A.E7:=(A.t75 hP).p1 hP A.z76
def A.t77:ar P A.TB A.WA A.E7:=(A.t76 hP).p1 hP A.z77
def A.t78:ar P A.TB A.WB A.E7:=(A.t77 hP).p1 hP A.z78
def A.t79:ar P A.TB A.WC A.E7:=(A.t78 hP).p1 hP A.z79
def A.t80:ar P A.TB A.EL A.E7:=(A.t79 hP).p1 hP A.z80
def A.t81:ar P A.TB A.EL A.E8:=(A.t80 hP).e1 hP A.z81
def A.t82:ar P A.TB A.EL A.E9:=(A.t81 hP).e1 hP A.z82
def A.t83:ar P A.TB A.WD A.E9:=(A.t82 hP).p1 hP A.z83
def A.t84:ar P A.TB A.EM A.E9:=(A.t83 hP).p1 hP A.z84
def A.t85:ar P A.TB A.EM A.WE:=(A.t84 hP).e1 hP A.z85
def A.t86:ar P A.TB A.EM A.rS:=(A.t85 hP).e1 hP A.z86
def A.t87:ar P A.TB A.WG A.rS:=(A.t86 hP).p1 hP A.z87
def A.t88:ar P A.TB A.WH A.rS:=(A.t87 hP).p1 hP A.z88
def A.t89:ar P A.TB A.WJ A.rS:=(A.t88 hP).p1 hP A.z89
def A.t90:ar P A.TB A.WK A.rS:=(A.t89 hP).p1 hP A.z90
def A.t91:ar P A.TB A.WL A.rS:=(A.t90 hP).p1 hP A.z91
def A.t92:ar P A.TB A.WM A.rS:=(A.t91 hP).p1 hP A.z92
def A.t93:ar P A.TB A.yo A.rS:=(A.t92 hP).p1 hP A.z93
def A.t94:ar P A.TB A.yo A.As:=(A.t93 hP).e1 hP A.z94
def A.t95:ar P A.TB A.yo A.RY:=(A.t94 hP).e1 hP A.z95
def A.t96:ar P A.TB A.yo A.WN:=(A.t95 hP).e1 hP A.z96
def A.t97:ar P A.TB A.yo A.EN:=(A.t96 hP).e1 hP A.z97
def A.t98:ar P A.TB A.WO A.EN:=(A.t97 hP).p1 hP A.z98
def A.t99:ar P A.TB A.kR A.EN:=(A.t98 hP).p1 hP A.z99
def A.t100:ar P A.TB A.kR A.WQ:=(A.t99 hP).e1 hP A.Yv
def A.t101:ar P A.TB A.kR A.WR:=(A.t100 hP).e1 hP A.Yw
def A.t102:ar P A.TB A.kR A.WS:=(A.t101 hP).e1 hP A.Yx
def A.t103:ar P A.TB A.kR A.WT:=(A.t102 hP).e1 hP A.Yy
def A.t104:ar P A.TB A.kR A.WU:=(A.t103 hP).e1 hP A.Yz
def A.t105:ar P A.TB A.kR A.WV:=(A.t104 hP).e1 hP A.YA
def A.t106:ar P A.TB A.kR A.WX:=(A.t105 hP).e1 hP A.YB
def A.t107:ar P A.TB A.kR A.WY:=(A.t106 hP).e1 hP A.YC
def A.t108:ar P A.TB A.kR A.WZ:=(A.t107 hP).e1 hP A.YD
def A.t109:ar P A.TB A.kR A.W8:=(A.t108 hP).e1 hP A.YE
def A.t110:ar P A.TB A.kR A.EO:=(A.t109 hP).e1 hP A.YF
def A.t111:ar P A.TB A.W9 A.EO:=(A.t110 hP).p1 hP A.YG
def A.t112:ar P A.TB A.jV A.EO:=(A.t111 hP).p1 hP A.YH
def A.t113:ar P A.TB A.jV A.Xa:=(A.t112 hP).e1 hP A.YI
def A.t114:ar P A.TB A.jV A.Xb:=(A.t113 hP).e1 hP A.YJ
def A.t115:ar P A.TB A.jV A.Xc:=(A.t114 hP).e1 hP A.YK
def A.t116:ar P A.TB A.jV A.Xd:=(A.t115 hP).e1 hP A.YL
def A.t117:ar P A.TB A.jV A.Xe:=(A.t116 hP).e1 hP A.YM
def A.t118:ar P A.TB A.jV A.Xf:=(A.t117 hP).e1 hP A.YN
def A.t119:ar P A.TB A.jV A.Xg:=(A.t118 hP).e1 hP A.YO
def A.t120:ar P A.TB A.jV A.Xh:=(A.t119 hP).e1 hP A.YP
def A.t121:ar P A.TB A.jV A.Xi:=(A.t120 hP).e1 hP A.YQ
def A.t122:ar P A.TB A.jV A.Xj:=(A.t121 hP).e1 hP A.YR
def A.t123:ar P A.TB A.jV A.Xk:=(A.t122 hP).e1 hP A.YT
def A.t124:ar P A.TB A.jV A.tM:=(A.t123 hP).e1 hP A.YU
def A.t125:ar P A.TB A.Xl A.tM:=(A.t124 hP).p1 hP A.YV
def A.t126:ar P A.TB A.Xm A.tM:=(A.t125 hP).p1 hP A.YW
def A.t127:ar P A.TB A.Xn A.tM:=(A.t126 hP).p1 hP A.YX
def A.t128:ar P A.TB A.L89 A.tM:=(A.t127 hP).p1 hP A.YY
def A.t129:ar P A.TB A.L90 A.tM:=(A.t128 hP).p1 hP A.YZ
def A.t130:ar P A.TB A.tN A.tM:=(A.t129 hP).p1 hP A.Y0
def A.t131:ar P A.TB A.tN A.E39:=(A.t130 hP).e1 hP A.Y3
def A.t132:ar P A.TB A.tN A.Xr:=(A.t131 hP).e1 hP A.Y4
def A.t133:ar P A.TB A.tN A.Xs:=(A.t132 hP).e1 hP A.Y5
def A.t134:ar P A.TB A.tN A.Xt:=(A.t133 hP).e1 hP A.Y6
def A.t135:ar P A.TB A.tN A.Xu:=(A.t134 hP).e1 hP A.Y7
def A.t136:ar P A.TB A.tN A.wJ:=(A.t135 hP).e1 hP A.Y9
def A.t137:ar P A.TB A.Xv A.wJ:=(A.t136 hP).p1 hP A.Za
def A.t138:ar P A.TB A.Xw A.wJ:=(A.t137 hP).p1 hP A.Zb
def A.t139:ar P A.TB A.Xx A.wJ:=(A.t138 hP).p1 hP A.Zc
def A.t140:ar P A.TB A.Xy A.wJ:=(A.t139 hP).p1 hP A.Zd
def A.t141:ar P A.TB A.MU A.wJ:=(A.t140 hP).p1 hP A.Ze
def A.t142:ar P A.TB A.MU A.MV:=(A.t141 hP).e1 hP A.Zf
def A.t143:ar P A.TB A.rT A.MV:=(A.t142 hP).p1 hP A.Zg
def A.t144:ar P A.TB A.rT A.Xz:=(A.t143 hP).e1 hP A.Zh
def A.t145:ar P A.TB A.rT A.XA:=(A.t144 hP).e1 hP A.Zi
def A.t146:ar P A.TB A.rT A.XB:=(A.t145 hP).e1 hP A.Zj
def A.t147:ar P A.TB A.rT A.XC:=(A.t146 hP).e1 hP A.Zk
def A.t148:ar P A.TB A.rT A.XD:=(A.t147 hP).e1 hP A.Zl
def A.t149:ar P A.TB A.rT A.XE:=(A.t148 hP).e1 hP A.Zm
def A.t150:ar P A.TB A.rT A.eR:=(A.t149 hP).e1 hP A.Zn
def A.t151:ar P A.TB A.XF A.eR:=(A.t150 hP).p1 hP A.Zo
def A.t152:ar P A.TB A.XG A.eR:=(A.t151 hP).p1 hP A.Zp
def A.t153:ar P A.TB A.EP A.eR:=(A.t152 hP).p1 hP A.Zq
def A.t154:ar P A.TB A.ER A.eR:=(A.t153 hP).p1 hP A.Zr
def A.t155:ar P A.TB A.ES A.eR:=(A.t154 hP).p1 hP A.Zs
def A.t156:ar P A.TB A.ET A.eR:=(A.t155 hP).p1 hP A.Zt
def A.t157:ar P A.TB A.EU A.eR:=(A.t156 hP).p1 hP A.Zu
def A.t158:ar P A.TB A.EV A.eR:=(A.t157 hP).p1 hP A.Zv
def A.t159:ar P A.TB A.EW A.eR:=(A.t158 hP).p1 hP A.Zw
def A.t160:ar P A.TB A.EX A.eR:=(A.t159 hP).p1 hP A.Zx
def A.t161:ar P A.TB A.EY A.eR:=(A.t160 hP).p1 hP A.Zy
def A.t162:ar P A.TB A.EZ A.eR:=(A.t161 hP).p1 hP A.Zz
def A.t163:ar P A.TB A.Fa A.eR:=(A.t162 hP).p1 hP A.ZA
def A.t164:ar P A.TB A.Fb A.eR:=(A.t163 hP).p1 hP A.ZB
def A.t165:ar P A.TB A.Fe A.eR:=(A.t164 hP).p1 hP A.ZC
def A.t166:ar P A.TB A.Ff A.eR:=(A.t165 hP).p1 hP A.ZD
def A.t167:ar P A.TB A.Fg A.eR:=(A.t166 hP).p1 hP A.ZE
def A.t168:ar P A.TB A.Fh A.eR:=(A.t167 hP).p1 hP A.ZF
def A.t169:ar P A.TB A.Fi A.eR:=(A.t168 hP).p1 hP A.ZG
def A.t170:ar P A.TB A.Fj A.eR:=(A.t169 hP).p1 hP A.ZH
def A.t171:ar P A.TB A.Fk A.eR:=(A.t170 hP).p1 hP A.ZI
def A.t172:ar P A.TB A.tO A.eR:=(A.t171 hP).p1 hP A.ZJ
def A.t173:ar P A.TB A.tO A.XH:=(A.t172 hP).e1 hP A.ZK
def A.t174:ar P A.TB A.tO A.oF:=(A.t173 hP).e1 hP A.ZL
def A.t175:ar P A.TB A.Fl A.oF:=(A.t174 hP).p1 hP A.ZM
def A.t176:ar P A.TB A.Fm A.oF:=(A.t175 hP).p1 hP A.ZN
def A.t177:ar P A.TB A.Fo A.oF:=(A.t176 hP).p1 hP A.ZO
def A.t178:ar P A.TB A.Fq A.oF:=(A.t177 hP).p1 hP A.ZP
def A.t179:ar P A.TB A.Fs A.oF:=(A.t178 hP).p1 hP A.ZQ
def A.t180:ar P A.TB A.Ft A.oF:=(A.t179 hP).p1 hP A.ZR
def A.t181:ar P A.TB A.Fu A.oF:=(A.t180 hP).p1 hP A.ZS
def A.t182:ar P A.TB A.Fv A.oF:=(A.t181 hP).p1 hP A.ZT
def A.t183:ar P A.TB A.jW A.oF:=(A.t182 hP).p1 hP A.ZU
def A.t184:ar P A.TB A.jW A.XI:=(A.t183 hP).e1 hP A.ZV
def A.t185:ar P A.TB A.jW A.XJ:=(A.t184 hP).e1 hP A.ZW
def A.t186:ar P A.TB A.jW A.XK:=(A.t185 hP).e1 hP A.ZX
def A.t187:ar P A.TB A.jW A.XL:=(A.t186 hP).e1 hP A.ZY
def A.t188:ar P A.TB A.jW A.MW:=(A.t187 hP).e1 hP A.zhQ
def A.t189:ar P A.TB A.fI A.MW:=(A.t188 hP).p1 hP A.Z1
def A.t190:ar P A.TB A.fI A.XM:=(A.t189 hP).e1 hP A.Z2
def A.t191:ar P A.TB A.fI A.XN:=(A.t190 hP).e1 hP A.Z3
def A.t192:ar P A.TB A.fI A.XO:=(A.t191 hP).e1 hP A.Z4
def A.t193:ar P A.TB A.fI A.XP:=(A.t192 hP).e1 hP A.Z5
def A.t194:ar P A.TB A.fI A.XQ:=(A.t193 hP).e1 hP A.Z6
def A.t195:ar P A.TB A.fI A.XR:=(A.t194 hP).e1 hP A.Z7
def A.t196:ar P A.TB A.fI A.XT:=(A.t195 hP).e1 hP A.Z8
def A.t197:ar P A.TB A.fI A.rU:=(A.t196 hP).e1 hP A.Z9
def A.t198:ar P A.TB A.Fw A.rU:=(A.t197 hP).p1 hP A.zaa
def A.t199:ar P A.TB A.Fy A.rU:=(A.t198 hP).p1 hP A.zab
def A.t200:ar P A.TB A.Fz A.rU:=(A.t199 hP).p1 hP A.zac
def A.t201:ar P A.TB A.FA A.rU:=(A.t200 hP).p1 hP A.zad
def A.t202:ar P A.TB A.FB A.rU:=(A.t201 hP).p1 hP A.zae
def A.t203:ar P A.TB A.FC A.rU:=(A.t202 hP).p1 hP A.zaf
def A.t204:ar P A.TB A.dR A.rU:=(A.t203 hP).p1 hP A.zag
def A.t205:ar P A.TB A.dR A.XU:=(A.t204 hP).e1 hP A.zah
def A.t206:ar P A.TB A.dR A.XV:=(A.t205 hP).e1 hP A.zai
def A.t207:ar P A.TB A.dR A.XW:=(A.t206 hP).e1 hP A.zaj
def A.t208:ar P A.TB A.dR A.XX:=(A.t207 hP).e1 hP A.zak
def A.t209:ar P A.TB A.dR A.XY:=(A.t208 hP).e1 hP A.zal
def A.t210:ar P A.TB A.dR A.XZ:=(A.t209 hP).e1 hP A.zam
def A.t211:ar P A.TB A.dR A.X7:=(A.t210 hP).e1 hP A.zan
def A.t212:ar P A.TB A.dR A.X8:=(A.t211 hP).e1 hP A.zao
def A.t213:ar P A.TB A.dR A.X9:=(A.t212 hP).e1 hP A.zap
def A.t214:ar P A.TB A.dR A.Ya:=(A.t213 hP).e1 hP A.zaq
def A.t215:ar P A.TB A.dR A.Yb:=(A.t214 hP).e1 hP A.zar
def A.t216:ar P A.TB A.dR A.FD:=(A.t215 hP).e1 hP A.zas
def A.t217:ar P A.TB A.FF A.FD:=(A.t216 hP).p1 hP A.zat
def A.t218:ar P A.TB A.eD A.FD:=(A.t217 hP).p1 hP A.zau
def A.t219:ar P A.TB A.eD A.Yc:=(A.t218 hP).e1 hP A.zav
def A.t220:ar P A.TB A.eD A.Yd:=(A.t219 hP).e1 hP A.zaw
def A.t221:ar P A.TB A.eD A.Ye:=(A.t220 hP).e1 hP A.zax
def A.t222:ar P A.TB A.eD A.Yf:=(A.t221 hP).e1 hP A.zay
def A.t223:ar P A.TB A.eD A.Yg:=(A.t222 hP).e1 hP A.zaz
def A.t224:ar P A.TB A.eD A.Yh:=(A.t223 hP).e1 hP A.zaA
def A.t225:ar P A.TB A.eD A.Yi:=(A.t224 hP).e1 hP A.zaB
def A.t226:ar P A.TB A.eD A.Yj:=(A.t225 hP).e1 hP A.zaC
def A.t227:ar P A.TB A.eD A.Yk:=(A.t226 hP).e1 hP A.zaD
def A.t228:ar P A.TB A.eD A.Yl:=(A.t227 hP).e1 hP A.zaE
def A.t229:ar P A.TB A.eD A.yp:=(A.t228 hP).e1 hP A.zaF
def A.t230:ar P A.TB A.FG A.yp:=(A.t229 hP).p1 hP A.zaG
def A.t231:ar P A.TB A.FH A.yp:=(A.t230 hP).p1 hP A.zaH
def A.t232:ar P A.TB A.FI A.yp:=(A.t231 hP).p1 hP A.zaI
def A.t233:ar P A.TB A.zgi A.yp:=(A.t232 hP).p1 hP A.zaJ
def A.t234:ar P A.TB A.zgi A.Ym:=(A.t233 hP).e1 hP A.zaK
def A.t235:ar P A.TB A.zgi A.Yn:=(A.t234 hP).e1 hP A.zaL
def A.t236:ar P A.TB A.zgi A.Yo:=(A.t235 hP).e1 hP A.zaM
def A.t237:ar P A.TB A.zgi A.Yp:=(A.t236 hP).e1 hP A.zaN
def A.t238:ar P A.TB A.zgi A.Yq:=(A.t237 hP).e1 hP A.zaO
def A.t239:ar P A.TB A.zgi A.Yr:=(A.t238 hP).e1 hP A.zaP
def A.t240:ar P A.TB A.zgi A.MY:=(A.t239 hP).e1 hP A.zaQ
def A.t241:ar P A.TB A.iO A.MY:=(A.t240 hP).p1 hP A.zaR
def A.t242:ar P A.TB A.iO A.Ys:=(A.t241 hP).e1 hP A.zaS
def A.t243:ar P A.TB A.iO A.Yt:=(A.t242 hP).e1 hP A.zaT
def A.t244:ar P A.TB A.iO A.FJ:=(A.t243 hP).e1 hP A.zaU
def A.t245:ar P A.TB A.iO A.FK:=(A.t244 hP).e1 hP A.zaV
def A.t246:ar P A.TB A.iO A.FM:=(A.t245 hP).e1 hP A.zaW
def A.t247:ar P A.TB A.iO A.pF:=(A.t246 hP).e1 hP A.zaX
def A.t248:ar P A.TB A.FN A.pF:=(A.t247 hP).p1 hP A.zaY
def A.t249:ar P A.TB A.FO A.pF:=(A.t248 hP).p1 hP A.zaZ
def A.t250:ar P A.TB A.yq A.pF:=(A.t249 hP).p1 hP A.za0
def A.t251:ar P A.TB A.yq A.pG:=(A.t250 hP).e1 hP A.za1
def A.t252:ar P A.TB A.FQ A.pG:=(A.t251 hP).p1 hP A.za2
def A.t253:ar P A.TB A.FR A.pG:=(A.t252 hP).p1 hP A.za3
def A.t254:ar P A.TB A.yr A.pG:=(A.t253 hP).p1 hP A.za4
def A.t255:ar P A.TB A.yr A.pH:=(A.t254 hP).e1 hP A.za5
def A.t256:ar P A.TB A.FT A.pH:=(A.t255 hP).p1 hP A.za6
def A.t257:ar P A.TB A.FU A.pH:=(A.t256 hP).p1 hP A.za7
def A.t258:ar P A.TB A.eS A.pH:=(A.t257 hP).p1 hP A.za8
def A.t259:ar P A.TB A.eS A.FV:=(A.t258 hP).e1 hP A.za9
def A.t260:ar P A.TB A.eS A.FW:=(A.t259 hP).e1 hP A.za_
def A.t261:ar P A.TB A.eS A.FX:=(A.t260 hP).e1 hP A.zba
def A.t262:ar P A.TB A.eS A.FY:=(A.t261 hP).e1 hP A.zbb
def A.t263:ar P A.TB A.eS A.FZ:=(A.t262 hP).e1 hP A.zbc
def A.t264:ar P A.TB A.eS A.F0:=(A.t263 hP).e1 hP A.zbd
def A.t265:ar P A.TB A.eS A.F3:=(A.t264 hP).e1 hP A.zbe
def A.t266:ar P A.TB A.eS A.F4:=(A.t265 hP).e1 hP A.zbf
def A.t267:ar P A.TB A.eS A.F5:=(A.t266 hP).e1 hP A.zbg
def A.t268:ar P A.TB A.eS A.mT:=(A.t267 hP).e1 hP A.zbh
def A.t269:ar P A.TB A.F6 A.mT:=(A.t268 hP).p1 hP A.zbi
def A.t270:ar P A.TB A.F7 A.mT:=(A.t269 hP).p1 hP A.zbj
def A.t271:ar P A.TB A.F8 A.mT:=(A.t270 hP).p1 hP A.zbk
def A.t272:ar P A.TB A.eW A.mT:=(A.t271 hP).p1 hP A.zbl
def A.t273:ar P A.TB A.eW A.F9:=(A.t272 hP).e1 hP A.zbm
def A.t274:ar P A.TB A.eW A.Ga:=(A.t273 hP).e1 hP A.zbn
def A.t275:ar P A.TB A.eW A.Gb:=(A.t274 hP).e1 hP A.zbo
def A.t276:ar P A.TB A.eW A.Gc:=(A.t275 hP).e1 hP A.zbp
def A.t277:ar P A.TB A.eW A.Gd:=(A.t276 hP).e1 hP A.zbq
def A.t278:ar P A.TB A.eW A.Ge:=(A.t277 hP).e1 hP A.zbr
def A.t279:ar P A.TB A.eW A.Gf:=(A.t278 hP).e1 hP A.zbs
def A.t280:ar P A.TB A.eW A.Gg:=(A.t279 hP).e1 hP A.zbt
def A.t281:ar P A.TB A.eW A.Gh:=(A.t280 hP).e1 hP A.zbu
def A.t282:ar P A.TB A.eW A.jX:=(A.t281 hP).e1 hP A.zbv
def A.t283:ar P A.TB A.Gi A.jX:=(A.t282 hP).p1 hP A.zbw
def A.t284:ar P A.TB A.Gj A.jX:=(A.t283 hP).p1 hP A.zbx
def A.t285:ar P A.TB A.Gk A.jX:=(A.t284 hP).p1 hP A.zby
def A.t286:ar P A.TB A.Gl A.jX:=(A.t285 hP).p1 hP A.zbz
def A.t287:ar P A.TB A.mU A.jX:=(A.t286 hP).p1 hP A.zbA
def A.t288:ar P A.TB A.mU A.Gm:=(A.t287 hP).e1 hP A.zbB
def A.t289:ar P A.TB A.mU A.Gn:=(A.t288 hP).e1 hP A.zbC
def A.t290:ar P A.TB A.mU A.Gp:=(A.t289 hP).e1 hP A.zbD
def A.t291:ar P A.TB A.mU A.fJ:=(A.t290 hP).e1 hP A.zbE
def A.t292:ar P A.TB A.Gq A.fJ:=(A.t291 hP).p1 hP A.zbF
def A.t293:ar P A.TB A.Gs A.fJ:=(A.t292 hP).p1 hP A.zbG
def A.t294:ar P A.TB A.Gt A.fJ:=(A.t293 hP).p1 hP A.zbH
def A.t295:ar P A.TB A.Gu A.fJ:=(A.t294 hP).p1 hP A.zbI
def A.t296:ar P A.TB A.Gw A.fJ:=(A.t295 hP).p1 hP A.zbJ
def A.t297:ar P A.TB A.Gx A.fJ:=(A.t296 hP).p1 hP A.zbK
def A.t298:ar P A.TB A.Gy A.fJ:=(A.t297 hP).p1 hP A.zbL
def A.t299:ar P A.TB A.yt A.fJ:=(A.t298 hP).p1 hP A.zbM
def A.t300:ar P A.TB A.yt A.jY:=(A.t299 hP).e1 hP A.zbN
def A.t301:ar P A.TB A.Gz A.jY:=(A.t300 hP).p1 hP A.zbO
def A.t302:ar P A.TB A.GA A.jY:=(A.t301 hP).p1 hP A.zbP
def A.t303:ar P A.TB A.GB A.jY:=(A.t302 hP).p1 hP A.zbQ
def A.t304:ar P A.TB A.GC A.jY:=(A.t303 hP).p1 hP A.zbR
def A.t305:ar P A.TB A.zhb A.jY:=(A.t304 hP).p1 hP A.zbS
def A.t306:ar P A.TB A.zhb A.tP:=(A.t305 hP).e1 hP A.zbT
def A.t307:ar P A.TB A.GD A.tP:=(A.t306 hP).p1 hP A.zbU
def A.t308:ar P A.TB A.yv A.tP:=(A.t307 hP).p1 hP A.zbV
def A.t309:ar P A.TB A.yv A.tQ:=(A.t308 hP).e1 hP A.zbW
def A.t310:ar P A.TB A.GF A.tQ:=(A.t309 hP).p1 hP A.zbX
def A.t311:ar P A.TB A.cD A.tQ:=(A.t310 hP).p1 hP A.zbY
def A.t312:ar P A.TB A.cD A.GG:=(A.t311 hP).e1 hP A.zbZ
def A.t313:ar P A.TB A.cD A.GH:=(A.t312 hP).e1 hP A.zb0
def A.t314:ar P A.TB A.cD A.GI:=(A.t313 hP).e1 hP A.zb1
def A.t315:ar P A.TB A.cD A.GJ:=(A.t314 hP).e1 hP A.zb2
def A.t316:ar P A.TB A.cD A.GK:=(A.t315 hP).e1 hP A.zb3
def A.t317:ar P A.TB A.cD A.GL:=(A.t316 hP).e1 hP A.zb4
def A.t318:ar P A.TB A.cD A.GM:=(A.t317 hP).e1 hP A.zb5
def A.t319:ar P A.TB A.cD A.GN:=(A.t318 hP).e1 hP A.zb6
def A.t320:ar P A.TB A.cD A.GO:=(A.t319 hP).e1 hP A.zb7
def A.t321:ar P A.TB A.cD A.GP:=(A.t320 hP).e1 hP A.zb8
def A.t322:ar P A.TB A.cD A.GQ:=(A.t321 hP).e1 hP A.zb9
def A.t323:ar P A.TB A.cD A.GR:=(A.t322 hP).e1 hP A.zb_
def A.t324:ar P A.TB A.cD A.GS:=(A.t323 hP).e1 hP A.zca
def A.t325:ar P A.TB A.cD A.GU:=(A.t324 hP).e1 hP A.zcb
def A.t326:ar P A.TB A.cD A.GV:=(A.t325 hP).e1 hP A.zcc
def A.t327:ar P A.TB A.cD A.GW:=(A.t326 hP).e1 hP A.zcd
def A.t328:ar P A.TB A.cD A.GX:=(A.t327 hP).e1 hP A.zce
def A.t329:ar P A.TB A.cD A.GY:=(A.t328 hP).e1 hP A.zcf
def A.t330:ar P A.TB A.cD A.GZ:=(A.t329 hP).e1 hP A.zcg
def A.t331:ar P A.TB A.cD A.gl:=(A.t330 hP).e1 hP A.zch
def A.t332:ar P A.TB A.G0 A.gl:=(A.t331 hP).p1 hP A.zci
def A.t333:ar P A.TB A.G3 A.gl:=(A.t332 hP).p1 hP A.zcj
def A.t334:ar P A.TB A.G4 A.gl:=(A.t333 hP).p1 hP A.zck
def A.t335:ar P A.TB A.G5 A.gl:=(A.t334 hP).p1 hP A.zcl
def A.t336:ar P A.TB A.G6 A.gl:=(A.t335 hP).p1 hP A.zcm
def A.t337:ar P A.TB A.G7 A.gl:=(A.t336 hP).p1 hP A.zcn
def A.t338:ar P A.TB A.yw A.gl:=(A.t337 hP).p1 hP A.zco
def A.t339:ar P A.TB A.yw A.gm:=(A.t338 hP).e1 hP A.zcp
def A.t340:ar P A.TB A.G8 A.gm:=(A.t339 hP).p1 hP A.zcq
def A.t341:ar P A.TB A.G9 A.gm:=(A.t340 hP).p1 hP A.zcr
def A.zcs:ar P A.TB A.Ha A.gm:=(A.t341 hP).p1 hP A.zct
def A.zcu:ar P A.TB A.Hb A.gm:=(A.zcs hP).p1 hP A.zcv
def A.zcw:ar P A.TB A.Hc A.gm:=(A.zcu hP).p1 hP A.zcx
def A.zcy:ar P A.TB A.Hd A.gm:=(A.zcw hP).p1 hP A.zcz
def A.zcA:ar P A.TB A.eE A.gm:=(A.zcy hP).p1 hP A.zcB
def A.zcC:ar P A.TB A.eE A.He:=(A.zcA hP).e1 hP A.zcD
def A.zcE:ar P A.TB A.eE A.Hf:=(A.zcC hP).e1 hP A.zcF
def A.zcG:ar P A.TB A.eE A.Hg:=(A.zcE hP).e1 hP A.zcH
def A.zcI:ar P A.TB A.eE A.Hh:=(A.zcG hP).e1 hP A.zcJ
def A.zcK:ar P A.TB A.eE A.Hi:=(A.zcI hP).e1 hP A.zcL
def A.zcM:ar P A.TB A.eE A.Hj:=(A.zcK hP).e1 hP A.zcN
def A.zcO:ar P A.TB A.eE A.Hk:=(A.zcM hP).e1 hP A.zcP
def A.zcQ:ar P A.TB A.eE A.Hl:=(A.zcO hP).e1 hP A.zcR
def A.zcS:ar P A.TB A.eE A.Hm:=(A.zcQ hP).e1 hP A.zcT
def A.zcU:ar P A.TB A.eE A.Hn:=(A.zcS hP).e1 hP A.zcV
def A.zcW:ar P A.TB A.eE A.pJ:=(A.zcU hP).e1 hP A.zcX
def A.zcY:ar P A.TB A.Ho A.pJ:=(A.zcW hP).p1 hP A.zcZ
def A.zc0:ar P A.TB A.Hp A.pJ:=(A.zcY hP).p1 hP A.zc1
def A.zc2:ar P A.TB A.pK A.pJ:=(A.zc0 hP).p1 hP A.zc3
def A.zc4:ar P A.TB A.pK A.Hq:=(A.zc2 hP).e1 hP A.zc5
def A.zc6:ar P A.TB A.pK A.Hr:=(A.zc4 hP).e1 hP A.zc7
def A.zc8:ar P A.TB A.pK A.iP:=(A.zc6 hP).e1 hP A.zc9
def A.zc_:ar P A.TB A.Hs A.iP:=(A.zc8 hP).p1 hP A.zda
def A.zdb:ar P A.TB A.Ht A.iP:=(A.zc_ hP).p1 hP A.zdc
def A.zdd:ar P A.TB A.Hu A.iP:=(A.zdb hP).p1 hP A.zde
def A.zdf:ar P A.TB A.Hv A.iP:=(A.zdd hP).p1 hP A.zdg
def A.zdh:ar P A.TB A.Hw A.iP:=(A.zdf hP).p1 hP A.zdi
def A.zdj:ar P A.TB A.pL A.iP:=(A.zdh hP).p1 hP A.zdk
def A.zdl:ar P A.TB A.pL A.Hx:=(A.zdj hP).e1 hP A.zdm
def A.zdn:ar P A.TB A.pL A.Hy:=(A.zdl hP).e1 hP A.zdo
def A.zdp:ar P A.TB A.pL A.yx:=(A.zdn hP).e1 hP A.zdq
def A.zdr:ar P A.TB A.dj A.yx:=(A.zdp hP).p1 hP A.zds
def A.zdt:ar P A.TB A.dj A.Hz:=(A.zdr hP).e1 hP A.zdu
def A.zdv:ar P A.TB A.dj A.zhq:=(A.zdt hP).e1 hP A.zdw
def A.zdx:ar P A.TB A.dj A.zhr:=(A.zdv hP).e1 hP A.zdy
def A.zdz:ar P A.TB A.dj A.zhs:=(A.zdx hP).e1 hP A.zdA
def A.zdB:ar P A.TB A.dj A.zht:=(A.zdz hP).e1 hP A.zdC
def A.zdD:ar P A.TB A.dj A.zhu:=(A.zdB hP).e1 hP A.zdE
def A.zdF:ar P A.TB A.dj A.HH:=(A.zdD hP).e1 hP A.zdG
def A.zdH:ar P A.TB A.dj A.HJ:=(A.zdF hP).e1 hP A.zdI
def A.zdJ:ar P A.TB A.dj A.HK:=(A.zdH hP).e1 hP A.zdK
def A.zdL:ar P A.TB A.dj A.HL:=(A.zdJ hP).e1 hP A.zdM
def A.zdN:ar P A.TB A.dj A.zhv:=(A.zdL hP).e1 hP A.zdO
def A.zdP:ar P A.TB A.dj A.HN:=(A.zdN hP).e1 hP A.zdQ
def A.zdR:ar P A.TB A.dj A.HO:=(A.zdP hP).e1 hP A.zdS
def A.zdT:ar P A.TB A.dj A.Bx:=(A.zdR hP).e1 hP A.zdU
def A.zdV:ar P A.TB A.MZ A.Bx:=(A.zdT hP).p1 hP A.zdW
end
open Go Go.Proofs
def A.xOk:i_ Tryz.prog A.C.x:=Zw8 fun e he=>by
 simp only[kV,List.not_mem_nil,or_false]at he
 subst he
 exact(A.zdV A.yy).p ⟨7,[],.bool true⟩ (oV (l:=A.dj))
open Go Go.ChangeShapes Go.WideShapes Go.RowKit Go.Deep
def Xh0{P:Program}{t s:TypeId}(ht:P.underlying t=some (.slice s))(hs:P.underlying s=some .string)(hc:P.cellsOf s=1){H:Type}{enc:TypeId×Value->H}{W:World}{fuel:Nat}{c:Value}{x:DataW H×List MemPlace}
  (h:DataW.trod enc P W 0 (fun _=>true) true fuel t [c]=some x):∃i:Yvx,c=i.val/\i.ok W/\i.strs.length<9223372036854775808/\∀t∈i.strs,t.length<9223372036854775808:=by
 rcases open_slice1 ht hc h with⟨hc,_⟩|⟨a,len,cap,m,n,Vf,D,Pl,hc,_,hl,dT,hm,_,hx⟩
 ·have Jp:c=.slice none 0 0:=by simpa using hc
  exact⟨.nil,Jp,trivial,by simp[Yvx.strs],by simp[Yvx.strs]⟩
 ·simp only[if_true]at hm
  subst hm
  have Jp:c=.slice (some a) len m:=by simpa using hc
  rcases NY m with h0|h0
  ·subst h0
   have:len=0:=by omega
   subst this
   exact⟨.emp a,Jp,trivial,by simp[Yvx.strs],by simp[Yvx.strs]⟩
  ·refine⟨.sl a len m fun i=>match Vf i with|.string s=>s|_=>⟨#[]⟩,Jp,⟨hl,h0,fun i hi=>?_⟩,by simp only[Yvx.strs,Lh,List.length_range];unfold maxLen at dT;omega,fun t ht=>?_⟩
   ·obtain⟨g1,g2⟩:=hx i hi
    obtain⟨s,e0,_⟩:=DataW.trod_string hs g2
    simp only[iA,and_true]at e0
    rw[g1]
    simp only[e0]
   ·simp only[Yvx.strs]at ht
    obtain⟨i,hi,rfl⟩:=vo.1 ht
    obtain⟨g1,g2⟩:=hx i (by have:=Dh.1 hi;omega)
    obtain⟨s,e0,_,e1⟩:=DataW.trod_string hs g2
    simp only[iA,and_true]at e0
    simp only[e0]
    unfold maxLen at e1
    rw[Array.length_toList]
    have:s.data.size=s.size:=rfl
    omega
inductive IyV where
 |nil
 |emp (b:Addr)
 |sl (b:Addr) (l c:Nat) (f:Nat->Int)
def IyV.val:IyV->Value
 |.nil=>.slice none 0 0
 |.emp b=>.slice (some b) 0 0
 |.sl b l c f=>.slice (some b) l c
def IyV.ok(W:World):IyV->Prop
 |.sl b l c f=>l<=c/\0<c/\∀i,i<c->W.cell? (b.add i)=some (.int .i8 (f i))
 |_=>True
def IyV.ints:IyV->List Int
 |.sl b l c f=>(List.range l).map f
 |_=>[]
def Jt.zja{P:Program}{W:World}{μ:Mu}{S:St}(s:Jt P W μ S){i:IyV}(hi:i.ok W):
  ∃μ' S' v,Jt P W μ' S'/\Mj μ S μ' S'/\VR μ' v i.val/\Sl S'.h S'.n v (i.ints.map fun z=>.int .i8 z):=by
 cases i with
 |nil=>exact⟨μ,S,.ziA,s,Mj.refl,by simp[IyV.val,VR],Sl.nil⟩
 |emp b=>exact⟨μ,S,.empty,s,Mj.refl,by simp[IyV.val,VR],.inl ⟨rfl,.inr rfl⟩⟩
 |sl b l c f=>
  obtain⟨h1,h2,h3⟩:=hi
  obtain⟨μ',S',k,q1,q2,q3,q4,q5⟩:=s.slice (r:=⟨b,c,fun i=>.int .i8 (f i),fun i=>.int .i8 (f i)⟩) ⟨h2,h3,fun _ _=>rfl⟩ (fun i _=>by simp[VR]) (len:=l) (cap:=c) (z:=1) (by simp) h1 (by decide)
  refine⟨μ',S',_,q1,q2,q3,.inr ⟨k,0,some c,_,_,false,by simp[IyV.ints],q4,q5,fun j hj=>?_,by simp[IyV.ints];omega,fun k hk=>by simp[IyV.ints]at hk ⊢;omega⟩⟩
  have qJ:j<l:=by simpa[IyV.ints]using hj
  simp[IyV.ints,qJ,show j<c by omega]
variable {P:Program}
def Xga{n:Int}(h:(Lit.int .i8 n).wf=true):n.natAbs<=128:=by
 simp[Lit.wf,IntKind.min,IntKind.max,IntKind.signed,IntKind.bits]at h
 omega
def Xir{t s:TypeId}(ht:P.underlying t=some (.slice s))(hs:P.underlying s=some (.int .i8))(hc:P.cellsOf s=1){H:Type}{enc:TypeId×Value->H}{W:World}{fuel:Nat}{c:Value}{x:DataW H×List MemPlace}
  (h:DataW.trod enc P W 0 (fun _=>true) true fuel t [c]=some x):∃i:IyV,c=i.val/\i.ok W/\i.ints.length<9223372036854775808/\∀z∈i.ints,z.natAbs<=128:=by
 rcases open_slice1 ht hc h with⟨hc,_⟩|⟨a,len,cap,m,n,Vf,D,Pl,hc,_,hl,dT,hm,_,hx⟩
 ·have Jp:c=.slice none 0 0:=by simpa using hc
  exact⟨.nil,Jp,trivial,by simp[IyV.ints],by simp[IyV.ints]⟩
 ·simp only[if_true]at hm
  subst hm
  have Jp:c=.slice (some a) len m:=by simpa using hc
  rcases NY m with h0|h0
  ·subst h0
   have:len=0:=by omega
   subst this
   exact⟨.emp a,Jp,trivial,by simp[IyV.ints],by simp[IyV.ints]⟩
  ·refine⟨.sl a len m fun i=>match Vf i with|.int _ z=>z|_=>0,Jp,⟨hl,h0,fun i hi=>?_⟩,by simp only[IyV.ints,Lh,List.length_range];unfold maxLen at dT;omega,fun z hz=>?_⟩
   ·obtain⟨g1,g2⟩:=hx i hi
    obtain⟨z,e0,_⟩:=DataW.trod_int hs g2
    simp only[iA,and_true]at e0
    rw[g1]
    simp only[e0]
   ·simp only[IyV.ints]at hz
    obtain⟨i,hi,rfl⟩:=vo.1 hz
    obtain⟨g1,g2⟩:=hx i (by have:=Dh.1 hi;omega)
    obtain⟨z,e0,_,e1⟩:=DataW.trod_int hs g2
    simp only[iA,and_true]at e0
    simp only[e0]
    exact Xga e1
inductive Yvy where
 |nil
 |emp (b:Addr)
 |sl (b:Addr) (l c:Nat) (F:Nat->Int)
def Yvy.val:Yvy->Value
 |.nil=>.slice none 0 0
 |.emp b=>.slice (some b) 0 0
 |.sl b l c f=>.slice (some b) l c
def Yvy.ok(W:World):Yvy->Prop
 |.sl b l c F=>l<=c/\0<c/\∀j,j<c*2->W.cell? (b.add j)=some (.int .i8 (F j))
 |_=>True
def Yvy.ps:Yvy->List (Int×Int)
 |.sl b l c F=>(List.range l).map fun j=>(F (j*2),F (j*2+1))
 |_=>[]
def Jt.zjl{P:Program}{W:World}{μ:Mu}{S:St}(s:Jt P W μ S){m:Yvy}(hm:m.ok W):
  ∃μ' S' v,Jt P W μ' S'/\Mj μ S μ' S'/\VR μ' v m.val/\Sn 2 S'.h S'.n v (m.ps.map fun x=>[.int .i8 x.1,.int .i8 x.2]):=by
 cases m with
 |nil=>exact⟨μ,S,.ziA,s,Mj.refl,by simp[Yvy.val,VR],Sn.nil⟩
 |emp b=>exact⟨μ,S,.empty,s,Mj.refl,by simp[Yvy.val,VR],.inl ⟨rfl,.inr rfl⟩⟩
 |sl b l c F=>
  obtain⟨h1,h2,h3⟩:=hm
  obtain⟨μ',S',k,q1,q2,q3,q4,q5⟩:=s.slice (r:=⟨b,c*2,fun j=>.int .i8 (F j),fun j=>.int .i8 (F j)⟩) ⟨by show 0<c*2;omega,h3,fun _ _=>rfl⟩ (fun j hj=>by simp[VR]) (len:=l) (cap:=c) (z:=2) rfl h1 (by decide)
  refine⟨μ',S',_,q1,q2,q3,.inr ⟨k,0,some c,_,_,false,by simp[Yvy.ps],q4,q5,fun j x hj=>?_,by simp[Yvy.ps];omega,fun k hk=>by simp[Yvy.ps]at hk ⊢;omega⟩⟩
  have TV:j<l:=by
   apply Yxf;intro hc
   rw[kc (by simp[Yvy.ps];omega)]at hj;cases hj
  have hx:x=[V.int .i8 (F (j*2)),V.int .i8 (F (j*2+1))]:=by simpa[Yvy.ps,TV]using hj.symm
  subst hx
  unfold aK
  rw[aR (by simp;omega)]
  congr 1
  apply o8
  intro t
  rw[kW]
  by_cases ht:t<2
  ·rw[aR ht,gH]
   have e3:0+j*2+t<c*2:=by omega
   rw[jT,NX e3]
   have:t=0\/t=1:=by omega
   rcases this with rfl|rfl<;>simp
  ·rw[aA ht,kc (by simp;omega)]
def Xhw{P:Program}{r i:TypeId}(hr:P.underlying r=some (.array 2 i))(hi:P.underlying i=some (.int .i8))(cr:P.cellsOf r=2)(ci:P.cellsOf i=1){H:Type}{enc:TypeId×Value->H}{W:World}{fuel:Nat}{xs:List Value}{x:DataW H×List MemPlace}
  (h:DataW.trod enc P W 0 (fun _=>true) true fuel r xs=some x):∃a b:Int,xs=[.int .i8 a,.int .i8 b]/\a.natAbs<=128/\b.natAbs<=128:=by
 obtain⟨ys,n,_,rfl,hn,hlen,hf⟩:=DataW.trod_array hr h
 rw[cr]at hn
 match xs,hn with
 |[c0,c1],_=>
  match ys,hlen with
  |[y0,y1],_=>
   have h0:=hf 0 (by decide)
   have h1:=hf 1 (by decide)
   simp[ci]at h0 h1
   obtain⟨a,e0,_,q0⟩:=DataW.trod_int hi h0
   obtain⟨b,e1,_,q1⟩:=DataW.trod_int hi h1
   simp only[iA,and_true]at e0 e1
   exact⟨a,b,by rw[e0,e1],Xga q0,Xga q1⟩
def Xis{t r i:TypeId}(ht:P.underlying t=some (.slice r))(hr:P.underlying r=some (.array 2 i))(hi:P.underlying i=some (.int .i8))(cr:P.cellsOf r=2)(ci:P.cellsOf i=1){H:Type}{enc:TypeId×Value->H}{W:World}{fuel:Nat}{a:Option Addr}{n c:Nat}{x:DataW H×List MemPlace}
  (h:DataW.trod enc P W 0 (fun _=>true) true fuel t [.slice a n c]=some x):∃m:Yvy,Value.slice a n c=m.val/\m.ok W/\m.ps.length<9223372036854775808/\∀x∈m.ps,x.1.natAbs<=128/\x.2.natAbs<=128:=by
 rcases open_slice ht h with⟨hc,_⟩|⟨a',zfI,zjb,m,n',D,Pl,hc,_,vF,dT,hm,_,hx⟩
 ·have Jp:Value.slice a n c=.slice none 0 0:=by simpa using hc
  exact⟨.nil,Jp,trivial,by simp[Yvy.ps],by simp[Yvy.ps]⟩
 ·simp only[if_true]at hm
  subst hm
  have Jp:Value.slice a n c=.slice (some a') zfI m:=by simpa using hc
  rcases NY m with h0|h0
  ·subst h0
   have:zfI=0:=by omega
   subst this
   exact⟨.emp a',Jp,trivial,by simp[Yvy.ps],by simp[Yvy.ps]⟩
  ·rw[cr]at hx
   have dM:∀k,∃p:Int×Int,k<m->(W.cell? (a'.add (k*2))=some (.int .i8 p.1)/\W.cell? (a'.add (k*2+1))=some (.int .i8 p.2))/\p.1.natAbs<=128/\p.2.natAbs<=128:=fun k=>by
    by_cases hk:k<m
    ·obtain⟨AH,g1,g2⟩:=hx k hk
     obtain⟨p,q,e,q1,q2⟩:=Xhw hr hi cr ci g2
     obtain⟨_,_,g3⟩:=World.cells?_some g1
     refine⟨(p,q),fun _=>⟨⟨?_,?_⟩,q1,q2⟩⟩
     ·have:=g3 0 (by decide)
      rw[add_add]at this
      rw[show k*2+0=k*2 from rfl]at this
      rw[this,e];rfl
     ·have:=g3 1 (by decide)
      rw[add_add]at this
      rw[this,e];rfl
    ·exact⟨(0,0),fun h=>absurd h hk⟩
   obtain⟨F,hF⟩:=Classical.axiomOfChoice dM
   refine⟨.sl a' zfI m fun j=>if j%2=0 then (F (j/2)).1 else (F (j/2)).2,Jp,⟨vF,h0,fun j hj=>?_⟩,by simp only[Yvy.ps,Lh,List.length_range];unfold maxLen at dT;omega,fun x oA=>?_⟩
   ·obtain⟨⟨q1,q2⟩,_⟩:=hF (j/2) (by omega)
    simp only
    by_cases h2:j%2=0
    ·rw[aR h2]
     rw[show j/2*2=j by omega]at q1
     exact q1
    ·rw[aA h2]
     rw[show j/2*2+1=j by omega]at q2
     exact q2
   ·simp only[Yvy.ps]at oA
    obtain⟨j,hj,rfl⟩:=vo.1 oA
    have:=(hF j (by have:=Dh.1 hj;omega)).2
    simp only
    rw[aR (by omega),aA (by omega),show j*2/2=j by omega,show (j*2+1)/2=j by omega]
    exact this
variable {s:bj}
def A.zje:=A.q Tryz.f116
def A.lI:=A.ql A.zje 0 []
def A.b116:=(fun x0=>A.qb A.zje [x0]) A.lI
def A.k116:=@A.kk 116 17 [.tmp 2] A.b116 (by kernel_rfl) rfl
def A.zjf:=A.q Tryz.f179
def A.je:=A.ql A.zjf 0 []
def A.b179:=(fun x0=>A.qb A.zjf [x0]) A.je
def A.k179:=@A.kk 179 20 [.tmp 2] A.b179 (by kernel_rfl) rfl
def A.b117:=A.q Tryz.f117
def A.k117:=@A.kk 117 18 [.tmp 2] A.b117 (by kernel_rfl) rfl
def A.zjg:=A.q Tryz.f165
def A.pM:=A.ql A.zjg 0 []
def A.b165:=(fun x0=>A.qb A.zjg [x0]) A.pM
def A.k165:=@A.kk 165 20 [.tmp 2] A.b165 (by kernel_rfl) rfl
def By{st:St}(hl:s.length<9223372036854775808):A.C.call (.func 116 [] []) [.str s] st=some (.int .i64 (ak s:Nat),st):=by
 apply Call.eq
 rw[aZ,A.k116 (by simp)]
 simp(disch:=first|(simp;done)|omega|rfl) [-getElem?_pos,A.b116]
 refine Zal [(2,14)] (fun e r s1=>s1=⟨st.h,st.n,[]⟩/\((e=.exit 0/\ak s=s.length)\/(e=.ret/\r.get 2=some (.int .i64 (ak s:Nat))))) (fun m r s1=>s1=⟨st.h,st.n,[]⟩/\∃k,k+m=s.length/\r.get 3=some (.int .i64 k)/\ak s=k+ak (s.drop k)) s.length ?_ ?_ ?_
 ·exact⟨rfl,0,by omega,by simp,by simp⟩
 ·rintro m r _ hr hf ⟨rfl,k,hk,h3,hz⟩
  rw[cn]
  cases m with
  |zero=>
   have:k=s.length:=by omega
   subst this
   rw[xD,ak]at hz
   simp(disch:=first|(simp;done)|omega|rfl) [-getElem?_pos,A.lI,hr,hf,h3]
   omega
  |succ m=>
   obtain⟨c,hc⟩:=eQ (l:=s) (k:=k) (by omega)
   have hk1:(k:Int)<(s.length:Int):=by omega
   have jZ:k<s.length:=by omega
   rw[rV hc,ak]at hz
   by_cases h47:cX c=47
   ·rw[aR (by unfold cX at h47;omega)]at hz
    simp(disch:=first|(simp;done)|omega|rfl) [-getElem?_pos,A.lI,hr,hf,h3,hk1,hc,h47]
    rw[hz];simp
   ·rw[aA (by unfold cX at h47;omega)]at hz
    simp(disch:=first|(simp;done)|omega|rfl) [-getElem?_pos,A.lI,hr,hf,h3,hk1,hc,h47]
    exact⟨m,by omega,k+1,by omega,by simp,by omega⟩
 ·rintro e r _ hr ⟨rfl,⟨rfl,hz⟩|⟨rfl,h2⟩⟩
  ·simp(disch:=first|(simp;done)|omega|rfl) [-getElem?_pos,hr,hz]
  ·simp(disch:=first|(simp;done)|omega|rfl) [-getElem?_pos,h2]
def Yfj{st:St}(hl:s.length<9223372036854775808):A.C.call (.func 179 [] []) [.str s] st=some (.bool (cO s),st):=by
 apply Call.eq
 rw[aZ,A.k179 (by simp)]
 simp(disch:=first|(simp;done)|omega|rfl) [-getElem?_pos,A.b179]
 refine Zal [(2,19)] (fun e r s1=>s1=⟨st.h,st.n,[]⟩/\((e=.exit 0/\cO s=true)\/(e=.ret/\cO s=false/\r.get 2=some (.bool false)))) (fun m r s1=>s1=⟨st.h,st.n,[]⟩/\∃k,k+m=s.length/\r.get 3=some (.int .i64 k)/\cO s=cO (s.drop k)) s.length ?_ ?_ ?_
 ·exact⟨rfl,0,by omega,by simp,by simp⟩
 ·rintro m r _ hr hf ⟨rfl,k,hk,h3,hz⟩
  rw[cn]
  cases m with
  |zero=>
   have:k=s.length:=by omega
   subst this
   rw[xD]at hz
   have hz:cO s=true:=hz
   simp(disch:=first|(simp;done)|omega|rfl) [A.je,hr,hf,h3,hz]
  |succ m=>
   obtain⟨c,hc⟩:=eQ (l:=s) (k:=k) (by omega)
   have hk1:(k:Int)<(s.length:Int):=by omega
   have jZ:k<s.length:=by omega
   have fK:cO s=(jN c&&cO (s.drop (k+1))):=by rw[hz,rV hc];rfl
   rw[Yfl]at fK
   by_cases h1:cX c<48
   ·have:¬(48<=cX c/\cX c<=57):=by omega
    rw[decide_eq_false this,Bool.false_and]at fK
    simp(disch:=first|(simp;done)|omega|rfl) [-getElem?_pos,A.je,hr,hf,h3,hk1,hc,h1,fK]
   ·by_cases h2:57<cX c
    ·have:¬(48<=cX c/\cX c<=57):=by omega
     rw[decide_eq_false this,Bool.false_and]at fK
     simp(disch:=first|(simp;done)|omega|rfl) [-getElem?_pos,A.je,hr,hf,h3,hk1,hc,h1,h2,fK]
    ·have:(48<=cX c/\cX c<=57):=by omega
     rw[decide_eq_true this,Bool.true_and]at fK
     simp(disch:=first|(simp;done)|omega|rfl) [-getElem?_pos,A.je,hr,hf,h3,hk1,hc,h1,h2]
     exact⟨m,by omega,k+1,by omega,by simp,fK⟩
 ·rintro e r _ hr ⟨rfl,⟨rfl,hz⟩|⟨rfl,hz,h2⟩⟩
  ·simp(disch:=first|(simp;done)|omega|rfl) [-getElem?_pos,hz]
  ·simp(disch:=first|(simp;done)|omega|rfl) [-getElem?_pos,h2,hz]
def M4{s:bj}{st:St}(hl:s.length<9223372036854775808):A.C.call (.func 117 [] []) [.str s] st=some (.bool (ij s),st):=by
 apply Call.eq
 rw[aZ,A.k117 (by simp)]
 cases s with
 |nil=>simp[A.b117,ij]
 |cons c s=>
  have hd:ij (c::s)=(cO (c::s)&&(decide (cX c≠48)||decide (s=[]))):=by
   have:decide (c.toNat≠48)=decide (cX c≠48):=by unfold cX;rw[decide_eq_decide];omega
   simp only[ij,this];rfl
  have hdg:=fun st=>Yfj (s:=c::s) (st:=st) hl
  by_cases h0:s=[]
  ·subst h0
   simp[A.b117,hd,hdg]
  ·have h1:0<s.length:=by
    cases s with
    |nil=>exact absurd rfl h0
    |cons=>simp
   have a1:¬((s.length:Int)+1=0):=by omega
   have a2:(1:Int)<(s.length:Int)+1:=by omega
   have a3:(0:Int)<(s.length:Int):=by omega
   by_cases h48:cX c=48
   ·simp[A.b117,hd,h0,a1,a2,h48]
   ·simp[A.b117,hd,hdg,h0,a1,a2,h48]
def M6{st:St}(hd:cO s=true)(hl:s.length<=18):A.C.call (.func 165 [] []) [.str s] st=some (.int .i64 (aN s:Nat),st):=by
 apply Call.eq
 rw[aZ,A.k165 (by simp)]
 simp[A.b165]
 refine Zal [(3,18)] (fun e r s1=>s1=⟨st.h,st.n,[]⟩/\e=.exit 0/\r.get 3=some (.int .i64 (aN s:Nat))) (fun m r s1=>s1=⟨st.h,st.n,[]⟩/\∃k,k+m=s.length/\r.get 4=some (.int .i64 k)/\r.get 3=some (.int .i64 (aN (s.take k):Nat))) s.length ?_ ?_ ?_
 ·exact⟨rfl,0,by omega,by simp,by simp[aN]⟩
 ·rintro m r _ hr hf ⟨rfl,k,hk,h4,h3⟩
  rw[cn]
  cases m with
  |zero=>
   have:k=s.length:=by omega
   subst this
   rw[At]at h3
   simp[A.pM,hr,hf,h4,h3]
  |succ m=>
   obtain⟨c,hc⟩:=eQ (l:=s) (k:=k) (by omega)
   have hk1:(k:Int)<(s.length:Int):=by omega
   have jZ:k<s.length:=by omega
   have rW:=M7 hd hc
   have hv:=Znz hc
   have hb1:=RZ hd k (by omega)
   have pN:=R4 (a:=k) (b:=17) (by omega)
   have b3:((aN (s.take (k+1)):Nat):Int)=10*(aN (s.take k):Nat)+cX c-48:=by
    rw[hv];unfold cX at*;omega
   have b4:((aN (s.take k):Nat):Int)<100000000000000000:=by
    have:(10:Nat)^17=100000000000000000:=by decide
    omega
   generalize hy:aN (s.take (k+1))=y at*
   generalize aN (s.take k)=x at*
   simp(disch:=first|(simp;done)|omega|rfl) [-getElem?_pos,A.pM,hr,hf,h4,h3,hk1,hc]
   exact⟨m,by omega,k+1,by omega,by simp,by rw[hy,b3]⟩
 ·rintro e r _ hr ⟨rfl,rfl,h3⟩
  simp[h3]
end
end Go.Mx
