/-The table of the known runs is sound, fo-/
import Derived.Test.YtgnadghjglamaaaGreatDoorAwT0
import Derived.Test.YtgnadghjglamaaaGreatDoorAwT3
import Derived.Test.YtgnadghjglamaaaGreatDoorAwT4
import Derived.Test.YtgnadghjglamaaaGreatDoorAwT5
import Derived.Test.YtgnadghjglamaaaGreatDoorMxIn3
import Derived.Test.YtgnadghjglamaaaGreatDoorStQ
set_option linter.all false
namespace Go.Mx
noncomputable section
open Go
set_option maxRecDepth 1000000
section
variable {P:Program} (hP:Dd P A.dN 11)
include hP
def A.t0:ar P A.TB A.L0 A.E:=ar.nil.p1 hP A.z0
def A.t1:ar P A.TB A.L1 A.E:=(A.t0 hP).p1 hP A.z1
def A.t2:ar P A.TB A.L2 A.E:=(A.t1 hP).p1 hP A.z2
def A.t3:ar P A.TB A.L3 A.E:=(A.t2 hP).p1 hP A.z3
def A.t4:ar P A.TB A.L4 A.E:=(A.t3 hP).p1 hP A.z4
def A.t5:ar P A.TB A.L5 A.E:=(A.t4 hP).p1 hP A.z5
def A.t6:ar P A.TB A.L6 A.E:=(A.t5 hP).p1 hP A.z6
def A.t7:ar P A.TB A.L7 A.E:=(A.t6 hP).p1 hP A.z7
def A.t8:ar P A.TB A.L8 A.E:=(A.t7 hP).p1 hP A.z8
def A.t9:ar P A.TB A.L9 A.E:=(A.t8 hP).p1 hP A.z9
def A.t10:ar P A.TB A.UK A.E:=(A.t9 hP).p1 hP A.Xz
def A.t11:ar P A.TB A.UL A.E:=(A.t10 hP).p1 hP A.z11
def A.t12:ar P A.TB A.UM A.E:=(A.t11 hP).p1 hP A.z12
def A.t13:ar P A.TB A.UN A.E:=(A.t12 hP).p1 hP A.z13
def A.t14:ar P A.TB A.UO A.E:=(A.t13 hP).p1 hP A.z14
def A.t15:ar P A.TB A.UP A.E:=(A.t14 hP).p1 hP A.z15
def A.t16:ar P A.TB A.UQ A.E:=(A.t15 hP).p1 hP A.z16
def A.t17:ar P A.TB A.UR A.E:=(A.t16 hP).p1 hP A.z17
def A.t18:ar P A.TB A.US A.E:=(A.t17 hP).p1 hP A.z18
def A.t19:ar P A.TB A.UT A.E:=(A.t18 hP).p1 hP A.z19
def A.t20:ar P A.TB A.UU A.E:=(A.t19 hP).p1 hP A.z20
def A.t21:ar P A.TB A.UW A.E:=(A.t20 hP).p1 hP A.z21
def A.t22:ar P A.TB A.UX A.E:=(A.t21 hP).p1 hP A.z22
def A.t23:ar P A.TB A.UY A.E:=(A.t22 hP).p1 hP A.z23
def A.t24:ar P A.TB A.UZ A.E:=(A.t23 hP).p1 hP A.z24
def A.t25:ar P A.TB A.U0 A.E:=(A.t24 hP).p1 hP A.z25
def A.t26:ar P A.TB A.U1 A.E:=(A.t25 hP).p1 hP A.z26
def A.t27:ar P A.TB A.U4 A.E:=(A.t26 hP).p1 hP A.z27
def A.t28:ar P A.TB A.U6 A.E:=(A.t27 hP).p1 hP A.z28
def A.t29:ar P A.TB A.U7 A.E:=(A.t28 hP).p1 hP A.z29
def A.t30:ar P A.TB A.U8 A.E:=(A.t29 hP).p1 hP A.z30
def A.t31:ar P A.TB A.U9 A.E:=(A.t30 hP).p1 hP A.z31
def A.t32:ar P A.TB A.Va A.E:=(A.t31 hP).p1 hP A.z32
def A.t33:ar P A.TB A.Vb A.E:=(A.t32 hP).p1 hP A.z33
def A.t34:ar P A.TB A.Vc A.E:=(A.t33 hP).p1 hP A.z34
def A.t35:ar P A.TB A.Vd A.E:=(A.t34 hP).p1 hP A.z35
def A.t36:ar P A.TB A.Ve A.E:=(A.t35 hP).p1 hP A.z36
def A.t37:ar P A.TB A.Vg A.E:=(A.t36 hP).p1 hP A.z37
def A.t38:ar P A.TB A.Vh A.E:=(A.t37 hP).p1 hP A.z38
def A.t39:ar P A.TB A.Vi A.E:=(A.t38 hP).p1 hP A.z39
def A.t40:ar P A.TB A.Vj A.E:=(A.t39 hP).p1 hP A.z40
def A.t41:ar P A.TB A.Vk A.E:=(A.t40 hP).p1 hP A.z41
def A.t42:ar P A.TB A.Vl A.E:=(A.t41 hP).p1 hP A.z42
def A.t43:ar P A.TB A.Vm A.E:=(A.t42 hP).p1 hP A.z43
def A.t44:ar P A.TB A.Vn A.E:=(A.t43 hP).p1 hP A.z44
def A.t45:ar P A.TB A.Vo A.E:=(A.t44 hP).p1 hP A.z45
def A.t46:ar P A.TB A.Vp A.E:=(A.t45 hP).p1 hP A.z46
def A.t47:ar P A.TB A.Vq A.E:=(A.t46 hP).p1 hP A.z47
def A.t48:ar P A.TB A.Vr A.E:=(A.t47 hP).p1 hP A.z48
def A.t49:ar P A.TB A.Vs A.E:=(A.t48 hP).p1 hP A.z49
def A.t50:ar P A.TB A.Vt A.E:=(A.t49 hP).p1 hP A.z50
def A.t51:ar P A.TB A.Vu A.E:=(A.t50 hP).p1 hP A.z51
def A.t52:ar P A.TB A.Vv A.E:=(A.t51 hP).p1 hP A.z52
def A.t53:ar P A.TB A.Vw A.E:=(A.t52 hP).p1 hP A.z53
def A.t54:ar P A.TB A.Vx A.E:=(A.t53 hP).p1 hP A.z54
def A.t55:ar P A.TB A.Vy A.E:=(A.t54 hP).p1 hP A.z55
def A.t56:ar P A.TB A.Vz A.E:=(A.t55 hP).p1 hP A.z56
def A.t57:ar P A.TB A.VA A.E:=(A.t56 hP).p1 hP A.z57
def A.t58:ar P A.TB A.EL A.E:=(A.t57 hP).p1 hP A.z58
def A.t59:ar P A.TB A.EL A.E0:=(A.t58 hP).e1 hP A.z59
def A.t60:ar P A.TB A.EL A.E1:=(A.t59 hP).e1 hP A.z60
def A.t61:ar P A.TB A.VB A.E1:=(A.t60 hP).p1 hP A.z61
def A.t62:ar P A.TB A.VC A.E1:=(A.t61 hP).p1 hP A.z62
def A.t63:ar P A.TB A.VD A.E1:=(A.t62 hP).p1 hP A.z63
def A.t64:ar P A.TB A.VE A.E1:=(A.t63 hP).p1 hP A.z64
def A.t65:ar P A.TB A.VF A.E1:=(A.t64 hP).p1 hP A.z65
def A.t66:ar P A.TB A.VG A.E1:=(A.t65 hP).p1 hP A.z66
def A.t67:ar P A.TB A.BC A.E1:=(A.t66 hP).p1 hP A.z67
def A.t68:ar P A.TB A.BC A.E2:=(A.t67 hP).e1 hP A.z68
def A.t69:ar P A.TB A.BC A.E3:=(A.t68 hP).e1 hP A.z69
def A.t70:ar P A.TB A.BC A.E4:=(A.t69 hP).e1 hP A.z70
def A.t71:ar P A.TB A.BD A.E4:=(A.t70 hP).p1 hP A.z71
def A.t72:ar P A.TB A.BD A.E5:=(A.t71 hP).e1 hP A.z72
def A.t73:ar P A.TB A.BD A.E6:=(A.t72 hP).e1 hP A.z73
def A.t74:ar P A.TB A.BD A.E7:=(A.t73 hP).e1 hP A.z74
def A.t75:ar P A.TB A.VH A.E7:=(A.t74 hP).p1 hP A.z75
def A.t76:ar P A.TB A.VI A.E7:=(A.t75 hP).p1 hP A.z76
def A.t77:ar P A.TB A.VJ A.E7:=(A.t76 hP).p1 hP A.z77
def A.t78:ar P A.TB A.VK A.E7:=(A.t77 hP).p1 hP A.z78
def A.t79:ar P A.TB A.VL A.E7:=(A.t78 hP).p1 hP A.z79
def A.t80:ar P A.TB A.EM A.E7:=(A.t79 hP).p1 hP A.z80
def A.t81:ar P A.TB A.EM A.E8:=(A.t80 hP).e1 hP A.z81
def A.t82:ar P A.TB A.EM A.E9:=(A.t81 hP).e1 hP A.z82
def A.t83:ar P A.TB A.VM A.E9:=(A.t82 hP).p1 hP A.z83
def A.t84:ar P A.TB A.EN A.E9:=(A.t83 hP).p1 hP A.z84
def A.t85:ar P A.TB A.EN A.VN:=(A.t84 hP).e1 hP A.z85
def A.t86:ar P A.TB A.EN A.si:=(A.t85 hP).e1 hP A.z86
def A.t87:ar P A.TB A.VO A.si:=(A.t86 hP).p1 hP A.z87
def A.t88:ar P A.TB A.VP A.si:=(A.t87 hP).p1 hP A.z88
def A.t89:ar P A.TB A.VQ A.si:=(A.t88 hP).p1 hP A.z89
def A.t90:ar P A.TB A.VS A.si:=(A.t89 hP).p1 hP A.z90
def A.t91:ar P A.TB A.VT A.si:=(A.t90 hP).p1 hP A.z91
def A.t92:ar P A.TB A.VU A.si:=(A.t91 hP).p1 hP A.z92
def A.t93:ar P A.TB A.yE A.si:=(A.t92 hP).p1 hP A.z93
def A.t94:ar P A.TB A.yE A.VV:=(A.t93 hP).e1 hP A.z94
def A.t95:ar P A.TB A.yE A.VW:=(A.t94 hP).e1 hP A.z95
def A.t96:ar P A.TB A.yE A.VX:=(A.t95 hP).e1 hP A.z96
def A.t97:ar P A.TB A.yE A.EO:=(A.t96 hP).e1 hP A.z97
def A.t98:ar P A.TB A.VY A.EO:=(A.t97 hP).p1 hP A.z98
def A.t99:ar P A.TB A.lV A.EO:=(A.t98 hP).p1 hP A.z99
def A.t100:ar P A.TB A.lV A.VZ:=(A.t99 hP).e1 hP A.XA
def A.t101:ar P A.TB A.lV A.V0:=(A.t100 hP).e1 hP A.XB
def A.t102:ar P A.TB A.lV A.V1:=(A.t101 hP).e1 hP A.XC
def A.t103:ar P A.TB A.lV A.V2:=(A.t102 hP).e1 hP A.XD
def A.t104:ar P A.TB A.lV A.V3:=(A.t103 hP).e1 hP A.XE
def A.t105:ar P A.TB A.lV A.V4:=(A.t104 hP).e1 hP A.XF
def A.t106:ar P A.TB A.lV A.V5:=(A.t105 hP).e1 hP A.XG
def A.t107:ar P A.TB A.lV A.V6:=(A.t106 hP).e1 hP A.XH
def A.t108:ar P A.TB A.lV A.V7:=(A.t107 hP).e1 hP A.XI
def A.t109:ar P A.TB A.lV A.V8:=(A.t108 hP).e1 hP A.XJ
def A.t110:ar P A.TB A.lV A.EP:=(A.t109 hP).e1 hP A.XK
def A.t111:ar P A.TB A.V9 A.EP:=(A.t110 hP).p1 hP A.XL
def A.t112:ar P A.TB A.kl A.EP:=(A.t111 hP).p1 hP A.XM
def A.t113:ar P A.TB A.kl A.Wa:=(A.t112 hP).e1 hP A.XN
def A.t114:ar P A.TB A.kl A.Wb:=(A.t113 hP).e1 hP A.XO
def A.t115:ar P A.TB A.kl A.Wc:=(A.t114 hP).e1 hP A.XP
def A.t116:ar P A.TB A.kl A.Wd:=(A.t115 hP).e1 hP A.XQ
def A.t117:ar P A.TB A.kl A.We:=(A.t116 hP).e1 hP A.XR
def A.t118:ar P A.TB A.kl A.Wf:=(A.t117 hP).e1 hP A.XT
def A.t119:ar P A.TB A.kl A.Wg:=(A.t118 hP).e1 hP A.XU
def A.t120:ar P A.TB A.kl A.Wh:=(A.t119 hP).e1 hP A.XV
def A.t121:ar P A.TB A.kl A.Wj:=(A.t120 hP).e1 hP A.XW
def A.t122:ar P A.TB A.kl A.Wk:=(A.t121 hP).e1 hP A.XX
def A.t123:ar P A.TB A.kl A.Wl:=(A.t122 hP).e1 hP A.XY
def A.t124:ar P A.TB A.kl A.uf:=(A.t123 hP).e1 hP A.XZ
def A.t125:ar P A.TB A.Wm A.uf:=(A.t124 hP).p1 hP A.X0
def A.t126:ar P A.TB A.Wo A.uf:=(A.t125 hP).p1 hP A.X7
def A.t127:ar P A.TB A.Wp A.uf:=(A.t126 hP).p1 hP A.X8
def A.t128:ar P A.TB A.Wq A.uf:=(A.t127 hP).p1 hP A.X9
def A.t129:ar P A.TB A.Wr A.uf:=(A.t128 hP).p1 hP A.Ya
def A.t130:ar P A.TB A.ui A.uf:=(A.t129 hP).p1 hP A.Yb
def A.t131:ar P A.TB A.ui A.Ws:=(A.t130 hP).e1 hP A.Yc
def A.t132:ar P A.TB A.ui A.Wt:=(A.t131 hP).e1 hP A.Yd
def A.t133:ar P A.TB A.ui A.Wu:=(A.t132 hP).e1 hP A.Ye
def A.t134:ar P A.TB A.ui A.Wv:=(A.t133 hP).e1 hP A.Yf
def A.t135:ar P A.TB A.ui A.Ww:=(A.t134 hP).e1 hP A.Yg
def A.t136:ar P A.TB A.ui A.xd:=(A.t135 hP).e1 hP A.Yh
def A.t137:ar P A.TB A.Wx A.xd:=(A.t136 hP).p1 hP A.Yi
def A.t138:ar P A.TB A.Wy A.xd:=(A.t137 hP).p1 hP A.Yj
def A.t139:ar P A.TB A.Wz A.xd:=(A.t138 hP).p1 hP A.Yk
def A.t140:ar P A.TB A.WA A.xd:=(A.t139 hP).p1 hP A.Yl
def A.t141:ar P A.TB A.MQ A.xd:=(A.t140 hP).p1 hP A.Ym
def A.t142:ar P A.TB A.MQ A.MR:=(A.t141 hP).e1 hP A.Yn
def A.t143:ar P A.TB A.sq A.MR:=(A.t142 hP).p1 hP A.Yo
def A.t144:ar P A.TB A.sq A.WB:=(A.t143 hP).e1 hP A.Yp
def A.t145:ar P A.TB A.sq A.WC:=(A.t144 hP).e1 hP A.Yq
def A.t146:ar P A.TB A.sq A.WD:=(A.t145 hP).e1 hP A.Yr
def A.t147:ar P A.TB A.sq A.WE:=(A.t146 hP).e1 hP A.Ys
def A.t148:ar P A.TB A.sq A.WG:=(A.t147 hP).e1 hP A.Yt
def A.t149:ar P A.TB A.sq A.WH:=(A.t148 hP).e1 hP A.Yu
def A.t150:ar P A.TB A.sq A.eS:=(A.t149 hP).e1 hP A.Yv
def A.t151:ar P A.TB A.L98 A.eS:=(A.t150 hP).p1 hP A.Yw
def A.t152:ar P A.TB A.WJ A.eS:=(A.t151 hP).p1 hP A.Yx
def A.t153:ar P A.TB A.ER A.eS:=(A.t152 hP).p1 hP A.Yy
def A.t154:ar P A.TB A.ES A.eS:=(A.t153 hP).p1 hP A.Yz
def A.t155:ar P A.TB A.ET A.eS:=(A.t154 hP).p1 hP A.YA
def A.t156:ar P A.TB A.EU A.eS:=(A.t155 hP).p1 hP A.YB
def A.t157:ar P A.TB A.EV A.eS:=(A.t156 hP).p1 hP A.YC
def A.t158:ar P A.TB A.EW A.eS:=(A.t157 hP).p1 hP A.YD
def A.t159:ar P A.TB A.EX A.eS:=(A.t158 hP).p1 hP A.YE
def A.t160:ar P A.TB A.EY A.eS:=(A.t159 hP).p1 hP A.YF
def A.t161:ar P A.TB A.EZ A.eS:=(A.t160 hP).p1 hP A.YG
def A.t162:ar P A.TB A.Fa A.eS:=(A.t161 hP).p1 hP A.YH
def A.t163:ar P A.TB A.Fb A.eS:=(A.t162 hP).p1 hP A.YI
def A.t164:ar P A.TB A.Fe A.eS:=(A.t163 hP).p1 hP A.YJ
def A.t165:ar P A.TB A.Ff A.eS:=(A.t164 hP).p1 hP A.YK
def A.t166:ar P A.TB A.Fg A.eS:=(A.t165 hP).p1 hP A.YL
def A.t167:ar P A.TB A.Fh A.eS:=(A.t166 hP).p1 hP A.YM
def A.t168:ar P A.TB A.Fi A.eS:=(A.t167 hP).p1 hP A.YN
def A.t169:ar P A.TB A.Fj A.eS:=(A.t168 hP).p1 hP A.YO
def A.t170:ar P A.TB A.Fk A.eS:=(A.t169 hP).p1 hP A.YP
def A.t171:ar P A.TB A.Fl A.eS:=(A.t170 hP).p1 hP A.YQ
def A.t172:ar P A.TB A.uj A.eS:=(A.t171 hP).p1 hP A.YR
def A.t173:ar P A.TB A.uj A.WK:=(A.t172 hP).e1 hP A.YT
def A.t174:ar P A.TB A.uj A.o8:=(A.t173 hP).e1 hP A.YU
def A.t175:ar P A.TB A.Fm A.o8:=(A.t174 hP).p1 hP A.YV
def A.t176:ar P A.TB A.Fo A.o8:=(A.t175 hP).p1 hP A.YW
def A.t177:ar P A.TB A.Fp A.o8:=(A.t176 hP).p1 hP A.YX
def A.t178:ar P A.TB A.Fq A.o8:=(A.t177 hP).p1 hP A.YY
def A.t179:ar P A.TB A.Fs A.o8:=(A.t178 hP).p1 hP A.YZ
def A.t180:ar P A.TB A.Ft A.o8:=(A.t179 hP).p1 hP A.Y0
def A.t181:ar P A.TB A.Fu A.o8:=(A.t180 hP).p1 hP A.Y3
def A.t182:ar P A.TB A.Fv A.o8:=(A.t181 hP).p1 hP A.Y4
def A.t183:ar P A.TB A.km A.o8:=(A.t182 hP).p1 hP A.Y5
def A.t184:ar P A.TB A.km A.WL:=(A.t183 hP).e1 hP A.Y6
def A.t185:ar P A.TB A.km A.WM:=(A.t184 hP).e1 hP A.Y7
def A.t186:ar P A.TB A.km A.WN:=(A.t185 hP).e1 hP A.Y9
def A.t187:ar P A.TB A.km A.WO:=(A.t186 hP).e1 hP A.Za
def A.t188:ar P A.TB A.km A.MS:=(A.t187 hP).e1 hP A.Zb
def A.t189:ar P A.TB A.fQ A.MS:=(A.t188 hP).p1 hP A.Zc
def A.t190:ar P A.TB A.fQ A.WQ:=(A.t189 hP).e1 hP A.Zd
def A.t191:ar P A.TB A.fQ A.WR:=(A.t190 hP).e1 hP A.Ze
def A.t192:ar P A.TB A.fQ A.WS:=(A.t191 hP).e1 hP A.Zf
def A.t193:ar P A.TB A.fQ A.WT:=(A.t192 hP).e1 hP A.Zg
def A.t194:ar P A.TB A.fQ A.WU:=(A.t193 hP).e1 hP A.Zh
def A.t195:ar P A.TB A.fQ A.WV:=(A.t194 hP).e1 hP A.Zi
def A.t196:ar P A.TB A.fQ A.WX:=(A.t195 hP).e1 hP A.Zj
def A.t197:ar P A.TB A.fQ A.sw:=(A.t196 hP).e1 hP A.Zk
def A.t198:ar P A.TB A.Fw A.sw:=(A.t197 hP).p1 hP A.Zl
def A.t199:ar P A.TB A.Fy A.sw:=(A.t198 hP).p1 hP A.Zm
def A.t200:ar P A.TB A.Fz A.sw:=(A.t199 hP).p1 hP A.Zn
def A.t201:ar P A.TB A.FA A.sw:=(A.t200 hP).p1 hP A.Zo
def A.t202:ar P A.TB A.FB A.sw:=(A.t201 hP).p1 hP A.Zp
def A.t203:ar P A.TB A.FC A.sw:=(A.t202 hP).p1 hP A.Zq
def A.t204:ar P A.TB A.dT A.sw:=(A.t203 hP).p1 hP A.Zr
def A.t205:ar P A.TB A.dT A.WY:=(A.t204 hP).e1 hP A.Zs
def A.t206:ar P A.TB A.dT A.WZ:=(A.t205 hP).e1 hP A.Zt
def A.t207:ar P A.TB A.dT A.W8:=(A.t206 hP).e1 hP A.Zu
def A.t208:ar P A.TB A.dT A.W9:=(A.t207 hP).e1 hP A.Zv
def A.t209:ar P A.TB A.dT A.Xa:=(A.t208 hP).e1 hP A.Zw
def A.t210:ar P A.TB A.dT A.Xb:=(A.t209 hP).e1 hP A.Zx
def A.t211:ar P A.TB A.dT A.Xc:=(A.t210 hP).e1 hP A.Zy
def A.t212:ar P A.TB A.dT A.Xd:=(A.t211 hP).e1 hP A.Zz
def A.t213:ar P A.TB A.dT A.Xe:=(A.t212 hP).e1 hP A.ZA
def A.t214:ar P A.TB A.dT A.Xf:=(A.t213 hP).e1 hP A.ZB
def A.t215:ar P A.TB A.dT A.Xg:=(A.t214 hP).e1 hP A.ZC
def A.t216:ar P A.TB A.dT A.FD:=(A.t215 hP).e1 hP A.ZD
def A.t217:ar P A.TB A.FF A.FD:=(A.t216 hP).p1 hP A.ZE
def A.t218:ar P A.TB A.eE A.FD:=(A.t217 hP).p1 hP A.ZF
def A.t219:ar P A.TB A.eE A.Xh:=(A.t218 hP).e1 hP A.ZG
def A.t220:ar P A.TB A.eE A.Xi:=(A.t219 hP).e1 hP A.ZH
def A.t221:ar P A.TB A.eE A.Xj:=(A.t220 hP).e1 hP A.ZI
def A.t222:ar P A.TB A.eE A.Xk:=(A.t221 hP).e1 hP A.ZJ
def A.t223:ar P A.TB A.eE A.Xl:=(A.t222 hP).e1 hP A.ZK
def A.t224:ar P A.TB A.eE A.Xm:=(A.t223 hP).e1 hP A.ZL
def A.t225:ar P A.TB A.eE A.Xn:=(A.t224 hP).e1 hP A.ZM
def A.t226:ar P A.TB A.eE A.Xo:=(A.t225 hP).e1 hP A.ZN
def A.t227:ar P A.TB A.eE A.Xp:=(A.t226 hP).e1 hP A.ZO
def A.t228:ar P A.TB A.eE A.Xq:=(A.t227 hP).e1 hP A.ZP
def A.t229:ar P A.TB A.eE A.yF:=(A.t228 hP).e1 hP A.ZQ
def A.t230:ar P A.TB A.FG A.yF:=(A.t229 hP).p1 hP A.ZR
def A.t231:ar P A.TB A.FH A.yF:=(A.t230 hP).p1 hP A.ZS
def A.t232:ar P A.TB A.FI A.yF:=(A.t231 hP).p1 hP A.ZT
def A.t233:ar P A.TB A.gW A.yF:=(A.t232 hP).p1 hP A.ZU
def A.t234:ar P A.TB A.gW A.Xr:=(A.t233 hP).e1 hP A.ZV
def A.t235:ar P A.TB A.gW A.Xs:=(A.t234 hP).e1 hP A.ZW
def A.t236:ar P A.TB A.gW A.Xt:=(A.t235 hP).e1 hP A.ZX
def A.t237:ar P A.TB A.gW A.Xu:=(A.t236 hP).e1 hP A.ZY
def A.t238:ar P A.TB A.gW A.Xv:=(A.t237 hP).e1 hP A.Z0
def A.t239:ar P A.TB A.gW A.Xw:=(A.t238 hP).e1 hP A.Z1
def A.t240:ar P A.TB A.gW A.MT:=(A.t239 hP).e1 hP A.Z2
def A.t241:ar P A.TB A.jc A.MT:=(A.t240 hP).p1 hP A.Z3
def A.t242:ar P A.TB A.jc A.Xx:=(A.t241 hP).e1 hP A.Z4
def A.t243:ar P A.TB A.jc A.Xy:=(A.t242 hP).e1 hP A.Z5
def A.t244:ar P A.TB A.jc A.FJ:=(A.t243 hP).e1 hP A.Z6
def A.t245:ar P A.TB A.jc A.FK:=(A.t244 hP).e1 hP A.Z7
def A.t246:ar P A.TB A.jc A.Iy:=(A.t245 hP).e1 hP A.Z8
def A.t247:ar P A.TB A.jc A.pZ:=(A.t246 hP).e1 hP A.Z9
def A.t248:ar P A.TB A.FM A.pZ:=(A.t247 hP).p1 hP A.zaa
def A.t249:ar P A.TB A.FN A.pZ:=(A.t248 hP).p1 hP A.zab
def A.t250:ar P A.TB A.yH A.pZ:=(A.t249 hP).p1 hP A.zac
def A.t251:ar P A.TB A.yH A.p9:=(A.t250 hP).e1 hP A.zad
def A.t252:ar P A.TB A.FO A.p9:=(A.t251 hP).p1 hP A.zae
def A.t253:ar P A.TB A.FQ A.p9:=(A.t252 hP).p1 hP A.zaf
def A.t254:ar P A.TB A.yI A.p9:=(A.t253 hP).p1 hP A.zag
def A.t255:ar P A.TB A.yI A.p_:=(A.t254 hP).e1 hP A.zah
def A.t256:ar P A.TB A.FR A.p_:=(A.t255 hP).p1 hP A.zai
def A.t257:ar P A.TB A.FT A.p_:=(A.t256 hP).p1 hP A.zaj
def A.t258:ar P A.TB A.eW A.p_:=(A.t257 hP).p1 hP A.zak
def A.t259:ar P A.TB A.eW A.FU:=(A.t258 hP).e1 hP A.zal
def A.t260:ar P A.TB A.eW A.FV:=(A.t259 hP).e1 hP A.zam
def A.t261:ar P A.TB A.eW A.FW:=(A.t260 hP).e1 hP A.zan
def A.t262:ar P A.TB A.eW A.FX:=(A.t261 hP).e1 hP A.zao
def A.t263:ar P A.TB A.eW A.FY:=(A.t262 hP).e1 hP A.zap
def A.t264:ar P A.TB A.eW A.FZ:=(A.t263 hP).e1 hP A.zaq
def A.t265:ar P A.TB A.eW A.F0:=(A.t264 hP).e1 hP A.zar
def A.t266:ar P A.TB A.eW A.F3:=(A.t265 hP).e1 hP A.zas
def A.t267:ar P A.TB A.eW A.F4:=(A.t266 hP).e1 hP A.zat
def A.t268:ar P A.TB A.eW A.pQ:=(A.t267 hP).e1 hP A.zau
def A.t269:ar P A.TB A.F5 A.pQ:=(A.t268 hP).p1 hP A.zav
def A.t270:ar P A.TB A.F6 A.pQ:=(A.t269 hP).p1 hP A.zaw
def A.t271:ar P A.TB A.F7 A.pQ:=(A.t270 hP).p1 hP A.zax
def A.t272:ar P A.TB A.eX A.pQ:=(A.t271 hP).p1 hP A.zay
def A.t273:ar P A.TB A.eX A.F8:=(A.t272 hP).e1 hP A.zaz
def A.t274:ar P A.TB A.eX A.F9:=(A.t273 hP).e1 hP A.zaA
def A.t275:ar P A.TB A.eX A.Ga:=(A.t274 hP).e1 hP A.zaB
def A.t276:ar P A.TB A.eX A.Gb:=(A.t275 hP).e1 hP A.zaC
def A.t277:ar P A.TB A.eX A.Gc:=(A.t276 hP).e1 hP A.zaD
def A.t278:ar P A.TB A.eX A.Gd:=(A.t277 hP).e1 hP A.zaE
def A.t279:ar P A.TB A.eX A.Ge:=(A.t278 hP).e1 hP A.zaF
def A.t280:ar P A.TB A.eX A.Gf:=(A.t279 hP).e1 hP A.zaG
def A.t281:ar P A.TB A.eX A.Gg:=(A.t280 hP).e1 hP A.zaH
def A.t282:ar P A.TB A.eX A.ko:=(A.t281 hP).e1 hP A.zaI
def A.t283:ar P A.TB A.Gh A.ko:=(A.t282 hP).p1 hP A.zaJ
def A.t284:ar P A.TB A.Gi A.ko:=(A.t283 hP).p1 hP A.zaK
def A.t285:ar P A.TB A.Gj A.ko:=(A.t284 hP).p1 hP A.zaL
def A.t286:ar P A.TB A.Gk A.ko:=(A.t285 hP).p1 hP A.zaM
def A.t287:ar P A.TB A.nJ A.ko:=(A.t286 hP).p1 hP A.zaN
def A.t288:ar P A.TB A.nJ A.Gl:=(A.t287 hP).e1 hP A.zaO
def A.t289:ar P A.TB A.nJ A.Gm:=(A.t288 hP).e1 hP A.zaP
def A.t290:ar P A.TB A.nJ A.Gn:=(A.t289 hP).e1 hP A.zaQ
def A.t291:ar P A.TB A.nJ A.fR:=(A.t290 hP).e1 hP A.zaR
def A.t292:ar P A.TB A.Gp A.fR:=(A.t291 hP).p1 hP A.zaS
def A.t293:ar P A.TB A.Gq A.fR:=(A.t292 hP).p1 hP A.zaT
def A.t294:ar P A.TB A.Gs A.fR:=(A.t293 hP).p1 hP A.zaU
def A.t295:ar P A.TB A.Gt A.fR:=(A.t294 hP).p1 hP A.zaV
def A.t296:ar P A.TB A.Gu A.fR:=(A.t295 hP).p1 hP A.zaW
def A.t297:ar P A.TB A.Gw A.fR:=(A.t296 hP).p1 hP A.zaX
def A.t298:ar P A.TB A.Gx A.fR:=(A.t297 hP).p1 hP A.zaY
def A.t299:ar P A.TB A.yJ A.fR:=(A.t298 hP).p1 hP A.zaZ
def A.t300:ar P A.TB A.yJ A.kp:=(A.t299 hP).e1 hP A.za0
def A.t301:ar P A.TB A.Gy A.kp:=(A.t300 hP).p1 hP A.za1
def A.t302:ar P A.TB A.Gz A.kp:=(A.t301 hP).p1 hP A.za2
def A.t303:ar P A.TB A.GA A.kp:=(A.t302 hP).p1 hP A.za3
def A.t304:ar P A.TB A.GB A.kp:=(A.t303 hP).p1 hP A.za4
def A.t305:ar P A.TB A.yL A.kp:=(A.t304 hP).p1 hP A.za5
def A.t306:ar P A.TB A.yL A.uk:=(A.t305 hP).e1 hP A.za6
def A.t307:ar P A.TB A.GC A.uk:=(A.t306 hP).p1 hP A.za7
def A.t308:ar P A.TB A.yM A.uk:=(A.t307 hP).p1 hP A.za8
def A.t309:ar P A.TB A.yM A.uo:=(A.t308 hP).e1 hP A.za9
def A.t310:ar P A.TB A.GD A.uo:=(A.t309 hP).p1 hP A.za_
def A.t311:ar P A.TB A.cB A.uo:=(A.t310 hP).p1 hP A.zba
def A.t312:ar P A.TB A.cB A.GF:=(A.t311 hP).e1 hP A.zbb
def A.t313:ar P A.TB A.cB A.GG:=(A.t312 hP).e1 hP A.zbc
def A.t314:ar P A.TB A.cB A.GH:=(A.t313 hP).e1 hP A.zbd
def A.t315:ar P A.TB A.cB A.GI:=(A.t314 hP).e1 hP A.zbe
def A.t316:ar P A.TB A.cB A.GJ:=(A.t315 hP).e1 hP A.zbf
def A.t317:ar P A.TB A.cB A.GK:=(A.t316 hP).e1 hP A.zbg
def A.t318:ar P A.TB A.cB A.GL:=(A.t317 hP).e1 hP A.zbh
def A.t319:ar P A.TB A.cB A.GM:=(A.t318 hP).e1 hP A.zbi
def A.t320:ar P A.TB A.cB A.GN:=(A.t319 hP).e1 hP A.zbj
def A.t321:ar P A.TB A.cB A.GO:=(A.t320 hP).e1 hP A.zbk
def A.t322:ar P A.TB A.cB A.GP:=(A.t321 hP).e1 hP A.zbl
def A.t323:ar P A.TB A.cB A.GQ:=(A.t322 hP).e1 hP A.zbm
def A.t324:ar P A.TB A.cB A.GR:=(A.t323 hP).e1 hP A.zbn
def A.t325:ar P A.TB A.cB A.GS:=(A.t324 hP).e1 hP A.zbo
def A.t326:ar P A.TB A.cB A.GU:=(A.t325 hP).e1 hP A.zbp
def A.t327:ar P A.TB A.cB A.GV:=(A.t326 hP).e1 hP A.zbq
def A.t328:ar P A.TB A.cB A.GW:=(A.t327 hP).e1 hP A.zbr
def A.t329:ar P A.TB A.cB A.GX:=(A.t328 hP).e1 hP A.zbs
def A.t330:ar P A.TB A.cB A.GY:=(A.t329 hP).e1 hP A.zbt
def A.t331:ar P A.TB A.cB A.gY:=(A.t330 hP).e1 hP A.zbu
def A.t332:ar P A.TB A.GZ A.gY:=(A.t331 hP).p1 hP A.zbv
def A.t333:ar P A.TB A.G0 A.gY:=(A.t332 hP).p1 hP A.zbw
def A.t334:ar P A.TB A.G7 A.gY:=(A.t333 hP).p1 hP A.zbx
def A.zby:ar P A.TB A.G8 A.gY:=(A.t334 hP).p1 hP A.zbz
def A.zbA:ar P A.TB A.G9 A.gY:=(A.zby hP).p1 hP A.zbB
def A.zbC:ar P A.TB A.Ha A.gY:=(A.zbA hP).p1 hP A.zbD
def A.zbE:ar P A.TB A.yN A.gY:=(A.zbC hP).p1 hP A.zbF
def A.zbG:ar P A.TB A.yN A.gZ:=(A.zbE hP).e1 hP A.zbH
def A.zbI:ar P A.TB A.Hb A.gZ:=(A.zbG hP).p1 hP A.zbJ
def A.zbK:ar P A.TB A.Hc A.gZ:=(A.zbI hP).p1 hP A.zbL
def A.zbM:ar P A.TB A.Hd A.gZ:=(A.zbK hP).p1 hP A.zbN
def A.zbO:ar P A.TB A.He A.gZ:=(A.zbM hP).p1 hP A.zbP
def A.zbQ:ar P A.TB A.Hf A.gZ:=(A.zbO hP).p1 hP A.zbR
def A.zbS:ar P A.TB A.Hg A.gZ:=(A.zbQ hP).p1 hP A.zbT
def A.zbU:ar P A.TB A.eF A.gZ:=(A.zbS hP).p1 hP A.zbV
def A.zbW:ar P A.TB A.eF A.Hh:=(A.zbU hP).e1 hP A.zbX
def A.zbY:ar P A.TB A.eF A.Hi:=(A.zbW hP).e1 hP A.zbZ
def A.zb0:ar P A.TB A.eF A.Hj:=(A.zbY hP).e1 hP A.zb1
def A.zb2:ar P A.TB A.eF A.Hk:=(A.zb0 hP).e1 hP A.zb3
def A.zb4:ar P A.TB A.eF A.Hl:=(A.zb2 hP).e1 hP A.zb5
def A.zb6:ar P A.TB A.eF A.Hm:=(A.zb4 hP).e1 hP A.zb7
def A.zb8:ar P A.TB A.eF A.Hn:=(A.zb6 hP).e1 hP A.zb9
def A.zb_:ar P A.TB A.eF A.Ho:=(A.zb8 hP).e1 hP A.zca
def A.zcb:ar P A.TB A.eF A.Hp:=(A.zb_ hP).e1 hP A.zcc
def A.zcd:ar P A.TB A.eF A.Hq:=(A.zcb hP).e1 hP A.zce
def A.zcf:ar P A.TB A.eF A.qf:=(A.zcd hP).e1 hP A.zcg
def A.zch:ar P A.TB A.Hr A.qf:=(A.zcf hP).p1 hP A.zci
def A.zcj:ar P A.TB A.Hs A.qf:=(A.zch hP).p1 hP A.zck
def A.zcl:ar P A.TB A.qh A.qf:=(A.zcj hP).p1 hP A.zcm
def A.zcn:ar P A.TB A.qh A.Ht:=(A.zcl hP).e1 hP A.zco
def A.zcp:ar P A.TB A.qh A.Hu:=(A.zcn hP).e1 hP A.zcq
def A.zcr:ar P A.TB A.qh A.jd:=(A.zcp hP).e1 hP A.zcs
def A.zct:ar P A.TB A.Hv A.jd:=(A.zcr hP).p1 hP A.zcu
def A.zcv:ar P A.TB A.Hw A.jd:=(A.zct hP).p1 hP A.zcw
def A.zcx:ar P A.TB A.Hx A.jd:=(A.zcv hP).p1 hP A.zcy
def A.zcz:ar P A.TB A.Hy A.jd:=(A.zcx hP).p1 hP A.zcA
def A.zcB:ar P A.TB A.Hz A.jd:=(A.zcz hP).p1 hP A.zcC
def A.zcD:ar P A.TB A.ot A.jd:=(A.zcB hP).p1 hP A.zcE
def A.zcF:ar P A.TB A.ot A.HF:=(A.zcD hP).e1 hP A.zcG
def A.zcH:ar P A.TB A.ot A.HG:=(A.zcF hP).e1 hP A.zcI
def A.zcJ:ar P A.TB A.ot A.yO:=(A.zcH hP).e1 hP A.zcK
def A.zcL:ar P A.TB A.di A.yO:=(A.zcJ hP).p1 hP A.zcM
def A.zcN:ar P A.TB A.di A.HH:=(A.zcL hP).e1 hP A.zcO
def A.zcP:ar P A.TB A.di A.HJ:=(A.zcN hP).e1 hP A.zcQ
def A.zcR:ar P A.TB A.di A.HK:=(A.zcP hP).e1 hP A.zcS
def A.zcT:ar P A.TB A.di A.HM:=(A.zcR hP).e1 hP A.zcU
def A.zcV:ar P A.TB A.di A.HN:=(A.zcT hP).e1 hP A.zcW
def A.zcX:ar P A.TB A.di A.HO:=(A.zcV hP).e1 hP A.zcY
def A.zcZ:ar P A.TB A.di A.HP:=(A.zcX hP).e1 hP A.zc0
def A.zc1:ar P A.TB A.di A.HQ:=(A.zcZ hP).e1 hP A.zc2
def A.zc3:ar P A.TB A.di A.HR:=(A.zc1 hP).e1 hP A.zc4
def A.zc5:ar P A.TB A.di A.Dp:=(A.zc3 hP).e1 hP A.zc6
def A.zc7:ar P A.TB A.di A.HT:=(A.zc5 hP).e1 hP A.zc8
def A.zc9:ar P A.TB A.di A.HU:=(A.zc7 hP).e1 hP A.zc_
def A.zda:ar P A.TB A.di A.HV:=(A.zc9 hP).e1 hP A.zdb
def A.zdc:ar P A.TB A.di A.BE:=(A.zda hP).e1 hP A.zdd
def A.zde:ar P A.TB A.MU A.BE:=(A.zdc hP).p1 hP A.zdf
end
open Go Go.Proofs
def A.xOk:js Tryz.prog A.C.x:=Zve fun e he=>by
 simp only[ku,List.not_mem_nil,or_false]at he
 subst he
 exact(A.zde A.yQ).p ⟨7,[],.bool true⟩ (oM (l:=A.di))
variable {s:aU}
def A.MV:=A.q Tryz.f115
def A.my:=A.ql A.MV 0 []
def A.b115:=(fun x0=>A.qb A.MV [x0]) A.my
def A.k115:=@A.kk 115 17 [.tmp 2] A.b115 (by kernel_rfl) rfl
def A.MW:=A.q Tryz.f180
def A.jz:=A.ql A.MW 0 []
def A.b180:=(fun x0=>A.qb A.MW [x0]) A.jz
def A.k180:=@A.kk 180 20 [.tmp 2] A.b180 (by kernel_rfl) rfl
def A.b116:=A.q Tryz.f116
def A.k116:=@A.kk 116 18 [.tmp 2] A.b116 (by kernel_rfl) rfl
def A.MY:=A.q Tryz.f148
def A.qj:=A.ql A.MY 0 []
def A.b148:=(fun x0=>A.qb A.MY [x0]) A.qj
def A.k148:=@A.kk 148 20 [.tmp 2] A.b148 (by kernel_rfl) rfl
def De{st:St}(hl:s.length<9223372036854775808):A.C.call (.func 115 [] []) [.str s] st=some (.int .i64 (ai s:Nat),st):=by
 apply Call.eq
 rw[aV,A.k115 (by simp)]
 simp(disch:=first|(simp;done)|omega|rfl) [-getElem?_pos,A.b115]
 refine c_ [(2,14)] (fun e r s1=>s1=⟨st.h,st.n,[]⟩/\((e=.exit 0/\ai s=s.length)\/(e=.ret/\r.get 2=some (.int .i64 (ai s:Nat))))) (fun m r s1=>s1=⟨st.h,st.n,[]⟩/\∃k,k+m=s.length/\r.get 3=some (.int .i64 k)/\ai s=k+ai (s.drop k)) s.length ?_ ?_ ?_
 ·exact⟨rfl,0,by omega,by simp,by simp⟩
 ·rintro m r _ hr hf ⟨rfl,k,hk,h3,hz⟩
  rw[dk]
  cases m with
  |zero=>
   have:k=s.length:=by omega
   subst this
   rw[vR,ai]at hz
   simp(disch:=first|(simp;done)|omega|rfl) [-getElem?_pos,A.my,hr,hf,h3]
   omega
  |succ m=>
   obtain⟨c,hc⟩:=fz (l:=s) (k:=k) (by omega)
   have ew:(k:Int)<(s.length:Int):=by omega
   have gO:k<s.length:=by omega
   rw[qk hc,ai]at hz
   by_cases h47:cR c=47
   ·rw[aQ (by unfold cR at h47;omega)]at hz
    simp(disch:=first|(simp;done)|omega|rfl) [-getElem?_pos,A.my,hr,hf,h3,ew,gO,hc,h47,aL]
    rw[hz];simp
   ·rw[aA (by unfold cR at h47;omega)]at hz
    simp(disch:=first|(simp;done)|omega|rfl) [-getElem?_pos,A.my,hr,hf,h3,ew,gO,hc,h47,aL]
    exact⟨m,by omega,k+1,by omega,by simp,by omega⟩
 ·rintro e r _ hr ⟨rfl,⟨rfl,hz⟩|⟨rfl,h2⟩⟩
  ·simp(disch:=first|(simp;done)|omega|rfl) [-getElem?_pos,hr,hz]
  ·simp(disch:=first|(simp;done)|omega|rfl) [-getElem?_pos,hr,h2]
def Ycu{st:St}(hl:s.length<9223372036854775808):A.C.call (.func 180 [] []) [.str s] st=some (.bool (cN s),st):=by
 apply Call.eq
 rw[aV,A.k180 (by simp)]
 simp(disch:=first|(simp;done)|omega|rfl) [-getElem?_pos,A.b180]
 refine c_ [(2,19)] (fun e r s1=>s1=⟨st.h,st.n,[]⟩/\((e=.exit 0/\cN s=true)\/(e=.ret/\cN s=false/\r.get 2=some (.bool false)))) (fun m r s1=>s1=⟨st.h,st.n,[]⟩/\∃k,k+m=s.length/\r.get 3=some (.int .i64 k)/\cN s=cN (s.drop k)) s.length ?_ ?_ ?_
 ·exact⟨rfl,0,by omega,by simp,by simp⟩
 ·rintro m r _ hr hf ⟨rfl,k,hk,h3,hz⟩
  rw[dk]
  cases m with
  |zero=>
   have:k=s.length:=by omega
   subst this
   rw[vR]at hz
   have hz:cN s=true:=hz
   simp(disch:=first|(simp;done)|omega|rfl) [-getElem?_pos,A.jz,hr,hf,h3,hz]
  |succ m=>
   obtain⟨c,hc⟩:=fz (l:=s) (k:=k) (by omega)
   have ew:(k:Int)<(s.length:Int):=by omega
   have gO:k<s.length:=by omega
   have fS:cN s=(kh c&&cN (s.drop (k+1))):=by rw[hz,qk hc];rfl
   rw[Ycw]at fS
   by_cases h1:cR c<48
   ·have:¬(48<=cR c/\cR c<=57):=by omega
    rw[decide_eq_false this,Bool.false_and]at fS
    simp(disch:=first|(simp;done)|omega|rfl) [-getElem?_pos,A.jz,hr,hf,h3,ew,gO,hc,h1,fS]
   ·by_cases h2:57<cR c
    ·have:¬(48<=cR c/\cR c<=57):=by omega
     rw[decide_eq_false this,Bool.false_and]at fS
     simp(disch:=first|(simp;done)|omega|rfl) [-getElem?_pos,A.jz,hr,hf,h3,ew,gO,hc,h1,h2,fS]
    ·have:(48<=cR c/\cR c<=57):=by omega
     rw[decide_eq_true this,Bool.true_and]at fS
     simp(disch:=first|(simp;done)|omega|rfl) [-getElem?_pos,A.jz,hr,hf,h3,ew,gO,hc,h1,h2]
     exact⟨m,by omega,k+1,by omega,by simp,fS⟩
 ·rintro e r _ hr ⟨rfl,⟨rfl,hz⟩|⟨rfl,hz,h2⟩⟩
  ·simp(disch:=first|(simp;done)|omega|rfl) [-getElem?_pos,hr,hz]
  ·simp(disch:=first|(simp;done)|omega|rfl) [-getElem?_pos,hr,h2,hz]
def MZ{s:aU}{st:St}(hl:s.length<9223372036854775808):A.C.call (.func 116 [] []) [.str s] st=some (.bool (ja s),st):=by
 apply Call.eq
 rw[aV,A.k116 (by simp)]
 cases s with
 |nil=>simp(disch:=first|(simp;done)|omega|rfl) [-getElem?_pos,A.b116,aL,ja]
 |cons c s=>
  have hd:ja (c::s)=(cN (c::s)&&(decide (cR c≠48)||decide (s=[]))):=by
   have:decide (c.toNat≠48)=decide (cR c≠48):=by unfold cR;rw[decide_eq_decide];omega
   simp only[ja,this];rfl
  have hdg:=fun st=>Ycu (s:=c::s) (st:=st) hl
  by_cases h0:s=[]
  ·subst h0
   simp(disch:=first|(simp;done)|omega|rfl) [-getElem?_pos,A.b116,aL,hd,hdg]
  ·have h1:0<s.length:=by
    cases s with
    |nil=>exact absurd rfl h0
    |cons=>simp
   have a1:¬((s.length:Int)+1=0):=by omega
   have a2:(1:Int)<(s.length:Int)+1:=by omega
   have a3:(0:Int)<(s.length:Int):=by omega
   by_cases h48:cR c=48
   ·simp(disch:=first|(simp;done)|omega|rfl) [-getElem?_pos,A.b116,aL,hd,hdg,h0,a1,a2,a3,h1,h48]
   ·simp(disch:=first|(simp;done)|omega|rfl) [-getElem?_pos,A.b116,aL,hd,hdg,h0,a1,a2,a3,h1,h48]
def M0{st:St}(hd:cN s=true)(hl:s.length<=18):A.C.call (.func 148 [] []) [.str s] st=some (.int .i64 (aK s:Nat),st):=by
 apply Call.eq
 rw[aV,A.k148 (by simp)]
 simp(disch:=first|(simp;done)|omega|rfl) [-getElem?_pos,A.b148]
 refine c_ [(3,18)] (fun e r s1=>s1=⟨st.h,st.n,[]⟩/\e=.exit 0/\r.get 3=some (.int .i64 (aK s:Nat))) (fun m r s1=>s1=⟨st.h,st.n,[]⟩/\∃k,k+m=s.length/\r.get 4=some (.int .i64 k)/\r.get 3=some (.int .i64 (aK (s.take k):Nat))) s.length ?_ ?_ ?_
 ·exact⟨rfl,0,by omega,by simp,by simp[aK]⟩
 ·rintro m r _ hr hf ⟨rfl,k,hk,h4,h3⟩
  rw[dk]
  cases m with
  |zero=>
   have:k=s.length:=by omega
   subst this
   rw[BF]at h3
   simp(disch:=first|(simp;done)|omega|rfl) [-getElem?_pos,A.qj,hr,hf,h4,h3]
  |succ m=>
   obtain⟨c,hc⟩:=fz (l:=s) (k:=k) (by omega)
   have ew:(k:Int)<(s.length:Int):=by omega
   have gO:k<s.length:=by omega
   have sA:=M1 hd hc
   have hv:=Zm1 hc
   have hb1:=RP hd k (by omega)
   have hb2:=RQ (a:=k) (b:=17) (by omega)
   have b3:((aK (s.take (k+1)):Nat):Int)=10*(aK (s.take k):Nat)+cR c-48:=by
    rw[hv];unfold cR at*;omega
   have b4:((aK (s.take k):Nat):Int)<100000000000000000:=by
    have:(10:Nat)^17=100000000000000000:=by decide
    omega
   generalize hy:aK (s.take (k+1))=y at*
   generalize aK (s.take k)=x at*
   simp(disch:=first|(simp;done)|omega|rfl) [-getElem?_pos,A.qj,hr,hf,h4,h3,ew,gO,hc]
   exact⟨m,by omega,k+1,by omega,by simp,by rw[hy,b3]⟩
 ·rintro e r _ hr ⟨rfl,rfl,h3⟩
  simp(disch:=first|(simp;done)|omega|rfl) [-getElem?_pos,hr,h3]
def A.M3:=A.q Tryz.f205
def A.mA:=A.ql A.M3 0 []
def A.b205:=(fun x0=>A.qb A.M3 [x0]) A.mA
def A.k205:=@A.kk 205 21 [.tmp 2] A.b205 (by kernel_rfl) rfl
def A.b152:=A.q Tryz.f152
def A.k152:=@A.kk 152 15 [.cell 4 (some 2)] A.b152 (by kernel_rfl) rfl
def A.M4:=A.q Tryz.f154
def A.jA:=A.ql A.M4 0 []
def A.b154:=(fun x0=>A.qb A.M4 [x0]) A.jA
def A.k154:=@A.kk 154 41 [.tmp 4] A.b154 (by kernel_rfl) rfl
def A.M6:=A.q Tryz.f204
def A.qo:=A.ql A.M6 0 []
def A.b204:=(fun x0=>A.qb A.M6 [x0]) A.qo
def A.k204:=@A.kk 204 39 [.tmp 4,.tmp 5] A.b204 (by kernel_rfl) rfl
def HW{h:T O}{N:Nat}{v:V}{l:List Int}(hs:Sl h N v (dI l))(hl:l.length<1152921504606846976):Fn A.C 205 [v] h N (fun v' h' N'=>Sl h' N' v' (dI (qq l))):=by
 intro w
 rw[aV,A.k205 (by simp)]
 simp(disch:=first|(simp;done)|omega|rfl) [-getElem?_pos,A.b205]
 refine c_ [(0,0),(3,19)] (fun e r st=>e=.exit 0/\st=⟨h,N,[]⟩/\∃u,r.get 0=some u/\Sl h N u (dI (qq l))) (fun m r st=>st=⟨h,N,[]⟩/\m<=l.length/\∃u,r.get 0=some u/\Sl h N u (dI (l.take m))/\qq (l.take m)=qq l) l.length ?_ ?_ ?_
 ·exact⟨rfl,aZ _,v,rfl,by rw[BF];exact hs,by rw[BF]⟩
 ·rintro m r _ hr hf ⟨rfl,hm,u,h0,hu,ht⟩
  rw[dk]
  have lu:=hu.len
  rw[g_,lW,pA hm]at lu
  cases m with
  |zero=>
   simp(disch:=first|(simp;done)|omega|rfl) [-getElem?_pos,A.mA,hr,hf,h0,lu]
   rw[<-ht];exact hu
  |succ k=>
   obtain⟨d,hd⟩:=fz (l:=l) (k:=k) (by omega)
   have hd':(l.take (k+1))[k]?=some d:=by rw[lX,aQ (by omega)];exact hd
   obtain⟨i,o,c,e,rw,q1,q2,q3,q4⟩:=hu.at (gQ hd')
   have e1:l.take (k+1)=l.take k++[d]:=by rw[HY,hd];rfl
   have k1:(0:Int)<(k:Int)+1:=by omega
   have k2:(k:Int)<(k:Int)+1:=by omega
   have k3:(k:Int)+1-1=(k:Int):=by omega
   by_cases hz:d=0
   ·subst hz
    rw[e1,Zkr]at ht
    obtain⟨v',x1,x2⟩:=RS (w:=[]) hu (lo:=0) (hi:=k) (xW _) (by rw[g_,lW];omega) none (some (.int .i64 k)) (.inr ⟨rfl,rfl⟩) (.inl rfl)
    have x3:((dI (l.take (k+1))).take k).drop 0=dI (l.take k):=by
     rw[AA,dI,<-List.map_take,List.take_take,pA (by omega)];rfl
    rw[x3]at x2
    simp(disch:=first|(simp;done)|omega|rfl) [-getElem?_pos,A.mA,hr,hf,h0,lu,k1,k2,k3,q1,q3,q4,aL,M7,aC,x1]
    exact⟨k,by omega,by omega,x2,ht⟩
   ·rw[e1,Zoe hz,<-e1]at ht
    simp(disch:=first|(simp;done)|omega|rfl) [-getElem?_pos,A.mA,hr,hf,h0,lu,k1,k2,k3,q1,q3,q4,aL,hz]
    rw[<-ht];exact hu
 ·rintro _ r _ hr ⟨rfl,rfl,u,h0,hu⟩
  simp(disch:=first|(simp;done)|omega|rfl) [-getElem?_pos,hr,h0,aF]
  exact⟨ae.refl,hu⟩
def Rg(h:T O)(N:Nat)(v:V)(z:Int):Prop:=∃u,v=.agg [.bool (decide (z<0)),u]/\Dn h N u z.natAbs
def vS{h:T O}{N:Nat}{v:V}{l:List Int}{b:Bool}{n:Nat}(hs:Sl h N v (dI l))(hd:Di l)(hn:vI l=n)(hl:l.length<1152921504606846976):Fn A.C 152 [.bool b,v] h N (fun v' h' N'=>Rg h' N' v' (if b=true then -(n:Int) else n)):=by
 intro w
 rw[aV,A.k152 (by simp)]
 simp(disch:=first|(simp;done)|omega|rfl) [-getElem?_pos,A.b152]
 refine az (HW (hs.ah (ae.refl.new _)) hl) ?_
 rintro u h1 n1 k1 hu
 rw[HZ hd hn]at hu
 have lu:=hu.len
 rw[g_]at lu
 have vT:=k1.le
 have aM:=k1.get N (by omega)
 simp at aM
 have AB:=hu.form.one
 have RT:=hu.form.cells
 unfold V.one at AB
 unfold V.cells at RT
 have k0:=(ae.refl (h:=h) (n:=N)).new (.cells [.bool false,.aa] 92 true)
 have kx:=fun o=>((k0.trans k1).set (i:=N) (o:=o) (aZ N))
 have fD:=fun c1 (hc:c1.length=2)=>hu.setInt (i:=N) (c1:=c1) (e1:=92) (w1:=true) aM (by intro x hx k m;simp at hx;rcases hx with rfl|rfl<;>simp) hc
 cases b with
 |false=>
  simp(disch:=first|(simp;done)|omega|rfl) [-getElem?_pos,lu,ag,aM,AB,RT,bE,aJ,aE,aF]
  refine⟨kx _,u,?_,?_⟩
  ·have:¬(n:Int)<0:=by omega
   simp
  ·exact fD _ rfl
 |true=>
  by_cases hz:n=0
  ·have tD:(ds n).length=0:=by rw[hz,sC];rfl
   simp(disch:=first|(simp;done)|omega|rfl) [-getElem?_pos,lu,tD,ag,aM,AB,RT,bE,aJ,aE,aF]
   refine⟨kx _,u,?_,?_⟩
   ·simp[hz]
   ·simpa[hz,Dn]using fD _ rfl
  ·have tD:¬(ds n).length=0:=fun hc=>hz (BG.1 (kJ hc))
   have xe:(0:Int)<((ds n).length:Int):=by omega
   have oO:0<(ds n).length:=by omega
   have M8:ds n≠[]:=fun hc=>hz (BG.1 hc)
   simp(disch:=first|(simp;done)|omega|rfl) [-getElem?_pos,lu,xe,oO,M8,ag,aM,AB,RT,bE,aJ,aE,aF]
   refine⟨kx _,u,?_,?_⟩
   ·have: -(n:Int)<0:=by omega
    simp[this];try omega
   ·simpa[Dn]using fD _ rfl
end
end Go.Mx
