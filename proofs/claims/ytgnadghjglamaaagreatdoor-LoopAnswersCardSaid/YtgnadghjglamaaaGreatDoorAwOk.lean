/-The table of the known runs is sound, fo-/
import Derived.Test.YtgnadghjglamaaaGreatDoorAwT0
import Derived.Test.YtgnadghjglamaaaGreatDoorAwT3
import Derived.Test.YtgnadghjglamaaaGreatDoorAwT4
import Derived.Test.YtgnadghjglamaaaGreatDoorAwT5
import Derived.Test.YtgnadghjglamaaaGreatDoorStQ
set_option linter.all false
namespace Go.Mx
noncomputable section
open Go
set_option maxRecDepth 1000000
section
variable {P:Program} (hP:Zlg P A.tbl 11)
include hP
def A.t0:Zad P A.TB A.L0 A.E:=Zad.nil.p1 hP A.z0
def A.t1:Zad P A.TB A.L1 A.E:=(A.t0 hP).p1 hP A.z1
def A.t2:Zad P A.TB A.L2 A.E:=(A.t1 hP).p1 hP A.z2
def A.t3:Zad P A.TB A.L3 A.E:=(A.t2 hP).p1 hP A.z3
def A.t4:Zad P A.TB A.L4 A.E:=(A.t3 hP).p1 hP A.z4
def A.t5:Zad P A.TB A.L5 A.E:=(A.t4 hP).p1 hP A.z5
def A.t6:Zad P A.TB A.L6 A.E:=(A.t5 hP).p1 hP A.z6
def A.t7:Zad P A.TB A.L7 A.E:=(A.t6 hP).p1 hP A.z7
def A.t8:Zad P A.TB A.L8 A.E:=(A.t7 hP).p1 hP A.z8
def A.t9:Zad P A.TB A.L9 A.E:=(A.t8 hP).p1 hP A.z9
def A.t10:Zad P A.TB A.L10 A.E:=(A.t9 hP).p1 hP A.z10
def A.t11:Zad P A.TB A.L11 A.E:=(A.t10 hP).p1 hP A.z11
def A.t12:Zad P A.TB A.L12 A.E:=(A.t11 hP).p1 hP A.z12
def A.t13:Zad P A.TB A.L13 A.E:=(A.t12 hP).p1 hP A.z13
def A.t14:Zad P A.TB A.L14 A.E:=(A.t13 hP).p1 hP A.z14
def A.t15:Zad P A.TB A.L15 A.E:=(A.t14 hP).p1 hP A.z15
def A.t16:Zad P A.TB A.L16 A.E:=(A.t15 hP).p1 hP A.z16
def A.t17:Zad P A.TB A.L17 A.E:=(A.t16 hP).p1 hP A.z17
def A.t18:Zad P A.TB A.L18 A.E:=(A.t17 hP).p1 hP A.z18
def A.t19:Zad P A.TB A.L19 A.E:=(A.t18 hP).p1 hP A.z19
def A.t20:Zad P A.TB A.L20 A.E:=(A.t19 hP).p1 hP A.z20
def A.t21:Zad P A.TB A.L21 A.E:=(A.t20 hP).p1 hP A.z21
def A.t22:Zad P A.TB A.L22 A.E:=(A.t21 hP).p1 hP A.z22
def A.t23:Zad P A.TB A.L23 A.E:=(A.t22 hP).p1 hP A.z23
def A.t24:Zad P A.TB A.L24 A.E:=(A.t23 hP).p1 hP A.z24
def A.t25:Zad P A.TB A.L25 A.E:=(A.t24 hP).p1 hP A.z25
def A.t26:Zad P A.TB A.L26 A.E:=(A.t25 hP).p1 hP A.z26
def A.t27:Zad P A.TB A.L27 A.E:=(A.t26 hP).p1 hP A.z27
def A.t28:Zad P A.TB A.L28 A.E:=(A.t27 hP).p1 hP A.z28
def A.t29:Zad P A.TB A.L29 A.E:=(A.t28 hP).p1 hP A.z29
def A.t30:Zad P A.TB A.L30 A.E:=(A.t29 hP).p1 hP A.z30
def A.t31:Zad P A.TB A.L31 A.E:=(A.t30 hP).p1 hP A.z31
def A.t32:Zad P A.TB A.L32 A.E:=(A.t31 hP).p1 hP A.z32
def A.t33:Zad P A.TB A.L33 A.E:=(A.t32 hP).p1 hP A.z33
def A.t34:Zad P A.TB A.L34 A.E:=(A.t33 hP).p1 hP A.z34
def A.t35:Zad P A.TB A.L35 A.E:=(A.t34 hP).p1 hP A.z35
def A.t36:Zad P A.TB A.L36 A.E:=(A.t35 hP).p1 hP A.z36
def A.t37:Zad P A.TB A.L37 A.E:=(A.t36 hP).p1 hP A.z37
def A.t38:Zad P A.TB A.L38 A.E:=(A.t37 hP).p1 hP A.z38
def A.t39:Zad P A.TB A.L39 A.E:=(A.t38 hP).p1 hP A.z39
def A.t40:Zad P A.TB A.L40 A.E:=(A.t39 hP).p1 hP A.z40
def A.t41:Zad P A.TB A.L41 A.E:=(A.t40 hP).p1 hP A.z41
def A.t42:Zad P A.TB A.L42 A.E:=(A.t41 hP).p1 hP A.z42
def A.t43:Zad P A.TB A.L43 A.E:=(A.t42 hP).p1 hP A.z43
def A.t44:Zad P A.TB A.L44 A.E:=(A.t43 hP).p1 hP A.z44
def A.t45:Zad P A.TB A.L45 A.E:=(A.t44 hP).p1 hP A.z45
def A.t46:Zad P A.TB A.L46 A.E:=(A.t45 hP).p1 hP A.z46
def A.t47:Zad P A.TB A.L47 A.E:=(A.t46 hP).p1 hP A.z47
def A.t48:Zad P A.TB A.L48 A.E:=(A.t47 hP).p1 hP A.z48
def A.t49:Zad P A.TB A.L49 A.E:=(A.t48 hP).p1 hP A.z49
def A.t50:Zad P A.TB A.L50 A.E:=(A.t49 hP).p1 hP A.z50
def A.t51:Zad P A.TB A.L51 A.E:=(A.t50 hP).p1 hP A.z51
def A.t52:Zad P A.TB A.L52 A.E:=(A.t51 hP).p1 hP A.z52
def A.t53:Zad P A.TB A.L53 A.E:=(A.t52 hP).p1 hP A.z53
def A.t54:Zad P A.TB A.L54 A.E:=(A.t53 hP).p1 hP A.z54
def A.t55:Zad P A.TB A.L55 A.E:=(A.t54 hP).p1 hP A.z55
def A.t56:Zad P A.TB A.L56 A.E:=(A.t55 hP).p1 hP A.z56
def A.t57:Zad P A.TB A.L57 A.E:=(A.t56 hP).p1 hP A.z57
def A.t58:Zad P A.TB A.L58 A.E:=(A.t57 hP).p1 hP A.z58
def A.t59:Zad P A.TB A.L58 A.E0:=(A.t58 hP).e1 hP A.z59
def A.t60:Zad P A.TB A.L58 A.E1:=(A.t59 hP).e1 hP A.z60
def A.t61:Zad P A.TB A.L59 A.E1:=(A.t60 hP).p1 hP A.z61
def A.t62:Zad P A.TB A.L60 A.E1:=(A.t61 hP).p1 hP A.z62
def A.t63:Zad P A.TB A.L61 A.E1:=(A.t62 hP).p1 hP A.z63
def A.t64:Zad P A.TB A.L62 A.E1:=(A.t63 hP).p1 hP A.z64
def A.t65:Zad P A.TB A.L63 A.E1:=(A.t64 hP).p1 hP A.z65
def A.t66:Zad P A.TB A.L64 A.E1:=(A.t65 hP).p1 hP A.z66
def A.t67:Zad P A.TB A.L65 A.E1:=(A.t66 hP).p1 hP A.z67
def A.t68:Zad P A.TB A.L65 A.E2:=(A.t67 hP).e1 hP A.z68
def A.t69:Zad P A.TB A.L65 A.E3:=(A.t68 hP).e1 hP A.z69
def A.t70:Zad P A.TB A.L65 A.E4:=(A.t69 hP).e1 hP A.z70
def A.t71:Zad P A.TB A.L66 A.E4:=(A.t70 hP).p1 hP A.z71
def A.t72:Zad P A.TB A.L66 A.E5:=(A.t71 hP).e1 hP A.z72
def A.t73:Zad P A.TB A.L66 A.E6:=(A.t72 hP).e1 hP A.z73
def A.t74:Zad P A.TB A.L66 A.E7:=(A.t73 hP).e1 hP A.z74
def A.t75:Zad P A.TB A.L67 A.E7:=(A.t74 hP).p1 hP A.z75
def A.t76:Zad P A.TB A.L68 A.E7:=(A.t75 hP).p1 hP A.z76
def A.t77:Zad P A.TB A.L69 A.E7:=(A.t76 hP).p1 hP A.z77
def A.t78:Zad P A.TB A.L70 A.E7:=(A.t77 hP).p1 hP A.z78
def A.t79:Zad P A.TB A.L71 A.E7:=(A.t78 hP).p1 hP A.z79
def A.t80:Zad P A.TB A.L72 A.E7:=(A.t79 hP).p1 hP A.z80
def A.t81:Zad P A.TB A.L72 A.E8:=(A.t80 hP).e1 hP A.z81
def A.t82:Zad P A.TB A.L72 A.E9:=(A.t81 hP).e1 hP A.z82
def A.t83:Zad P A.TB A.L73 A.E9:=(A.t82 hP).p1 hP A.z83
def A.t84:Zad P A.TB A.L74 A.E9:=(A.t83 hP).p1 hP A.z84
def A.t85:Zad P A.TB A.L74 A.E10:=(A.t84 hP).e1 hP A.z85
def A.t86:Zad P A.TB A.L74 A.E11:=(A.t85 hP).e1 hP A.z86
def A.t87:Zad P A.TB A.L75 A.E11:=(A.t86 hP).p1 hP A.z87
def A.t88:Zad P A.TB A.L76 A.E11:=(A.t87 hP).p1 hP A.z88
def A.t89:Zad P A.TB A.L77 A.E11:=(A.t88 hP).p1 hP A.z89
def A.t90:Zad P A.TB A.L78 A.E11:=(A.t89 hP).p1 hP A.z90
def A.t91:Zad P A.TB A.L79 A.E11:=(A.t90 hP).p1 hP A.z91
def A.t92:Zad P A.TB A.L80 A.E11:=(A.t91 hP).p1 hP A.z92
def A.t93:Zad P A.TB A.L81 A.E11:=(A.t92 hP).p1 hP A.z93
def A.t94:Zad P A.TB A.L81 A.E12:=(A.t93 hP).e1 hP A.z94
def A.t95:Zad P A.TB A.L81 A.E13:=(A.t94 hP).e1 hP A.z95
def A.t96:Zad P A.TB A.L81 A.E14:=(A.t95 hP).e1 hP A.z96
def A.t97:Zad P A.TB A.L81 A.E15:=(A.t96 hP).e1 hP A.z97
def A.t98:Zad P A.TB A.L82 A.E15:=(A.t97 hP).p1 hP A.z98
def A.t99:Zad P A.TB A.L83 A.E15:=(A.t98 hP).p1 hP A.z99
def A.t100:Zad P A.TB A.L83 A.E16:=(A.t99 hP).e1 hP A.z100
def A.t101:Zad P A.TB A.L83 A.E17:=(A.t100 hP).e1 hP A.z101
def A.t102:Zad P A.TB A.L83 A.E18:=(A.t101 hP).e1 hP A.z102
def A.t103:Zad P A.TB A.L83 A.E19:=(A.t102 hP).e1 hP A.z103
def A.t104:Zad P A.TB A.L83 A.E20:=(A.t103 hP).e1 hP A.z104
def A.t105:Zad P A.TB A.L83 A.E21:=(A.t104 hP).e1 hP A.z105
def A.t106:Zad P A.TB A.L83 A.E22:=(A.t105 hP).e1 hP A.z106
def A.t107:Zad P A.TB A.L83 A.E23:=(A.t106 hP).e1 hP A.z107
def A.t108:Zad P A.TB A.L83 A.E24:=(A.t107 hP).e1 hP A.z108
def A.t109:Zad P A.TB A.L83 A.E25:=(A.t108 hP).e1 hP A.z109
def A.t110:Zad P A.TB A.L83 A.E26:=(A.t109 hP).e1 hP A.z110
def A.t111:Zad P A.TB A.L84 A.E26:=(A.t110 hP).p1 hP A.z111
def A.t112:Zad P A.TB A.L85 A.E26:=(A.t111 hP).p1 hP A.z112
def A.t113:Zad P A.TB A.L85 A.E27:=(A.t112 hP).e1 hP A.z113
def A.t114:Zad P A.TB A.L85 A.E28:=(A.t113 hP).e1 hP A.z114
def A.t115:Zad P A.TB A.L85 A.E29:=(A.t114 hP).e1 hP A.z115
def A.t116:Zad P A.TB A.L85 A.E30:=(A.t115 hP).e1 hP A.z116
def A.t117:Zad P A.TB A.L85 A.E31:=(A.t116 hP).e1 hP A.z117
def A.t118:Zad P A.TB A.L85 A.E32:=(A.t117 hP).e1 hP A.z118
def A.t119:Zad P A.TB A.L85 A.E33:=(A.t118 hP).e1 hP A.z119
def A.t120:Zad P A.TB A.L85 A.E34:=(A.t119 hP).e1 hP A.z120
def A.t121:Zad P A.TB A.L85 A.E35:=(A.t120 hP).e1 hP A.z121
def A.t122:Zad P A.TB A.L85 A.E36:=(A.t121 hP).e1 hP A.z122
def A.t123:Zad P A.TB A.L85 A.E37:=(A.t122 hP).e1 hP A.z123
def A.t124:Zad P A.TB A.L85 A.E38:=(A.t123 hP).e1 hP A.z124
def A.t125:Zad P A.TB A.L86 A.E38:=(A.t124 hP).p1 hP A.z125
def A.t126:Zad P A.TB A.L87 A.E38:=(A.t125 hP).p1 hP A.z126
def A.t127:Zad P A.TB A.L88 A.E38:=(A.t126 hP).p1 hP A.z127
def A.t128:Zad P A.TB A.L89 A.E38:=(A.t127 hP).p1 hP A.z128
def A.t129:Zad P A.TB A.L90 A.E38:=(A.t128 hP).p1 hP A.z129
def A.t130:Zad P A.TB A.L91 A.E38:=(A.t129 hP).p1 hP A.z130
def A.t131:Zad P A.TB A.L91 A.E39:=(A.t130 hP).e1 hP A.z131
def A.t132:Zad P A.TB A.L91 A.E40:=(A.t131 hP).e1 hP A.z132
def A.t133:Zad P A.TB A.L91 A.E41:=(A.t132 hP).e1 hP A.z133
def A.t134:Zad P A.TB A.L91 A.E42:=(A.t133 hP).e1 hP A.z134
def A.t135:Zad P A.TB A.L91 A.E43:=(A.t134 hP).e1 hP A.z135
def A.t136:Zad P A.TB A.L91 A.E44:=(A.t135 hP).e1 hP A.z136
def A.t137:Zad P A.TB A.L92 A.E44:=(A.t136 hP).p1 hP A.z137
def A.t138:Zad P A.TB A.L93 A.E44:=(A.t137 hP).p1 hP A.z138
def A.t139:Zad P A.TB A.L94 A.E44:=(A.t138 hP).p1 hP A.z139
def A.t140:Zad P A.TB A.L95 A.E44:=(A.t139 hP).p1 hP A.z140
def A.t141:Zad P A.TB A.L96 A.E44:=(A.t140 hP).p1 hP A.z141
def A.t142:Zad P A.TB A.L96 A.E45:=(A.t141 hP).e1 hP A.z142
def A.t143:Zad P A.TB A.L97 A.E45:=(A.t142 hP).p1 hP A.z143
def A.t144:Zad P A.TB A.L97 A.E46:=(A.t143 hP).e1 hP A.z144
def A.t145:Zad P A.TB A.L97 A.E47:=(A.t144 hP).e1 hP A.z145
def A.t146:Zad P A.TB A.L97 A.E48:=(A.t145 hP).e1 hP A.z146
def A.t147:Zad P A.TB A.L97 A.E49:=(A.t146 hP).e1 hP A.z147
def A.t148:Zad P A.TB A.L97 A.E50:=(A.t147 hP).e1 hP A.z148
def A.t149:Zad P A.TB A.L97 A.E51:=(A.t148 hP).e1 hP A.z149
def A.t150:Zad P A.TB A.L97 A.E52:=(A.t149 hP).e1 hP A.z150
def A.t151:Zad P A.TB A.L98 A.E52:=(A.t150 hP).p1 hP A.z151
def A.t152:Zad P A.TB A.L99 A.E52:=(A.t151 hP).p1 hP A.z152
def A.t153:Zad P A.TB A.L100 A.E52:=(A.t152 hP).p1 hP A.z153
def A.t154:Zad P A.TB A.L101 A.E52:=(A.t153 hP).p1 hP A.z154
def A.t155:Zad P A.TB A.L102 A.E52:=(A.t154 hP).p1 hP A.z155
def A.t156:Zad P A.TB A.L103 A.E52:=(A.t155 hP).p1 hP A.z156
def A.t157:Zad P A.TB A.L104 A.E52:=(A.t156 hP).p1 hP A.z157
def A.t158:Zad P A.TB A.L105 A.E52:=(A.t157 hP).p1 hP A.z158
def A.t159:Zad P A.TB A.L106 A.E52:=(A.t158 hP).p1 hP A.z159
def A.t160:Zad P A.TB A.L107 A.E52:=(A.t159 hP).p1 hP A.z160
def A.t161:Zad P A.TB A.L108 A.E52:=(A.t160 hP).p1 hP A.z161
def A.t162:Zad P A.TB A.L109 A.E52:=(A.t161 hP).p1 hP A.z162
def A.t163:Zad P A.TB A.L110 A.E52:=(A.t162 hP).p1 hP A.z163
def A.t164:Zad P A.TB A.L111 A.E52:=(A.t163 hP).p1 hP A.z164
def A.t165:Zad P A.TB A.L112 A.E52:=(A.t164 hP).p1 hP A.z165
def A.t166:Zad P A.TB A.L113 A.E52:=(A.t165 hP).p1 hP A.z166
def A.t167:Zad P A.TB A.L114 A.E52:=(A.t166 hP).p1 hP A.z167
def A.t168:Zad P A.TB A.L115 A.E52:=(A.t167 hP).p1 hP A.z168
def A.t169:Zad P A.TB A.L116 A.E52:=(A.t168 hP).p1 hP A.z169
def A.t170:Zad P A.TB A.L117 A.E52:=(A.t169 hP).p1 hP A.z170
def A.t171:Zad P A.TB A.L118 A.E52:=(A.t170 hP).p1 hP A.z171
def A.t172:Zad P A.TB A.L119 A.E52:=(A.t171 hP).p1 hP A.z172
def A.t173:Zad P A.TB A.L119 A.E53:=(A.t172 hP).e1 hP A.z173
def A.t174:Zad P A.TB A.L119 A.E54:=(A.t173 hP).e1 hP A.z174
def A.t175:Zad P A.TB A.L120 A.E54:=(A.t174 hP).p1 hP A.z175
def A.t176:Zad P A.TB A.L121 A.E54:=(A.t175 hP).p1 hP A.z176
def A.t177:Zad P A.TB A.L122 A.E54:=(A.t176 hP).p1 hP A.z177
def A.t178:Zad P A.TB A.L123 A.E54:=(A.t177 hP).p1 hP A.z178
def A.t179:Zad P A.TB A.L124 A.E54:=(A.t178 hP).p1 hP A.z179
def A.t180:Zad P A.TB A.L125 A.E54:=(A.t179 hP).p1 hP A.z180
def A.t181:Zad P A.TB A.L126 A.E54:=(A.t180 hP).p1 hP A.z181
def A.t182:Zad P A.TB A.L127 A.E54:=(A.t181 hP).p1 hP A.z182
def A.t183:Zad P A.TB A.L128 A.E54:=(A.t182 hP).p1 hP A.z183
def A.t184:Zad P A.TB A.L128 A.E55:=(A.t183 hP).e1 hP A.z184
def A.t185:Zad P A.TB A.L128 A.E56:=(A.t184 hP).e1 hP A.z185
def A.t186:Zad P A.TB A.L128 A.E57:=(A.t185 hP).e1 hP A.z186
def A.t187:Zad P A.TB A.L128 A.E58:=(A.t186 hP).e1 hP A.z187
def A.t188:Zad P A.TB A.L128 A.E59:=(A.t187 hP).e1 hP A.z188
def A.t189:Zad P A.TB A.L129 A.E59:=(A.t188 hP).p1 hP A.z189
def A.t190:Zad P A.TB A.L129 A.E60:=(A.t189 hP).e1 hP A.z190
def A.t191:Zad P A.TB A.L129 A.E61:=(A.t190 hP).e1 hP A.z191
def A.t192:Zad P A.TB A.L129 A.E62:=(A.t191 hP).e1 hP A.z192
def A.t193:Zad P A.TB A.L129 A.E63:=(A.t192 hP).e1 hP A.z193
def A.t194:Zad P A.TB A.L129 A.E64:=(A.t193 hP).e1 hP A.z194
def A.t195:Zad P A.TB A.L129 A.E65:=(A.t194 hP).e1 hP A.z195
def A.t196:Zad P A.TB A.L129 A.E66:=(A.t195 hP).e1 hP A.z196
def A.t197:Zad P A.TB A.L129 A.E67:=(A.t196 hP).e1 hP A.z197
def A.t198:Zad P A.TB A.L130 A.E67:=(A.t197 hP).p1 hP A.z198
def A.t199:Zad P A.TB A.L131 A.E67:=(A.t198 hP).p1 hP A.z199
def A.t200:Zad P A.TB A.L132 A.E67:=(A.t199 hP).p1 hP A.z200
def A.t201:Zad P A.TB A.L133 A.E67:=(A.t200 hP).p1 hP A.z201
def A.t202:Zad P A.TB A.L134 A.E67:=(A.t201 hP).p1 hP A.z202
def A.t203:Zad P A.TB A.L135 A.E67:=(A.t202 hP).p1 hP A.z203
def A.t204:Zad P A.TB A.L136 A.E67:=(A.t203 hP).p1 hP A.z204
def A.t205:Zad P A.TB A.L136 A.E68:=(A.t204 hP).e1 hP A.z205
def A.t206:Zad P A.TB A.L136 A.E69:=(A.t205 hP).e1 hP A.z206
def A.t207:Zad P A.TB A.L136 A.E70:=(A.t206 hP).e1 hP A.z207
def A.t208:Zad P A.TB A.L136 A.E71:=(A.t207 hP).e1 hP A.z208
def A.t209:Zad P A.TB A.L136 A.E72:=(A.t208 hP).e1 hP A.z209
def A.t210:Zad P A.TB A.L136 A.E73:=(A.t209 hP).e1 hP A.z210
def A.t211:Zad P A.TB A.L136 A.E74:=(A.t210 hP).e1 hP A.z211
def A.t212:Zad P A.TB A.L136 A.E75:=(A.t211 hP).e1 hP A.z212
def A.t213:Zad P A.TB A.L136 A.E76:=(A.t212 hP).e1 hP A.z213
def A.t214:Zad P A.TB A.L136 A.E77:=(A.t213 hP).e1 hP A.z214
def A.t215:Zad P A.TB A.L136 A.E78:=(A.t214 hP).e1 hP A.z215
def A.t216:Zad P A.TB A.L136 A.E79:=(A.t215 hP).e1 hP A.z216
def A.t217:Zad P A.TB A.L137 A.E79:=(A.t216 hP).p1 hP A.z217
def A.t218:Zad P A.TB A.L138 A.E79:=(A.t217 hP).p1 hP A.z218
def A.t219:Zad P A.TB A.L138 A.E80:=(A.t218 hP).e1 hP A.z219
def A.t220:Zad P A.TB A.L138 A.E81:=(A.t219 hP).e1 hP A.z220
def A.t221:Zad P A.TB A.L138 A.E82:=(A.t220 hP).e1 hP A.z221
def A.t222:Zad P A.TB A.L138 A.E83:=(A.t221 hP).e1 hP A.z222
def A.t223:Zad P A.TB A.L138 A.E84:=(A.t222 hP).e1 hP A.z223
def A.t224:Zad P A.TB A.L138 A.E85:=(A.t223 hP).e1 hP A.z224
def A.t225:Zad P A.TB A.L138 A.E86:=(A.t224 hP).e1 hP A.z225
def A.t226:Zad P A.TB A.L138 A.E87:=(A.t225 hP).e1 hP A.z226
def A.t227:Zad P A.TB A.L138 A.E88:=(A.t226 hP).e1 hP A.z227
def A.t228:Zad P A.TB A.L138 A.E89:=(A.t227 hP).e1 hP A.z228
def A.t229:Zad P A.TB A.L138 A.E90:=(A.t228 hP).e1 hP A.z229
def A.t230:Zad P A.TB A.L139 A.E90:=(A.t229 hP).p1 hP A.z230
def A.t231:Zad P A.TB A.L140 A.E90:=(A.t230 hP).p1 hP A.z231
def A.t232:Zad P A.TB A.L141 A.E90:=(A.t231 hP).p1 hP A.z232
def A.t233:Zad P A.TB A.L142 A.E90:=(A.t232 hP).p1 hP A.z233
def A.t234:Zad P A.TB A.L142 A.E91:=(A.t233 hP).e1 hP A.z234
def A.t235:Zad P A.TB A.L142 A.E92:=(A.t234 hP).e1 hP A.z235
def A.t236:Zad P A.TB A.L142 A.E93:=(A.t235 hP).e1 hP A.z236
def A.t237:Zad P A.TB A.L142 A.E94:=(A.t236 hP).e1 hP A.z237
def A.t238:Zad P A.TB A.L142 A.E95:=(A.t237 hP).e1 hP A.z238
def A.t239:Zad P A.TB A.L142 A.E96:=(A.t238 hP).e1 hP A.z239
def A.t240:Zad P A.TB A.L142 A.E97:=(A.t239 hP).e1 hP A.z240
def A.t241:Zad P A.TB A.L143 A.E97:=(A.t240 hP).p1 hP A.z241
def A.t242:Zad P A.TB A.L143 A.E98:=(A.t241 hP).e1 hP A.z242
def A.t243:Zad P A.TB A.L143 A.E99:=(A.t242 hP).e1 hP A.z243
def A.t244:Zad P A.TB A.L143 A.E100:=(A.t243 hP).e1 hP A.z244
def A.t245:Zad P A.TB A.L143 A.E101:=(A.t244 hP).e1 hP A.z245
def A.t246:Zad P A.TB A.L143 A.E102:=(A.t245 hP).e1 hP A.z246
def A.t247:Zad P A.TB A.L143 A.E103:=(A.t246 hP).e1 hP A.z247
def A.t248:Zad P A.TB A.L144 A.E103:=(A.t247 hP).p1 hP A.z248
def A.t249:Zad P A.TB A.L145 A.E103:=(A.t248 hP).p1 hP A.z249
def A.t250:Zad P A.TB A.L146 A.E103:=(A.t249 hP).p1 hP A.z250
def A.t251:Zad P A.TB A.L146 A.E104:=(A.t250 hP).e1 hP A.z251
def A.t252:Zad P A.TB A.L147 A.E104:=(A.t251 hP).p1 hP A.z252
def A.t253:Zad P A.TB A.L148 A.E104:=(A.t252 hP).p1 hP A.z253
def A.t254:Zad P A.TB A.L149 A.E104:=(A.t253 hP).p1 hP A.z254
def A.t255:Zad P A.TB A.L149 A.E105:=(A.t254 hP).e1 hP A.z255
def A.t256:Zad P A.TB A.L150 A.E105:=(A.t255 hP).p1 hP A.z256
def A.t257:Zad P A.TB A.L151 A.E105:=(A.t256 hP).p1 hP A.z257
def A.t258:Zad P A.TB A.L152 A.E105:=(A.t257 hP).p1 hP A.z258
def A.t259:Zad P A.TB A.L152 A.E106:=(A.t258 hP).e1 hP A.z259
def A.t260:Zad P A.TB A.L152 A.E107:=(A.t259 hP).e1 hP A.z260
def A.t261:Zad P A.TB A.L152 A.E108:=(A.t260 hP).e1 hP A.z261
def A.t262:Zad P A.TB A.L152 A.E109:=(A.t261 hP).e1 hP A.z262
def A.t263:Zad P A.TB A.L152 A.E110:=(A.t262 hP).e1 hP A.z263
def A.t264:Zad P A.TB A.L152 A.E111:=(A.t263 hP).e1 hP A.z264
def A.t265:Zad P A.TB A.L152 A.E112:=(A.t264 hP).e1 hP A.z265
def A.t266:Zad P A.TB A.L152 A.E113:=(A.t265 hP).e1 hP A.z266
def A.t267:Zad P A.TB A.L152 A.E114:=(A.t266 hP).e1 hP A.z267
def A.t268:Zad P A.TB A.L152 A.E115:=(A.t267 hP).e1 hP A.z268
def A.t269:Zad P A.TB A.L153 A.E115:=(A.t268 hP).p1 hP A.z269
def A.t270:Zad P A.TB A.L154 A.E115:=(A.t269 hP).p1 hP A.z270
def A.t271:Zad P A.TB A.L155 A.E115:=(A.t270 hP).p1 hP A.z271
def A.t272:Zad P A.TB A.L156 A.E115:=(A.t271 hP).p1 hP A.z272
def A.t273:Zad P A.TB A.L156 A.E116:=(A.t272 hP).e1 hP A.z273
def A.t274:Zad P A.TB A.L156 A.E117:=(A.t273 hP).e1 hP A.z274
def A.t275:Zad P A.TB A.L156 A.E118:=(A.t274 hP).e1 hP A.z275
def A.t276:Zad P A.TB A.L156 A.E119:=(A.t275 hP).e1 hP A.z276
def A.t277:Zad P A.TB A.L156 A.E120:=(A.t276 hP).e1 hP A.z277
def A.t278:Zad P A.TB A.L156 A.E121:=(A.t277 hP).e1 hP A.z278
def A.t279:Zad P A.TB A.L156 A.E122:=(A.t278 hP).e1 hP A.z279
def A.t280:Zad P A.TB A.L156 A.E123:=(A.t279 hP).e1 hP A.z280
def A.t281:Zad P A.TB A.L156 A.E124:=(A.t280 hP).e1 hP A.z281
def A.t282:Zad P A.TB A.L156 A.E125:=(A.t281 hP).e1 hP A.z282
def A.t283:Zad P A.TB A.L157 A.E125:=(A.t282 hP).p1 hP A.z283
def A.t284:Zad P A.TB A.L158 A.E125:=(A.t283 hP).p1 hP A.z284
def A.t285:Zad P A.TB A.L159 A.E125:=(A.t284 hP).p1 hP A.z285
def A.t286:Zad P A.TB A.L160 A.E125:=(A.t285 hP).p1 hP A.z286
def A.t287:Zad P A.TB A.L161 A.E125:=(A.t286 hP).p1 hP A.z287
def A.t288:Zad P A.TB A.L161 A.E126:=(A.t287 hP).e1 hP A.z288
def A.t289:Zad P A.TB A.L161 A.E127:=(A.t288 hP).e1 hP A.z289
def A.t290:Zad P A.TB A.L161 A.E128:=(A.t289 hP).e1 hP A.z290
def A.t291:Zad P A.TB A.L161 A.E129:=(A.t290 hP).e1 hP A.z291
def A.t292:Zad P A.TB A.L162 A.E129:=(A.t291 hP).p1 hP A.z292
def A.t293:Zad P A.TB A.L163 A.E129:=(A.t292 hP).p1 hP A.z293
def A.t294:Zad P A.TB A.L164 A.E129:=(A.t293 hP).p1 hP A.z294
def A.t295:Zad P A.TB A.L165 A.E129:=(A.t294 hP).p1 hP A.z295
def A.t296:Zad P A.TB A.L166 A.E129:=(A.t295 hP).p1 hP A.z296
def A.t297:Zad P A.TB A.L167 A.E129:=(A.t296 hP).p1 hP A.z297
def A.t298:Zad P A.TB A.L168 A.E129:=(A.t297 hP).p1 hP A.z298
def A.t299:Zad P A.TB A.L169 A.E129:=(A.t298 hP).p1 hP A.z299
def A.t300:Zad P A.TB A.L169 A.E130:=(A.t299 hP).e1 hP A.z300
def A.t301:Zad P A.TB A.L170 A.E130:=(A.t300 hP).p1 hP A.z301
def A.t302:Zad P A.TB A.L171 A.E130:=(A.t301 hP).p1 hP A.z302
def A.t303:Zad P A.TB A.L172 A.E130:=(A.t302 hP).p1 hP A.z303
def A.t304:Zad P A.TB A.L173 A.E130:=(A.t303 hP).p1 hP A.z304
def A.t305:Zad P A.TB A.L174 A.E130:=(A.t304 hP).p1 hP A.z305
def A.t306:Zad P A.TB A.L174 A.E131:=(A.t305 hP).e1 hP A.z306
def A.t307:Zad P A.TB A.L175 A.E131:=(A.t306 hP).p1 hP A.z307
def A.t308:Zad P A.TB A.L176 A.E131:=(A.t307 hP).p1 hP A.z308
def A.t309:Zad P A.TB A.L176 A.E132:=(A.t308 hP).e1 hP A.z309
def A.t310:Zad P A.TB A.L177 A.E132:=(A.t309 hP).p1 hP A.z310
def A.t311:Zad P A.TB A.L178 A.E132:=(A.t310 hP).p1 hP A.z311
def A.t312:Zad P A.TB A.L178 A.E133:=(A.t311 hP).e1 hP A.z312
def A.t313:Zad P A.TB A.L178 A.E134:=(A.t312 hP).e1 hP A.z313
def A.t314:Zad P A.TB A.L178 A.E135:=(A.t313 hP).e1 hP A.z314
def A.t315:Zad P A.TB A.L178 A.E136:=(A.t314 hP).e1 hP A.z315
def A.t316:Zad P A.TB A.L178 A.E137:=(A.t315 hP).e1 hP A.z316
def A.t317:Zad P A.TB A.L178 A.E138:=(A.t316 hP).e1 hP A.z317
def A.t318:Zad P A.TB A.L178 A.E139:=(A.t317 hP).e1 hP A.z318
def A.t319:Zad P A.TB A.L178 A.E140:=(A.t318 hP).e1 hP A.z319
def A.t320:Zad P A.TB A.L178 A.E141:=(A.t319 hP).e1 hP A.z320
def A.t321:Zad P A.TB A.L178 A.E142:=(A.t320 hP).e1 hP A.z321
def A.t322:Zad P A.TB A.L178 A.E143:=(A.t321 hP).e1 hP A.z322
def A.t323:Zad P A.TB A.L178 A.E144:=(A.t322 hP).e1 hP A.z323
def A.t324:Zad P A.TB A.L178 A.E145:=(A.t323 hP).e1 hP A.z324
def A.t325:Zad P A.TB A.L178 A.E146:=(A.t324 hP).e1 hP A.z325
def A.t326:Zad P A.TB A.L178 A.E147:=(A.t325 hP).e1 hP A.z326
def A.t327:Zad P A.TB A.L178 A.E148:=(A.t326 hP).e1 hP A.z327
def A.t328:Zad P A.TB A.L178 A.E149:=(A.t327 hP).e1 hP A.z328
def A.t329:Zad P A.TB A.L178 A.E150:=(A.t328 hP).e1 hP A.z329
def A.t330:Zad P A.TB A.L178 A.E151:=(A.t329 hP).e1 hP A.z330
def A.t331:Zad P A.TB A.L178 A.E152:=(A.t330 hP).e1 hP A.z331
def A.t332:Zad P A.TB A.L179 A.E152:=(A.t331 hP).p1 hP A.z332
def A.t333:Zad P A.TB A.L180 A.E152:=(A.t332 hP).p1 hP A.z333
def A.t334:Zad P A.TB A.L181 A.E152:=(A.t333 hP).p1 hP A.z334
def A.t335:Zad P A.TB A.L182 A.E152:=(A.t334 hP).p1 hP A.z335
def A.t336:Zad P A.TB A.L183 A.E152:=(A.t335 hP).p1 hP A.z336
def A.t337:Zad P A.TB A.L184 A.E152:=(A.t336 hP).p1 hP A.z337
def A.t338:Zad P A.TB A.L185 A.E152:=(A.t337 hP).p1 hP A.z338
def A.t339:Zad P A.TB A.L185 A.E153:=(A.t338 hP).e1 hP A.z339
def A.t340:Zad P A.TB A.L186 A.E153:=(A.t339 hP).p1 hP A.z340
def A.t341:Zad P A.TB A.L187 A.E153:=(A.t340 hP).p1 hP A.z341
def A.t342:Zad P A.TB A.L188 A.E153:=(A.t341 hP).p1 hP A.z342
def A.t343:Zad P A.TB A.L189 A.E153:=(A.t342 hP).p1 hP A.z343
def A.t344:Zad P A.TB A.L190 A.E153:=(A.t343 hP).p1 hP A.z344
def A.t345:Zad P A.TB A.L191 A.E153:=(A.t344 hP).p1 hP A.z345
def A.t346:Zad P A.TB A.L192 A.E153:=(A.t345 hP).p1 hP A.z346
def A.t347:Zad P A.TB A.L192 A.E154:=(A.t346 hP).e1 hP A.z347
def A.t348:Zad P A.TB A.L192 A.E155:=(A.t347 hP).e1 hP A.z348
def A.t349:Zad P A.TB A.L192 A.E156:=(A.t348 hP).e1 hP A.z349
def A.t350:Zad P A.TB A.L192 A.E157:=(A.t349 hP).e1 hP A.z350
def A.t351:Zad P A.TB A.L192 A.E158:=(A.t350 hP).e1 hP A.z351
def A.t352:Zad P A.TB A.L192 A.E159:=(A.t351 hP).e1 hP A.z352
def A.t353:Zad P A.TB A.L192 A.E160:=(A.t352 hP).e1 hP A.z353
def A.t354:Zad P A.TB A.L192 A.E161:=(A.t353 hP).e1 hP A.z354
def A.t355:Zad P A.TB A.L192 A.E162:=(A.t354 hP).e1 hP A.z355
def A.t356:Zad P A.TB A.L192 A.E163:=(A.t355 hP).e1 hP A.z356
def A.t357:Zad P A.TB A.L192 A.E164:=(A.t356 hP).e1 hP A.z357
def A.t358:Zad P A.TB A.L193 A.E164:=(A.t357 hP).p1 hP A.z358
def A.t359:Zad P A.TB A.L194 A.E164:=(A.t358 hP).p1 hP A.z359
def A.t360:Zad P A.TB A.L195 A.E164:=(A.t359 hP).p1 hP A.z360
def A.t361:Zad P A.TB A.L195 A.E165:=(A.t360 hP).e1 hP A.z361
def A.t362:Zad P A.TB A.L195 A.E166:=(A.t361 hP).e1 hP A.z362
def A.t363:Zad P A.TB A.L195 A.E167:=(A.t362 hP).e1 hP A.z363
def A.t364:Zad P A.TB A.L196 A.E167:=(A.t363 hP).p1 hP A.z364
def A.t365:Zad P A.TB A.L197 A.E167:=(A.t364 hP).p1 hP A.z365
def A.t366:Zad P A.TB A.L198 A.E167:=(A.t365 hP).p1 hP A.z366
def A.t367:Zad P A.TB A.L199 A.E167:=(A.t366 hP).p1 hP A.z367
def A.t368:Zad P A.TB A.L200 A.E167:=(A.t367 hP).p1 hP A.z368
def A.t369:Zad P A.TB A.L201 A.E167:=(A.t368 hP).p1 hP A.z369
def A.t370:Zad P A.TB A.L201 A.E168:=(A.t369 hP).e1 hP A.z370
def A.t371:Zad P A.TB A.L201 A.E169:=(A.t370 hP).e1 hP A.z371
def A.t372:Zad P A.TB A.L201 A.E170:=(A.t371 hP).e1 hP A.z372
def A.t373:Zad P A.TB A.L202 A.E170:=(A.t372 hP).p1 hP A.z373
def A.t374:Zad P A.TB A.L202 A.E171:=(A.t373 hP).e1 hP A.z374
def A.t375:Zad P A.TB A.L202 A.E172:=(A.t374 hP).e1 hP A.z375
def A.t376:Zad P A.TB A.L202 A.E173:=(A.t375 hP).e1 hP A.z376
def A.t377:Zad P A.TB A.L202 A.E174:=(A.t376 hP).e1 hP A.z377
def A.t378:Zad P A.TB A.L202 A.E175:=(A.t377 hP).e1 hP A.z378
def A.t379:Zad P A.TB A.L202 A.E176:=(A.t378 hP).e1 hP A.z379
def A.t380:Zad P A.TB A.L202 A.E177:=(A.t379 hP).e1 hP A.z380
def A.t381:Zad P A.TB A.L202 A.E178:=(A.t380 hP).e1 hP A.z381
def A.t382:Zad P A.TB A.L202 A.E179:=(A.t381 hP).e1 hP A.z382
def A.t383:Zad P A.TB A.L202 A.E180:=(A.t382 hP).e1 hP A.z383
def A.t384:Zad P A.TB A.L202 A.E181:=(A.t383 hP).e1 hP A.z384
def A.t385:Zad P A.TB A.L202 A.E182:=(A.t384 hP).e1 hP A.z385
def A.t386:Zad P A.TB A.L202 A.E183:=(A.t385 hP).e1 hP A.z386
def A.t387:Zad P A.TB A.L202 A.E184:=(A.t386 hP).e1 hP A.z387
def A.t388:Zad P A.TB A.L203 A.E184:=(A.t387 hP).p1 hP A.z388
end
open Go Go.Proofs
def A.xOk:Zbx Tryz.prog A.C.x:=Zve fun e he=>by
 simp only[Yss,List.not_mem_nil,or_false]at he
 subst he
 exact(A.t388 A.progOk).p ⟨7,[],.bool true⟩ (Yst (l:=A.L202))
variable {s:Str}
def A.w115:=A.q Tryz.f115
def A.lb115_0:=A.ql A.w115 0 []
def A.b115:=(fun x0=>A.qb A.w115 [x0]) A.lb115_0
def A.k115:=@A.kk 115 17 [.tmp 2] A.b115 (by kernel_rfl) rfl
def A.w180:=A.q Tryz.f180
def A.lb180_0:=A.ql A.w180 0 []
def A.b180:=(fun x0=>A.qb A.w180 [x0]) A.lb180_0
def A.k180:=@A.kk 180 20 [.tmp 2] A.b180 (by kernel_rfl) rfl
def A.b116:=A.q Tryz.f116
def A.k116:=@A.kk 116 18 [.tmp 2] A.b116 (by kernel_rfl) rfl
def A.w148:=A.q Tryz.f148
def A.lb148_0:=A.ql A.w148 0 []
def A.b148:=(fun x0=>A.qb A.w148 [x0]) A.lb148_0
def A.k148:=@A.kk 148 20 [.tmp 2] A.b148 (by kernel_rfl) rfl
def Ze8{st:St}(hl:s.length<9223372036854775808):A.C.call (.func 115 [] []) [.str s] st=some (.int .i64 (slashAt s:Nat),st):=by
 apply Call.eq
 rw[Zaf,A.k115 (by simp)]
 simp(disch:=first|(simp;done)|omega|rfl) [-getElem?_pos,A.b115]
 refine Zak [(2,14)] (fun e r s1=>s1=⟨st.h,st.n,[]⟩∧((e=.exit 0∧slashAt s=s.length)∨(e=.ret∧r.get 2=some (.int .i64 (slashAt s:Nat))))) (fun m r s1=>s1=⟨st.h,st.n,[]⟩∧∃k,k+m=s.length∧r.get 3=some (.int .i64 k)∧slashAt s=k+slashAt (s.drop k)) s.length ?_ ?_ ?_
 ·exact⟨rfl,0,by omega,by simp,by simp⟩
 ·rintro m r _ hr hf ⟨rfl,k,hk,h3,hz⟩
  rw[Zai]
  cases m with
  |zero=>
   have:k=s.length:=by omega
   subst this
   rw[Yt1,slashAt]at hz
   simp(disch:=first|(simp;done)|omega|rfl) [-getElem?_pos,A.lb115_0,hr,hf,h3]
   omega
  |succ m=>
   obtain⟨c,hc⟩:=Zao (l:=s) (k:=k) (by omega)
   have hk1:(k:Int)<(s.length:Int):=by omega
   have hk2:k<s.length:=by omega
   rw[Zaz hc,slashAt]at hz
   by_cases h47:u8I c=47
   ·rw[Yrw (by unfold u8I at h47;omega)]at hz
    simp(disch:=first|(simp;done)|omega|rfl) [-getElem?_pos,A.lb115_0,hr,hf,h3,hk1,hk2,hc,h47,Zag]
    rw[hz];simp
   ·rw[Yrt (by unfold u8I at h47;omega)]at hz
    simp(disch:=first|(simp;done)|omega|rfl) [-getElem?_pos,A.lb115_0,hr,hf,h3,hk1,hk2,hc,h47,Zag]
    exact⟨m,by omega,k+1,by omega,by simp,by omega⟩
 ·rintro e r _ hr ⟨rfl,⟨rfl,hz⟩|⟨rfl,h2⟩⟩
  ·simp(disch:=first|(simp;done)|omega|rfl) [-getElem?_pos,hr,hz]
  ·simp(disch:=first|(simp;done)|omega|rfl) [-getElem?_pos,hr,h2]
def Ycu{st:St}(hl:s.length<9223372036854775808):A.C.call (.func 180 [] []) [.str s] st=some (.bool (Zb7 s),st):=by
 apply Call.eq
 rw[Zaf,A.k180 (by simp)]
 simp(disch:=first|(simp;done)|omega|rfl) [-getElem?_pos,A.b180]
 refine Zak [(2,19)] (fun e r s1=>s1=⟨st.h,st.n,[]⟩∧((e=.exit 0∧Zb7 s=true)∨(e=.ret∧Zb7 s=false∧r.get 2=some (.bool false)))) (fun m r s1=>s1=⟨st.h,st.n,[]⟩∧∃k,k+m=s.length∧r.get 3=some (.int .i64 k)∧Zb7 s=Zb7 (s.drop k)) s.length ?_ ?_ ?_
 ·exact⟨rfl,0,by omega,by simp,by simp⟩
 ·rintro m r _ hr hf ⟨rfl,k,hk,h3,hz⟩
  rw[Zai]
  cases m with
  |zero=>
   have:k=s.length:=by omega
   subst this
   rw[Yt1]at hz
   have hz:Zb7 s=true:=hz
   simp(disch:=first|(simp;done)|omega|rfl) [-getElem?_pos,A.lb180_0,hr,hf,h3,hz]
  |succ m=>
   obtain⟨c,hc⟩:=Zao (l:=s) (k:=k) (by omega)
   have hk1:(k:Int)<(s.length:Int):=by omega
   have hk2:k<s.length:=by omega
   have hz2:Zb7 s=(Zko c&&Zb7 (s.drop (k+1))):=by rw[hz,Zaz hc];rfl
   rw[Ycw]at hz2
   by_cases h1:u8I c<48
   ·have:¬(48≤u8I c∧u8I c≤57):=by omega
    rw[decide_eq_false this,Bool.false_and]at hz2
    simp(disch:=first|(simp;done)|omega|rfl) [-getElem?_pos,A.lb180_0,hr,hf,h3,hk1,hk2,hc,h1,hz2]
   ·by_cases h2:57<u8I c
    ·have:¬(48≤u8I c∧u8I c≤57):=by omega
     rw[decide_eq_false this,Bool.false_and]at hz2
     simp(disch:=first|(simp;done)|omega|rfl) [-getElem?_pos,A.lb180_0,hr,hf,h3,hk1,hk2,hc,h1,h2,hz2]
    ·have:(48≤u8I c∧u8I c≤57):=by omega
     rw[decide_eq_true this,Bool.true_and]at hz2
     simp(disch:=first|(simp;done)|omega|rfl) [-getElem?_pos,A.lb180_0,hr,hf,h3,hk1,hk2,hc,h1,h2]
     exact⟨m,by omega,k+1,by omega,by simp,hz2⟩
 ·rintro e r _ hr ⟨rfl,⟨rfl,hz⟩|⟨rfl,hz,h2⟩⟩
  ·simp(disch:=first|(simp;done)|omega|rfl) [-getElem?_pos,hr,hz]
  ·simp(disch:=first|(simp;done)|omega|rfl) [-getElem?_pos,hr,h2,hz]
def Zfr{s:Str}{st:St}(hl:s.length<9223372036854775808):A.C.call (.func 116 [] []) [.str s] st=some (.bool (Zcs s),st):=by
 apply Call.eq
 rw[Zaf,A.k116 (by simp)]
 cases s with
 |nil=>simp(disch:=first|(simp;done)|omega|rfl) [-getElem?_pos,A.b116,Zag,Zcs]
 |cons c s=>
  have hd:Zcs (c::s)=(Zb7 (c::s)&&(decide (u8I c≠48)||decide (s=[]))):=by
   have:decide (c.toNat≠48)=decide (u8I c≠48):=by unfold u8I;rw[decide_eq_decide];omega
   simp only[Zcs,this];rfl
  have hdg:=fun st=>Ycu (s:=c::s) (st:=st) hl
  by_cases h0:s=[]
  ·subst h0
   simp(disch:=first|(simp;done)|omega|rfl) [-getElem?_pos,A.b116,Zag,hd,hdg]
  ·have h1:0<s.length:=by
    cases s with
    |nil=>exact absurd rfl h0
    |cons=>simp
   have a1:¬((s.length:Int)+1=0):=by omega
   have a2:(1:Int)<(s.length:Int)+1:=by omega
   have a3:(0:Int)<(s.length:Int):=by omega
   by_cases h48:u8I c=48
   ·simp(disch:=first|(simp;done)|omega|rfl) [-getElem?_pos,A.b116,Zag,hd,hdg,h0,a1,a2,a3,h1,h48]
   ·simp(disch:=first|(simp;done)|omega|rfl) [-getElem?_pos,A.b116,Zag,hd,hdg,h0,a1,a2,a3,h1,h48]
def Zi9{st:St}(hd:Zb7 s=true)(hl:s.length≤18):A.C.call (.func 148 [] []) [.str s] st=some (.int .i64 (numV s:Nat),st):=by
 apply Call.eq
 rw[Zaf,A.k148 (by simp)]
 simp(disch:=first|(simp;done)|omega|rfl) [-getElem?_pos,A.b148]
 refine Zak [(3,18)] (fun e r s1=>s1=⟨st.h,st.n,[]⟩∧e=.exit 0∧r.get 3=some (.int .i64 (numV s:Nat))) (fun m r s1=>s1=⟨st.h,st.n,[]⟩∧∃k,k+m=s.length∧r.get 4=some (.int .i64 k)∧r.get 3=some (.int .i64 (numV (s.take k):Nat))) s.length ?_ ?_ ?_
 ·exact⟨rfl,0,by omega,by simp,by simp[numV]⟩
 ·rintro m r _ hr hf ⟨rfl,k,hk,h4,h3⟩
  rw[Zai]
  cases m with
  |zero=>
   have:k=s.length:=by omega
   subst this
   rw[Yt9]at h3
   simp(disch:=first|(simp;done)|omega|rfl) [-getElem?_pos,A.lb148_0,hr,hf,h4,h3]
  |succ m=>
   obtain⟨c,hc⟩:=Zao (l:=s) (k:=k) (by omega)
   have hk1:(k:Int)<(s.length:Int):=by omega
   have hk2:k<s.length:=by omega
   have hd1:=Zkk hd hc
   have hv:=Zm1 hc
   have hb1:=Zpr hd k (by omega)
   have hb2:=Zvf (a:=k) (b:=17) (by omega)
   have b3:((numV (s.take (k+1)):Nat):Int)=10*(numV (s.take k):Nat)+u8I c-48:=by
    rw[hv];unfold u8I at*;omega
   have b4:((numV (s.take k):Nat):Int)<100000000000000000:=by
    have:(10:Nat)^17=100000000000000000:=by decide
    omega
   generalize hy:numV (s.take (k+1))=y at*
   generalize numV (s.take k)=x at*
   simp(disch:=first|(simp;done)|omega|rfl) [-getElem?_pos,A.lb148_0,hr,hf,h4,h3,hk1,hk2,hc]
   exact⟨m,by omega,k+1,by omega,by simp,by rw[hy,b3]⟩
 ·rintro e r _ hr ⟨rfl,rfl,h3⟩
  simp(disch:=first|(simp;done)|omega|rfl) [-getElem?_pos,hr,h3]
def A.w205:=A.q Tryz.f205
def A.lb205_0:=A.ql A.w205 0 []
def A.b205:=(fun x0=>A.qb A.w205 [x0]) A.lb205_0
def A.k205:=@A.kk 205 21 [.tmp 2] A.b205 (by kernel_rfl) rfl
def A.b152:=A.q Tryz.f152
def A.k152:=@A.kk 152 15 [.cell 4 (some 2)] A.b152 (by kernel_rfl) rfl
def A.w154:=A.q Tryz.f154
def A.lb154_0:=A.ql A.w154 0 []
def A.b154:=(fun x0=>A.qb A.w154 [x0]) A.lb154_0
def A.k154:=@A.kk 154 41 [.tmp 4] A.b154 (by kernel_rfl) rfl
def A.w204:=A.q Tryz.f204
def A.lb204_0:=A.ql A.w204 0 []
def A.b204:=(fun x0=>A.qb A.w204 [x0]) A.lb204_0
def A.k204:=@A.kk 204 39 [.tmp 4,.tmp 5] A.b204 (by kernel_rfl) rfl
def Zf5{h:T O}{N:Nat}{v:V}{l:List Int}(hs:Sl h N v (dI l))(hl:l.length<1152921504606846976):Fn A.C 205 [v] h N (fun v' h' N'=>Sl h' N' v' (dI (Zf0 l))):=by
 intro w
 rw[Zaf,A.k205 (by simp)]
 simp(disch:=first|(simp;done)|omega|rfl) [-getElem?_pos,A.b205]
 refine Zak [(0,0),(3,19)] (fun e r st=>e=.exit 0∧st=⟨h,N,[]⟩∧∃u,r.get 0=some u∧Sl h N u (dI (Zf0 l))) (fun m r st=>st=⟨h,N,[]⟩∧m≤l.length∧∃u,r.get 0=some u∧Sl h N u (dI (l.take m))∧Zf0 (l.take m)=Zf0 l) l.length ?_ ?_ ?_
 ·exact⟨rfl,Yru _,v,rfl,by rw[Yt9];exact hs,by rw[Yt9]⟩
 ·rintro m r _ hr hf ⟨rfl,hm,u,h0,hu,ht⟩
  rw[Zai]
  have lu:=hu.len
  rw[Zat,Ysi,Ysz hm]at lu
  cases m with
  |zero=>
   simp(disch:=first|(simp;done)|omega|rfl) [-getElem?_pos,A.lb205_0,hr,hf,h0,lu]
   rw[←ht];exact hu
  |succ k=>
   obtain⟨d,hd⟩:=Zao (l:=l) (k:=k) (by omega)
   have hd':(l.take (k+1))[k]?=some d:=by rw[Ysh,Yrw (by omega)];exact hd
   obtain⟨i,o,c,e,rw,q1,q2,q3,q4⟩:=hu.at (Zbj hd')
   have e1:l.take (k+1)=l.take k++[d]:=by rw[Yup,hd];rfl
   have k1:(0:Int)<(k:Int)+1:=by omega
   have k2:(k:Int)<(k:Int)+1:=by omega
   have k3:(k:Int)+1-1=(k:Int):=by omega
   by_cases hz:d=0
   ·subst hz
    rw[e1,Zkr]at ht
    obtain⟨v',x1,x2⟩:=Zjn (w:=[]) hu (lo:=0) (hi:=k) (Yum _) (by rw[Zat,Ysi];omega) none (some (.int .i64 k)) (.inr ⟨rfl,rfl⟩) (.inl rfl)
    have x3:((dI (l.take (k+1))).take k).drop 0=dI (l.take k):=by
     rw[Yun,dI,←List.map_take,List.take_take,Ysz (by omega)];rfl
    rw[x3]at x2
    simp(disch:=first|(simp;done)|omega|rfl) [-getElem?_pos,A.lb205_0,hr,hf,h0,lu,k1,k2,k3,q1,q3,q4,Zag,Zef,evOpt,x1]
    exact⟨k,by omega,by omega,x2,ht⟩
   ·rw[e1,Zoe hz,←e1]at ht
    simp(disch:=first|(simp;done)|omega|rfl) [-getElem?_pos,A.lb205_0,hr,hf,h0,lu,k1,k2,k3,q1,q3,q4,Zag,hz]
    rw[←ht];exact hu
 ·rintro _ r _ hr ⟨rfl,rfl,u,h0,hu⟩
  simp(disch:=first|(simp;done)|omega|rfl) [-getElem?_pos,hr,h0,Ret]
  exact⟨Keeps.refl,hu⟩
def Rg(h:T O)(N:Nat)(v:V)(z:Int):Prop:=∃u,v=.agg [.bool (decide (z<0)),u]∧Dn h N u z.natAbs
def Zbz{h:T O}{N:Nat}{v:V}{l:List Int}{b:Bool}{n:Nat}(hs:Sl h N v (dI l))(hd:Di l)(hn:vI l=n)(hl:l.length<1152921504606846976):Fn A.C 152 [.bool b,v] h N (fun v' h' N'=>Rg h' N' v' (if b=true then -(n:Int) else n)):=by
 intro w
 rw[Zaf,A.k152 (by simp)]
 simp(disch:=first|(simp;done)|omega|rfl) [-getElem?_pos,A.b152]
 refine Zac (Zf5 (hs.keep (Keeps.refl.new _)) hl) ?_
 rintro u h1 n1 k1 hu
 rw[Zfz hd hn]at hu
 have lu:=hu.len
 rw[Zat]at lu
 have kle:=k1.le
 have hrow:=k1.get N (by omega)
 simp at hrow
 have huo:=hu.form.one
 have huc:=hu.form.cells
 unfold V.one at huo
 unfold V.cells at huc
 have k0:=(Keeps.refl (h:=h) (n:=N)).new (.cells [.bool false,.nilslice] 92 true)
 have kx:=fun o=>((k0.trans k1).set (i:=N) (o:=o) (Yru N))
 have hu2:=fun c1 (hc:c1.length=2)=>hu.setInt (i:=N) (c1:=c1) (e1:=92) (w1:=true) hrow (by intro x hx k m;simp at hx;rcases hx with rfl|rfl<;>simp) hc
 cases b with
 |false=>
  simp(disch:=first|(simp;done)|omega|rfl) [-getElem?_pos,lu,splice,hrow,huo,huc,Zam,Zaj,slc,Ret]
  refine⟨kx _,u,?_,?_⟩
  ·have:¬(n:Int)<0:=by omega
   simp
  ·exact hu2 _ rfl
 |true=>
  by_cases hz:n=0
  ·have hl0:(ds n).length=0:=by rw[hz,Zcm];rfl
   simp(disch:=first|(simp;done)|omega|rfl) [-getElem?_pos,lu,hl0,splice,hrow,huo,huc,Zam,Zaj,slc,Ret]
   refine⟨kx _,u,?_,?_⟩
   ·simp[hz]
   ·simpa[hz,Dn]using hu2 _ rfl
  ·have hl0:¬(ds n).length=0:=fun hc=>hz (Zdq.1 (Yr7 hc))
   have hl1:(0:Int)<((ds n).length:Int):=by omega
   have hl2:0<(ds n).length:=by omega
   have hl3:ds n≠[]:=fun hc=>hz (Zdq.1 hc)
   simp(disch:=first|(simp;done)|omega|rfl) [-getElem?_pos,lu,hl1,hl2,hl3,splice,hrow,huo,huc,Zam,Zaj,slc,Ret]
   refine⟨kx _,u,?_,?_⟩
   ·have: -(n:Int)<0:=by omega
    simp[this];try omega
   ·simpa[Dn]using hu2 _ rfl
end
end Go.Mx
