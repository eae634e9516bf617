/-The table of the known runs is sound, fo-/
import Derived.Test.YtokjleejipaidaaGreatDoorAwT0
import Derived.Test.YtokjleejipaidaaGreatDoorAwT3
import Derived.Test.YtokjleejipaidaaGreatDoorAwT4
import Derived.Test.YtokjleejipaidaaGreatDoorAwT5
import Derived.Test.YtokjleejipaidaaGreatDoorSvN
set_option linter.all false
namespace Go.Mx
open Go
set_option maxRecDepth 1000000
section
variable {P:Program} (hP:Ef P A.dJ 10)
include hP
def A.t0:aZ P A.TB A.L0 A.E:=aZ.nil.p1 hP A.z0
def A.t1:aZ P A.TB A.L1 A.E:=(A.t0 hP).p1 hP A.z1
def A.t2:aZ P A.TB A.L2 A.E:=(A.t1 hP).p1 hP A.z2
def A.t3:aZ P A.TB A.L3 A.E:=(A.t2 hP).p1 hP A.z3
def A.t4:aZ P A.TB A.L4 A.E:=(A.t3 hP).p1 hP A.z4
def A.t5:aZ P A.TB A.L5 A.E:=(A.t4 hP).p1 hP A.z5
def A.t6:aZ P A.TB A.L6 A.E:=(A.t5 hP).p1 hP A.z6
def A.t7:aZ P A.TB A.L7 A.E:=(A.t6 hP).p1 hP A.z7
def A.t8:aZ P A.TB A.L8 A.E:=(A.t7 hP).p1 hP A.z8
def A.t9:aZ P A.TB A.L9 A.E:=(A.t8 hP).p1 hP A.z9
def A.t10:aZ P A.TB A.Tr A.E:=(A.t9 hP).p1 hP A.U6
def A.t11:aZ P A.TB A.Ts A.E:=(A.t10 hP).p1 hP A.z11
def A.t12:aZ P A.TB A.Tt A.E:=(A.t11 hP).p1 hP A.z12
def A.t13:aZ P A.TB A.Tu A.E:=(A.t12 hP).p1 hP A.z13
def A.t14:aZ P A.TB A.Tv A.E:=(A.t13 hP).p1 hP A.z14
def A.t15:aZ P A.TB A.Tw A.E:=(A.t14 hP).p1 hP A.z15
def A.t16:aZ P A.TB A.Ty A.E:=(A.t15 hP).p1 hP A.z16
def A.t17:aZ P A.TB A.Tz A.E:=(A.t16 hP).p1 hP A.z17
def A.t18:aZ P A.TB A.TA A.E:=(A.t17 hP).p1 hP A.z18
def A.t19:aZ P A.TB A.TC A.E:=(A.t18 hP).p1 hP A.z19
def A.t20:aZ P A.TB A.TD A.E:=(A.t19 hP).p1 hP A.z20
def A.t21:aZ P A.TB A.TE A.E:=(A.t20 hP).p1 hP A.z21
def A.t22:aZ P A.TB A.TF A.E:=(A.t21 hP).p1 hP A.z22
def A.t23:aZ P A.TB A.TG A.E:=(A.t22 hP).p1 hP A.z23
def A.t24:aZ P A.TB A.TH A.E:=(A.t23 hP).p1 hP A.z24
def A.t25:aZ P A.TB A.TI A.E:=(A.t24 hP).p1 hP A.z25
def A.t26:aZ P A.TB A.TJ A.E:=(A.t25 hP).p1 hP A.z26
def A.t27:aZ P A.TB A.TK A.E:=(A.t26 hP).p1 hP A.z27
def A.t28:aZ P A.TB A.TL A.E:=(A.t27 hP).p1 hP A.z28
def A.t29:aZ P A.TB A.TM A.E:=(A.t28 hP).p1 hP A.z29
def A.t30:aZ P A.TB A.TN A.E:=(A.t29 hP).p1 hP A.z30
def A.t31:aZ P A.TB A.TO A.E:=(A.t30 hP).p1 hP A.z31
def A.t32:aZ P A.TB A.TQ A.E:=(A.t31 hP).p1 hP A.z32
def A.t33:aZ P A.TB A.TR A.E:=(A.t32 hP).p1 hP A.z33
def A.t34:aZ P A.TB A.TS A.E:=(A.t33 hP).p1 hP A.z34
def A.t35:aZ P A.TB A.TT A.E:=(A.t34 hP).p1 hP A.z35
def A.t36:aZ P A.TB A.TU A.E:=(A.t35 hP).p1 hP A.z36
def A.t37:aZ P A.TB A.TV A.E:=(A.t36 hP).p1 hP A.z37
def A.t38:aZ P A.TB A.TW A.E:=(A.t37 hP).p1 hP A.z38
def A.t39:aZ P A.TB A.TX A.E:=(A.t38 hP).p1 hP A.z39
def A.t40:aZ P A.TB A.TY A.E:=(A.t39 hP).p1 hP A.z40
def A.t41:aZ P A.TB A.TZ A.E:=(A.t40 hP).p1 hP A.z41
def A.t42:aZ P A.TB A.T0 A.E:=(A.t41 hP).p1 hP A.z42
def A.t43:aZ P A.TB A.T1 A.E:=(A.t42 hP).p1 hP A.z43
def A.t44:aZ P A.TB A.Ge A.E:=(A.t43 hP).p1 hP A.z44
def A.t45:aZ P A.TB A.Ge A.E0:=(A.t44 hP).e1 hP A.z45
def A.t46:aZ P A.TB A.Ge A.E1:=(A.t45 hP).e1 hP A.z46
def A.t47:aZ P A.TB A.T2 A.E1:=(A.t46 hP).p1 hP A.z47
def A.t48:aZ P A.TB A.T3 A.E1:=(A.t47 hP).p1 hP A.z48
def A.t49:aZ P A.TB A.T4 A.E1:=(A.t48 hP).p1 hP A.z49
def A.t50:aZ P A.TB A.T5 A.E1:=(A.t49 hP).p1 hP A.z50
def A.t51:aZ P A.TB A.T6 A.E1:=(A.t50 hP).p1 hP A.z51
def A.t52:aZ P A.TB A.T7 A.E1:=(A.t51 hP).p1 hP A.z52
def A.t53:aZ P A.TB A.T8 A.E1:=(A.t52 hP).p1 hP A.z53
def A.t54:aZ P A.TB A.T9 A.E1:=(A.t53 hP).p1 hP A.z54
def A.t55:aZ P A.TB A.Ua A.E1:=(A.t54 hP).p1 hP A.z55
def A.t56:aZ P A.TB A.Ub A.E1:=(A.t55 hP).p1 hP A.z56
def A.t57:aZ P A.TB A.Uc A.E1:=(A.t56 hP).p1 hP A.z57
def A.t58:aZ P A.TB A.Ud A.E1:=(A.t57 hP).p1 hP A.z58
def A.t59:aZ P A.TB A.Ue A.E1:=(A.t58 hP).p1 hP A.z59
def A.t60:aZ P A.TB A.Uf A.E1:=(A.t59 hP).p1 hP A.z60
def A.t61:aZ P A.TB A.Ug A.E1:=(A.t60 hP).p1 hP A.z61
def A.t62:aZ P A.TB A.Uh A.E1:=(A.t61 hP).p1 hP A.z62
def A.t63:aZ P A.TB A.Ui A.E1:=(A.t62 hP).p1 hP A.z63
def A.t64:aZ P A.TB A.Uj A.E1:=(A.t63 hP).p1 hP A.z64
def A.t65:aZ P A.TB A.Uk A.E1:=(A.t64 hP).p1 hP A.z65
def A.t66:aZ P A.TB A.Ul A.E1:=(A.t65 hP).p1 hP A.z66
def A.t67:aZ P A.TB A.Um A.E1:=(A.t66 hP).p1 hP A.z67
def A.t68:aZ P A.TB A.Un A.E1:=(A.t67 hP).p1 hP A.z68
def A.t69:aZ P A.TB A.Uo A.E1:=(A.t68 hP).p1 hP A.z69
def A.t70:aZ P A.TB A.Up A.E1:=(A.t69 hP).p1 hP A.z70
def A.t71:aZ P A.TB A.Uq A.E1:=(A.t70 hP).p1 hP A.z71
def A.t72:aZ P A.TB A.Gf A.E1:=(A.t71 hP).p1 hP A.z72
def A.t73:aZ P A.TB A.Gf A.E2:=(A.t72 hP).e1 hP A.z73
def A.t74:aZ P A.TB A.Gf A.E3:=(A.t73 hP).e1 hP A.z74
def A.t75:aZ P A.TB A.Ur A.E3:=(A.t74 hP).p1 hP A.z75
def A.t76:aZ P A.TB A.zZ A.E3:=(A.t75 hP).p1 hP A.z76
def A.t77:aZ P A.TB A.zZ A.E4:=(A.t76 hP).e1 hP A.z77
def A.t78:aZ P A.TB A.zZ A.E5:=(A.t77 hP).e1 hP A.z78
def A.t79:aZ P A.TB A.zZ A.E6:=(A.t78 hP).e1 hP A.z79
def A.t80:aZ P A.TB A.zZ A.E7:=(A.t79 hP).e1 hP A.z80
def A.t81:aZ P A.TB A.Us A.E7:=(A.t80 hP).p1 hP A.z81
def A.t82:aZ P A.TB A.Ut A.E7:=(A.t81 hP).p1 hP A.z82
def A.t83:aZ P A.TB A.Uu A.E7:=(A.t82 hP).p1 hP A.z83
def A.t84:aZ P A.TB A.Uv A.E7:=(A.t83 hP).p1 hP A.z84
def A.t85:aZ P A.TB A.Uw A.E7:=(A.t84 hP).p1 hP A.z85
def A.t86:aZ P A.TB A.Cu A.E7:=(A.t85 hP).p1 hP A.z86
def A.t87:aZ P A.TB A.Cu A.E8:=(A.t86 hP).e1 hP A.z87
def A.t88:aZ P A.TB A.Cu A.E9:=(A.t87 hP).e1 hP A.z88
def A.t89:aZ P A.TB A.Cu A.tH:=(A.t88 hP).e1 hP A.z89
def A.t90:aZ P A.TB A.Ux A.tH:=(A.t89 hP).p1 hP A.z90
def A.t91:aZ P A.TB A.Uy A.tH:=(A.t90 hP).p1 hP A.z91
def A.t92:aZ P A.TB A.Uz A.tH:=(A.t91 hP).p1 hP A.z92
def A.t93:aZ P A.TB A.UA A.tH:=(A.t92 hP).p1 hP A.z93
def A.t94:aZ P A.TB A.UC A.tH:=(A.t93 hP).p1 hP A.z94
def A.t95:aZ P A.TB A.UD A.tH:=(A.t94 hP).p1 hP A.z95
def A.t96:aZ P A.TB A.K8 A.tH:=(A.t95 hP).p1 hP A.z96
def A.t97:aZ P A.TB A.K8 A.Gg:=(A.t96 hP).e1 hP A.z97
def A.t98:aZ P A.TB A.UE A.Gg:=(A.t97 hP).p1 hP A.z98
def A.t99:aZ P A.TB A.Gh A.Gg:=(A.t98 hP).p1 hP A.z99
def A.t100:aZ P A.TB A.Gh A.UF:=(A.t99 hP).e1 hP A.U7
def A.t101:aZ P A.TB A.Gh A.K9:=(A.t100 hP).e1 hP A.U8
def A.t102:aZ P A.TB A.yz A.K9:=(A.t101 hP).p1 hP A.U9
def A.t103:aZ P A.TB A.yz A.UG:=(A.t102 hP).e1 hP A.Va
def A.t104:aZ P A.TB A.yz A.UH:=(A.t103 hP).e1 hP A.Vb
def A.t105:aZ P A.TB A.yz A.UI:=(A.t104 hP).e1 hP A.Vc
def A.t106:aZ P A.TB A.yz A.UJ:=(A.t105 hP).e1 hP A.Vd
def A.t107:aZ P A.TB A.yz A.Gi:=(A.t106 hP).e1 hP A.Ve
def A.t108:aZ P A.TB A.UK A.Gi:=(A.t107 hP).p1 hP A.Vg
def A.t109:aZ P A.TB A.jr A.Gi:=(A.t108 hP).p1 hP A.Vh
def A.t110:aZ P A.TB A.jr A.UL:=(A.t109 hP).e1 hP A.Vi
def A.t111:aZ P A.TB A.jr A.UM:=(A.t110 hP).e1 hP A.Vj
def A.t112:aZ P A.TB A.jr A.UN:=(A.t111 hP).e1 hP A.Vk
def A.t113:aZ P A.TB A.jr A.UO:=(A.t112 hP).e1 hP A.Vl
def A.t114:aZ P A.TB A.jr A.UP:=(A.t113 hP).e1 hP A.Vm
def A.t115:aZ P A.TB A.jr A.UQ:=(A.t114 hP).e1 hP A.Vn
def A.t116:aZ P A.TB A.jr A.UR:=(A.t115 hP).e1 hP A.Vo
def A.t117:aZ P A.TB A.jr A.US:=(A.t116 hP).e1 hP A.Vp
def A.t118:aZ P A.TB A.jr A.UT:=(A.t117 hP).e1 hP A.Vq
def A.t119:aZ P A.TB A.jr A.UU:=(A.t118 hP).e1 hP A.Vr
def A.t120:aZ P A.TB A.jr A.UW:=(A.t119 hP).e1 hP A.Vs
def A.t121:aZ P A.TB A.jr A.UX:=(A.t120 hP).e1 hP A.Vt
def A.t122:aZ P A.TB A.jr A.Qj:=(A.t121 hP).e1 hP A.Vu
def A.t123:aZ P A.TB A.L91 A.Qj:=(A.t122 hP).p1 hP A.Vv
end
open Go Go.Proofs
def A.xOk:js Tryz.prog A.C.x:=Zx1 fun e he=>by
 simp only[ku,List.not_mem_nil,or_false]at he
 subst he
 exact(A.t123 A.z_).p ⟨7,[],.bool true⟩ (pR (l:=A.jr))
end Go.Mx
