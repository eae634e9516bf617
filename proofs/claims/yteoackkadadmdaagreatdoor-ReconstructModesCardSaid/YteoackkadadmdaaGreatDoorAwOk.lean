/-The table of the known runs is sound, fo-/
import Derived.Test.YteoackkadadmdaaGreatDoorAwT0
import Derived.Test.YteoackkadadmdaaGreatDoorAwT3
import Derived.Test.YteoackkadadmdaaGreatDoorAwT4
import Derived.Test.YteoackkadadmdaaGreatDoorAwT5
import Derived.Test.YteoackkadadmdaaGreatDoorSpG
set_option linter.all false
namespace Go.Mx
open Go
set_option maxRecDepth 1000000
section
variable {P:Program} (hP:C6 P A.dG 10)
include hP
def A.t0:bk P A.TB A.L0 A.E:=bk.nil.p1 hP A.z0
def A.t1:bk P A.TB A.L1 A.E:=(A.t0 hP).p1 hP A.z1
def A.t2:bk P A.TB A.L2 A.E:=(A.t1 hP).p1 hP A.z2
def A.t3:bk P A.TB A.L3 A.E:=(A.t2 hP).p1 hP A.z3
def A.t4:bk P A.TB A.L4 A.E:=(A.t3 hP).p1 hP A.z4
def A.t5:bk P A.TB A.L5 A.E:=(A.t4 hP).p1 hP A.z5
def A.t6:bk P A.TB A.L6 A.E:=(A.t5 hP).p1 hP A.z6
def A.t7:bk P A.TB A.L7 A.E:=(A.t6 hP).p1 hP A.z7
def A.t8:bk P A.TB A.L8 A.E:=(A.t7 hP).p1 hP A.z8
def A.t9:bk P A.TB A.L9 A.E:=(A.t8 hP).p1 hP A.z9
def A.t10:bk P A.TB A.Q2 A.E:=(A.t9 hP).p1 hP A.SK
def A.t11:bk P A.TB A.Q3 A.E:=(A.t10 hP).p1 hP A.z11
def A.t12:bk P A.TB A.Q4 A.E:=(A.t11 hP).p1 hP A.z12
def A.t13:bk P A.TB A.Q5 A.E:=(A.t12 hP).p1 hP A.z13
def A.t14:bk P A.TB A.Q6 A.E:=(A.t13 hP).p1 hP A.z14
def A.t15:bk P A.TB A.Q7 A.E:=(A.t14 hP).p1 hP A.z15
def A.t16:bk P A.TB A.Q8 A.E:=(A.t15 hP).p1 hP A.z16
def A.t17:bk P A.TB A.Q9 A.E:=(A.t16 hP).p1 hP A.z17
def A.t18:bk P A.TB A.Ra A.E:=(A.t17 hP).p1 hP A.z18
def A.t19:bk P A.TB A.Rb A.E:=(A.t18 hP).p1 hP A.z19
def A.t20:bk P A.TB A.Rc A.E:=(A.t19 hP).p1 hP A.z20
def A.t21:bk P A.TB A.Re A.E:=(A.t20 hP).p1 hP A.z21
def A.t22:bk P A.TB A.Rf A.E:=(A.t21 hP).p1 hP A.z22
def A.t23:bk P A.TB A.Rh A.E:=(A.t22 hP).p1 hP A.z23
def A.t24:bk P A.TB A.Ri A.E:=(A.t23 hP).p1 hP A.z24
def A.t25:bk P A.TB A.Rj A.E:=(A.t24 hP).p1 hP A.z25
def A.t26:bk P A.TB A.Rk A.E:=(A.t25 hP).p1 hP A.z26
def A.t27:bk P A.TB A.Rl A.E:=(A.t26 hP).p1 hP A.z27
def A.t28:bk P A.TB A.Rm A.E:=(A.t27 hP).p1 hP A.z28
def A.t29:bk P A.TB A.Rn A.E:=(A.t28 hP).p1 hP A.z29
def A.t30:bk P A.TB A.Ro A.E:=(A.t29 hP).p1 hP A.z30
def A.t31:bk P A.TB A.Rp A.E:=(A.t30 hP).p1 hP A.z31
def A.t32:bk P A.TB A.Rq A.E:=(A.t31 hP).p1 hP A.z32
def A.t33:bk P A.TB A.Rr A.E:=(A.t32 hP).p1 hP A.z33
def A.t34:bk P A.TB A.Rt A.E:=(A.t33 hP).p1 hP A.z34
def A.t35:bk P A.TB A.Ru A.E:=(A.t34 hP).p1 hP A.z35
def A.t36:bk P A.TB A.Rv A.E:=(A.t35 hP).p1 hP A.z36
def A.t37:bk P A.TB A.Rw A.E:=(A.t36 hP).p1 hP A.z37
def A.t38:bk P A.TB A.Rx A.E:=(A.t37 hP).p1 hP A.z38
def A.t39:bk P A.TB A.Ry A.E:=(A.t38 hP).p1 hP A.z39
def A.t40:bk P A.TB A.Rz A.E:=(A.t39 hP).p1 hP A.z40
def A.t41:bk P A.TB A.RA A.E:=(A.t40 hP).p1 hP A.z41
def A.t42:bk P A.TB A.RB A.E:=(A.t41 hP).p1 hP A.z42
def A.t43:bk P A.TB A.RC A.E:=(A.t42 hP).p1 hP A.z43
def A.t44:bk P A.TB A.ER A.E:=(A.t43 hP).p1 hP A.z44
def A.t45:bk P A.TB A.ER A.E0:=(A.t44 hP).e1 hP A.z45
def A.t46:bk P A.TB A.ER A.E1:=(A.t45 hP).e1 hP A.z46
def A.t47:bk P A.TB A.RD A.E1:=(A.t46 hP).p1 hP A.z47
def A.t48:bk P A.TB A.RE A.E1:=(A.t47 hP).p1 hP A.z48
def A.t49:bk P A.TB A.RF A.E1:=(A.t48 hP).p1 hP A.z49
def A.t50:bk P A.TB A.RG A.E1:=(A.t49 hP).p1 hP A.z50
def A.t51:bk P A.TB A.RH A.E1:=(A.t50 hP).p1 hP A.z51
def A.t52:bk P A.TB A.RI A.E1:=(A.t51 hP).p1 hP A.z52
def A.t53:bk P A.TB A.RJ A.E1:=(A.t52 hP).p1 hP A.z53
def A.t54:bk P A.TB A.RK A.E1:=(A.t53 hP).p1 hP A.z54
def A.t55:bk P A.TB A.RL A.E1:=(A.t54 hP).p1 hP A.z55
def A.t56:bk P A.TB A.RM A.E1:=(A.t55 hP).p1 hP A.z56
def A.t57:bk P A.TB A.RN A.E1:=(A.t56 hP).p1 hP A.z57
def A.t58:bk P A.TB A.RO A.E1:=(A.t57 hP).p1 hP A.z58
def A.t59:bk P A.TB A.RP A.E1:=(A.t58 hP).p1 hP A.z59
def A.t60:bk P A.TB A.RQ A.E1:=(A.t59 hP).p1 hP A.z60
def A.t61:bk P A.TB A.RS A.E1:=(A.t60 hP).p1 hP A.z61
def A.t62:bk P A.TB A.RT A.E1:=(A.t61 hP).p1 hP A.z62
def A.t63:bk P A.TB A.RU A.E1:=(A.t62 hP).p1 hP A.z63
def A.t64:bk P A.TB A.RV A.E1:=(A.t63 hP).p1 hP A.z64
def A.t65:bk P A.TB A.RW A.E1:=(A.t64 hP).p1 hP A.z65
def A.t66:bk P A.TB A.RX A.E1:=(A.t65 hP).p1 hP A.z66
def A.t67:bk P A.TB A.RY A.E1:=(A.t66 hP).p1 hP A.z67
def A.t68:bk P A.TB A.RZ A.E1:=(A.t67 hP).p1 hP A.z68
def A.t69:bk P A.TB A.R4 A.E1:=(A.t68 hP).p1 hP A.z69
def A.t70:bk P A.TB A.R5 A.E1:=(A.t69 hP).p1 hP A.z70
def A.t71:bk P A.TB A.R6 A.E1:=(A.t70 hP).p1 hP A.z71
def A.t72:bk P A.TB A.ES A.E1:=(A.t71 hP).p1 hP A.z72
def A.t73:bk P A.TB A.ES A.E2:=(A.t72 hP).e1 hP A.z73
def A.t74:bk P A.TB A.ES A.E3:=(A.t73 hP).e1 hP A.z74
def A.t75:bk P A.TB A.R7 A.E3:=(A.t74 hP).p1 hP A.z75
def A.t76:bk P A.TB A.yQ A.E3:=(A.t75 hP).p1 hP A.z76
def A.t77:bk P A.TB A.yQ A.E4:=(A.t76 hP).e1 hP A.z77
def A.t78:bk P A.TB A.yQ A.E5:=(A.t77 hP).e1 hP A.z78
def A.t79:bk P A.TB A.yQ A.E6:=(A.t78 hP).e1 hP A.z79
def A.t80:bk P A.TB A.yQ A.E7:=(A.t79 hP).e1 hP A.z80
def A.t81:bk P A.TB A.R8 A.E7:=(A.t80 hP).p1 hP A.z81
def A.t82:bk P A.TB A.R9 A.E7:=(A.t81 hP).p1 hP A.z82
def A.t83:bk P A.TB A.Sa A.E7:=(A.t82 hP).p1 hP A.z83
def A.t84:bk P A.TB A.Sb A.E7:=(A.t83 hP).p1 hP A.z84
def A.t85:bk P A.TB A.Sd A.E7:=(A.t84 hP).p1 hP A.z85
def A.t86:bk P A.TB A.Br A.E7:=(A.t85 hP).p1 hP A.z86
def A.t87:bk P A.TB A.Br A.E8:=(A.t86 hP).e1 hP A.z87
def A.t88:bk P A.TB A.Br A.E9:=(A.t87 hP).e1 hP A.z88
def A.t89:bk P A.TB A.Br A.sq:=(A.t88 hP).e1 hP A.z89
def A.t90:bk P A.TB A.Se A.sq:=(A.t89 hP).p1 hP A.z90
def A.t91:bk P A.TB A.Sf A.sq:=(A.t90 hP).p1 hP A.z91
def A.t92:bk P A.TB A.Sg A.sq:=(A.t91 hP).p1 hP A.z92
def A.t93:bk P A.TB A.Sh A.sq:=(A.t92 hP).p1 hP A.z93
def A.t94:bk P A.TB A.Si A.sq:=(A.t93 hP).p1 hP A.z94
def A.t95:bk P A.TB A.Sj A.sq:=(A.t94 hP).p1 hP A.z95
def A.t96:bk P A.TB A.JE A.sq:=(A.t95 hP).p1 hP A.z96
def A.t97:bk P A.TB A.JE A.ET:=(A.t96 hP).e1 hP A.z97
def A.t98:bk P A.TB A.Sk A.ET:=(A.t97 hP).p1 hP A.z98
def A.t99:bk P A.TB A.EU A.ET:=(A.t98 hP).p1 hP A.z99
def A.t100:bk P A.TB A.EU A.Sm:=(A.t99 hP).e1 hP A.SL
def A.t101:bk P A.TB A.EU A.JF:=(A.t100 hP).e1 hP A.SM
def A.t102:bk P A.TB A.xw A.JF:=(A.t101 hP).p1 hP A.SN
def A.t103:bk P A.TB A.xw A.So:=(A.t102 hP).e1 hP A.SO
def A.t104:bk P A.TB A.xw A.Sp:=(A.t103 hP).e1 hP A.SP
def A.t105:bk P A.TB A.xw A.Sq:=(A.t104 hP).e1 hP A.SQ
def A.t106:bk P A.TB A.xw A.Sr:=(A.t105 hP).e1 hP A.SR
def A.t107:bk P A.TB A.xw A.EV:=(A.t106 hP).e1 hP A.SS
def A.t108:bk P A.TB A.Ss A.EV:=(A.t107 hP).p1 hP A.SU
def A.t109:bk P A.TB A.jh A.EV:=(A.t108 hP).p1 hP A.SV
def A.t110:bk P A.TB A.jh A.Su:=(A.t109 hP).e1 hP A.SW
def A.t111:bk P A.TB A.jh A.Sv:=(A.t110 hP).e1 hP A.SX
def A.t112:bk P A.TB A.jh A.Sw:=(A.t111 hP).e1 hP A.SY
def A.t113:bk P A.TB A.jh A.Sx:=(A.t112 hP).e1 hP A.SZ
def A.t114:bk P A.TB A.jh A.Sy:=(A.t113 hP).e1 hP A.S0
def A.t115:bk P A.TB A.jh A.Sz:=(A.t114 hP).e1 hP A.S4
def A.t116:bk P A.TB A.jh A.SA:=(A.t115 hP).e1 hP A.S5
def A.t117:bk P A.TB A.jh A.SB:=(A.t116 hP).e1 hP A.S6
def A.t118:bk P A.TB A.jh A.SC:=(A.t117 hP).e1 hP A.S7
def A.t119:bk P A.TB A.jh A.SD:=(A.t118 hP).e1 hP A.S8
def A.t120:bk P A.TB A.jh A.SE:=(A.t119 hP).e1 hP A.S9
def A.t121:bk P A.TB A.jh A.SF:=(A.t120 hP).e1 hP A.Ta
def A.t122:bk P A.TB A.jh A.NS:=(A.t121 hP).e1 hP A.Tb
def A.t123:bk P A.TB A.Y5 A.NS:=(A.t122 hP).p1 hP A.Tc
end
open Go Go.Proofs
def A.xOk:ji Tryz.prog A.C.x:=Y6 fun e he=>by
 simp only[kv,List.not_mem_nil,or_false]at he
 subst he
 exact(A.t123 A.yR).p ⟨7,[],.bool true⟩ (pn (l:=A.jh))
end Go.Mx
