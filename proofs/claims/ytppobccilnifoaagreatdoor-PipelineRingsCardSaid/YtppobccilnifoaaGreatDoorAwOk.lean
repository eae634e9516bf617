/-
  The table of the known runs is sound, for a program that has these functions. Printed by a program.
-/
import Derived.Test.YtppobccilnifoaaGreatDoorAwT0
import Derived.Test.YtppobccilnifoaaGreatDoorAwT3
import Derived.Test.YtppobccilnifoaaGreatDoorAwT4
import Derived.Test.YtppobccilnifoaaGreatDoorAwT5
import Derived.Test.YtppobccilnifoaaGreatDoorKeO
import Derived.Test.YtppobccilnifoaaGreatDoorMxIn2
import Derived.Test.YtppobccilnifoaaGreatDoorStQ
set_option linter.all false
namespace Go.Mx
open Go
set_option maxRecDepth 1000000
section
variable {P:Program} (hP:ProgOk P A.tbl 10)
include hP
theorem A.tab0:TabOk P A.L0 []:=TabOk.nil.addP hP A.p0_ok
theorem A.tab1:TabOk P A.L1 []:=(A.tab0 hP).addP hP A.p1_ok
theorem A.tab2:TabOk P A.L2 []:=(A.tab1 hP).addP hP A.p2_ok
theorem A.tab3:TabOk P A.L3 []:=(A.tab2 hP).addP hP A.p3_ok
theorem A.tab4:TabOk P A.L4 []:=(A.tab3 hP).addP hP A.p4_ok
theorem A.tab5:TabOk P A.L5 []:=(A.tab4 hP).addP hP A.p5_ok
theorem A.tab6:TabOk P A.L6 []:=(A.tab5 hP).addP hP A.p6_ok
theorem A.tab7:TabOk P A.L7 []:=(A.tab6 hP).addP hP A.p7_ok
theorem A.tab8:TabOk P A.L8 []:=(A.tab7 hP).addP hP A.p8_ok
theorem A.tab9:TabOk P A.L9 []:=(A.tab8 hP).addP hP A.p9_ok
theorem A.tab10:TabOk P A.L10 []:=(A.tab9 hP).addP hP A.p10_ok
theorem A.tab11:TabOk P A.L11 []:=(A.tab10 hP).addP hP A.p11_ok
theorem A.tab12:TabOk P A.L12 []:=(A.tab11 hP).addP hP A.p12_ok
theorem A.tab13:TabOk P A.L13 []:=(A.tab12 hP).addP hP A.p13_ok
theorem A.tab14:TabOk P A.L14 []:=(A.tab13 hP).addP hP A.p14_ok
theorem A.tab15:TabOk P A.L15 []:=(A.tab14 hP).addP hP A.p15_ok
theorem A.tab16:TabOk P A.L16 []:=(A.tab15 hP).addP hP A.p16_ok
theorem A.tab17:TabOk P A.L17 []:=(A.tab16 hP).addP hP A.p17_ok
theorem A.tab18:TabOk P A.L18 []:=(A.tab17 hP).addP hP A.p18_ok
theorem A.tab19:TabOk P A.L19 []:=(A.tab18 hP).addP hP A.p19_ok
theorem A.tab20:TabOk P A.L20 []:=(A.tab19 hP).addP hP A.p20_ok
theorem A.tab21:TabOk P A.L21 []:=(A.tab20 hP).addP hP A.p21_ok
theorem A.tab22:TabOk P A.L22 []:=(A.tab21 hP).addP hP A.p22_ok
theorem A.tab23:TabOk P A.L23 []:=(A.tab22 hP).addP hP A.p23_ok
theorem A.tab24:TabOk P A.L24 []:=(A.tab23 hP).addP hP A.p24_ok
theorem A.tab25:TabOk P A.L25 []:=(A.tab24 hP).addP hP A.p25_ok
theorem A.tab26:TabOk P A.L26 []:=(A.tab25 hP).addP hP A.p26_ok
theorem A.tab27:TabOk P A.L27 []:=(A.tab26 hP).addP hP A.p27_ok
theorem A.tab28:TabOk P A.L28 []:=(A.tab27 hP).addP hP A.p28_ok
theorem A.tab29:TabOk P A.L29 []:=(A.tab28 hP).addP hP A.p29_ok
theorem A.tab30:TabOk P A.L30 []:=(A.tab29 hP).addP hP A.p30_ok
theorem A.tab31:TabOk P A.L31 []:=(A.tab30 hP).addP hP A.p31_ok
theorem A.tab32:TabOk P A.L32 []:=(A.tab31 hP).addP hP A.p32_ok
theorem A.tab33:TabOk P A.L33 []:=(A.tab32 hP).addP hP A.p33_ok
theorem A.tab34:TabOk P A.L34 []:=(A.tab33 hP).addP hP A.p34_ok
theorem A.tab35:TabOk P A.L35 []:=(A.tab34 hP).addP hP A.p35_ok
theorem A.tab36:TabOk P A.L36 []:=(A.tab35 hP).addP hP A.p36_ok
theorem A.tab37:TabOk P A.L37 []:=(A.tab36 hP).addP hP A.p37_ok
theorem A.tab38:TabOk P A.L38 []:=(A.tab37 hP).addP hP A.p38_ok
theorem A.tab39:TabOk P A.L39 []:=(A.tab38 hP).addP hP A.p39_ok
theorem A.tab40:TabOk P A.L40 []:=(A.tab39 hP).addP hP A.p40_ok
theorem A.tab41:TabOk P A.L41 []:=(A.tab40 hP).addP hP A.p41_ok
theorem A.tab42:TabOk P A.L42 []:=(A.tab41 hP).addP hP A.p42_ok
theorem A.tab43:TabOk P A.L43 []:=(A.tab42 hP).addP hP A.p43_ok
theorem A.tab44:TabOk P A.L44 []:=(A.tab43 hP).addP hP A.p44_ok
theorem A.tab45:TabOk P A.L45 []:=(A.tab44 hP).addP hP A.p45_ok
theorem A.tab46:TabOk P A.L46 []:=(A.tab45 hP).addP hP A.p46_ok
theorem A.tab47:TabOk P A.L47 []:=(A.tab46 hP).addP hP A.p47_ok
theorem A.tab48:TabOk P A.L48 []:=(A.tab47 hP).addP hP A.p48_ok
theorem A.tab49:TabOk P A.L49 []:=(A.tab48 hP).addP hP A.p49_ok
theorem A.tab50:TabOk P A.L50 []:=(A.tab49 hP).addP hP A.p50_ok
theorem A.tab51:TabOk P A.L51 []:=(A.tab50 hP).addP hP A.p51_ok
theorem A.tab52:TabOk P A.L52 []:=(A.tab51 hP).addP hP A.p52_ok
theorem A.tab53:TabOk P A.L53 []:=(A.tab52 hP).addP hP A.p53_ok
theorem A.tab54:TabOk P A.L54 []:=(A.tab53 hP).addP hP A.p54_ok
theorem A.tab55:TabOk P A.L55 []:=(A.tab54 hP).addP hP A.p55_ok
theorem A.tab56:TabOk P A.L56 []:=(A.tab55 hP).addP hP A.p56_ok
theorem A.tab57:TabOk P A.L57 []:=(A.tab56 hP).addP hP A.p57_ok
theorem A.tab58:TabOk P A.L58 []:=(A.tab57 hP).addP hP A.p58_ok
theorem A.tab59:TabOk P A.L59 []:=(A.tab58 hP).addP hP A.p59_ok
theorem A.tab60:TabOk P A.L60 []:=(A.tab59 hP).addP hP A.p60_ok
theorem A.tab61:TabOk P A.L61 []:=(A.tab60 hP).addP hP A.p61_ok
theorem A.tab62:TabOk P A.L62 []:=(A.tab61 hP).addP hP A.p62_ok
theorem A.tab63:TabOk P A.L63 []:=(A.tab62 hP).addP hP A.p63_ok
theorem A.tab64:TabOk P A.L64 []:=(A.tab63 hP).addP hP A.p64_ok
theorem A.tab65:TabOk P A.L65 []:=(A.tab64 hP).addP hP A.p65_ok
theorem A.tab66:TabOk P A.L66 []:=(A.tab65 hP).addP hP A.p66_ok
theorem A.tab67:TabOk P A.L67 []:=(A.tab66 hP).addP hP A.p67_ok
theorem A.tab68:TabOk P A.L68 []:=(A.tab67 hP).addP hP A.p68_ok
theorem A.tab69:TabOk P A.L69 []:=(A.tab68 hP).addP hP A.p69_ok
theorem A.tab70:TabOk P A.L70 []:=(A.tab69 hP).addP hP A.p70_ok
theorem A.tab71:TabOk P A.L71 []:=(A.tab70 hP).addP hP A.p71_ok
theorem A.tab72:TabOk P A.L72 []:=(A.tab71 hP).addP hP A.p72_ok
theorem A.tab73:TabOk P A.L73 []:=(A.tab72 hP).addP hP A.p73_ok
theorem A.tab74:TabOk P A.L74 []:=(A.tab73 hP).addP hP A.p74_ok
theorem A.tab75:TabOk P A.L75 []:=(A.tab74 hP).addP hP A.p75_ok
theorem A.tab76:TabOk P A.L76 []:=(A.tab75 hP).addP hP A.p76_ok
theorem A.tab77:TabOk P A.L77 []:=(A.tab76 hP).addP hP A.p77_ok
theorem A.tab78:TabOk P A.L78 []:=(A.tab77 hP).addP hP A.p78_ok
theorem A.tab79:TabOk P A.L79 []:=(A.tab78 hP).addP hP A.p79_ok
theorem A.tab80:TabOk P A.L80 []:=(A.tab79 hP).addP hP A.p80_ok
theorem A.tab81:TabOk P A.L81 []:=(A.tab80 hP).addP hP A.p81_ok
theorem A.tab82:TabOk P A.L82 []:=(A.tab81 hP).addP hP A.p82_ok
theorem A.tab83:TabOk P A.L83 []:=(A.tab82 hP).addP hP A.p83_ok
theorem A.tab84:TabOk P A.L84 []:=(A.tab83 hP).addP hP A.p84_ok
theorem A.tab85:TabOk P A.L85 []:=(A.tab84 hP).addP hP A.p85_ok
theorem A.tab86:TabOk P A.L86 []:=(A.tab85 hP).addP hP A.p86_ok
theorem A.tab87:TabOk P A.L87 []:=(A.tab86 hP).addP hP A.p87_ok
theorem A.tab88:TabOk P A.L88 []:=(A.tab87 hP).addP hP A.p88_ok
theorem A.tab89:TabOk P A.L89 []:=(A.tab88 hP).addP hP A.p89_ok
theorem A.tab90:TabOk P A.L90 []:=(A.tab89 hP).addP hP A.p90_ok
theorem A.tab91:TabOk P A.L91 []:=(A.tab90 hP).addP hP A.p91_ok
theorem A.tab92:TabOk P A.L92 []:=(A.tab91 hP).addP hP A.p92_ok
theorem A.tab93:TabOk P A.L93 []:=(A.tab92 hP).addP hP A.p93_ok
theorem A.tab94:TabOk P A.L94 []:=(A.tab93 hP).addP hP A.p94_ok
theorem A.tab95:TabOk P A.L95 []:=(A.tab94 hP).addP hP A.p95_ok
theorem A.tab96:TabOk P A.L96 []:=(A.tab95 hP).addP hP A.p96_ok
theorem A.tab97:TabOk P A.L97 []:=(A.tab96 hP).addP hP A.p97_ok
theorem A.tab98:TabOk P A.L98 []:=(A.tab97 hP).addP hP A.p98_ok
theorem A.tab99:TabOk P A.L99 []:=(A.tab98 hP).addP hP A.p99_ok
theorem A.tab100:TabOk P A.L100 []:=(A.tab99 hP).addP hP A.p100_ok
theorem A.tab101:TabOk P A.L101 []:=(A.tab100 hP).addP hP A.p101_ok
theorem A.tab102:TabOk P A.L102 []:=(A.tab101 hP).addP hP A.p102_ok
theorem A.tab103:TabOk P A.L103 []:=(A.tab102 hP).addP hP A.p103_ok
theorem A.tab104:TabOk P A.L104 []:=(A.tab103 hP).addP hP A.p104_ok
theorem A.tab105:TabOk P A.L105 []:=(A.tab104 hP).addP hP A.p105_ok
theorem A.tab106:TabOk P A.L106 []:=(A.tab105 hP).addP hP A.p106_ok
theorem A.tab107:TabOk P A.L107 []:=(A.tab106 hP).addP hP A.p107_ok
theorem A.tab108:TabOk P A.L108 []:=(A.tab107 hP).addP hP A.p108_ok
theorem A.tab109:TabOk P A.L109 []:=(A.tab108 hP).addP hP A.p109_ok
theorem A.tab110:TabOk P A.L110 []:=(A.tab109 hP).addP hP A.p110_ok
theorem A.tab111:TabOk P A.L111 []:=(A.tab110 hP).addP hP A.p111_ok
theorem A.tab112:TabOk P A.L112 []:=(A.tab111 hP).addP hP A.p112_ok
theorem A.tab113:TabOk P A.L113 []:=(A.tab112 hP).addP hP A.p113_ok
theorem A.tab114:TabOk P A.L114 []:=(A.tab113 hP).addP hP A.p114_ok
theorem A.tab115:TabOk P A.L115 []:=(A.tab114 hP).addP hP A.p115_ok
theorem A.tab116:TabOk P A.L116 []:=(A.tab115 hP).addP hP A.p116_ok
theorem A.tab117:TabOk P A.L117 []:=(A.tab116 hP).addP hP A.p117_ok
theorem A.tab118:TabOk P A.L118 []:=(A.tab117 hP).addP hP A.p118_ok
theorem A.tab119:TabOk P A.L119 []:=(A.tab118 hP).addP hP A.p119_ok
theorem A.tab120:TabOk P A.L120 []:=(A.tab119 hP).addP hP A.p120_ok
theorem A.tab121:TabOk P A.L121 []:=(A.tab120 hP).addP hP A.p121_ok
theorem A.tab122:TabOk P A.L122 []:=(A.tab121 hP).addP hP A.p122_ok
theorem A.tab123:TabOk P A.L123 []:=(A.tab122 hP).addP hP A.p123_ok
theorem A.tab124:TabOk P A.L124 []:=(A.tab123 hP).addP hP A.p124_ok
theorem A.tab125:TabOk P A.L125 []:=(A.tab124 hP).addP hP A.p125_ok
theorem A.tab126:TabOk P A.L126 []:=(A.tab125 hP).addP hP A.p126_ok
theorem A.tab127:TabOk P A.L127 []:=(A.tab126 hP).addP hP A.p127_ok
theorem A.tab128:TabOk P A.L128 []:=(A.tab127 hP).addP hP A.p128_ok
theorem A.tab129:TabOk P A.L129 []:=(A.tab128 hP).addP hP A.p129_ok
theorem A.tab130:TabOk P A.L130 []:=(A.tab129 hP).addP hP A.p130_ok
theorem A.tab131:TabOk P A.L130 A.E0:=(A.tab130 hP).addE hP A.e0_ok
theorem A.tab132:TabOk P A.L130 A.E1:=(A.tab131 hP).addE hP A.e1_ok
theorem A.tab133:TabOk P A.L131 A.E1:=(A.tab132 hP).addP hP A.p131_ok
theorem A.tab134:TabOk P A.L131 A.E2:=(A.tab133 hP).addE hP A.e2_ok
theorem A.tab135:TabOk P A.L131 A.E3:=(A.tab134 hP).addE hP A.e3_ok
theorem A.tab136:TabOk P A.L131 A.E4:=(A.tab135 hP).addE hP A.e4_ok
theorem A.tab137:TabOk P A.L131 A.E5:=(A.tab136 hP).addE hP A.e5_ok
theorem A.tab138:TabOk P A.L132 A.E5:=(A.tab137 hP).addP hP A.p132_ok
theorem A.tab139:TabOk P A.L133 A.E5:=(A.tab138 hP).addP hP A.p133_ok
theorem A.tab140:TabOk P A.L134 A.E5:=(A.tab139 hP).addP hP A.p134_ok
theorem A.tab141:TabOk P A.L135 A.E5:=(A.tab140 hP).addP hP A.p135_ok
end
end Go.Mx
namespace Go.Mx
open Go Go.Proofs
set_option maxRecDepth 1000000
theorem A.xOk:CallOk Tryz.prog A.C.x:=pCall_ok fun e he=>by
 simp only[List.mem_cons,List.not_mem_nil,or_false]at he
 subst he
 exact(A.tab141 A.progOk).p A.p135 List.mem_cons_self
structure RcV where
 f:Int
 t:Int
 vs:InpV
def RcV.cell(s:RcV):Nat→Value
 |0=>.int .i64 s.f
 |1=>.int .i64 s.t
 |_=>s.vs.val
structure ClV where
 kind:Int
 f:Int
 t:Int
 vs:InpV
 a:Int
def ClV.cell(s:ClV):Nat→Value
 |0=>.int .i64 s.kind
 |1=>.int .i64 s.f
 |2=>.int .i64 s.t
 |3=>s.vs.val
 |_=>.int .i64 s.a
def ClV.mcell(s:ClV)(i:Nat):Nat→V
 |0=>.int .i64 s.kind
 |1=>.int .i64 s.f
 |2=>.int .i64 s.t
 |3=>s.vs.mv i
 |_=>.int .i64 s.a
def ClV.cl(s:ClV):Cl:=⟨s.kind,⟨s.f,s.t,s.vs.strs⟩,s.a⟩
def InpV.rowc:InpV→Option RowV
 |.sl b l c f=>some ⟨b,c,fun i=>.string (f i),fun i=>.str (f i).data.toList⟩
 |_=>none
def clRows(G:Nat)(a:Addr)(cap:Nat)(F:Nat→ClV):Nat→Option RowV
 |0=>some ⟨a,cap*5,fun j=>(F (j/5)).cell (j%5),fun j=>(F (j/5)).mcell (G+1+j/5) (j%5)⟩
 |k+1=>(F k).vs.rowc
theorem cls_hrel{P:Program}{W:World}(hW:P.globals.size≤W.heap.size){a:Addr}{len cap:Nat}{F:Nat→ClV}(hl:len≤cap)(hp:0<cap)(hc:∀j,j<cap*5→W.cell? (a.add j)=some ((F (j/5)).cell (j%5)))(hi:∀i,i<cap→(F i).vs.ok W):
  ∃(S:St) (μ:Mu) (v:V),HRel P μ W S∧S.w=[]∧VR μ v (.slice (some a) len cap)∧ClS S.h S.n v ((List.range len).map fun i=>(F i).cl):=by
 have c5:∀i,i%5=0∨i%5=1∨i%5=2∨i%5=3∨i%5=4:=fun i=>by omega
 have ok0:RowV.ok W ⟨a,cap*5,fun j=>(F (j/5)).cell (j%5),fun j=>(F (j/5)).mcell (P.globals.size+1+j/5) (j%5)⟩:=by
  refine⟨by show 0<cap*5;omega,hc,fun i hi=>?_⟩
  show ((F (i/5)).cell (i%5)).oneCell'=true
  rcases c5 i with e|e|e|e|e<;>rw[e]<;>simp only[ClV.cell]
  ·rfl
  ·rfl
  ·rfl
  ·cases (F (i/5)).vs<;>rfl
  ·rfl
 have okk:∀k r,k<cap→(F k).vs.rowc=some r→r.ok W:=fun k r hk hr=>by
  have h1:=hi k hk
  cases hq:(F k).vs with
  |nil=>rw[hq]at hr;cases hr
  |emp b=>rw[hq]at hr;cases hr
  |sl b l c f=>
   rw[hq]at hr h1
   simp only[InpV.rowc,Option.some.injEq]at hr
   subst hr
   exact⟨h1.2.1,h1.2.2,fun _ _=>rfl⟩
 have hin:∀k,k<cap→VR (muR P.globals.size (cap+1) (clRows P.globals.size a cap F)) ((F k).vs.mv (P.globals.size+1+k)) (F k).vs.val:=fun k hk=>by
  have h1:=hi k hk
  cases hq:(F k).vs with
  |nil=>simp[InpV.mv,InpV.val,VR]
  |emp b=>simp[InpV.mv,InpV.val,VR]
  |sl b l c f=>
   rw[hq]at h1
   have hr:clRows P.globals.size a cap F (k+1)=some ⟨b,c,fun i=>.string (f i),fun i=>.str (f i).data.toList⟩:=by simp only[clRows,hq,InpV.rowc]
   have:=slice_vr (W:=W) (G:=P.globals.size) (m:=cap+1) (k:=k+1) (len:=l) (cap:=c) (z:=1) (by omega) hr (okk k _ hk (by rw[hq];rfl)) (by simp) h1.1 (by decide)
   rw[show P.globals.size+1+k=P.globals.size+(k+1) by omega]
   exact this
 have H:=rows_hrel (P:=P) (W:=W) hW (m:=cap+1) (rows:=clRows P.globals.size a cap F) (fun k r hk hr=>by
  cases k with
  |zero=>simp only[clRows,Option.some.injEq]at hr;subst hr;exact ok0
  |succ k=>exact okk k r (by omega) hr) (fun k r i hk hr hin2=>by
  cases k with
  |zero=>
   simp only[clRows,Option.some.injEq]at hr
   subst hr
   have hi2:i<cap*5:=hin2
   show VR _ ((F (i/5)).mcell (P.globals.size+1+i/5) (i%5)) ((F (i/5)).cell (i%5))
   rcases c5 i with e|e|e|e|e<;>rw[e]
   ·simp[ClV.mcell,ClV.cell,VR]
   ·simp[ClV.mcell,ClV.cell,VR]
   ·simp[ClV.mcell,ClV.cell,VR]
   ·exact hin _ (by omega)
   ·simp[ClV.mcell,ClV.cell,VR]
  |succ k=>
   simp only[clRows]at hr
   cases hq:(F k).vs with
   |nil=>rw[hq]at hr;cases hr
   |emp b=>rw[hq]at hr;cases hr
   |sl b l c f=>
    rw[hq]at hr
    simp only[InpV.rowc,Option.some.injEq]at hr
    subst hr
    simp[VR])
 refine⟨_,_,.slice (P.globals.size+0) 0 len (some cap) 5,H,rfl,slice_vr (W:=W) (by omega) rfl ok0 rfl hl (by decide),(List.range len).map fun i=>clC ((F i).cl) ((F i).vs.mv (P.globals.size+1+i)),.inr ⟨P.globals.size+0,0,some cap,_,_,false,by simp,by show P.globals.size+0<P.globals.size+(cap+1);omega,heapR_row (by omega),fun j x hj=>?_,by simp;omega,fun k hk=>by simp at hk ⊢;omega⟩,by simp,fun j s hj=>?_⟩
 ·have hjl:j<len:=by have:=lt_of_get hj;simpa using this
  have hx:x=clC ((F j).cl) ((F j).vs.mv (P.globals.size+1+j)):=by simpa[hjl]using hj.symm
  subst hx
  unfold slc
  rw[if_pos (by simp;omega)]
  congr 1
  apply List.ext_getElem?
  intro t
  rw[List.getElem?_take]
  by_cases ht:t<5
  ·rw[if_pos ht,List.getElem?_drop]
   have h1:(0+j*5+t)/5=j:=by omega
   have h2:(0+j*5+t)%5=t:=by omega
   have h3:0+j*5+t<cap*5:=by omega
   rw[List.getElem?_map,List.getElem?_range h3]
   simp only[Option.map_some,h1,h2]
   have:t=0∨t=1∨t=2∨t=3∨t=4:=by omega
   rcases this with rfl|rfl|rfl|rfl|rfl<;>rfl
  ·rw[if_neg ht,List.getElem?_eq_none (by simp[clC];omega)]
 ·have hjl:j<len:=by have:=lt_of_get hj;simpa using this
  have hx:s=(F j).cl:=by simpa[hjl]using hj.symm
  subst hx
  refine⟨(F j).vs.mv (P.globals.size+1+j),by simp[hjl],?_⟩
  have hok:=hi j (by omega)
  have hr:=heapR_row (W:=W) (G:=P.globals.size) (m:=cap+1) (k:=j+1) (rows:=clRows P.globals.size a cap F) (by omega)
  simp only[ClV.cl]
  cases hq:(F j).vs with
  |nil=>exact .inl ⟨rfl,.inl rfl⟩
  |emp b=>exact .inl ⟨rfl,.inr rfl⟩
  |sl b l c f=>
   rw[hq]at hok
   simp only[clRows,hq,InpV.rowc,rowO]at hr
   obtain⟨g1,g2,g3⟩:=hok
   refine .inr ⟨P.globals.size+(j+1),0,some c,_,_,false,by simp[InpV.mv,strs,InpV.strs];omega,by show P.globals.size+(j+1)<P.globals.size+(cap+1);omega,hr,fun k hk=>?_,by simp[strs,InpV.strs];omega,fun k hk=>by simp[strs,InpV.strs]at hk ⊢;omega⟩
   have hk2:k<l:=by simpa[strs,InpV.strs]using hk
   simp[strs,InpV.strs,hk2,show k<c by omega]
end Go.Mx
