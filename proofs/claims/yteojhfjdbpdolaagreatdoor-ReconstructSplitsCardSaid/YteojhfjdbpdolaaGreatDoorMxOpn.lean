/-From what a law is handed to what the ma-/
import Derived.Test.YteojhfjdbpdolaaGreatDoorSwB
import Derived.Deep.Slices
import Derived.Lib.LaidTab
import Derived.LaidSub
import Derived.ChangeShapes
import Derived.WideShapes
import Derived.Test.YteojhfjdbpdolaaGreatDoorChecked
set_option linter.all false
namespace Go.Mx
open Go Go.ChangeShapes Go.WideShapes Go.RowKit Go.Deep
variable {P:Program}
def qg{t s:TypeId}(ht:P.underlying t=some (.slice s))(hs:P.underlying s=some .string)(hc:P.cellsOf s=1){H:Type}{enc:TypeId×Value->H}{W:World}{fuel:Nat}{c:Value}{x:DataW H×List MemPlace}
  (h:DataW.trod enc P W 0 (fun _=>true) true fuel t [c]=some x):∃i:mR,c=i.val/\i.ok W/\i.strs.length<9223372036854775808:=by
 rcases open_slice1 ht hc h with⟨hc,_⟩|⟨a,len,cap,m,n,Vf,D,Pl,hc,_,hl,dq,hm,_,hx⟩
 ·have pn:c=.slice none 0 0:=by simpa using hc
  exact⟨.nil,pn,trivial,by simp[mR.strs]⟩
 ·simp only[if_true]at hm
  subst hm
  have pn:c=.slice (some a) len m:=by simpa using hc
  rcases Gd m with h0|h0
  ·subst h0
   have:len=0:=by omega
   subst this
   exact⟨.emp a,pn,trivial,by simp[mR.strs]⟩
  ·refine⟨.sl a len m fun i=>match Vf i with|.string s=>s|_=>⟨#[]⟩,pn,⟨hl,h0,fun i hi=>?_⟩,by simp only[mR.strs,dL,List.length_range];unfold maxLen at dq;omega⟩
   obtain⟨g1,g2⟩:=hx i hi
   obtain⟨s,e0,_⟩:=DataW.trod_string hs g2
   simp only[iQ,and_true]at e0
   rw[g1]
   simp only[e0]
def AF{t l s:TypeId}(ht:P.underlying t=some (.slice l))(ay:P.underlying l=some (.slice s))(hs:P.underlying s=some .string)(cN:P.cellsOf l=1)(hc:P.cellsOf s=1){H:Type}{enc:TypeId×Value->H}{W:World}{fuel:Nat}{c:Value}{x:DataW H×List MemPlace}
  (h:DataW.trod enc P W 0 (fun _=>true) true fuel t [c]=some x):∃m:qh,c=m.val/\m.ok W/\m.rows.length<9223372036854775808/\∀r∈m.rows,r.length<9223372036854775808:=by
 rcases open_slice1 ht cN h with⟨hc,_⟩|⟨a,len,cap,m,n,Vf,D,Pl,pn,_,hl,dq,hm,_,hx⟩
 ·have pn:c=.slice none 0 0:=by simpa using hc
  exact⟨.nil,pn,trivial,by simp[qh.rows],fun r hr=>by simp[qh.rows]at hr⟩
 ·simp only[if_true]at hm
  subst hm
  have pn:c=.slice (some a) len m:=by simpa using pn
  rcases Gd m with h0|h0
  ·subst h0
   have:len=0:=by omega
   subst this
   exact⟨.emp a,pn,trivial,by simp[qh.rows],fun r hr=>by simp[qh.rows]at hr⟩
  ·have dM:∀i,∃s:mR,i<m->Vf i=s.val/\s.ok W/\s.strs.length<9223372036854775808:=fun i=>by
    by_cases hi:i<m
    ·obtain⟨g1,g2⟩:=hx i hi
     obtain⟨s,q⟩:=qg ay hs hc g2
     exact⟨s,fun _=>q⟩
    ·exact⟨.nil,fun h=>absurd h hi⟩
   obtain⟨F,hF⟩:=Classical.axiomOfChoice dM
   refine⟨.sl a len m F,pn,⟨hl,h0,fun i hi=>⟨?_,(hF i hi).2.1⟩⟩,by simp only[qh.rows,dL,List.length_range];unfold maxLen at dq;omega,fun r hr=>?_⟩
   ·rw[(hx i hi).1,(hF i hi).1]
   ·obtain⟨i,hi,rfl⟩:=dt.1 hr
    exact(hF i (by have:=u9.1 hi;omega)).2.2
def rA{W:World}{laid:List (String×DataW Unit)}{name:String}{k:IntKind}{zs:List Int}{g:Nat}{t e:TypeId}{n:Nat}{z:Array Value}
  (hg:P.globalNamed name=some g) (Me:(P.globals[g]?).map (·.type)=some t) (ht:P.underlying t=some (.array n e)) (he:P.underlying e=some (.int k)) (hce:P.cellsOf e=1) (hct:P.cellsOf t=n)
  (hf:laid.filter (fun x=>x.1==name)=[(name,Lib.tabData k zs)]) (ay:g<P.globals.size) (hz:((begin P (fun _ _=>0) default).world.heap[g]?).bind Obj.row?=some (z,t))
  (hl:laidMet P laid W) (hs:W.ShapedOpen P):jf P W [(g,.cells (zs.map fun z=>V.int k z) t false)]:=by
 have h1:=laidMet.filter (fun x=>x.1==name) hl
 rw[hf]at h1
 have h2:=Lib.tabIs_of_head hg Me ht he hce hct h1
 unfold Lib.TabIs World.var? at h2
 rw[hg]at h2
 obtain⟨cs,h3,_⟩:=hs.1 g z t ay hz
 simp only[Option.bind_some,h3,al]at h2
 subst h2
 exact jf.one h3
open Go Go.Proofs
set_option maxRecDepth 1000000
noncomputable def A.dK:Nat->Option lC:=yV Tryz.prog
abbrev A.p(L:List mS)(E:List km):Prop:=Ymr A.TB 10 A.dK L E=true
abbrev A.e(L:List mS)(E:List km):Prop:=Yfv A.TB 10 A.dK L E=true
abbrev ai(n:Int):V:=.int .i64 n
abbrev aI:V:=.bool false
abbrev o_:V:=.bool true
abbrev aj:V:=.aa
def A.L:List mS:=[]
def A.E:List km:=[]
def A.L0:=⟨238,[.str [49],.str [45]],aI⟩::A.L
def A.L1:=⟨237,[.str [49],.str [47]],ai (-1)⟩::A.L0
def A.L2:=⟨201,[.str [49],.str [47]],(.aX [.str [49],.str [],aI])⟩::A.L1
def A.L3:=⟨148,[.str [49],.str [47]],(.aX [.str [49],.str [],aI])⟩::A.L2
def A.L4:=⟨255,[.str [48,49,50,51,52,53,54,55,56,57]],(.aX [.agg [aI,aI,aI,aI,aI,aI,aI,aI,aI,aI,aI,aI,aI,aI,aI,aI,aI,aI,aI,aI,aI,aI,aI,aI,aI,aI,aI,aI,aI,aI,aI,aI,aI,aI,aI,aI,aI,aI,aI,aI,aI,aI,aI,aI,aI,aI,aI,aI,o_,o_,o_,o_,o_,o_,o_,o_,o_,o_,aI,aI,aI,aI,aI,aI,aI,aI,aI,aI,aI,aI,aI,aI,aI,aI,aI,aI,aI,aI,aI,aI,aI,aI,aI,aI,aI,aI,aI,aI,aI,aI,aI,aI,aI,aI,aI,aI,aI,aI,aI,aI,aI,aI,aI,aI,aI,aI,aI,aI,aI,aI,aI,aI,aI,aI,aI,aI,aI,aI,aI,aI,aI,aI,aI,aI,aI,aI,aI,aI,aI,aI,aI,aI,aI,aI,aI,aI,aI,aI,aI,aI,aI,aI,aI,aI,aI,aI,aI,aI,aI,aI,aI,aI,aI,aI,aI,aI,aI,aI,aI,aI,aI,aI,aI,aI,aI,aI,aI,aI,aI,aI,aI,aI,aI,aI,aI,aI,aI,aI,aI,aI,aI,aI,aI,aI,aI,aI,aI,aI,aI,aI,aI,aI,aI,aI,aI,aI,aI,aI,aI,aI,aI,aI,aI,aI,aI,aI,aI,aI,aI,aI,aI,aI,aI,aI,aI,aI,aI,aI,aI,aI,aI,aI,aI,aI,aI,aI,aI,aI,aI,aI,aI,aI,aI,aI,aI,aI,aI,aI,aI,aI,aI,aI,aI,aI,aI,aI,aI,aI,aI,aI,aI,aI,aI,aI,aI,aI],o_])⟩::A.L3
def A.L5:=⟨216,[.str [49],.str [48,49,50,51,52,53,54,55,56,57]],.str []⟩::A.L4
def A.L6:=⟨173,[.str [49]],o_⟩::A.L5
def A.L7:=⟨113,[.str [49]],ai 0⟩::A.L6
def A.L8:=⟨113,[.str [45,49]],ai 0⟩::A.L7
def A.L9:=⟨201,[.str [48],.str [47]],(.aX [.str [48],.str [],aI])⟩::A.L8
def A.SK:=⟨148,[.str [48],.str [47]],(.aX [.str [48],.str [],aI])⟩::A.L9
def A.SM:=⟨216,[.str [48],.str [48,49,50,51,52,53,54,55,56,57]],.str []⟩::A.SK
def A.SN:=⟨173,[.str [48]],o_⟩::A.SM
def A.SO:=⟨113,[.str [48]],ai 0⟩::A.SN
def A.SP:=⟨240,[.str [49]],.aX [ai 1,.a_]⟩::A.SO
def A.SQ:=⟨204,[.str [49]],.aX [ai 1,.a_]⟩::A.SP
def A.SR:=⟨198,[.int .u64 1,.int .u64 10],.aX [.int .u64 0,.int .u64 10]⟩::A.SQ
def A.SS:=⟨147,[.agg [ai 1,aj],.agg [ai 10,aj]],.agg [ai 10,aj]⟩::A.SR
def A.SU:=⟨205,[.agg [ai 10,aj],ai 1],.agg [ai 10,aj]⟩::A.SS
def A.SV:=⟨198,[.int .u64 0,.int .u64 10],.aX [.int .u64 0,.int .u64 0]⟩::A.SU
def A.SW:=⟨147,[.agg [ai 0,aj],.agg [ai 10,aj]],.agg [ai 0,aj]⟩::A.SV
def A.SX:=⟨145,[.agg [ai 0,aj],.agg [ai 1,aj]],.agg [ai 1,aj]⟩::A.SW
def A.SY:=⟨149,[.str [49]],.agg [ai 1,aj]⟩::A.SX
def A.SZ:=⟨76,[.str [49]],.agg [ai 1,aj,ai 1,aj]⟩::A.SY
def A.S0:=⟨149,[.str [45,49]],(.agg [ai (-1),aj])⟩::A.SZ
def A.S3:=⟨76,[.str [45,49]],(.agg [ai (-1),aj,ai 1,aj])⟩::A.S0
def A.S4:=⟨149,[.str [48]],.agg [ai 0,aj]⟩::A.S3
def A.S5:=⟨76,[.str [48]],.agg [ai 0,aj,ai 1,aj]⟩::A.S4
def A.S6:=⟨146,[.agg [ai 1,aj],.agg [ai 1,aj]],.agg [ai 1,aj,ai 1,aj]⟩::A.S5
def A.S7:=⟨198,[.int .u64 1,.int .u64 1],.aX [.int .u64 0,.int .u64 1]⟩::A.S6
def A.S8:=⟨147,[.agg [ai 1,aj],.agg [ai 1,aj]],.agg [ai 1,aj]⟩::A.S7
def A.S9:=⟨82,[.agg [ai 1,aj,ai 1,aj],.agg [ai 1,aj,ai 1,aj]],.agg [ai 1,aj,ai 1,aj]⟩::A.S8
def A.Ta:=⟨118,[.agg [ai 1,aj,ai 1,aj],.agg [ai 1,aj,ai 1,aj]],.agg [ai 1,aj,ai 1,aj]⟩::A.S9
def A.Tb:=⟨147,[(.agg [ai (-1),aj]),.agg [ai 1,aj]],(.agg [ai (-1),aj])⟩::A.Ta
def A.Tc:=⟨82,[(.agg [ai (-1),aj,ai 1,aj]),.agg [ai 1,aj,ai 1,aj]],(.agg [ai (-1),aj,ai 1,aj])⟩::A.Tb
def A.Td:=⟨118,[(.agg [ai (-1),aj,ai 1,aj]),.agg [ai 1,aj,ai 1,aj]],(.agg [ai (-1),aj,ai 1,aj])⟩::A.Tc
def A.Te:=⟨147,[.agg [ai 0,aj],.agg [ai 1,aj]],.agg [ai 0,aj]⟩::A.Td
def A.Tf:=⟨82,[.agg [ai 0,aj,ai 1,aj],.agg [ai 1,aj,ai 1,aj]],.agg [ai 0,aj,ai 1,aj]⟩::A.Te
def A.Tg:=⟨118,[.agg [ai 0,aj,ai 1,aj],.agg [ai 1,aj,ai 1,aj]],.agg [ai 0,aj,ai 1,aj]⟩::A.Tf
def A.Th:=⟨82,[(.agg [ai (-1),aj,ai 1,aj]),.agg [ai 0,aj,ai 1,aj]],.agg [ai 0,aj,ai 1,aj]⟩::A.Tg
def A.Ti:=⟨143,[.agg [ai 0,aj,ai 1,aj]],o_⟩::A.Th
def A.Tj:=⟨147,[(.agg [ai (-1),aj]),(.agg [ai (-1),aj])],.agg [ai 1,aj]⟩::A.Ti
def A.Tk:=⟨82,[(.agg [ai (-1),aj,ai 1,aj]),(.agg [ai (-1),aj,ai 1,aj])],.agg [ai 1,aj,ai 1,aj]⟩::A.Tj
def A.Tl:=⟨206,[.agg [ai 1,aj]],ai 1⟩::A.Tk
def A.Ft:=⟨150,[.agg [ai 1,aj]],aI⟩::A.Tl
def A.E0:=⟨18,[],[],[(.slice 12 0 2 (some 2) 1)],[(12,.cells [(.slice 10 0 3 (some 3) 1),(.slice 11 0 3 (some 3) 1)] 23 true),(10,.cells [.str [49],.str [45,49],.str [48]] 39 true),(11,.cells [.str [48],.str [49],.str [45,49]] 39 true)]++A.TB,136,.aX [.slice 136 0 1 none 1,ai 0],[(329,.cells [(.slice 137 0 3 (some 3) 1)] 23 true),(315,.cells [.str [49],.str [49],.str [49]] 39 true)],[]⟩::A.E
def A.E1:=⟨19,[],[],[(.slice 12 0 2 (some 2) 1)],[(12,.cells [(.slice 10 0 3 (some 3) 1),(.slice 11 0 3 (some 3) 1)] 23 true),(10,.cells [.str [49],.str [45,49],.str [48]] 39 true),(11,.cells [.str [48],.str [49],.str [45,49]] 39 true)]++A.TB,138,.aX [.slice 138 0 2 none 1,ai 0],[(309,.cells [(.slice 139 0 3 (some 3) 1),(.slice 140 0 3 (some 3) 1)] 23 true),(270,.cells [.str [49],.str [48],.str [45,49]] 39 true),(295,.cells [.str [48],.str [49],.str [45,49]] 39 true)],[]⟩::A.E0
def A.Tm:=⟨216,[.str [51],.str [48,49,50,51,52,53,54,55,56,57]],.str []⟩::A.Ft
def A.Tn:=⟨173,[.str [51]],o_⟩::A.Tm
def A.To:=⟨149,[.str [51]],.agg [ai 3,aj]⟩::A.Tn
def A.Tp:=⟨75,[.agg [ai 0,aj,ai 1,aj],.agg [ai 1,aj,ai 1,aj]],.agg [ai 1,aj,ai 1,aj]⟩::A.To
def A.Tq:=⟨75,[.agg [ai 0,aj,ai 1,aj],.agg [ai 0,aj,ai 1,aj]],.agg [ai 0,aj,ai 1,aj]⟩::A.Tp
def A.Tr:=⟨147,[.agg [ai 1,aj],.agg [ai 3,aj]],.agg [ai 3,aj]⟩::A.Tq
def A.Ts:=⟨218,[.agg [ai 2,aj],.agg [ai 1,aj]],(.aX [.agg [ai 2,aj],.agg [ai 0,aj]])⟩::A.Tr
def A.Tt:=⟨176,[.agg [ai 1,aj],.agg [ai 2,aj]],.agg [ai 1,aj]⟩::A.Ts
def A.Tu:=⟨218,[.agg [ai 1,aj],.agg [ai 1,aj]],(.aX [.agg [ai 1,aj],.agg [ai 0,aj]])⟩::A.Tt
def A.Tv:=⟨197,[.agg [ai 1,aj],.agg [ai 1,aj]],.agg [ai 1,aj]⟩::A.Tu
def A.Tw:=⟨197,[.agg [ai 2,aj],.agg [ai 1,aj]],.agg [ai 2,aj]⟩::A.Tv
def A.Ty:=⟨146,[.agg [ai 1,aj],.agg [ai 2,aj]],.agg [ai 1,aj,ai 2,aj]⟩::A.Tw
def A.Tz:=⟨178,[.agg [ai 2,aj,ai 1,aj]],.agg [ai 1,aj,ai 2,aj]⟩::A.Ty
def A.TA:=⟨147,[.agg [ai 2,aj],.agg [ai 1,aj]],.agg [ai 2,aj]⟩::A.Tz
def A.TC:=⟨198,[.int .u64 1,.int .u64 2],.aX [.int .u64 0,.int .u64 2]⟩::A.TA
def A.TD:=⟨147,[.agg [ai 1,aj],.agg [ai 2,aj]],.agg [ai 2,aj]⟩::A.TC
def A.TE:=⟨82,[.agg [ai 2,aj,ai 1,aj],.agg [ai 1,aj,ai 2,aj]],.agg [ai 1,aj,ai 1,aj]⟩::A.TD
def A.TF:=⟨118,[.agg [ai 2,aj,ai 1,aj],.agg [ai 2,aj,ai 1,aj]],.agg [ai 1,aj,ai 1,aj]⟩::A.TE
def A.TG:=⟨82,[.agg [ai 1,aj,ai 1,aj],.agg [ai 1,aj,ai 2,aj]],.agg [ai 1,aj,ai 2,aj]⟩::A.TF
def A.TH:=⟨118,[.agg [ai 1,aj,ai 1,aj],.agg [ai 2,aj,ai 1,aj]],.agg [ai 1,aj,ai 2,aj]⟩::A.TG
def A.TI:=⟨147,[.agg [ai 3,aj],.agg [ai 1,aj]],.agg [ai 3,aj]⟩::A.TH
def A.TJ:=⟨218,[.agg [ai 3,aj],.agg [ai 1,aj]],(.aX [.agg [ai 3,aj],.agg [ai 0,aj]])⟩::A.TI
def A.TK:=⟨197,[.agg [ai 3,aj],.agg [ai 1,aj]],.agg [ai 3,aj]⟩::A.TJ
def A.TL:=⟨176,[.agg [ai 2,aj],.agg [ai 3,aj]],.agg [ai 1,aj]⟩::A.TK
def A.TM:=⟨146,[.agg [ai 2,aj],.agg [ai 3,aj]],.agg [ai 2,aj,ai 3,aj]⟩::A.TL
def A.Fu:=⟨146,[.agg [ai 0,aj],.agg [ai 3,aj]],.agg [ai 0,aj,ai 1,aj]⟩::A.TM
def A.E2:=⟨41,[],[],[.slice 567 0 2 none 1],[(567,.cells [.slice 560 0 3 none 4,.slice 565 0 3 none 4] 70 true),(560,.cells [ai 2,aj,ai 1,aj,ai 1,aj,ai 1,aj,ai 3,aj,ai 1,aj] 89 true),(565,.cells [ai 1,aj,ai 1,aj,ai 2,aj,ai 1,aj,ai 0,aj,ai 1,aj] 89 true)]++A.TB,568,(.aX [(.slice 568 0 2 (some 2) 1),.slice 571 0 2 none 1]),[(568,.cells [(.slice 569 0 3 (some 3) 4),.slice 570 0 3 none 4] 70 true),(916,.cells [ai 1,aj,ai 1,aj,ai 0,aj,ai 1,aj,ai 2,aj,ai 1,aj] 89 true),(912,.cells [ai 0,aj,ai 1,aj,ai 1,aj,ai 1,aj,ai (-1),aj,ai 1,aj] 89 true),(1155,.cells [ai 0,ai 1] 3 true)],[]⟩::A.E1
def A.E3:=⟨8,[],[],[(.slice 12 0 2 (some 2) 1),(.slice 141 0 3 (some 3) 1)],[(12,.cells [(.slice 10 0 3 (some 3) 1),(.slice 11 0 3 (some 3) 1)] 23 true),(10,.cells [.str [49],.str [45,49],.str [48]] 39 true),(11,.cells [.str [48],.str [49],.str [45,49]] 39 true),(141,.cells [.str [51],.str [48],.str [48]] 39 true)]++A.TB,142,(.aX [(.slice 142 0 3 (some 3) 1),(.slice 143 0 3 (some 3) 1),ai 0]),[(753,.cells [.str [50],.str [45,49],.str [45,49]] 39 true),(804,.cells [.str [49],.str [49],.str [49]] 39 true)],[]⟩::A.E2
def A.TN:=⟨146,[.agg [ai 2,aj],.agg [ai 9,aj]],.agg [ai 2,aj,ai 9,aj]⟩::A.Fu
def A.zv:=⟨178,[.agg [ai 9,aj,ai 2,aj]],.agg [ai 2,aj,ai 9,aj]⟩::A.TN
def A.E4:=⟨116,[],[],[(.slice 695 0 4 (some 4) 4),(.func 117 [] [.ptr 876 0])],[(695,.cells [ai 0,aj,ai 1,aj,ai 9,aj,ai 2,aj,ai (-3),aj,ai 2,aj,ai 3,aj,ai 2,aj] 89 true),(876,.cells [ai 9,aj,ai 2,aj] 89 true)]++A.TB,877,.slice 877 0 4 none 4,[(1120,.cells [ai 0,aj,ai 1,aj,ai 1,aj,ai 1,aj,ai (-1),aj,ai 3,aj,ai 1,aj,ai 3,aj] 89 true)],[]⟩::A.E3
def A.E5:=⟨50,[],[],[.slice 690 0 4 none 4,.slice 877 0 4 none 4,(.func 119 [] [.ptr 878 0])],[(690,.cells [ai 1,aj,ai 1,aj,ai 1,aj,ai 2,aj,ai 1,aj,ai 2,aj,ai 1,aj,ai 2,aj] 89 true),(877,.cells [ai 0,aj,ai 1,aj,ai 1,aj,ai 1,aj,ai (-1),aj,ai 3,aj,ai 1,aj,ai 3,aj] 89 true),(878,.cells [ai 1,aj,ai 2,aj] 89 true)]++A.TB,881,(.slice 881 0 4 (some 4) 4),[(881,.cells [ai 1,aj,ai 1,aj,ai 0,aj,ai 1,aj,ai 2,aj,ai 3,aj,ai 1,aj,ai 3,aj] 89 true)],[]⟩::A.E4
def A.E6:=⟨44,[],[],[.slice 654 0 2 none 1,.slice 493 0 2 none 1],[(654,.cells [.slice 571 0 2 none 4,.slice 652 0 2 none 4] 70 true),(571,.cells [ai 2,aj,ai 1,aj,ai 1,aj,ai 1,aj] 89 true),(652,.cells [ai 1,aj,ai 1,aj,ai 5,aj,ai 1,aj] 89 true),(493,.cells [(.slice 474 0 2 (some 2) 4),(.slice 484 0 2 (some 2) 4)] 70 true),(474,.cells [ai 1,aj,ai 1,aj,ai 1,aj,ai 1,aj] 89 true),(484,.cells [ai (-1),aj,ai 1,aj,ai 2,aj,ai 1,aj] 89 true)]++A.TB,655,.aX [.slice 655 0 2 none 1,o_],[(888,.cells [(.slice 656 8 2 (some 2) 4),.slice 657 8 2 none 4] 70 true),(881,.cells [ai 1,aj,ai 1,aj,ai 0,aj,ai 1,aj,ai 2,aj,ai 3,aj,ai 1,aj,ai 3,aj] 89 true),(877,.cells [ai 0,aj,ai 1,aj,ai 1,aj,ai 1,aj,ai (-1),aj,ai 3,aj,ai 1,aj,ai 3,aj] 89 true)],[]⟩::A.E5
def A.E7:=⟨99,[],[],[.slice 160 0 2 none 1,(.slice 161 0 2 (some 2) 4),(.slice 162 0 2 (some 2) 1)],[(160,.cells [(.slice 155 0 3 (some 3) 4),(.slice 158 0 3 (some 3) 4)] 70 true),(155,.cells [ai 1,aj,ai 1,aj,ai (-1),aj,ai 1,aj,ai 0,aj,ai 1,aj] 89 true),(158,.cells [ai 0,aj,ai 1,aj,ai 1,aj,ai 1,aj,ai (-1),aj,ai 1,aj] 89 true),(161,.cells [ai 1,aj,ai 1,aj,ai 1,aj,ai 1,aj] 89 true),(162,.cells [(.slice 210 0 3 (some 3) 4),.slice 206 0 3 none 4] 70 true),(210,.cells [ai 1,aj,ai 1,aj,ai 0,aj,ai 1,aj,ai (-1),aj,ai 1,aj] 89 true),(206,.cells [ai 0,aj,ai 1,aj,ai 1,aj,ai 1,aj,ai (-1),aj,ai 1,aj] 89 true)]++A.TB,275,.aX [.slice 275 0 2 none 1,o_],[(655,.cells [(.slice 276 8 2 (some 2) 4),.slice 277 8 2 none 4] 70 true),(656,.cells [ai 1,aj,ai 1,aj,ai 0,aj,ai 1,aj,ai 2,aj,ai 3,aj,ai 1,aj,ai 3,aj] 89 true),(657,.cells [ai 0,aj,ai 1,aj,ai 1,aj,ai 1,aj,ai (-1),aj,ai 3,aj,ai 1,aj,ai 3,aj] 89 true)],[]⟩::A.E6
def A.TO:=⟨176,[.agg [ai 1,aj],.agg [ai 3,aj]],.agg [ai 1,aj]⟩::A.zv
def A.TQ:=⟨146,[.agg [ai 1,aj],.agg [ai 3,aj]],.agg [ai 1,aj,ai 3,aj]⟩::A.TO
def A.TR:=⟨75,[.agg [ai 0,aj,ai 1,aj],.agg [ai 1,aj,ai 3,aj]],.agg [ai 1,aj,ai 3,aj]⟩::A.TQ
def A.TS:=⟨82,[.agg [ai 1,aj,ai 3,aj],.agg [ai 0,aj,ai 1,aj]],.agg [ai 0,aj,ai 1,aj]⟩::A.TR
def A.TT:=⟨146,[(.agg [ai (-1),aj]),.agg [ai 3,aj]],(.agg [ai (-1),aj,ai 3,aj])⟩::A.TS
def A.BY:=⟨75,[.agg [ai 0,aj,ai 1,aj],(.agg [ai (-1),aj,ai 3,aj])],(.agg [ai (-1),aj,ai 3,aj])⟩::A.TT
def A.E8:=⟨90,[],[],[.slice 322 0 2 none 1,(.func 125 [.slice 302 0 2 none 4] [])],[(322,.cells [.slice 311 0 2 none 4,.slice 320 0 2 none 4] 70 true),(311,.cells [ai 2,aj,ai 3,aj,ai (-1),aj,ai 3,aj] 89 true),(320,.cells [ai 1,aj,ai 3,aj,ai 1,aj,ai 3,aj] 89 true),(302,.cells [ai (-1),aj,ai 1,aj,ai (-1),aj,ai 1,aj] 89 true)]++A.TB,422,.slice 422 0 2 none 4,[(693,.cells [ai (-1),aj,ai 3,aj,ai (-2),aj,ai 3,aj] 89 true)],[]⟩::A.E7
def A.E9:=⟨67,[],[],[.slice 160 0 2 none 1,(.slice 161 0 2 (some 2) 4)],[(160,.cells [(.slice 155 0 3 (some 3) 4),(.slice 158 0 3 (some 3) 4)] 70 true),(155,.cells [ai 1,aj,ai 1,aj,ai (-1),aj,ai 1,aj,ai 0,aj,ai 1,aj] 89 true),(158,.cells [ai 0,aj,ai 1,aj,ai 1,aj,ai 1,aj,ai (-1),aj,ai 1,aj] 89 true),(161,.cells [ai 1,aj,ai 1,aj,ai 1,aj,ai 1,aj] 89 true)]++A.TB,162,.slice 162 0 3 none 1,[(424,.cells [.slice 163 0 2 none 4,.slice 164 0 2 none 4,.slice 165 0 2 none 4] 70 true),(385,.cells [ai 2,aj,ai 3,aj,ai 1,aj,ai 3,aj] 89 true),(419,.cells [ai (-1),aj,ai 3,aj,ai 1,aj,ai 3,aj] 89 true),(422,.cells [ai (-1),aj,ai 3,aj,ai (-2),aj,ai 3,aj] 89 true)],[]⟩::A.E8
def A.sY:=⟨20,[],[],[(.slice 12 0 2 (some 2) 1),(.slice 13 0 2 (some 2) 1)],[(12,.cells [(.slice 10 0 3 (some 3) 1),(.slice 11 0 3 (some 3) 1)] 23 true),(10,.cells [.str [49],.str [45,49],.str [48]] 39 true),(11,.cells [.str [48],.str [49],.str [45,49]] 39 true),(13,.cells [.str [49],.str [49]] 39 true)]++A.TB,144,.aX [.slice 144 0 3 none 1,ai 0],[(253,.cells [(.slice 145 0 2 (some 2) 1),(.slice 146 0 2 (some 2) 1),(.slice 147 0 2 (some 2) 1)] 23 true),(180,.cells [.str [50,47,51],.str [49,47,51]] 39 true),(207,.cells [.str [45,49,47,51],.str [49,47,51]] 39 true),(239,.cells [.str [45,49,47,51],.str [45,50,47,51]] 39 true)],[]⟩::A.E9
def A.TU:=⟨216,[.str [50],.str [48,49,50,51,52,53,54,55,56,57]],.str []⟩::A.BY
def A.TV:=⟨173,[.str [50]],o_⟩::A.TU
def A.TW:=⟨149,[.str [50]],.agg [ai 2,aj]⟩::A.TV
def A.TX:=⟨113,[.str [49,47,51]],ai 0⟩::A.TW
def A.TY:=⟨113,[.str [45,49,47,51]],ai 0⟩::A.TX
def A.TZ:=⟨76,[.str [49,47,51]],.agg [ai 1,aj,ai 3,aj]⟩::A.TY
def A.Kj:=⟨76,[.str [45,49,47,51]],(.agg [ai (-1),aj,ai 3,aj])⟩::A.TZ
def A.Fv:=⟨21,[],[],[.slice 144 0 3 none 1,(.slice 148 0 2 (some 2) 1)],[(144,.cells [(.slice 145 0 2 (some 2) 1),(.slice 146 0 2 (some 2) 1),(.slice 147 0 2 (some 2) 1)] 23 true),(145,.cells [.str [50,47,51],.str [49,47,51]] 39 true),(146,.cells [.str [45,49,47,51],.str [49,47,51]] 39 true),(147,.cells [.str [45,49,47,51],.str [45,50,47,51]] 39 true),(148,.cells [.str [51],.str [48]] 39 true)]++A.TB,149,(.aX [(.slice 149 0 3 (some 3) 1),ai 0]),[(443,.cells [.str [50],.str [45,49],.str [45,49]] 39 true)],[]⟩::A.sY
def A.T0:=⟨113,[.str [50]],ai 0⟩::A.Kj
def A.Fw:=⟨76,[.str [50]],.agg [ai 2,aj,ai 1,aj]⟩::A.T0
def A.T1:=⟨116,[],[],[.slice 403 0 3 none 4,(.func 117 [] [.ptr 410 0])],[(403,.cells [ai 8,aj,ai 1,aj,ai 4,aj,ai 1,aj,ai 2,aj,ai 1,aj] 89 true),(410,.cells [ai 8,aj,ai 1,aj] 89 true)]++A.TB,411,.slice 411 0 3 none 4,[(709,.cells [ai 1,aj,ai 1,aj,ai 1,aj,ai 2,aj,ai 1,aj,ai 4,aj] 89 true)],[]⟩::A.Fv
def A.Kk:=⟨67,[],[],[.slice 192 0 2 none 1,(.slice 193 0 2 (some 2) 4)],[(192,.cells [(.slice 187 0 1 (some 1) 4),(.slice 190 0 1 (some 1) 4)] 70 true),(187,.cells [ai 1,aj,ai 1,aj] 89 true),(190,.cells [ai 2,aj,ai 1,aj] 89 true),(193,.cells [ai 4,aj,ai 1,aj,ai 1,aj,ai 1,aj] 89 true)]++A.TB,206,.slice 206 0 1 none 1,[(557,.cells [.slice 207 0 2 none 4] 70 true),(555,.cells [ai 1,aj,ai 2,aj,ai 1,aj,ai 4,aj] 89 true)],[]⟩::A.T1
def A.xS:=⟨149,[.str [53]],.agg [ai 5,aj]⟩::A.Fw
def A.T5:=⟨44,[],[],[.slice 326 0 1 none 1,.slice 283 0 1 none 1],[(326,.cells [.slice 324 0 1 none 4] 70 true),(324,.cells [ai 10,aj,ai 1,aj] 89 true),(283,.cells [(.slice 274 0 2 (some 2) 4)] 70 true),(274,.cells [ai 1,aj,ai 1,aj,ai 2,aj,ai 1,aj] 89 true)]++A.TB,342,.aX [.slice 342 0 1 none 1,o_],[(634,.cells [.slice 343 4 2 none 4] 70 true),(629,.cells [ai 1,aj,ai 1,aj,ai 1,aj,ai 10,aj,ai 1,aj,ai 5,aj] 89 true)],[]⟩::A.Kk
def A.T7:=⟨23,[],[],[(.slice 160 0 2 (some 2) 1),(.slice 13 0 2 (some 2) 1),.str [53]],[(160,.cells [(.slice 158 0 1 (some 1) 1),(.slice 159 0 1 (some 1) 1)] 23 true),(158,.cells [.str [49]] 39 true),(159,.cells [.str [50]] 39 true),(13,.cells [.str [49],.str [49]] 39 true)]++A.TB,231,.aX [.slice 231 0 1 none 1,ai 0],[(366,.cells [(.slice 232 0 2 (some 2) 1)] 23 true),(354,.cells [.str [49,47,49,48],.str [49,47,53]] 39 true)],[]⟩::A.T5
def A.T9:=⟨24,[],[],[(.slice 160 0 2 (some 2) 1),(.slice 13 0 2 (some 2) 1),(.slice 233 0 2 (some 2) 1),(.slice 234 0 1 (some 1) 1)],[(160,.cells [(.slice 158 0 1 (some 1) 1),(.slice 159 0 1 (some 1) 1)] 23 true),(158,.cells [.str [49]] 39 true),(159,.cells [.str [50]] 39 true),(13,.cells [.str [49],.str [49]] 39 true),(233,.cells [.str [53],.str [48]] 39 true),(234,.cells [.str [49]] 39 true)]++A.TB,235,(.aX [.str [50,48],ai 0]),[],[]⟩::A.T7
def A.Ub:=⟨81,[],[],[(.slice 313 0 2 (some 2) 4),(.slice 307 0 2 (some 2) 4)],[(313,.cells [ai 1,aj,ai 5,aj,ai 2,aj,ai 5,aj] 89 true),(307,.cells [ai 1,aj,ai 5,aj,ai 2,aj,ai 5,aj] 89 true)]++A.TB,403,.agg [ai 1,aj,ai 5,aj],[],[]⟩::A.T9
def A.Fy:=⟨25,[],[],[(.slice 236 0 1 (some 1) 1),(.slice 13 0 2 (some 2) 1)],[(236,.cells [(.slice 235 0 2 (some 2) 1)] 23 true),(235,.cells [.str [49,47,53],.str [50,47,53]] 39 true),(13,.cells [.str [49],.str [49]] 39 true)]++A.TB,237,(.aX [(.slice 237 0 1 (some 1) 1),ai 0]),[(410,.cells [.str [49,47,53]] 39 true)],[]⟩::A.Ub
def A.Ue:=⟨82,[.agg [ai 4,aj,ai 1,aj],.agg [ai 1,aj,ai 2,aj]],.agg [ai 2,aj,ai 1,aj]⟩::A.xS
def A.jl:=⟨118,[.agg [ai 4,aj,ai 1,aj],.agg [ai 2,aj,ai 1,aj]],.agg [ai 2,aj,ai 1,aj]⟩::A.Ue
def A.Uh:=⟨26,[],[],[(.slice 240 0 2 (some 2) 3),ai 2,ai 1],[(240,.cells [ai 0,.str [50],(.slice 238 0 2 (some 2) 1),ai 0,.str [45,49],(.slice 239 0 2 (some 2) 1)] 54 true),(238,.cells [.str [50],.str [52]] 39 true),(239,.cells [.str [45,51],.str [45,50]] 39 true)]++A.TB,241,.aX [.slice 241 0 2 none 1,ai 0],[(459,.cells [(.slice 242 0 1 (some 1) 1),(.slice 243 0 1 (some 1) 1)] 23 true),(441,.cells [.str [50]] 39 true),(453,.cells [.str [50]] 39 true)],[]⟩::A.Fy
def A.Uj:=⟨27,[],[],[(.slice 240 0 2 (some 2) 3),ai 2,ai 1],[(240,.cells [ai 0,.str [50],(.slice 238 0 2 (some 2) 1),ai 0,.str [45,49],(.slice 239 0 2 (some 2) 1)] 54 true),(238,.cells [.str [50],.str [52]] 39 true),(239,.cells [.str [45,51],.str [45,50]] 39 true)]++A.TB,244,(.aX [(.slice 244 0 1 (some 1) 1),ai 0]),[(577,.cells [.str [50]] 39 true)],[]⟩::A.Uh
def A.Ul:=⟨28,[],[],[(.slice 12 0 2 (some 2) 1),(.slice 13 0 2 (some 2) 1),(.slice 255 0 1 (some 1) 1)],[(12,.cells [(.slice 10 0 3 (some 3) 1),(.slice 11 0 3 (some 3) 1)] 23 true),(10,.cells [.str [49],.str [45,49],.str [48]] 39 true),(11,.cells [.str [48],.str [49],.str [45,49]] 39 true),(13,.cells [.str [49],.str [49]] 39 true),(255,.cells [(.slice 254 0 3 (some 3) 1)] 23 true),(254,.cells [.str [49],.str [48],.str [45,49]] 39 true)]++A.TB,256,.aX [.slice 256 0 1 none 1,ai 0],[(478,.cells [(.slice 257 0 2 (some 2) 1)] 23 true),(466,.cells [.str [49,47,50],.str [49,47,50]] 39 true)],[]⟩::A.Uj
def A.Un:=⟨99,[],[],[.slice 281 0 2 none 1,(.slice 282 0 2 (some 2) 4),.slice 285 0 1 none 1],[(281,.cells [(.slice 276 0 3 (some 3) 4),(.slice 279 0 3 (some 3) 4)] 70 true),(276,.cells [ai 1,aj,ai 1,aj,ai (-1),aj,ai 1,aj,ai 0,aj,ai 1,aj] 89 true),(279,.cells [ai 0,aj,ai 1,aj,ai 1,aj,ai 1,aj,ai (-1),aj,ai 1,aj] 89 true),(282,.cells [ai 1,aj,ai 1,aj,ai 1,aj,ai 1,aj] 89 true),(285,.cells [(.slice 283 0 3 (some 3) 4)] 70 true),(283,.cells [ai 1,aj,ai 1,aj,ai 1,aj,ai 1,aj,ai 1,aj,ai 1,aj] 89 true)]++A.TB,286,.aX [aj,aI],[],[]⟩::A.Ul
def A.Up:=⟨29,[],[],[(.slice 288 0 2 (some 2) 1),(.slice 289 0 2 (some 2) 1)],[(288,.cells [(.slice 286 0 3 (some 3) 1),(.slice 287 0 3 (some 3) 1)] 23 true),(286,.cells [.str [49],.str [48],.str [45,49]] 39 true),(287,.cells [.str [48],.str [49],.str [45,49]] 39 true),(289,.cells [.str [50],.str [51]] 39 true)]++A.TB,290,(.aX [(.slice 290 0 3 (some 3) 1),ai 0]),[(484,.cells [.str [50],.str [51],.str [45,53]] 39 true)],[]⟩::A.Un
def A.Ur:=⟨33,[],[],[(.slice 12 0 2 (some 2) 1),.slice 136 0 1 none 1],[(12,.cells [(.slice 10 0 3 (some 3) 1),(.slice 11 0 3 (some 3) 1)] 23 true),(10,.cells [.str [49],.str [45,49],.str [48]] 39 true),(11,.cells [.str [48],.str [49],.str [45,49]] 39 true),(136,.cells [(.slice 137 0 3 (some 3) 1)] 23 true),(137,.cells [.str [49],.str [49],.str [49]] 39 true)]++A.TB,339,ai 0,[],[]⟩::A.Up
def A.Ut:=⟨116,[],[],[(.slice 899 0 4 (some 4) 4),(.func 117 [] [.ptr 1080 0])],[(899,.cells [ai 0,aj,ai 1,aj,ai 9,aj,ai 2,aj,ai (-3),aj,ai 2,aj,ai 3,aj,ai 2,aj] 89 true),(1080,.cells [ai 9,aj,ai 2,aj] 89 true)]++A.TB,1081,.slice 1081 0 4 none 4,[(1324,.cells [ai 0,aj,ai 1,aj,ai 1,aj,ai 1,aj,ai (-1),aj,ai 3,aj,ai 1,aj,ai 3,aj] 89 true)],[]⟩::A.Ur
def A.Uv:=⟨50,[],[],[.slice 894 0 4 none 4,.slice 1081 0 4 none 4,(.func 119 [] [.ptr 1082 0])],[(894,.cells [ai 1,aj,ai 1,aj,ai 1,aj,ai 2,aj,ai 1,aj,ai 2,aj,ai 1,aj,ai 2,aj] 89 true),(1081,.cells [ai 0,aj,ai 1,aj,ai 1,aj,ai 1,aj,ai (-1),aj,ai 3,aj,ai 1,aj,ai 3,aj] 89 true),(1082,.cells [ai 1,aj,ai 2,aj] 89 true)]++A.TB,1085,(.slice 1085 0 4 (some 4) 4),[(1085,.cells [ai 1,aj,ai 1,aj,ai 0,aj,ai 1,aj,ai 2,aj,ai 3,aj,ai 1,aj,ai 3,aj] 89 true)],[]⟩::A.Ut
def A.Ux:=⟨44,[],[],[.slice 858 0 2 none 1,.slice 697 0 2 none 1],[(858,.cells [.slice 775 0 2 none 4,.slice 856 0 2 none 4] 70 true),(775,.cells [ai 2,aj,ai 1,aj,ai 1,aj,ai 1,aj] 89 true),(856,.cells [ai 1,aj,ai 1,aj,ai 5,aj,ai 1,aj] 89 true),(697,.cells [(.slice 678 0 2 (some 2) 4),(.slice 688 0 2 (some 2) 4)] 70 true),(678,.cells [ai 1,aj,ai 1,aj,ai 1,aj,ai 1,aj] 89 true),(688,.cells [ai (-1),aj,ai 1,aj,ai 2,aj,ai 1,aj] 89 true)]++A.TB,859,.aX [.slice 859 0 2 none 1,o_],[(1092,.cells [(.slice 860 8 2 (some 2) 4),.slice 861 8 2 none 4] 70 true),(1085,.cells [ai 1,aj,ai 1,aj,ai 0,aj,ai 1,aj,ai 2,aj,ai 3,aj,ai 1,aj,ai 3,aj] 89 true),(1081,.cells [ai 0,aj,ai 1,aj,ai 1,aj,ai 1,aj,ai (-1),aj,ai 3,aj,ai 1,aj,ai 3,aj] 89 true)],[]⟩::A.Uv
def A.Uz:=⟨99,[],[],[.slice 364 0 2 none 1,(.slice 365 0 2 (some 2) 4),(.slice 366 0 2 (some 2) 1)],[(364,.cells [(.slice 359 0 3 (some 3) 4),(.slice 362 0 3 (some 3) 4)] 70 true),(359,.cells [ai 1,aj,ai 1,aj,ai (-1),aj,ai 1,aj,ai 0,aj,ai 1,aj] 89 true),(362,.cells [ai 0,aj,ai 1,aj,ai 1,aj,ai 1,aj,ai (-1),aj,ai 1,aj] 89 true),(365,.cells [ai 1,aj,ai 1,aj,ai 1,aj,ai 1,aj] 89 true),(366,.cells [(.slice 414 0 3 (some 3) 4),.slice 410 0 3 none 4] 70 true),(414,.cells [ai 1,aj,ai 1,aj,ai 0,aj,ai 1,aj,ai (-1),aj,ai 1,aj] 89 true),(410,.cells [ai 0,aj,ai 1,aj,ai 1,aj,ai 1,aj,ai (-1),aj,ai 1,aj] 89 true)]++A.TB,479,.aX [.slice 479 0 2 none 1,o_],[(859,.cells [(.slice 480 8 2 (some 2) 4),.slice 481 8 2 none 4] 70 true),(860,.cells [ai 1,aj,ai 1,aj,ai 0,aj,ai 1,aj,ai 2,aj,ai 3,aj,ai 1,aj,ai 3,aj] 89 true),(861,.cells [ai 0,aj,ai 1,aj,ai 1,aj,ai 1,aj,ai (-1),aj,ai 3,aj,ai 1,aj,ai 3,aj] 89 true)],[]⟩::A.Ux
def A.UB:=⟨90,[],[],[.slice 526 0 2 none 1,(.func 125 [.slice 506 0 2 none 4] [])],[(526,.cells [.slice 515 0 2 none 4,.slice 524 0 2 none 4] 70 true),(515,.cells [ai 2,aj,ai 3,aj,ai (-1),aj,ai 3,aj] 89 true),(524,.cells [ai 1,aj,ai 3,aj,ai 1,aj,ai 3,aj] 89 true),(506,.cells [ai (-1),aj,ai 1,aj,ai (-1),aj,ai 1,aj] 89 true)]++A.TB,626,.slice 626 0 2 none 4,[(897,.cells [ai (-1),aj,ai 3,aj,ai (-2),aj,ai 3,aj] 89 true)],[]⟩::A.Uz
def A.UD:=⟨67,[],[],[.slice 364 0 2 none 1,(.slice 365 0 2 (some 2) 4)],[(364,.cells [(.slice 359 0 3 (some 3) 4),(.slice 362 0 3 (some 3) 4)] 70 true),(359,.cells [ai 1,aj,ai 1,aj,ai (-1),aj,ai 1,aj,ai 0,aj,ai 1,aj] 89 true),(362,.cells [ai 0,aj,ai 1,aj,ai 1,aj,ai 1,aj,ai (-1),aj,ai 1,aj] 89 true),(365,.cells [ai 1,aj,ai 1,aj,ai 1,aj,ai 1,aj] 89 true)]++A.TB,366,.slice 366 0 3 none 1,[(628,.cells [.slice 367 0 2 none 4,.slice 368 0 2 none 4,.slice 369 0 2 none 4] 70 true),(589,.cells [ai 2,aj,ai 3,aj,ai 1,aj,ai 3,aj] 89 true),(623,.cells [ai (-1),aj,ai 3,aj,ai 1,aj,ai 3,aj] 89 true),(626,.cells [ai (-1),aj,ai 3,aj,ai (-2),aj,ai 3,aj] 89 true)],[]⟩::A.UB
def A.PA:=⟨34,[],[],[(.slice 12 0 2 (some 2) 1),(.slice 13 0 2 (some 2) 1),.slice 144 0 3 none 1],[(12,.cells [(.slice 10 0 3 (some 3) 1),(.slice 11 0 3 (some 3) 1)] 23 true),(10,.cells [.str [49],.str [45,49],.str [48]] 39 true),(11,.cells [.str [48],.str [49],.str [45,49]] 39 true),(13,.cells [.str [49],.str [49]] 39 true),(144,.cells [(.slice 145 0 2 (some 2) 1),(.slice 146 0 2 (some 2) 1),(.slice 147 0 2 (some 2) 1)] 23 true),(145,.cells [.str [50,47,51],.str [49,47,51]] 39 true),(146,.cells [.str [45,49,47,51],.str [49,47,51]] 39 true),(147,.cells [.str [45,49,47,51],.str [45,50,47,51]] 39 true)]++A.TB,339,ai 0,[],[]⟩::A.UD
def A.L91:=⟨7,[],o_⟩::A.jl
def A.mixed:Tryz.prog.follows .mixedOrders=true:=by kernel_rfl
def A.names:(Tryz.prog.funcs.toList.all fun fn=>!(fn.name== "runtime.NumGoroutine"))=true:=by kernel_rfl
def A.exts:((List.range Tryz.prog.funcs.size).all fun i=>match Tryz.prog.funcs[i]? with
  |some fn=>fn.body.isSome||(yU fn.name).isNone||He i [234,236,280,285]
  |none=>true)=true:=by kernel_rfl
def A.globals:Tryz.prog.globals.size=10:=by kernel_rfl
def A.XH(fn:Func)(e:Ext)(hf:Tryz.prog.funcs[234]?=some fn)(he:yU fn.name=some e):(fn.name== "runtime.NumGoroutine")=false/\Extern.findNext fn=none/\Extern.find fn=some (G7 e):=by
 obtain rfl:fn=Tryz.f234:=(oV (Tryz.func234.symm.trans hf)).symm
 obtain rfl:e=.gH:=(oV ((show yU Tryz.f234.name=some .gH by kernel_rfl).symm.trans he)).symm
 exact⟨by kernel_rfl,by kernel_rfl,by kernel_rfl⟩
def A.XI(fn:Func)(e:Ext)(hf:Tryz.prog.funcs[236]?=some fn)(he:yU fn.name=some e):(fn.name== "runtime.NumGoroutine")=false/\Extern.findNext fn=none/\Extern.find fn=some (G7 e):=by
 obtain rfl:fn=Tryz.f236:=(oV (Tryz.func236.symm.trans hf)).symm
 obtain rfl:e=.jC:=(oV ((show yU Tryz.f236.name=some .jC by kernel_rfl).symm.trans he)).symm
 exact⟨by kernel_rfl,by kernel_rfl,by kernel_rfl⟩
def A.XJ(fn:Func)(e:Ext)(hf:Tryz.prog.funcs[280]?=some fn)(he:yU fn.name=some e):(fn.name== "runtime.NumGoroutine")=false/\Extern.findNext fn=none/\Extern.find fn=some (G7 e):=by
 obtain rfl:fn=Tryz.f280:=(oV (Tryz.func280.symm.trans hf)).symm
 obtain rfl:e=.same:=(oV ((show yU Tryz.f280.name=some .same by kernel_rfl).symm.trans he)).symm
 exact⟨by kernel_rfl,by kernel_rfl,by kernel_rfl⟩
def A.XK(fn:Func)(e:Ext)(hf:Tryz.prog.funcs[285]?=some fn)(he:yU fn.name=some e):(fn.name== "runtime.NumGoroutine")=false/\Extern.findNext fn=none/\Extern.find fn=some (G7 e):=by
 obtain rfl:fn=Tryz.f285:=(oV (Tryz.func285.symm.trans hf)).symm
 obtain rfl:e=.bW:=(oV ((show yU Tryz.f285.name=some .bW by kernel_rfl).symm.trans he)).symm
 exact⟨by kernel_rfl,by kernel_rfl,by kernel_rfl⟩
def A.Hf:uy Tryz.prog:=by
 intro g fn e hf hb he
 have h:=lB.1 A.exts g (u9.2 (by
  rcases Nat.lt_or_ge g Tryz.prog.funcs.size with h|h
  ·exact h
  ·rw[Array.getElem?_eq_none h]at hf;cases hf))
 rw[hf]at h
 simp only[hb,he,Option.isNone_some,Bool.or_false,Bool.false_or]at h
 have hm:=Mf.1 h
 simp only[kW,List.mem_nil_iff,or_false]at hm
 rcases hm with rfl|rfl|rfl|rfl
 ·exact A.XH fn e hf he
 ·exact A.XI fn e hf he
 ·exact A.XJ fn e hf he
 ·exact A.XK fn e hf he
def A.zw:DF Tryz.prog A.dK 10 where
 m:=A.mixed
 e:=A.Hf
 t:=fun f mf hf=>⟨hf,fun fn BH=>by
  have h:=lB.1 A.names fn (Array.mem_toList_iff.2 (Array.mem_of_getElem? BH))
  simpa using h⟩
 g:=A.globals
end Go.Mx
