/-From what a law is handed to what the ma-/
import Derived.Test.YtmhlaoiplmemiaaGreatDoorAvH
import Derived.Deep.Slices
import Derived.Lib.LaidTab
import Derived.LaidSub
import Derived.ChangeShapes
import Derived.WideShapes
import Derived.Test.YtmhlaoiplmemiaaGreatDoorChecked
set_option linter.all false
namespace Go.Mx
open Go Go.ChangeShapes Go.WideShapes Go.RowKit Go.Deep
variable {P:Program}
def Yb1{t s:TypeId}(ht:P.underlying t=some (.slice s))(hs:P.underlying s=some .string)(hc:P.cellsOf s=1){H:Type}{enc:TypeId×Value→H}{W:World}{fuel:Nat}{c:Value}{x:DataW H×List MemPlace}
  (h:DataW.trod enc P W 0 (fun _=>true) true fuel t [c]=some x):∃i:Zmg,c=i.val∧i.ok W∧i.strs.length<9223372036854775808:=by
 rcases open_slice1 ht hc h with⟨hc,_⟩|⟨a,len,cap,m,n,Vf,D,Pl,hc,_,hl,hmx,hm,_,hx⟩
 ·have hc':c=.slice none 0 0:=by simpa using hc
  exact⟨.nil,hc',trivial,by simp[Zmg.strs]⟩
 ·simp only[if_true]at hm
  subst hm
  have hc':c=.slice (some a) len m:=by simpa using hc
  rcases Yxi m with h0|h0
  ·subst h0
   have:len=0:=by omega
   subst this
   exact⟨.emp a,hc',trivial,by simp[Zmg.strs]⟩
  ·refine⟨.sl a len m fun i=>match Vf i with|.string s=>s|_=>⟨#[]⟩,hc',⟨hl,h0,fun i hi=>?_⟩,by simp only[Zmg.strs,Yvn,List.length_range];unfold maxLen at hmx;omega⟩
   obtain⟨g1,g2⟩:=hx i hi
   obtain⟨s,e0,_⟩:=DataW.trod_string hs g2
   simp only[Yvf,and_true]at e0
   rw[g1]
   simp only[e0]
def open_mat{t l s:TypeId}(ht:P.underlying t=some (.slice l))(hlt:P.underlying l=some (.slice s))(hs:P.underlying s=some .string)(hcl:P.cellsOf l=1)(hc:P.cellsOf s=1){H:Type}{enc:TypeId×Value→H}{W:World}{fuel:Nat}{c:Value}{x:DataW H×List MemPlace}
  (h:DataW.trod enc P W 0 (fun _=>true) true fuel t [c]=some x):∃m:Zpu,c=m.val∧m.ok W∧m.rows.length<9223372036854775808∧∀r∈m.rows,r.length<9223372036854775808:=by
 rcases open_slice1 ht hcl h with⟨hc,_⟩|⟨a,len,cap,m,n,Vf,D,Pl,hc',_,hl,hmx,hm,_,hx⟩
 ·have hc':c=.slice none 0 0:=by simpa using hc
  exact⟨.nil,hc',trivial,by simp[Zpu.rows],fun r hr=>by simp[Zpu.rows]at hr⟩
 ·simp only[if_true]at hm
  subst hm
  have hc':c=.slice (some a) len m:=by simpa using hc'
  rcases Yxi m with h0|h0
  ·subst h0
   have:len=0:=by omega
   subst this
   exact⟨.emp a,hc',trivial,by simp[Zpu.rows],fun r hr=>by simp[Zpu.rows]at hr⟩
  ·have hst:∀i,∃s:Zmg,i<m→Vf i=s.val∧s.ok W∧s.strs.length<9223372036854775808:=fun i=>by
    by_cases hi:i<m
    ·obtain⟨g1,g2⟩:=hx i hi
     obtain⟨s,q⟩:=Yb1 hlt hs hc g2
     exact⟨s,fun _=>q⟩
    ·exact⟨.nil,fun h=>absurd h hi⟩
   obtain⟨F,hF⟩:=Classical.axiomOfChoice hst
   refine⟨.sl a len m F,hc',⟨hl,h0,fun i hi=>⟨?_,(hF i hi).2.1⟩⟩,by simp only[Zpu.rows,Yvn,List.length_range];unfold maxLen at hmx;omega,fun r hr=>?_⟩
   ·rw[(hx i hi).1,(hF i hi).1]
   ·obtain⟨i,hi,rfl⟩:=Yvb.1 hr
    exact(hF i (by have:=Yws.1 hi;omega)).2.2
def tabs_of_laid{W:World}{laid:List (String×DataW Unit)}{name:String}{k:IntKind}{zs:List Int}{g:Nat}{t e:TypeId}{n:Nat}{z:Array Value}
  (hg:P.globalNamed name=some g) (hty:(P.globals[g]?).map (·.type)=some t) (ht:P.underlying t=some (.array n e)) (he:P.underlying e=some (.int k)) (hce:P.cellsOf e=1) (hct:P.cellsOf t=n)
  (hf:laid.filter (fun x=>x.1==name)=[(name,Lib.tabData k zs)]) (hlt:g<P.globals.size) (hz:((begin P (fun _ _=>0) default).world.heap[g]?).bind Obj.row?=some (z,t))
  (hl:laidMet P laid W) (hs:W.ShapedOpen P):TabsIn P W [(g,.cells (zs.map fun z=>V.int k z) t false)]:=by
 have h1:=laidMet.filter (fun x=>x.1==name) hl
 rw[hf]at h1
 have h2:=Lib.tabIs_of_head hg hty ht he hce hct h1
 unfold Lib.TabIs World.var? at h2
 rw[hg]at h2
 obtain⟨cs,h3,_⟩:=hs.1 g z t hlt hz
 simp only[Option.bind_some,h3,Yup]at h2
 subst h2
 exact TabsIn.one h3
inductive IyV where
 |nil
 |emp (b:Addr)
 |sl (b:Addr) (l c:Nat) (f:Nat→Int)
def IyV.val:IyV→Value
 |.nil=>.slice none 0 0
 |.emp b=>.slice (some b) 0 0
 |.sl b l c f=>.slice (some b) l c
def IyV.ok(W:World):IyV→Prop
 |.sl b l c f=>l≤c∧0<c∧∀i,i<c→W.cell? (b.add i)=some (.int .i8 (f i))
 |_=>True
def IyV.ints:IyV→List Int
 |.sl b l c f=>(List.range l).map f
 |_=>[]
def Zor.ints8{P:Program}{W:World}{μ:Mu}{S:St}(s:Zor P W μ S){i:IyV}(hi:i.ok W):
  ∃μ' S' v,Zor P W μ' S'∧Zg1 μ S μ' S'∧VR μ' v i.val∧Sl S'.h S'.n v (i.ints.map fun z=>.int .i8 z):=by
 cases i with
 |nil=>exact⟨μ,S,.nilslice,s,Zg1.refl,by simp[IyV.val,VR],Sl.nil⟩
 |emp b=>exact⟨μ,S,.empty,s,Zg1.refl,by simp[IyV.val,VR],.inl ⟨rfl,.inr rfl⟩⟩
 |sl b l c f=>
  obtain⟨h1,h2,h3⟩:=hi
  obtain⟨μ',S',k,q1,q2,q3,q4,q5⟩:=s.slice (r:=⟨b,c,fun i=>.int .i8 (f i),fun i=>.int .i8 (f i)⟩) ⟨h2,h3,fun _ _=>rfl⟩ (fun i _=>by simp[VR]) (len:=l) (cap:=c) (z:=1) (by simp) h1 (by decide)
  refine⟨μ',S',_,q1,q2,q3,.inr ⟨k,0,some c,_,_,false,by simp[IyV.ints],q4,q5,fun j hj=>?_,by simp[IyV.ints];omega,fun k hk=>by simp[IyV.ints]at hk ⊢;omega⟩⟩
  have hj2:j<l:=by simpa[IyV.ints]using hj
  simp[IyV.ints,hj2,show j<c by omega]
def open_ints8{P:Program}{t s:TypeId}(ht:P.underlying t=some (.slice s))(hs:P.underlying s=some (.int .i8))(hc:P.cellsOf s=1){H:Type}{enc:TypeId×Value→H}{W:World}{fuel:Nat}{c:Value}{x:DataW H×List MemPlace}
  (h:DataW.trod enc P W 0 (fun _=>true) true fuel t [c]=some x):∃i:IyV,c=i.val∧i.ok W∧i.ints.length<9223372036854775808:=by
 rcases open_slice1 ht hc h with⟨hc,_⟩|⟨a,len,cap,m,n,Vf,D,Pl,hc,_,hl,hmx,hm,_,hx⟩
 ·have hc':c=.slice none 0 0:=by simpa using hc
  exact⟨.nil,hc',trivial,by simp[IyV.ints]⟩
 ·simp only[if_true]at hm
  subst hm
  have hc':c=.slice (some a) len m:=by simpa using hc
  rcases Yxi m with h0|h0
  ·subst h0
   have:len=0:=by omega
   subst this
   exact⟨.emp a,hc',trivial,by simp[IyV.ints]⟩
  ·refine⟨.sl a len m fun i=>match Vf i with|.int _ z=>z|_=>0,hc',⟨hl,h0,fun i hi=>?_⟩,by simp only[IyV.ints,Yvn,List.length_range];unfold maxLen at hmx;omega⟩
   obtain⟨g1,g2⟩:=hx i hi
   obtain⟨z,e0,_⟩:=DataW.trod_int hs g2
   simp only[Yvf,and_true]at e0
   rw[g1]
   simp only[e0]
open Go Go.Proofs
set_option maxRecDepth 1000000
noncomputable def A.tbl:Nat→Option Zem:=Zlx Tryz.prog
abbrev A.p(L:List Zmf)(E:List Ent):Prop:=Yju A.TB 10 A.tbl L E=true
abbrev A.e(L:List Zmf)(E:List Ent):Prop:=Ydi A.TB 10 A.tbl L E=true
abbrev AiV(n:Int):V:=.int .i64 n
abbrev AfV:V:=.bool false
abbrev AgV:V:=.bool true
abbrev AnV:V:=.nilslice
def A.L:List Zmf:=[]
def A.E:List Ent:=[]
def A.L0:=⟨230,[.str [49],.str [45]],AfV⟩::A.L
def A.L1:=⟨229,[.str [49],.str [47]],AiV (-1)⟩::A.L0
def A.L2:=⟨208,[.str [49],.str [47]],(.tup [.str [49],.str [],AfV])⟩::A.L1
def A.L3:=⟨173,[.str [49],.str [47]],(.tup [.str [49],.str [],AfV])⟩::A.L2
def A.L4:=⟨247,[.str [48,49,50,51,52,53,54,55,56,57]],(.tup [.agg [AfV,AfV,AfV,AfV,AfV,AfV,AfV,AfV,AfV,AfV,AfV,AfV,AfV,AfV,AfV,AfV,AfV,AfV,AfV,AfV,AfV,AfV,AfV,AfV,AfV,AfV,AfV,AfV,AfV,AfV,AfV,AfV,AfV,AfV,AfV,AfV,AfV,AfV,AfV,AfV,AfV,AfV,AfV,AfV,AfV,AfV,AfV,AfV,AgV,AgV,AgV,AgV,AgV,AgV,AgV,AgV,AgV,AgV,AfV,AfV,AfV,AfV,AfV,AfV,AfV,AfV,AfV,AfV,AfV,AfV,AfV,AfV,AfV,AfV,AfV,AfV,AfV,AfV,AfV,AfV,AfV,AfV,AfV,AfV,AfV,AfV,AfV,AfV,AfV,AfV,AfV,AfV,AfV,AfV,AfV,AfV,AfV,AfV,AfV,AfV,AfV,AfV,AfV,AfV,AfV,AfV,AfV,AfV,AfV,AfV,AfV,AfV,AfV,AfV,AfV,AfV,AfV,AfV,AfV,AfV,AfV,AfV,AfV,AfV,AfV,AfV,AfV,AfV,AfV,AfV,AfV,AfV,AfV,AfV,AfV,AfV,AfV,AfV,AfV,AfV,AfV,AfV,AfV,AfV,AfV,AfV,AfV,AfV,AfV,AfV,AfV,AfV,AfV,AfV,AfV,AfV,AfV,AfV,AfV,AfV,AfV,AfV,AfV,AfV,AfV,AfV,AfV,AfV,AfV,AfV,AfV,AfV,AfV,AfV,AfV,AfV,AfV,AfV,AfV,AfV,AfV,AfV,AfV,AfV,AfV,AfV,AfV,AfV,AfV,AfV,AfV,AfV,AfV,AfV,AfV,AfV,AfV,AfV,AfV,AfV,AfV,AfV,AfV,AfV,AfV,AfV,AfV,AfV,AfV,AfV,AfV,AfV,AfV,AfV,AfV,AfV,AfV,AfV,AfV,AfV,AfV,AfV,AfV,AfV,AfV,AfV,AfV,AfV,AfV,AfV,AfV,AfV,AfV,AfV,AfV,AfV,AfV,AfV,AfV,AfV,AfV,AfV,AfV,AfV,AfV,AfV,AfV,AfV,AfV,AfV,AfV,AfV,AfV,AfV,AfV,AfV],AgV])⟩::A.L3
def A.L5:=⟨222,[.str [49],.str [48,49,50,51,52,53,54,55,56,57]],.str []⟩::A.L4
def A.L6:=⟨188,[.str [49]],AgV⟩::A.L5
def A.L7:=⟨127,[.str [49]],AiV 0⟩::A.L6
def A.L8:=⟨127,[.str [45,49]],AiV 0⟩::A.L7
def A.L9:=⟨208,[.str [48],.str [47]],(.tup [.str [48],.str [],AfV])⟩::A.L8
def A.L10:=⟨173,[.str [48],.str [47]],(.tup [.str [48],.str [],AfV])⟩::A.L9
def A.L11:=⟨222,[.str [48],.str [48,49,50,51,52,53,54,55,56,57]],.str []⟩::A.L10
def A.L12:=⟨188,[.str [48]],AgV⟩::A.L11
def A.L13:=⟨127,[.str [48]],AiV 0⟩::A.L12
def A.L14:=⟨232,[.str [49]],.tup [AiV 1,.niliface]⟩::A.L13
def A.L15:=⟨211,[.str [49]],.tup [AiV 1,.niliface]⟩::A.L14
def A.L16:=⟨202,[.int .u64 1,.int .u64 10],.tup [.int .u64 0,.int .u64 10]⟩::A.L15
def A.L17:=⟨149,[.agg [AiV 1,AnV],.agg [AiV 10,AnV]],.agg [AiV 10,AnV]⟩::A.L16
def A.L18:=⟨212,[.agg [AiV 10,AnV],AiV 1],.agg [AiV 10,AnV]⟩::A.L17
def A.L19:=⟨202,[.int .u64 0,.int .u64 10],.tup [.int .u64 0,.int .u64 0]⟩::A.L18
def A.L20:=⟨149,[.agg [AiV 0,AnV],.agg [AiV 10,AnV]],.agg [AiV 0,AnV]⟩::A.L19
def A.L21:=⟨147,[.agg [AiV 0,AnV],.agg [AiV 1,AnV]],.agg [AiV 1,AnV]⟩::A.L20
def A.L22:=⟨174,[.str [49]],.agg [AiV 1,AnV]⟩::A.L21
def A.L23:=⟨93,[.str [49]],.agg [AiV 1,AnV,AiV 1,AnV]⟩::A.L22
def A.L24:=⟨174,[.str [45,49]],(.agg [AiV (-1),AnV])⟩::A.L23
def A.L25:=⟨93,[.str [45,49]],(.agg [AiV (-1),AnV,AiV 1,AnV])⟩::A.L24
def A.L26:=⟨174,[.str [48]],.agg [AiV 0,AnV]⟩::A.L25
def A.L27:=⟨93,[.str [48]],.agg [AiV 0,AnV,AiV 1,AnV]⟩::A.L26
def A.L28:=⟨148,[.agg [AiV 1,AnV],.agg [AiV 1,AnV]],.agg [AiV 1,AnV,AiV 1,AnV]⟩::A.L27
def A.L29:=⟨202,[.int .u64 1,.int .u64 1],.tup [.int .u64 0,.int .u64 1]⟩::A.L28
def A.L30:=⟨149,[.agg [AiV 1,AnV],.agg [AiV 1,AnV]],.agg [AiV 1,AnV]⟩::A.L29
def A.L31:=⟨98,[.agg [AiV 1,AnV,AiV 1,AnV],.agg [AiV 1,AnV,AiV 1,AnV]],.agg [AiV 1,AnV,AiV 1,AnV]⟩::A.L30
def A.L32:=⟨140,[.agg [AiV 1,AnV,AiV 1,AnV],.agg [AiV 1,AnV,AiV 1,AnV]],.agg [AiV 1,AnV,AiV 1,AnV]⟩::A.L31
def A.L33:=⟨149,[(.agg [AiV (-1),AnV]),.agg [AiV 1,AnV]],(.agg [AiV (-1),AnV])⟩::A.L32
def A.L34:=⟨98,[(.agg [AiV (-1),AnV,AiV 1,AnV]),.agg [AiV 1,AnV,AiV 1,AnV]],(.agg [AiV (-1),AnV,AiV 1,AnV])⟩::A.L33
def A.L35:=⟨140,[(.agg [AiV (-1),AnV,AiV 1,AnV]),.agg [AiV 1,AnV,AiV 1,AnV]],(.agg [AiV (-1),AnV,AiV 1,AnV])⟩::A.L34
def A.L36:=⟨149,[.agg [AiV 0,AnV],.agg [AiV 1,AnV]],.agg [AiV 0,AnV]⟩::A.L35
def A.L37:=⟨98,[.agg [AiV 0,AnV,AiV 1,AnV],.agg [AiV 1,AnV,AiV 1,AnV]],.agg [AiV 0,AnV,AiV 1,AnV]⟩::A.L36
def A.L38:=⟨140,[.agg [AiV 0,AnV,AiV 1,AnV],.agg [AiV 1,AnV,AiV 1,AnV]],.agg [AiV 0,AnV,AiV 1,AnV]⟩::A.L37
def A.L39:=⟨98,[(.agg [AiV (-1),AnV,AiV 1,AnV]),.agg [AiV 0,AnV,AiV 1,AnV]],.agg [AiV 0,AnV,AiV 1,AnV]⟩::A.L38
def A.L40:=⟨146,[.agg [AiV 0,AnV,AiV 1,AnV]],AgV⟩::A.L39
def A.L41:=⟨149,[(.agg [AiV (-1),AnV]),(.agg [AiV (-1),AnV])],.agg [AiV 1,AnV]⟩::A.L40
def A.L42:=⟨98,[(.agg [AiV (-1),AnV,AiV 1,AnV]),(.agg [AiV (-1),AnV,AiV 1,AnV])],.agg [AiV 1,AnV,AiV 1,AnV]⟩::A.L41
def A.L43:=⟨213,[.agg [AiV 1,AnV]],AiV 1⟩::A.L42
def A.L44:=⟨175,[.agg [AiV 1,AnV]],AfV⟩::A.L43
def A.E0:=⟨28,[],[],[(.slice 12 0 2 (some 2) 1)],[(12,.cells [(.slice 10 0 3 (some 3) 1),(.slice 11 0 3 (some 3) 1)] 28 true),(10,.cells [.str [49],.str [45,49],.str [48]] 24 true),(11,.cells [.str [48],.str [49],.str [45,49]] 24 true)]++A.TB,136,.tup [.slice 136 0 1 none 1,AiV 0],[(329,.cells [(.slice 137 0 3 (some 3) 1)] 28 true),(315,.cells [.str [49],.str [49],.str [49]] 24 true)],[]⟩::A.E
def A.E1:=⟨29,[],[],[(.slice 12 0 2 (some 2) 1)],[(12,.cells [(.slice 10 0 3 (some 3) 1),(.slice 11 0 3 (some 3) 1)] 28 true),(10,.cells [.str [49],.str [45,49],.str [48]] 24 true),(11,.cells [.str [48],.str [49],.str [45,49]] 24 true)]++A.TB,138,.tup [.slice 138 0 2 none 1,AiV 0],[(309,.cells [(.slice 139 0 3 (some 3) 1),(.slice 140 0 3 (some 3) 1)] 28 true),(270,.cells [.str [49],.str [48],.str [45,49]] 24 true),(295,.cells [.str [48],.str [49],.str [45,49]] 24 true)],[]⟩::A.E0
def A.L45:=⟨222,[.str [51],.str [48,49,50,51,52,53,54,55,56,57]],.str []⟩::A.L44
def A.L46:=⟨188,[.str [51]],AgV⟩::A.L45
def A.L47:=⟨174,[.str [51]],.agg [AiV 3,AnV]⟩::A.L46
def A.L48:=⟨62,[.agg [AiV 0,AnV,AiV 1,AnV],.agg [AiV 1,AnV,AiV 1,AnV]],.agg [AiV 1,AnV,AiV 1,AnV]⟩::A.L47
def A.L49:=⟨62,[.agg [AiV 0,AnV,AiV 1,AnV],.agg [AiV 0,AnV,AiV 1,AnV]],.agg [AiV 0,AnV,AiV 1,AnV]⟩::A.L48
def A.L50:=⟨149,[.agg [AiV 1,AnV],.agg [AiV 3,AnV]],.agg [AiV 3,AnV]⟩::A.L49
def A.L51:=⟨224,[.agg [AiV 2,AnV],.agg [AiV 1,AnV]],(.tup [.agg [AiV 2,AnV],.agg [AiV 0,AnV]])⟩::A.L50
def A.L52:=⟨191,[.agg [AiV 1,AnV],.agg [AiV 2,AnV]],.agg [AiV 1,AnV]⟩::A.L51
def A.L53:=⟨224,[.agg [AiV 1,AnV],.agg [AiV 1,AnV]],(.tup [.agg [AiV 1,AnV],.agg [AiV 0,AnV]])⟩::A.L52
def A.L54:=⟨201,[.agg [AiV 1,AnV],.agg [AiV 1,AnV]],.agg [AiV 1,AnV]⟩::A.L53
def A.L55:=⟨201,[.agg [AiV 2,AnV],.agg [AiV 1,AnV]],.agg [AiV 2,AnV]⟩::A.L54
def A.L56:=⟨148,[.agg [AiV 1,AnV],.agg [AiV 2,AnV]],.agg [AiV 1,AnV,AiV 2,AnV]⟩::A.L55
def A.L57:=⟨194,[.agg [AiV 2,AnV,AiV 1,AnV]],.agg [AiV 1,AnV,AiV 2,AnV]⟩::A.L56
def A.L58:=⟨149,[.agg [AiV 2,AnV],.agg [AiV 1,AnV]],.agg [AiV 2,AnV]⟩::A.L57
def A.L59:=⟨202,[.int .u64 1,.int .u64 2],.tup [.int .u64 0,.int .u64 2]⟩::A.L58
def A.L60:=⟨149,[.agg [AiV 1,AnV],.agg [AiV 2,AnV]],.agg [AiV 2,AnV]⟩::A.L59
def A.L61:=⟨98,[.agg [AiV 2,AnV,AiV 1,AnV],.agg [AiV 1,AnV,AiV 2,AnV]],.agg [AiV 1,AnV,AiV 1,AnV]⟩::A.L60
def A.L62:=⟨140,[.agg [AiV 2,AnV,AiV 1,AnV],.agg [AiV 2,AnV,AiV 1,AnV]],.agg [AiV 1,AnV,AiV 1,AnV]⟩::A.L61
def A.L63:=⟨98,[.agg [AiV 1,AnV,AiV 1,AnV],.agg [AiV 1,AnV,AiV 2,AnV]],.agg [AiV 1,AnV,AiV 2,AnV]⟩::A.L62
def A.L64:=⟨140,[.agg [AiV 1,AnV,AiV 1,AnV],.agg [AiV 2,AnV,AiV 1,AnV]],.agg [AiV 1,AnV,AiV 2,AnV]⟩::A.L63
def A.L65:=⟨149,[.agg [AiV 3,AnV],.agg [AiV 1,AnV]],.agg [AiV 3,AnV]⟩::A.L64
def A.L66:=⟨224,[.agg [AiV 3,AnV],.agg [AiV 1,AnV]],(.tup [.agg [AiV 3,AnV],.agg [AiV 0,AnV]])⟩::A.L65
def A.L67:=⟨201,[.agg [AiV 3,AnV],.agg [AiV 1,AnV]],.agg [AiV 3,AnV]⟩::A.L66
def A.L68:=⟨191,[.agg [AiV 2,AnV],.agg [AiV 3,AnV]],.agg [AiV 1,AnV]⟩::A.L67
def A.L69:=⟨148,[.agg [AiV 2,AnV],.agg [AiV 3,AnV]],.agg [AiV 2,AnV,AiV 3,AnV]⟩::A.L68
def A.L70:=⟨148,[.agg [AiV 0,AnV],.agg [AiV 3,AnV]],.agg [AiV 0,AnV,AiV 1,AnV]⟩::A.L69
def A.E2:=⟨78,[],[],[.slice 567 0 2 none 1],[(567,.cells [.slice 560 0 3 none 4,.slice 565 0 3 none 4] 79 true),(560,.cells [AiV 2,AnV,AiV 1,AnV,AiV 1,AnV,AiV 1,AnV,AiV 3,AnV,AiV 1,AnV] 95 true),(565,.cells [AiV 1,AnV,AiV 1,AnV,AiV 2,AnV,AiV 1,AnV,AiV 0,AnV,AiV 1,AnV] 95 true)]++A.TB,568,(.tup [(.slice 568 0 2 (some 2) 1),.slice 571 0 2 none 1]),[(568,.cells [(.slice 569 0 3 (some 3) 4),.slice 570 0 3 none 4] 79 true),(916,.cells [AiV 1,AnV,AiV 1,AnV,AiV 0,AnV,AiV 1,AnV,AiV 2,AnV,AiV 1,AnV] 95 true),(912,.cells [AiV 0,AnV,AiV 1,AnV,AiV 1,AnV,AiV 1,AnV,AiV (-1),AnV,AiV 1,AnV] 95 true),(1155,.cells [AiV 0,AiV 1] 3 true)],[]⟩::A.E1
def A.E3:=⟨30,[],[],[(.slice 12 0 2 (some 2) 1),(.slice 141 0 3 (some 3) 1)],[(12,.cells [(.slice 10 0 3 (some 3) 1),(.slice 11 0 3 (some 3) 1)] 28 true),(10,.cells [.str [49],.str [45,49],.str [48]] 24 true),(11,.cells [.str [48],.str [49],.str [45,49]] 24 true),(141,.cells [.str [51],.str [48],.str [48]] 24 true)]++A.TB,142,(.tup [(.slice 142 0 3 (some 3) 1),(.slice 143 0 3 (some 3) 1),AiV 0]),[(753,.cells [.str [50],.str [45,49],.str [45,49]] 24 true),(804,.cells [.str [49],.str [49],.str [49]] 24 true)],[]⟩::A.E2
def A.L71:=⟨148,[.agg [AiV 2,AnV],.agg [AiV 9,AnV]],.agg [AiV 2,AnV,AiV 9,AnV]⟩::A.L70
def A.L72:=⟨194,[.agg [AiV 9,AnV,AiV 2,AnV]],.agg [AiV 2,AnV,AiV 9,AnV]⟩::A.L71
def A.E4:=⟨141,[],[],[(.slice 695 0 4 (some 4) 4),(.func 162 [] [.ptr 876 0])],[(695,.cells [AiV 0,AnV,AiV 1,AnV,AiV 9,AnV,AiV 2,AnV,AiV (-3),AnV,AiV 2,AnV,AiV 3,AnV,AiV 2,AnV] 95 true),(876,.cells [AiV 9,AnV,AiV 2,AnV] 95 true)]++A.TB,877,.slice 877 0 4 none 4,[(1120,.cells [AiV 0,AnV,AiV 1,AnV,AiV 1,AnV,AiV 1,AnV,AiV (-1),AnV,AiV 3,AnV,AiV 1,AnV,AiV 3,AnV] 95 true)],[]⟩::A.E3
def A.E5:=⟨60,[],[],[.slice 690 0 4 none 4,.slice 877 0 4 none 4,(.func 163 [] [.ptr 878 0])],[(690,.cells [AiV 1,AnV,AiV 1,AnV,AiV 1,AnV,AiV 2,AnV,AiV 1,AnV,AiV 2,AnV,AiV 1,AnV,AiV 2,AnV] 95 true),(877,.cells [AiV 0,AnV,AiV 1,AnV,AiV 1,AnV,AiV 1,AnV,AiV (-1),AnV,AiV 3,AnV,AiV 1,AnV,AiV 3,AnV] 95 true),(878,.cells [AiV 1,AnV,AiV 2,AnV] 95 true)]++A.TB,881,(.slice 881 0 4 (some 4) 4),[(881,.cells [AiV 1,AnV,AiV 1,AnV,AiV 0,AnV,AiV 1,AnV,AiV 2,AnV,AiV 3,AnV,AiV 1,AnV,AiV 3,AnV] 95 true)],[]⟩::A.E4
def A.E6:=⟨83,[],[],[.slice 654 0 2 none 1,.slice 493 0 2 none 1],[(654,.cells [.slice 571 0 2 none 4,.slice 652 0 2 none 4] 79 true),(571,.cells [AiV 2,AnV,AiV 1,AnV,AiV 1,AnV,AiV 1,AnV] 95 true),(652,.cells [AiV 1,AnV,AiV 1,AnV,AiV 5,AnV,AiV 1,AnV] 95 true),(493,.cells [(.slice 474 0 2 (some 2) 4),(.slice 484 0 2 (some 2) 4)] 79 true),(474,.cells [AiV 1,AnV,AiV 1,AnV,AiV 1,AnV,AiV 1,AnV] 95 true),(484,.cells [AiV (-1),AnV,AiV 1,AnV,AiV 2,AnV,AiV 1,AnV] 95 true)]++A.TB,655,.tup [.slice 655 0 2 none 1,AgV],[(888,.cells [(.slice 656 8 2 (some 2) 4),.slice 657 8 2 none 4] 79 true),(881,.cells [AiV 1,AnV,AiV 1,AnV,AiV 0,AnV,AiV 1,AnV,AiV 2,AnV,AiV 3,AnV,AiV 1,AnV,AiV 3,AnV] 95 true),(877,.cells [AiV 0,AnV,AiV 1,AnV,AiV 1,AnV,AiV 1,AnV,AiV (-1),AnV,AiV 3,AnV,AiV 1,AnV,AiV 3,AnV] 95 true)],[]⟩::A.E5
def A.E7:=⟨111,[],[],[.slice 160 0 2 none 1,(.slice 161 0 2 (some 2) 4),(.slice 162 0 2 (some 2) 1)],[(160,.cells [(.slice 155 0 3 (some 3) 4),(.slice 158 0 3 (some 3) 4)] 79 true),(155,.cells [AiV 1,AnV,AiV 1,AnV,AiV (-1),AnV,AiV 1,AnV,AiV 0,AnV,AiV 1,AnV] 95 true),(158,.cells [AiV 0,AnV,AiV 1,AnV,AiV 1,AnV,AiV 1,AnV,AiV (-1),AnV,AiV 1,AnV] 95 true),(161,.cells [AiV 1,AnV,AiV 1,AnV,AiV 1,AnV,AiV 1,AnV] 95 true),(162,.cells [(.slice 210 0 3 (some 3) 4),.slice 206 0 3 none 4] 79 true),(210,.cells [AiV 1,AnV,AiV 1,AnV,AiV 0,AnV,AiV 1,AnV,AiV (-1),AnV,AiV 1,AnV] 95 true),(206,.cells [AiV 0,AnV,AiV 1,AnV,AiV 1,AnV,AiV 1,AnV,AiV (-1),AnV,AiV 1,AnV] 95 true)]++A.TB,275,.tup [.slice 275 0 2 none 1,AgV],[(655,.cells [(.slice 276 8 2 (some 2) 4),.slice 277 8 2 none 4] 79 true),(656,.cells [AiV 1,AnV,AiV 1,AnV,AiV 0,AnV,AiV 1,AnV,AiV 2,AnV,AiV 3,AnV,AiV 1,AnV,AiV 3,AnV] 95 true),(657,.cells [AiV 0,AnV,AiV 1,AnV,AiV 1,AnV,AiV 1,AnV,AiV (-1),AnV,AiV 3,AnV,AiV 1,AnV,AiV 3,AnV] 95 true)],[]⟩::A.E6
def A.L73:=⟨191,[.agg [AiV 1,AnV],.agg [AiV 3,AnV]],.agg [AiV 1,AnV]⟩::A.L72
def A.L74:=⟨148,[.agg [AiV 1,AnV],.agg [AiV 3,AnV]],.agg [AiV 1,AnV,AiV 3,AnV]⟩::A.L73
def A.L75:=⟨62,[.agg [AiV 0,AnV,AiV 1,AnV],.agg [AiV 1,AnV,AiV 3,AnV]],.agg [AiV 1,AnV,AiV 3,AnV]⟩::A.L74
def A.L76:=⟨98,[.agg [AiV 1,AnV,AiV 3,AnV],.agg [AiV 0,AnV,AiV 1,AnV]],.agg [AiV 0,AnV,AiV 1,AnV]⟩::A.L75
def A.L77:=⟨148,[(.agg [AiV (-1),AnV]),.agg [AiV 3,AnV]],(.agg [AiV (-1),AnV,AiV 3,AnV])⟩::A.L76
def A.L78:=⟨62,[.agg [AiV 0,AnV,AiV 1,AnV],(.agg [AiV (-1),AnV,AiV 3,AnV])],(.agg [AiV (-1),AnV,AiV 3,AnV])⟩::A.L77
def A.E8:=⟨106,[],[],[.slice 322 0 2 none 1,(.func 129 [.slice 302 0 2 none 4] [])],[(322,.cells [.slice 311 0 2 none 4,.slice 320 0 2 none 4] 79 true),(311,.cells [AiV 2,AnV,AiV 3,AnV,AiV (-1),AnV,AiV 3,AnV] 95 true),(320,.cells [AiV 1,AnV,AiV 3,AnV,AiV 1,AnV,AiV 3,AnV] 95 true),(302,.cells [AiV (-1),AnV,AiV 1,AnV,AiV (-1),AnV,AiV 1,AnV] 95 true)]++A.TB,422,.slice 422 0 2 none 4,[(693,.cells [AiV (-1),AnV,AiV 3,AnV,AiV (-2),AnV,AiV 3,AnV] 95 true)],[]⟩::A.E7
def A.E9:=⟨88,[],[],[.slice 160 0 2 none 1,(.slice 161 0 2 (some 2) 4)],[(160,.cells [(.slice 155 0 3 (some 3) 4),(.slice 158 0 3 (some 3) 4)] 79 true),(155,.cells [AiV 1,AnV,AiV 1,AnV,AiV (-1),AnV,AiV 1,AnV,AiV 0,AnV,AiV 1,AnV] 95 true),(158,.cells [AiV 0,AnV,AiV 1,AnV,AiV 1,AnV,AiV 1,AnV,AiV (-1),AnV,AiV 1,AnV] 95 true),(161,.cells [AiV 1,AnV,AiV 1,AnV,AiV 1,AnV,AiV 1,AnV] 95 true)]++A.TB,162,.slice 162 0 3 none 1,[(424,.cells [.slice 163 0 2 none 4,.slice 164 0 2 none 4,.slice 165 0 2 none 4] 79 true),(385,.cells [AiV 2,AnV,AiV 3,AnV,AiV 1,AnV,AiV 3,AnV] 95 true),(419,.cells [AiV (-1),AnV,AiV 3,AnV,AiV 1,AnV,AiV 3,AnV] 95 true),(422,.cells [AiV (-1),AnV,AiV 3,AnV,AiV (-2),AnV,AiV 3,AnV] 95 true)],[]⟩::A.E8
def A.E10:=⟨31,[],[],[(.slice 12 0 2 (some 2) 1),(.slice 13 0 2 (some 2) 1)],[(12,.cells [(.slice 10 0 3 (some 3) 1),(.slice 11 0 3 (some 3) 1)] 28 true),(10,.cells [.str [49],.str [45,49],.str [48]] 24 true),(11,.cells [.str [48],.str [49],.str [45,49]] 24 true),(13,.cells [.str [49],.str [49]] 24 true)]++A.TB,144,.tup [.slice 144 0 3 none 1,AiV 0],[(253,.cells [(.slice 145 0 2 (some 2) 1),(.slice 146 0 2 (some 2) 1),(.slice 147 0 2 (some 2) 1)] 28 true),(180,.cells [.str [50,47,51],.str [49,47,51]] 24 true),(207,.cells [.str [45,49,47,51],.str [49,47,51]] 24 true),(239,.cells [.str [45,49,47,51],.str [45,50,47,51]] 24 true)],[]⟩::A.E9
def A.L79:=⟨222,[.str [50],.str [48,49,50,51,52,53,54,55,56,57]],.str []⟩::A.L78
def A.L80:=⟨188,[.str [50]],AgV⟩::A.L79
def A.L81:=⟨174,[.str [50]],.agg [AiV 2,AnV]⟩::A.L80
def A.L82:=⟨127,[.str [49,47,51]],AiV 0⟩::A.L81
def A.L83:=⟨127,[.str [45,49,47,51]],AiV 0⟩::A.L82
def A.L84:=⟨93,[.str [49,47,51]],.agg [AiV 1,AnV,AiV 3,AnV]⟩::A.L83
def A.L85:=⟨93,[.str [45,49,47,51]],(.agg [AiV (-1),AnV,AiV 3,AnV])⟩::A.L84
def A.E11:=⟨9,[],[],[.slice 144 0 3 none 1,(.slice 148 0 2 (some 2) 1)],[(144,.cells [(.slice 145 0 2 (some 2) 1),(.slice 146 0 2 (some 2) 1),(.slice 147 0 2 (some 2) 1)] 28 true),(145,.cells [.str [50,47,51],.str [49,47,51]] 24 true),(146,.cells [.str [45,49,47,51],.str [49,47,51]] 24 true),(147,.cells [.str [45,49,47,51],.str [45,50,47,51]] 24 true),(148,.cells [.str [51],.str [48]] 24 true)]++A.TB,149,(.tup [(.slice 149 0 3 (some 3) 1),AiV 0]),[(443,.cells [.str [50],.str [45,49],.str [45,49]] 24 true)],[]⟩::A.E10
def A.L86:=⟨127,[.str [50]],AiV 0⟩::A.L85
def A.L87:=⟨93,[.str [50]],.agg [AiV 2,AnV,AiV 1,AnV]⟩::A.L86
def A.E12:=⟨141,[],[],[.slice 403 0 3 none 4,(.func 162 [] [.ptr 410 0])],[(403,.cells [AiV 8,AnV,AiV 1,AnV,AiV 4,AnV,AiV 1,AnV,AiV 2,AnV,AiV 1,AnV] 95 true),(410,.cells [AiV 8,AnV,AiV 1,AnV] 95 true)]++A.TB,411,.slice 411 0 3 none 4,[(709,.cells [AiV 1,AnV,AiV 1,AnV,AiV 1,AnV,AiV 2,AnV,AiV 1,AnV,AiV 4,AnV] 95 true)],[]⟩::A.E11
def A.E13:=⟨88,[],[],[.slice 192 0 2 none 1,(.slice 193 0 2 (some 2) 4)],[(192,.cells [(.slice 187 0 1 (some 1) 4),(.slice 190 0 1 (some 1) 4)] 79 true),(187,.cells [AiV 1,AnV,AiV 1,AnV] 95 true),(190,.cells [AiV 2,AnV,AiV 1,AnV] 95 true),(193,.cells [AiV 4,AnV,AiV 1,AnV,AiV 1,AnV,AiV 1,AnV] 95 true)]++A.TB,206,.slice 206 0 1 none 1,[(557,.cells [.slice 207 0 2 none 4] 79 true),(555,.cells [AiV 1,AnV,AiV 2,AnV,AiV 1,AnV,AiV 4,AnV] 95 true)],[]⟩::A.E12
def A.L88:=⟨174,[.str [53]],.agg [AiV 5,AnV]⟩::A.L87
def A.E14:=⟨83,[],[],[.slice 326 0 1 none 1,.slice 283 0 1 none 1],[(326,.cells [.slice 324 0 1 none 4] 79 true),(324,.cells [AiV 10,AnV,AiV 1,AnV] 95 true),(283,.cells [(.slice 274 0 2 (some 2) 4)] 79 true),(274,.cells [AiV 1,AnV,AiV 1,AnV,AiV 2,AnV,AiV 1,AnV] 95 true)]++A.TB,342,.tup [.slice 342 0 1 none 1,AgV],[(634,.cells [.slice 343 4 2 none 4] 79 true),(629,.cells [AiV 1,AnV,AiV 1,AnV,AiV 1,AnV,AiV 10,AnV,AiV 1,AnV,AiV 5,AnV] 95 true)],[]⟩::A.E13
def A.E15:=⟨32,[],[],[(.slice 160 0 2 (some 2) 1),(.slice 13 0 2 (some 2) 1),.str [53]],[(160,.cells [(.slice 158 0 1 (some 1) 1),(.slice 159 0 1 (some 1) 1)] 28 true),(158,.cells [.str [49]] 24 true),(159,.cells [.str [50]] 24 true),(13,.cells [.str [49],.str [49]] 24 true)]++A.TB,231,.tup [.slice 231 0 1 none 1,AiV 0],[(366,.cells [(.slice 232 0 2 (some 2) 1)] 28 true),(354,.cells [.str [49,47,49,48],.str [49,47,53]] 24 true)],[]⟩::A.E14
def A.E16:=⟨33,[],[],[(.slice 160 0 2 (some 2) 1),(.slice 13 0 2 (some 2) 1),(.slice 233 0 2 (some 2) 1),(.slice 234 0 1 (some 1) 1)],[(160,.cells [(.slice 158 0 1 (some 1) 1),(.slice 159 0 1 (some 1) 1)] 28 true),(158,.cells [.str [49]] 24 true),(159,.cells [.str [50]] 24 true),(13,.cells [.str [49],.str [49]] 24 true),(233,.cells [.str [53],.str [48]] 24 true),(234,.cells [.str [49]] 24 true)]++A.TB,235,(.tup [.str [50,48],AiV 0]),[],[]⟩::A.E15
def A.E17:=⟨63,[],[],[(.slice 313 0 2 (some 2) 4),(.slice 307 0 2 (some 2) 4)],[(313,.cells [AiV 1,AnV,AiV 5,AnV,AiV 2,AnV,AiV 5,AnV] 95 true),(307,.cells [AiV 1,AnV,AiV 5,AnV,AiV 2,AnV,AiV 5,AnV] 95 true)]++A.TB,403,.agg [AiV 1,AnV,AiV 5,AnV],[],[]⟩::A.E16
def A.E18:=⟨34,[],[],[(.slice 236 0 1 (some 1) 1),(.slice 13 0 2 (some 2) 1)],[(236,.cells [(.slice 235 0 2 (some 2) 1)] 28 true),(235,.cells [.str [49,47,53],.str [50,47,53]] 24 true),(13,.cells [.str [49],.str [49]] 24 true)]++A.TB,237,(.tup [(.slice 237 0 1 (some 1) 1),AiV 0]),[(410,.cells [.str [49,47,53]] 24 true)],[]⟩::A.E17
def A.L89:=⟨98,[.agg [AiV 4,AnV,AiV 1,AnV],.agg [AiV 1,AnV,AiV 2,AnV]],.agg [AiV 2,AnV,AiV 1,AnV]⟩::A.L88
def A.L90:=⟨140,[.agg [AiV 4,AnV,AiV 1,AnV],.agg [AiV 2,AnV,AiV 1,AnV]],.agg [AiV 2,AnV,AiV 1,AnV]⟩::A.L89
def A.E19:=⟨11,[],[],[(.slice 240 0 2 (some 2) 3),AiV 2,AiV 1],[(240,.cells [AiV 0,.str [50],(.slice 238 0 2 (some 2) 1),AiV 0,.str [45,49],(.slice 239 0 2 (some 2) 1)] 38 true),(238,.cells [.str [50],.str [52]] 24 true),(239,.cells [.str [45,51],.str [45,50]] 24 true)]++A.TB,241,.tup [.slice 241 0 2 none 1,AiV 0],[(459,.cells [(.slice 242 0 1 (some 1) 1),(.slice 243 0 1 (some 1) 1)] 28 true),(441,.cells [.str [50]] 24 true),(453,.cells [.str [50]] 24 true)],[]⟩::A.E18
def A.E20:=⟨12,[],[],[(.slice 240 0 2 (some 2) 3),AiV 2,AiV 1],[(240,.cells [AiV 0,.str [50],(.slice 238 0 2 (some 2) 1),AiV 0,.str [45,49],(.slice 239 0 2 (some 2) 1)] 38 true),(238,.cells [.str [50],.str [52]] 24 true),(239,.cells [.str [45,51],.str [45,50]] 24 true)]++A.TB,244,(.tup [(.slice 244 0 1 (some 1) 1),AiV 0]),[(577,.cells [.str [50]] 24 true)],[]⟩::A.E19
def A.E21:=⟨35,[],[],[(.slice 12 0 2 (some 2) 1),(.slice 13 0 2 (some 2) 1),(.slice 255 0 1 (some 1) 1)],[(12,.cells [(.slice 10 0 3 (some 3) 1),(.slice 11 0 3 (some 3) 1)] 28 true),(10,.cells [.str [49],.str [45,49],.str [48]] 24 true),(11,.cells [.str [48],.str [49],.str [45,49]] 24 true),(13,.cells [.str [49],.str [49]] 24 true),(255,.cells [(.slice 254 0 3 (some 3) 1)] 28 true),(254,.cells [.str [49],.str [48],.str [45,49]] 24 true)]++A.TB,256,.tup [.slice 256 0 1 none 1,AiV 0],[(478,.cells [(.slice 257 0 2 (some 2) 1)] 28 true),(466,.cells [.str [49,47,50],.str [49,47,50]] 24 true)],[]⟩::A.E20
def A.E22:=⟨111,[],[],[.slice 281 0 2 none 1,(.slice 282 0 2 (some 2) 4),.slice 285 0 1 none 1],[(281,.cells [(.slice 276 0 3 (some 3) 4),(.slice 279 0 3 (some 3) 4)] 79 true),(276,.cells [AiV 1,AnV,AiV 1,AnV,AiV (-1),AnV,AiV 1,AnV,AiV 0,AnV,AiV 1,AnV] 95 true),(279,.cells [AiV 0,AnV,AiV 1,AnV,AiV 1,AnV,AiV 1,AnV,AiV (-1),AnV,AiV 1,AnV] 95 true),(282,.cells [AiV 1,AnV,AiV 1,AnV,AiV 1,AnV,AiV 1,AnV] 95 true),(285,.cells [(.slice 283 0 3 (some 3) 4)] 79 true),(283,.cells [AiV 1,AnV,AiV 1,AnV,AiV 1,AnV,AiV 1,AnV,AiV 1,AnV,AiV 1,AnV] 95 true)]++A.TB,286,.tup [AnV,AfV],[],[]⟩::A.E21
def A.E23:=⟨36,[],[],[(.slice 288 0 2 (some 2) 1),(.slice 289 0 2 (some 2) 1)],[(288,.cells [(.slice 286 0 3 (some 3) 1),(.slice 287 0 3 (some 3) 1)] 28 true),(286,.cells [.str [49],.str [48],.str [45,49]] 24 true),(287,.cells [.str [48],.str [49],.str [45,49]] 24 true),(289,.cells [.str [50],.str [51]] 24 true)]++A.TB,290,(.tup [(.slice 290 0 3 (some 3) 1),AiV 0]),[(484,.cells [.str [50],.str [51],.str [45,53]] 24 true)],[]⟩::A.E22
def A.E24:=⟨40,[],[],[(.slice 12 0 2 (some 2) 1),.slice 136 0 1 none 1],[(12,.cells [(.slice 10 0 3 (some 3) 1),(.slice 11 0 3 (some 3) 1)] 28 true),(10,.cells [.str [49],.str [45,49],.str [48]] 24 true),(11,.cells [.str [48],.str [49],.str [45,49]] 24 true),(136,.cells [(.slice 137 0 3 (some 3) 1)] 28 true),(137,.cells [.str [49],.str [49],.str [49]] 24 true)]++A.TB,339,AiV 0,[],[]⟩::A.E23
def A.E25:=⟨141,[],[],[(.slice 899 0 4 (some 4) 4),(.func 162 [] [.ptr 1080 0])],[(899,.cells [AiV 0,AnV,AiV 1,AnV,AiV 9,AnV,AiV 2,AnV,AiV (-3),AnV,AiV 2,AnV,AiV 3,AnV,AiV 2,AnV] 95 true),(1080,.cells [AiV 9,AnV,AiV 2,AnV] 95 true)]++A.TB,1081,.slice 1081 0 4 none 4,[(1324,.cells [AiV 0,AnV,AiV 1,AnV,AiV 1,AnV,AiV 1,AnV,AiV (-1),AnV,AiV 3,AnV,AiV 1,AnV,AiV 3,AnV] 95 true)],[]⟩::A.E24
def A.E26:=⟨60,[],[],[.slice 894 0 4 none 4,.slice 1081 0 4 none 4,(.func 163 [] [.ptr 1082 0])],[(894,.cells [AiV 1,AnV,AiV 1,AnV,AiV 1,AnV,AiV 2,AnV,AiV 1,AnV,AiV 2,AnV,AiV 1,AnV,AiV 2,AnV] 95 true),(1081,.cells [AiV 0,AnV,AiV 1,AnV,AiV 1,AnV,AiV 1,AnV,AiV (-1),AnV,AiV 3,AnV,AiV 1,AnV,AiV 3,AnV] 95 true),(1082,.cells [AiV 1,AnV,AiV 2,AnV] 95 true)]++A.TB,1085,(.slice 1085 0 4 (some 4) 4),[(1085,.cells [AiV 1,AnV,AiV 1,AnV,AiV 0,AnV,AiV 1,AnV,AiV 2,AnV,AiV 3,AnV,AiV 1,AnV,AiV 3,AnV] 95 true)],[]⟩::A.E25
def A.E27:=⟨83,[],[],[.slice 858 0 2 none 1,.slice 697 0 2 none 1],[(858,.cells [.slice 775 0 2 none 4,.slice 856 0 2 none 4] 79 true),(775,.cells [AiV 2,AnV,AiV 1,AnV,AiV 1,AnV,AiV 1,AnV] 95 true),(856,.cells [AiV 1,AnV,AiV 1,AnV,AiV 5,AnV,AiV 1,AnV] 95 true),(697,.cells [(.slice 678 0 2 (some 2) 4),(.slice 688 0 2 (some 2) 4)] 79 true),(678,.cells [AiV 1,AnV,AiV 1,AnV,AiV 1,AnV,AiV 1,AnV] 95 true),(688,.cells [AiV (-1),AnV,AiV 1,AnV,AiV 2,AnV,AiV 1,AnV] 95 true)]++A.TB,859,.tup [.slice 859 0 2 none 1,AgV],[(1092,.cells [(.slice 860 8 2 (some 2) 4),.slice 861 8 2 none 4] 79 true),(1085,.cells [AiV 1,AnV,AiV 1,AnV,AiV 0,AnV,AiV 1,AnV,AiV 2,AnV,AiV 3,AnV,AiV 1,AnV,AiV 3,AnV] 95 true),(1081,.cells [AiV 0,AnV,AiV 1,AnV,AiV 1,AnV,AiV 1,AnV,AiV (-1),AnV,AiV 3,AnV,AiV 1,AnV,AiV 3,AnV] 95 true)],[]⟩::A.E26
def A.E28:=⟨111,[],[],[.slice 364 0 2 none 1,(.slice 365 0 2 (some 2) 4),(.slice 366 0 2 (some 2) 1)],[(364,.cells [(.slice 359 0 3 (some 3) 4),(.slice 362 0 3 (some 3) 4)] 79 true),(359,.cells [AiV 1,AnV,AiV 1,AnV,AiV (-1),AnV,AiV 1,AnV,AiV 0,AnV,AiV 1,AnV] 95 true),(362,.cells [AiV 0,AnV,AiV 1,AnV,AiV 1,AnV,AiV 1,AnV,AiV (-1),AnV,AiV 1,AnV] 95 true),(365,.cells [AiV 1,AnV,AiV 1,AnV,AiV 1,AnV,AiV 1,AnV] 95 true),(366,.cells [(.slice 414 0 3 (some 3) 4),.slice 410 0 3 none 4] 79 true),(414,.cells [AiV 1,AnV,AiV 1,AnV,AiV 0,AnV,AiV 1,AnV,AiV (-1),AnV,AiV 1,AnV] 95 true),(410,.cells [AiV 0,AnV,AiV 1,AnV,AiV 1,AnV,AiV 1,AnV,AiV (-1),AnV,AiV 1,AnV] 95 true)]++A.TB,479,.tup [.slice 479 0 2 none 1,AgV],[(859,.cells [(.slice 480 8 2 (some 2) 4),.slice 481 8 2 none 4] 79 true),(860,.cells [AiV 1,AnV,AiV 1,AnV,AiV 0,AnV,AiV 1,AnV,AiV 2,AnV,AiV 3,AnV,AiV 1,AnV,AiV 3,AnV] 95 true),(861,.cells [AiV 0,AnV,AiV 1,AnV,AiV 1,AnV,AiV 1,AnV,AiV (-1),AnV,AiV 3,AnV,AiV 1,AnV,AiV 3,AnV] 95 true)],[]⟩::A.E27
def A.E29:=⟨106,[],[],[.slice 526 0 2 none 1,(.func 129 [.slice 506 0 2 none 4] [])],[(526,.cells [.slice 515 0 2 none 4,.slice 524 0 2 none 4] 79 true),(515,.cells [AiV 2,AnV,AiV 3,AnV,AiV (-1),AnV,AiV 3,AnV] 95 true),(524,.cells [AiV 1,AnV,AiV 3,AnV,AiV 1,AnV,AiV 3,AnV] 95 true),(506,.cells [AiV (-1),AnV,AiV 1,AnV,AiV (-1),AnV,AiV 1,AnV] 95 true)]++A.TB,626,.slice 626 0 2 none 4,[(897,.cells [AiV (-1),AnV,AiV 3,AnV,AiV (-2),AnV,AiV 3,AnV] 95 true)],[]⟩::A.E28
def A.E30:=⟨88,[],[],[.slice 364 0 2 none 1,(.slice 365 0 2 (some 2) 4)],[(364,.cells [(.slice 359 0 3 (some 3) 4),(.slice 362 0 3 (some 3) 4)] 79 true),(359,.cells [AiV 1,AnV,AiV 1,AnV,AiV (-1),AnV,AiV 1,AnV,AiV 0,AnV,AiV 1,AnV] 95 true),(362,.cells [AiV 0,AnV,AiV 1,AnV,AiV 1,AnV,AiV 1,AnV,AiV (-1),AnV,AiV 1,AnV] 95 true),(365,.cells [AiV 1,AnV,AiV 1,AnV,AiV 1,AnV,AiV 1,AnV] 95 true)]++A.TB,366,.slice 366 0 3 none 1,[(628,.cells [.slice 367 0 2 none 4,.slice 368 0 2 none 4,.slice 369 0 2 none 4] 79 true),(589,.cells [AiV 2,AnV,AiV 3,AnV,AiV 1,AnV,AiV 3,AnV] 95 true),(623,.cells [AiV (-1),AnV,AiV 3,AnV,AiV 1,AnV,AiV 3,AnV] 95 true),(626,.cells [AiV (-1),AnV,AiV 3,AnV,AiV (-2),AnV,AiV 3,AnV] 95 true)],[]⟩::A.E29
def A.E31:=⟨41,[],[],[(.slice 12 0 2 (some 2) 1),(.slice 13 0 2 (some 2) 1),.slice 144 0 3 none 1],[(12,.cells [(.slice 10 0 3 (some 3) 1),(.slice 11 0 3 (some 3) 1)] 28 true),(10,.cells [.str [49],.str [45,49],.str [48]] 24 true),(11,.cells [.str [48],.str [49],.str [45,49]] 24 true),(13,.cells [.str [49],.str [49]] 24 true),(144,.cells [(.slice 145 0 2 (some 2) 1),(.slice 146 0 2 (some 2) 1),(.slice 147 0 2 (some 2) 1)] 28 true),(145,.cells [.str [50,47,51],.str [49,47,51]] 24 true),(146,.cells [.str [45,49,47,51],.str [49,47,51]] 24 true),(147,.cells [.str [45,49,47,51],.str [45,50,47,51]] 24 true)]++A.TB,339,AiV 0,[],[]⟩::A.E30
def A.L91:=⟨6,[],AgV⟩::A.L90
def A.mixed:Tryz.prog.follows .mixedOrders=true:=by kernel_rfl
def A.names:(Tryz.prog.funcs.toList.all fun fn=>!(fn.name== "runtime.NumGoroutine"))=true:=by kernel_rfl
def A.exts:((List.range Tryz.prog.funcs.size).all fun i=>match Tryz.prog.funcs[i]? with
  |some fn=>fn.body.isSome||(Zlv fn.name).isNone||Ymc i [226,228,268,273]
  |none=>true)=true:=by kernel_rfl
def A.globals:Tryz.prog.globals.size=10:=by kernel_rfl
def A.ext0(fn:Func)(e:Ext)(hf:Tryz.prog.funcs[226]?=some fn)(he:Zlv fn.name=some e):(fn.name== "runtime.NumGoroutine")=false∧Extern.findNext fn=none∧Extern.find fn=some (Zi1 e):=by
 obtain rfl:fn=Tryz.f226:=(Yvr (Tryz.func226.symm.trans hf)).symm
 obtain rfl:e=.add64:=(Yvr ((show Zlv Tryz.f226.name=some .add64 by kernel_rfl).symm.trans he)).symm
 exact⟨by kernel_rfl,by kernel_rfl,by kernel_rfl⟩
def A.ext1(fn:Func)(e:Ext)(hf:Tryz.prog.funcs[228]?=some fn)(he:Zlv fn.name=some e):(fn.name== "runtime.NumGoroutine")=false∧Extern.findNext fn=none∧Extern.find fn=some (Zi1 e):=by
 obtain rfl:fn=Tryz.f228:=(Yvr (Tryz.func228.symm.trans hf)).symm
 obtain rfl:e=.sub64:=(Yvr ((show Zlv Tryz.f228.name=some .sub64 by kernel_rfl).symm.trans he)).symm
 exact⟨by kernel_rfl,by kernel_rfl,by kernel_rfl⟩
def A.ext2(fn:Func)(e:Ext)(hf:Tryz.prog.funcs[268]?=some fn)(he:Zlv fn.name=some e):(fn.name== "runtime.NumGoroutine")=false∧Extern.findNext fn=none∧Extern.find fn=some (Zi1 e):=by
 obtain rfl:fn=Tryz.f268:=(Yvr (Tryz.func268.symm.trans hf)).symm
 obtain rfl:e=.same:=(Yvr ((show Zlv Tryz.f268.name=some .same by kernel_rfl).symm.trans he)).symm
 exact⟨by kernel_rfl,by kernel_rfl,by kernel_rfl⟩
def A.ext3(fn:Func)(e:Ext)(hf:Tryz.prog.funcs[273]?=some fn)(he:Zlv fn.name=some e):(fn.name== "runtime.NumGoroutine")=false∧Extern.findNext fn=none∧Extern.find fn=some (Zi1 e):=by
 obtain rfl:fn=Tryz.f273:=(Yvr (Tryz.func273.symm.trans hf)).symm
 obtain rfl:e=.indexByteString:=(Yvr ((show Zlv Tryz.f273.name=some .indexByteString by kernel_rfl).symm.trans he)).symm
 exact⟨by kernel_rfl,by kernel_rfl,by kernel_rfl⟩
def A.extsOk:Zeq Tryz.prog:=by
 intro g fn e hf hb he
 have h:=Yvk.1 A.exts g (Yws.2 (by
  rcases Nat.lt_or_ge g Tryz.prog.funcs.size with h|h
  ·exact h
  ·rw[Array.getElem?_eq_none h]at hf;cases hf))
 rw[hf]at h
 simp only[hb,he,Option.isNone_some,Bool.or_false,Bool.false_or]at h
 have hm:=Zj3.1 h
 simp only[Yvt,List.mem_nil_iff,or_false]at hm
 rcases hm with rfl|rfl|rfl|rfl
 ·exact A.ext0 fn e hf he
 ·exact A.ext1 fn e hf he
 ·exact A.ext2 fn e hf he
 ·exact A.ext3 fn e hf he
def A.progOk:Zlq Tryz.prog A.tbl 10 where
 m:=A.mixed
 e:=A.extsOk
 t:=fun f mf hf=>⟨hf,fun fn hfn=>by
  have h:=Yvk.1 A.names fn (Array.mem_toList_iff.2 (Array.mem_of_getElem? hfn))
  simpa using h⟩
 g:=A.globals
end Go.Mx
