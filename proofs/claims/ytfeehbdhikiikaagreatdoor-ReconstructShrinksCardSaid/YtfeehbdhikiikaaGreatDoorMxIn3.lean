/-Inputs-/
import Derived.Test.YtfeehbdhikiikaaGreatDoorDmC
import Derived.Deep.Slices
import Derived.Lib.LaidTab
import Derived.LaidSub
import Derived.ChangeShapes
import Derived.WideShapes
import Derived.Test.YtfeehbdhikiikaaGreatDoorChecked
set_option linter.all false
namespace Go.Mx
open Go
variable{k:IntKind}{tb:List (Nat×O)}{zs:List Int}{G fuel g n:Nat}{H:Type}{l s:TypeId}
variable {P:Program} {S:St} {W:World} {μ:Mu}
def xM(tb:List (Nat×O))(i:Nat):Nat:=match lk tb i with
 |some (.cells c _ _)=>c.length
 |_=>0
def ko(P:Program)(W:World)(tb:List (Nat×O)):Prop:=∀i o,lk tb i=some o->∀μ,OM P μ W o ⟨i,0,xM tb i⟩
def ko.one{e:TypeId}{f:Nat×Nat}(h:W.heap[g]?=some (.cells (zs.map fun z=>Value.int k z).toArray e f)):ko P W [(g,.cells (zs.map fun z=>V.int k z) e false)]:=by
 intro i o ho μ;obtain⟨lo,hi⟩:=f;simp only[lk]at ho;split at ho
 ·rename_i hb;have:=me hb;subst this;simp only[ar]at ho;subst ho;have hl:xM [(g,O.cells (zs.map fun z=>V.int k z) e false)] g=zs.length:=by simp[xM,lk,hb]
  rw[hl];refine⟨_,lo,hi,h,by simp,by simp,fun j v hv=>?_,fun j x hj hx=>?_,fun h=>by cases h⟩
  ·rw[eH]at hv;cases hz:zs[j]? with
   |none=>rw[hz]at hv;cases hv
   |some z=> rw[hz]at hv;simp only[qH,ar]at hv;subst hv;exact⟨.int k z,by simp[hz],by simp[VR]⟩
  simp only[xd,List.getElem?_toArray,eH,mS]at hx;obtain⟨z,_,rfl⟩:=hx;rfl
 cases ho
structure uO (P:Program) (W:World) (μ:Mu) (S:St):Prop where
 hr:bq P μ W S
 w:S.w=[]
 ro:∀i l o,μ i=some l->S.h.get i=some o->o.wr=false
structure wz (μ:Mu) (S:St) (μ':Mu) (S':St):Prop where
 mu:∀i l,μ i=some l->μ' i=some l
 ad:ab S.h S.n S'.h S'.n
def wz.refl:wz μ S μ S:=⟨fun _ _ h=>h,ab.refl⟩
def wz.trans{μ1 μ2:Mu}{S1 S2:St}(a:wz μ S μ1 S1)(b:wz μ1 S1 μ2 S2):wz μ S μ2 S2:=⟨fun i l h=>b.mu i l (a.mu i l h),a.ad.trans b.ad⟩
def Yq3(hG:P.globals.size=G)(hW:G<=W.heap.size)(oH:Pv G tb=true)(Db:ko P W tb):∃μ,uO P W μ (GZ G tb):=by
 subst hG;have get:∀i,i<P.globals.size->(GZ P.globals.size tb).h.get i=some (match lk tb i with|some o=>o|none=>.dead):=fun i hi=>by
  show (vo (AW P.globals.size) tb).get i=_;rw[DC];cases lk tb i with
  |some o=>rfl
  |none=>exact Uj _ _ hi
 have hwr:∀i o,i<P.globals.size->(GZ P.globals.size tb).h.get i=some o->o.wr=false:=fun i o hi ho=>by
  rw[get i hi]at ho;simp only[ar]at ho;cases hl:lk tb i with
  |none=>rw[hl]at ho;subst ho;rfl
  |some o'=>
   rw[hl]at ho;simp only at ho;subst ho;have:=(Zon oH hl).2;cases o' with
   |cells c e rw=>cases rw with
    |true=>cases this
    |false=>rfl
   |_=>cases this
 have Uk:∀i l,(fun i=>if i<P.globals.size then some (⟨i,0,xM tb i⟩:L) else none) i=some l->i<P.globals.size/\l=⟨i,0,xM tb i⟩:=fun i l h=>by
  simp only at h;split at h
  ·rename_i hi;simp only[ar]at h;exact⟨hi,h.symm⟩
  cases h
 refine⟨fun i=>if i<P.globals.size then some ⟨i,0,xM tb i⟩ else none,⟨fun i l hl=>?_,fun i l hl=>?_,fun i j l l' o o' hi hj aX ho yU hw rC=>?_,fun g hg=>⟨xM tb g,by simp[hg]⟩⟩,rfl,fun i l o hl ho=>?_⟩
 ·obtain⟨h,rfl⟩:=Uk i l hl;exact⟨h,by simp only;omega⟩
 ·obtain⟨h,rfl⟩:=Uk i l hl;refine⟨_,get i h,?_⟩;cases gj:lk tb i with
  |none=>trivial
  |some o=>exact Db i o gj _
 ·rw[hwr i o (Uk i l hi).1 ho]at hw;cases hw
 exact hwr i o (Uk i l hl).1 ho
def Yp7{o:O}(h:lk tb g=some o):(GZ G tb).h.get g=some o:=by show (vo (AW G) tb).get g=_;rw[DC,h]
def uO.row(s:uO P W μ S){r:Uh}(oH:r.ok W)(hv:∀i,i<r.n->VR μ (r.g i) (r.f i)):
  ∃μ' S',uO P W μ' S'/\wz μ S μ' S'/\S'.n=S.n+1/\μ' S.n=some ⟨r.a.block,r.a.off,r.n⟩/\S'.h.get S.n=some (.cells ((List.range r.n).map r.g) (EV W r.a) false):=by
 obtain⟨g1,g2,g3⟩:=oH;obtain⟨c',lo,hi,hb,hs,iA,fK,aD⟩:=Ybh g1 g2;have dW:∀i l,μ i=some l->(fun i=>if i=S.n then some (⟨r.a.block,r.a.off,r.n⟩:L) else μ i) i=some l:=fun i l hl=>by have:=(s.hr.dw i l hl).1;simp only;rw[ak (by omega)];exact hl
 have xN:∀i l,(fun i=>if i=S.n then some (⟨r.a.block,r.a.off,r.n⟩:L) else μ i) i=some l->(i=S.n/\l=⟨r.a.block,r.a.off,r.n⟩)\/(i≠S.n/\μ i=some l):=fun i l h=>by
  simp only at h;split at h
  ·rename_i e;simp only[ar]at h;exact .inl ⟨e,h.symm⟩
  rename_i e;exact .inr ⟨e,h⟩
 have tg:(S.h.set S.n (.cells ((List.range r.n).map r.g) (EV W r.a) false)).get S.n=some (.cells ((List.range r.n).map r.g) (EV W r.a) false):=by simp[T.ag]
 have hold:∀i,i≠S.n->(S.h.set S.n (.cells ((List.range r.n).map r.g) (EV W r.a) false)).get i=S.h.get i:=fun i hi=>by simp[T.ag,hi]
 have rf:∀i l o,(fun i=>if i=S.n then some (⟨r.a.block,r.a.off,r.n⟩:L) else μ i) i=some l->(S.h.set S.n (.cells ((List.range r.n).map r.g) (EV W r.a) false)).get i=some o->o.wr=false:=fun i l o hl ho=>by
  rcases xN i l hl with⟨rfl,rfl⟩|⟨h1,h2⟩
  ·rw[tg]at ho;simp only[ar]at ho;subst ho;rfl
  rw[hold i h1]at ho;exact s.ro i l o h2 ho
 refine⟨_,⟨S.h.set S.n (.cells ((List.range r.n).map r.g) (EV W r.a) false),S.n+1,[]⟩,⟨⟨fun i l hl=>?_,fun i l hl=>?_,fun i j l l' o o' kl hj aX ho yU hw rC=>?_,fun g hg=>?_⟩,rfl,rf⟩,⟨dW,by simp,fun i hi=>hold i (by omega)⟩,rfl,by simp,tg⟩
 ·rcases xN i l hl with⟨rfl,rfl⟩|⟨h1,h2⟩
  ·exact⟨by simp,aD⟩
  obtain⟨q1,q2⟩:=s.hr.dw i l h2;exact⟨by simp only;omega,q2⟩
 ·rcases xN i l hl with⟨rfl,rfl⟩|⟨h1,h2⟩
  ·refine⟨_,tg,c',lo,hi,hb,fK,by simp,fun j v hvj=>?_,fun j x hj hx=>?_,fun h=>by cases h⟩
   ·have hj:j<r.n:=by have:=(yL.1 hvj).1;simpa using this
    have I9:v=r.g j:=by simpa[hj]using hvj.symm
    subst I9;exact⟨_,iA j hj,VR.mono dW _ _ (hv j hj)⟩
   have hj:j<r.n:=hj;rw[iA j hj]at hx;simp only[ar]at hx;subst hx;exact g3 j hj
  obtain⟨o,q1,q2⟩:=s.hr.obj i l h2;exact⟨o,by rw[hold i h1];exact q1,q2.mono dW⟩
 ·rw[rf i l o kl ho]at hw;cases hw
 obtain⟨t,ht⟩:=s.hr.je g hg;exact⟨t,dW _ _ ht⟩
def uO.slice(s:uO P W μ S){r:Uh}(oH:r.ok W)(hv:∀i,i<r.n->VR μ (r.g i) (r.f i)){len cap z:Nat}(hn:r.n=cap*z)(hl:len<=cap)(hz:0<z):
  ∃μ' S' i,uO P W μ' S'/\wz μ S μ' S'/\VR μ' (.slice i 0 len (some cap) z) (.slice (some r.a) len cap)/\i<S'.n/\S'.h.get i=some (.cells ((List.range r.n).map r.g) (EV W r.a) false):=by obtain⟨μ',S',q1,q2,q3,q4,q5⟩:=s.row oH hv;refine⟨μ',S',S.n,q1,q2,?_,by omega,q5⟩;obtain⟨⟨b,off,sp⟩,n,f,g⟩:=r;obtain⟨g1,g2,_⟩:=oH;obtain⟨_,_,_,_,hs,_,_,_⟩:=Ybh g1 g2;simp only at hs hn q4;subst hs;simp only[VR];exact⟨⟨b,off,n⟩,cap,q4,by simp,hl,by simp[hn],fun k hk=>by simpa using hk,fun h=>by cases h⟩
def uO.list(s:uO P W μ S){i:nV}(hi:i.ok W):
  ∃μ' S' v,uO P W μ' S'/\wz μ S μ' S'/\VR μ' v i.val/\Sl S'.h S'.n v (strs i.strs):=by
 cases i with
 |nil=>exact⟨μ,S,.aa,s,wz.refl,by simp[nV.val,VR],Sl.nil⟩
 |emp b=>exact⟨μ,S,.empty,s,wz.refl,by simp[nV.val,VR],.inl ⟨rfl,.inr rfl⟩⟩
 |sl b l c f=>
  obtain⟨h1,h2,h3⟩:=hi;obtain⟨μ',S',k,q1,q2,q3,q4,q5⟩:=s.slice (r:=⟨b,c,fun i=>.string (f i),fun i=>.str (f i).data.toList⟩) ⟨h2,h3,fun _ _=>rfl⟩ (fun i _=>by simp[VR]) (len:=l) (cap:=c) (z:=1) (by simp) h1 (by decide);refine⟨μ',S',_,q1,q2,q3,.inr ⟨k,0,some c,_,_,false,by simp[strs,nV.strs],q4,q5,fun j hj=>?_,by simp[strs,nV.strs];omega,fun k hk=>by simp[strs,nV.strs]at hk ⊢;omega⟩⟩;have pY:j<l:=by simpa[strs,nV.strs]using hj
  simp[strs,nV.strs,pY,show j<c by omega]
inductive Ul where
 |nil
 |emp (b:Addr)
 |sl (b:Addr) (l c:Nat) (f:Nat->Int)
def Ul.val:Ul->Value
 |.nil=>.slice none 0 0
 |.emp b=>.slice (some b) 0 0
 |.sl b l c f=>.slice (some b) l c
def Ul.ok(W:World):Ul->Prop
 |.sl b l c f=>l<=c/\0<c/\∀i,i<c->W.cell? (b.add i)=some (.int .i64 (f i))
 |_=>True
def uO.lists{P:Program}{W:World}{F:Nat->nV}:∀(n:Nat),(∀i,i<n->(F i).ok W)->∀{μ:Mu} {S:St},uO P W μ S->
  ∃μ' S',uO P W μ' S'/\wz μ S μ' S'/\∀i,i<n->∃v,VR μ' v (F i).val/\Sl S'.h S'.n v (strs (F i).strs)
 |0,_,μ,S,s=>⟨μ,S,s,wz.refl,fun i hi=>absurd hi (by omega)⟩
 |n+1,hF,μ,S,s=>by
  obtain⟨μ1,S1,s1,g1,a1⟩:=uO.lists n (fun i hi=>hF i (by omega)) s
  obtain⟨μ2,S2,v,s2,g2,a2,a3⟩:=s1.list (hF n (by omega))
  refine⟨μ2,S2,s2,g1.trans g2,fun i hi=>?_⟩
  by_cases e:i=n
  ·subst e;exact⟨v,a2,a3⟩
  ·obtain⟨u,b1,b2⟩:=a1 i (by omega)
   exact⟨u,VR.mono g2.mu _ _ b1,b2.ad g2.ad⟩
inductive sD where
 |nil
 |emp (b:Addr)
 |sl (b:Addr) (l c:Nat) (F:Nat->nV)
def sD.val:sD->Value
 |.nil=>.slice none 0 0
 |.emp b=>.slice (some b) 0 0
 |.sl b l c f=>.slice (some b) l c
def sD.ok(W:World):sD->Prop
 |.sl b l c F=>l<=c/\0<c/\∀i,i<c->W.cell? (b.add i)=some (F i).val/\(F i).ok W
 |_=>True
def sD.rows:sD->List (List aH)
 |.sl b l c F=>(List.range l).map fun i=>(F i).strs
 |_=>[]
def nV.one{i:nV}:i.val.oneCell'=true:=by cases i<;>rfl
def uO.mat(s:uO P W μ S){m:sD}(hm:m.ok W):
  ∃μ' S' v,uO P W μ' S'/\wz μ S μ' S'/\VR μ' v m.val/\∃us:List V,Sl S'.h S'.n v us/\us.length=m.rows.length/\∀(j:Nat) (l:List aH),m.rows[j]?=some l->∃u,us[j]?=some u/\Sl S'.h S'.n u (strs l):=by
 cases m with
 |nil=>exact⟨μ,S,.aa,s,wz.refl,by simp[sD.val,VR],[],Sl.nil,rfl,fun j l h=>by simp[sD.rows]at h⟩
 |emp b=>exact⟨μ,S,.empty,s,wz.refl,by simp[sD.val,VR],[],.inl ⟨rfl,.inr rfl⟩,rfl,fun j l h=>by simp[sD.rows]at h⟩
 |sl b l c F=>
  obtain⟨h1,h2,h3⟩:=hm;obtain⟨μ1,S1,s1,g1,a1⟩:=uO.lists c (fun i hi=>(h3 i hi).2) s;have hex:∀i,∃v:V,i<c->VR μ1 v (F i).val/\Sl S1.h S1.n v (strs (F i).strs):=fun i=>by
   by_cases hi:i<c
   ·obtain⟨v,hv⟩:=a1 i hi;exact⟨v,fun _=>hv⟩
   exact⟨.aa,fun h=>absurd h hi⟩
  obtain⟨g,hg⟩:=Classical.axiomOfChoice hex;obtain⟨μ',S',k,q1,q2,q3,q4,q5⟩:=s1.slice (r:=⟨b,c,fun i=>(F i).val,g⟩) ⟨h2,fun i hi=>(h3 i hi).1,fun _ _=>nV.one⟩ (fun i hi=>(hg i hi).1) (len:=l) (cap:=c) (z:=1) (by simp) h1 (by decide);refine⟨μ',S',_,q1,g1.trans q2,q3,(List.range l).map g,.inr ⟨k,0,some c,_,_,false,by simp,q4,q5,fun j hj=>?_,by simp;omega,fun k hk=>by simp at hk ⊢;omega⟩,by simp[sD.rows],fun j x hj=>?_⟩
  ·have pY:j<l:=by simpa using hj
   simp[pY,show j<c by omega]
  have JT:j<l:=by apply u_;intro hc;rw[gl (by simp[sD.rows];omega)]at hj;cases hj
  have hx:x=(F j).strs:=by simpa[sD.rows,JT]using hj.symm
  subst hx;exact⟨g j,by simp[JT],((hg j (by omega)).2).ad q2.ad⟩
open Go Go.ChangeShapes Go.WideShapes Go.RowKit Go.Deep
variable {P:Program}
def jr{t:TypeId}(ht:P.underlying t=some (.slice s))(hs:P.underlying s=some .string)(hc:P.cellsOf s=1){enc:TypeId×Value->H}{c:Value}{x:DataW H×List MemPlace}
  (h:DataW.trod enc P W 0 (fun _=>true) true fuel t [c]=some x):∃i:nV,c=i.val/\i.ok W/\i.strs.length<9223372036854775808:=by
 rcases open_slice1 ht hc h with⟨hc,_⟩|⟨a,len,cap,m,n,Vf,D,Pl,hc,_,hl,dq,hm,_,hx⟩
 ·have rD:c=.slice none 0 0:=by simpa using hc
  exact⟨.nil,rD,trivial,by simp[nV.strs]⟩
 simp only[if_true]at hm;subst hm;have rD:c=.slice (some a) len m:=by simpa using hc
 rcases Jb m with h0|h0
 ·subst h0;have:len=0:=by omega
  subst this;exact⟨.emp a,rD,trivial,by simp[nV.strs]⟩
 refine⟨.sl a len m fun i=>match Vf i with|.string s=>s|_=>⟨#[]⟩,rD,⟨hl,h0,fun i hi=>?_⟩,by simp only[nV.strs,dL,List.length_range];unfold maxLen at dq;omega⟩;obtain⟨g1,g2⟩:=hx i hi;obtain⟨s,e0,_⟩:=DataW.trod_string hs g2;simp only[jW,and_true]at e0;rw[g1];simp only[e0]
def Cc{t:TypeId}(ht:P.underlying t=some (.slice l))(aD:P.underlying l=some (.slice s))(hs:P.underlying s=some .string)(cy:P.cellsOf l=1)(hc:P.cellsOf s=1){enc:TypeId×Value->H}{c:Value}{x:DataW H×List MemPlace}
  (h:DataW.trod enc P W 0 (fun _=>true) true fuel t [c]=some x):∃m:sD,c=m.val/\m.ok W/\m.rows.length<9223372036854775808/\∀r∈m.rows,r.length<9223372036854775808:=by
 rcases open_slice1 ht cy h with⟨hc,_⟩|⟨a,len,cap,m,n,Vf,D,Pl,rD,_,hl,dq,hm,_,hx⟩
 ·have rD:c=.slice none 0 0:=by simpa using hc
  exact⟨.nil,rD,trivial,by simp[sD.rows],fun r hr=>by simp[sD.rows]at hr⟩
 simp only[if_true]at hm;subst hm;have rD:c=.slice (some a) len m:=by simpa using rD
 rcases Jb m with h0|h0
 ·subst h0;have:len=0:=by omega
  subst this;exact⟨.emp a,rD,trivial,by simp[sD.rows],fun r hr=>by simp[sD.rows]at hr⟩
 have fF:∀i,∃s:nV,i<m->Vf i=s.val/\s.ok W/\s.strs.length<9223372036854775808:=fun i=>by
  by_cases hi:i<m
  ·obtain⟨g1,g2⟩:=hx i hi;obtain⟨s,q⟩:=jr aD hs hc g2;exact⟨s,fun _=>q⟩
  exact⟨.nil,fun h=>absurd h hi⟩
 obtain⟨F,hF⟩:=Classical.axiomOfChoice fF;refine⟨.sl a len m F,rD,⟨hl,h0,fun i hi=>⟨?_,(hF i hi).2.1⟩⟩,by simp only[sD.rows,dL,List.length_range];unfold maxLen at dq;omega,fun r hr=>?_⟩
 ·rw[(hx i hi).1,(hF i hi).1]
 obtain⟨i,hi,rfl⟩:=bO.1 hr;exact(hF i (by have:=jz.1 hi;omega)).2.2
def tN{laid:List (String×DataW Unit)}{name:String}{t e:TypeId}{z:Array Value}
  (hg:P.globalNamed name=some g) (Pw:(P.globals[g]?).map (·.type)=some t) (ht:P.underlying t=some (.array n e)) (he:P.underlying e=some (.int k)) (hce:P.cellsOf e=1) (hct:P.cellsOf t=n)
  (hf:laid.filter (fun x=>x.1==name)=[(name,Lib.tabData k zs)]) (aD:g<P.globals.size) (hz:((begin P (fun _ _=>0) default).world.heap[g]?).bind Obj.row?=some (z,t))
  (hl:laidMet P laid W) (hs:W.ShapedOpen P):ko P W [(g,.cells (zs.map fun z=>V.int k z) t false)]:=by have h1:=laidMet.filter (fun x=>x.1==name) hl;rw[hf]at h1;have h2:=Lib.tabIs_of_head hg Pw ht he hce hct h1;unfold Lib.TabIs World.var? at h2;rw[hg]at h2;obtain⟨cs,h3,_⟩:=hs.1 g z t aD hz;simp only[Option.bind_some,h3,ar]at h2;subst h2;exact ko.one h3
open Go Go.Proofs
set_option maxRecDepth 1000000
noncomputable def A.eg:Nat->Option nD:=Ar Tryz.prog
abbrev A.p(L:List n_)(E:List mM):Prop:=Yox A.TB 10 A.eg L E=true
abbrev A.e(L:List n_)(E:List mM):Prop:=Yhv A.TB 10 A.eg L E=true
abbrev ai(n:Int):V:=.int .i64 n
abbrev aF:V:=.bool false
abbrev qF:V:=.bool true
abbrev aj:V:=.aa
def A.L:List n_:=[]
def A.E:List mM:=[]
def A.L0:=⟨234,[.str [49],.str [45]],aF⟩::A.L
def A.L1:=⟨233,[.str [49],.str [47]],ai (-1)⟩::A.L0
def A.L2:=⟨208,[.str [49],.str [47]],(.aU [.str [49],.str [],aF])⟩::A.L1
def A.L3:=⟨148,[.str [49],.str [47]],(.aU [.str [49],.str [],aF])⟩::A.L2
def A.L4:=⟨251,[.str [48,49,50,51,52,53,54,55,56,57]],(.aU [.agg (List.replicate 48 aF++List.replicate 10 qF++List.replicate 198 aF),qF])⟩::A.L3
def A.L5:=⟨226,[.str [49],.str [48,49,50,51,52,53,54,55,56,57]],.str []⟩::A.L4
def A.L6:=⟨193,[.str [49]],qF⟩::A.L5
def A.L7:=⟨140,[.str [49]],ai 0⟩::A.L6
def A.L8:=⟨140,[.str [45,49]],ai 0⟩::A.L7
def A.L9:=⟨208,[.str [48],.str [47]],(.aU [.str [48],.str [],aF])⟩::A.L8
def A.Wf:=⟨148,[.str [48],.str [47]],(.aU [.str [48],.str [],aF])⟩::A.L9
def A.Wg:=⟨226,[.str [48],.str [48,49,50,51,52,53,54,55,56,57]],.str []⟩::A.Wf
def A.Wh:=⟨193,[.str [48]],qF⟩::A.Wg
def A.Wj:=⟨140,[.str [48]],ai 0⟩::A.Wh
def A.Wk:=⟨236,[.str [49]],.aU [ai 1,.aZ]⟩::A.Wj
def A.Wl:=⟨211,[.str [49]],.aU [ai 1,.aZ]⟩::A.Wk
def A.Wm:=⟨205,[.int .u64 1,.int .u64 10],.aU [.int .u64 0,.int .u64 10]⟩::A.Wl
def A.Wo:=⟨147,[.agg [ai 1,aj],.agg [ai 10,aj]],.agg [ai 10,aj]⟩::A.Wm
def A.Wp:=⟨212,[.agg [ai 10,aj],ai 1],.agg [ai 10,aj]⟩::A.Wo
def A.Wq:=⟨205,[.int .u64 0,.int .u64 10],.aU [.int .u64 0,.int .u64 0]⟩::A.Wp
def A.Wr:=⟨147,[.agg [ai 0,aj],.agg [ai 10,aj]],.agg [ai 0,aj]⟩::A.Wq
def A.Ws:=⟨145,[.agg [ai 0,aj],.agg [ai 1,aj]],.agg [ai 1,aj]⟩::A.Wr
def A.Wu:=⟨149,[.str [49]],.agg [ai 1,aj]⟩::A.Ws
def A.Wv:=⟨65,[.str [49]],.agg [ai 1,aj,ai 1,aj]⟩::A.Wu
def A.Ww:=⟨149,[.str [45,49]],(.agg [ai (-1),aj])⟩::A.Wv
def A.Wx:=⟨65,[.str [45,49]],(.agg [ai (-1),aj,ai 1,aj])⟩::A.Ww
def A.WA:=⟨149,[.str [48]],.agg [ai 0,aj]⟩::A.Wx
def A.WB:=⟨65,[.str [48]],.agg [ai 0,aj,ai 1,aj]⟩::A.WA
def A.WC:=⟨146,[.agg [ai 1,aj],.agg [ai 1,aj]],.agg [ai 1,aj,ai 1,aj]⟩::A.WB
def A.WD:=⟨205,[.int .u64 1,.int .u64 1],.aU [.int .u64 0,.int .u64 1]⟩::A.WC
def A.WE:=⟨147,[.agg [ai 1,aj],.agg [ai 1,aj]],.agg [ai 1,aj]⟩::A.WD
def A.WG:=⟨79,[.agg [ai 1,aj,ai 1,aj],.agg [ai 1,aj,ai 1,aj]],.agg [ai 1,aj,ai 1,aj]⟩::A.WE
def A.WH:=⟨166,[.agg [ai 1,aj,ai 1,aj],.agg [ai 1,aj,ai 1,aj]],.agg [ai 1,aj,ai 1,aj]⟩::A.WG
def A.WI:=⟨147,[(.agg [ai (-1),aj]),.agg [ai 1,aj]],(.agg [ai (-1),aj])⟩::A.WH
def A.WJ:=⟨79,[(.agg [ai (-1),aj,ai 1,aj]),.agg [ai 1,aj,ai 1,aj]],(.agg [ai (-1),aj,ai 1,aj])⟩::A.WI
def A.WK:=⟨166,[(.agg [ai (-1),aj,ai 1,aj]),.agg [ai 1,aj,ai 1,aj]],(.agg [ai (-1),aj,ai 1,aj])⟩::A.WJ
def A.WL:=⟨147,[.agg [ai 0,aj],.agg [ai 1,aj]],.agg [ai 0,aj]⟩::A.WK
def A.WM:=⟨79,[.agg [ai 0,aj,ai 1,aj],.agg [ai 1,aj,ai 1,aj]],.agg [ai 0,aj,ai 1,aj]⟩::A.WL
def A.WN:=⟨166,[.agg [ai 0,aj,ai 1,aj],.agg [ai 1,aj,ai 1,aj]],.agg [ai 0,aj,ai 1,aj]⟩::A.WM
def A.WO:=⟨79,[(.agg [ai (-1),aj,ai 1,aj]),.agg [ai 0,aj,ai 1,aj]],.agg [ai 0,aj,ai 1,aj]⟩::A.WN
def A.WQ:=⟨143,[.agg [ai 0,aj,ai 1,aj]],qF⟩::A.WO
def A.WR:=⟨147,[(.agg [ai (-1),aj]),(.agg [ai (-1),aj])],.agg [ai 1,aj]⟩::A.WQ
def A.WS:=⟨79,[(.agg [ai (-1),aj,ai 1,aj]),(.agg [ai (-1),aj,ai 1,aj])],.agg [ai 1,aj,ai 1,aj]⟩::A.WR
def A.WT:=⟨214,[.agg [ai 1,aj]],ai 1⟩::A.WS
def A.HZ:=⟨155,[.agg [ai 1,aj]],aF⟩::A.WT
def A.E0:=⟨35,[],[],[(.slice 12 0 2 (some 2) 1)],[(12,.cells [(.slice 10 0 3 (some 3) 1),(.slice 11 0 3 (some 3) 1)] 23 true),(10,.cells [.str [49],.str [45,49],.str [48]] 26 true),(11,.cells [.str [48],.str [49],.str [45,49]] 26 true)]++A.TB,136,.aU [.slice 136 0 1 none 1,ai 0],[(329,.cells [(.slice 137 0 3 (some 3) 1)] 23 true),(315,.cells [.str [49],.str [49],.str [49]] 26 true)],[]⟩::A.E
def A.E1:=⟨36,[],[],[(.slice 12 0 2 (some 2) 1)],[(12,.cells [(.slice 10 0 3 (some 3) 1),(.slice 11 0 3 (some 3) 1)] 23 true),(10,.cells [.str [49],.str [45,49],.str [48]] 26 true),(11,.cells [.str [48],.str [49],.str [45,49]] 26 true)]++A.TB,138,.aU [.slice 138 0 2 none 1,ai 0],[(309,.cells [(.slice 139 0 3 (some 3) 1),(.slice 140 0 3 (some 3) 1)] 23 true),(270,.cells [.str [49],.str [48],.str [45,49]] 26 true),(295,.cells [.str [48],.str [49],.str [45,49]] 26 true)],[]⟩::A.E0
def A.WU:=⟨226,[.str [51],.str [48,49,50,51,52,53,54,55,56,57]],.str []⟩::A.HZ
def A.WV:=⟨193,[.str [51]],qF⟩::A.WU
def A.WW:=⟨149,[.str [51]],.agg [ai 3,aj]⟩::A.WV
def A.WX:=⟨64,[.agg [ai 0,aj,ai 1,aj],.agg [ai 1,aj,ai 1,aj]],.agg [ai 1,aj,ai 1,aj]⟩::A.WW
def A.WY:=⟨64,[.agg [ai 0,aj,ai 1,aj],.agg [ai 0,aj,ai 1,aj]],.agg [ai 0,aj,ai 1,aj]⟩::A.WX
def A.WZ:=⟨147,[.agg [ai 1,aj],.agg [ai 3,aj]],.agg [ai 3,aj]⟩::A.WY
def A.W7:=⟨228,[.agg [ai 2,aj],.agg [ai 1,aj]],(.aU [.agg [ai 2,aj],.agg [ai 0,aj]])⟩::A.WZ
def A.W8:=⟨196,[.agg [ai 1,aj],.agg [ai 2,aj]],.agg [ai 1,aj]⟩::A.W7
def A.W9:=⟨228,[.agg [ai 1,aj],.agg [ai 1,aj]],(.aU [.agg [ai 1,aj],.agg [ai 0,aj]])⟩::A.W8
def A.Xa:=⟨204,[.agg [ai 1,aj],.agg [ai 1,aj]],.agg [ai 1,aj]⟩::A.W9
def A.Xb:=⟨204,[.agg [ai 2,aj],.agg [ai 1,aj]],.agg [ai 2,aj]⟩::A.Xa
def A.Xc:=⟨146,[.agg [ai 1,aj],.agg [ai 2,aj]],.agg [ai 1,aj,ai 2,aj]⟩::A.Xb
def A.Xd:=⟨222,[.agg [ai 2,aj,ai 1,aj]],.agg [ai 1,aj,ai 2,aj]⟩::A.Xc
def A.Xe:=⟨147,[.agg [ai 2,aj],.agg [ai 1,aj]],.agg [ai 2,aj]⟩::A.Xd
def A.Xf:=⟨205,[.int .u64 1,.int .u64 2],.aU [.int .u64 0,.int .u64 2]⟩::A.Xe
def A.Xg:=⟨147,[.agg [ai 1,aj],.agg [ai 2,aj]],.agg [ai 2,aj]⟩::A.Xf
def A.Xh:=⟨79,[.agg [ai 2,aj,ai 1,aj],.agg [ai 1,aj,ai 2,aj]],.agg [ai 1,aj,ai 1,aj]⟩::A.Xg
def A.Xi:=⟨166,[.agg [ai 2,aj,ai 1,aj],.agg [ai 2,aj,ai 1,aj]],.agg [ai 1,aj,ai 1,aj]⟩::A.Xh
def A.Xj:=⟨79,[.agg [ai 1,aj,ai 1,aj],.agg [ai 1,aj,ai 2,aj]],.agg [ai 1,aj,ai 2,aj]⟩::A.Xi
def A.Xk:=⟨166,[.agg [ai 1,aj,ai 1,aj],.agg [ai 2,aj,ai 1,aj]],.agg [ai 1,aj,ai 2,aj]⟩::A.Xj
def A.Xl:=⟨147,[.agg [ai 3,aj],.agg [ai 1,aj]],.agg [ai 3,aj]⟩::A.Xk
def A.Xm:=⟨228,[.agg [ai 3,aj],.agg [ai 1,aj]],(.aU [.agg [ai 3,aj],.agg [ai 0,aj]])⟩::A.Xl
def A.Xn:=⟨204,[.agg [ai 3,aj],.agg [ai 1,aj]],.agg [ai 3,aj]⟩::A.Xm
def A.Xo:=⟨196,[.agg [ai 2,aj],.agg [ai 3,aj]],.agg [ai 1,aj]⟩::A.Xn
def A.Xp:=⟨146,[.agg [ai 2,aj],.agg [ai 3,aj]],.agg [ai 2,aj,ai 3,aj]⟩::A.Xo
def A.H0:=⟨146,[.agg [ai 0,aj],.agg [ai 3,aj]],.agg [ai 0,aj,ai 1,aj]⟩::A.Xp
def A.E2:=⟨96,[],[],[.slice 567 0 2 none 1],[(567,.cells [.slice 560 0 3 none 4,.slice 565 0 3 none 4] 90 true),(560,.cells [ai 2,aj,ai 1,aj,ai 1,aj,ai 1,aj,ai 3,aj,ai 1,aj] 101 true),(565,.cells [ai 1,aj,ai 1,aj,ai 2,aj,ai 1,aj,ai 0,aj,ai 1,aj] 101 true)]++A.TB,568,(.aU [(.slice 568 0 2 (some 2) 1),.slice 571 0 2 none 1]),[(568,.cells [(.slice 569 0 3 (some 3) 4),.slice 570 0 3 none 4] 90 true),(916,.cells [ai 1,aj,ai 1,aj,ai 0,aj,ai 1,aj,ai 2,aj,ai 1,aj] 101 true),(912,.cells [ai 0,aj,ai 1,aj,ai 1,aj,ai 1,aj,ai (-1),aj,ai 1,aj] 101 true),(1155,.cells [ai 0,ai 1] 3 true)],[]⟩::A.E1
def A.E3:=⟨37,[],[],[(.slice 12 0 2 (some 2) 1),(.slice 141 0 3 (some 3) 1)],[(12,.cells [(.slice 10 0 3 (some 3) 1),(.slice 11 0 3 (some 3) 1)] 23 true),(10,.cells [.str [49],.str [45,49],.str [48]] 26 true),(11,.cells [.str [48],.str [49],.str [45,49]] 26 true),(141,.cells [.str [51],.str [48],.str [48]] 26 true)]++A.TB,142,(.aU [(.slice 142 0 3 (some 3) 1),(.slice 143 0 3 (some 3) 1),ai 0]),[(753,.cells [.str [50],.str [45,49],.str [45,49]] 26 true),(804,.cells [.str [49],.str [49],.str [49]] 26 true)],[]⟩::A.E2
def A.Xq:=⟨146,[.agg [ai 2,aj],.agg [ai 9,aj]],.agg [ai 2,aj,ai 9,aj]⟩::A.H0
def A.A7:=⟨222,[.agg [ai 9,aj,ai 2,aj]],.agg [ai 2,aj,ai 9,aj]⟩::A.Xq
def A.E4:=⟨164,[],[],[(.slice 695 0 4 (some 4) 4),(.func 165 [] [.ptr 876 0])],[(695,.cells [ai 0,aj,ai 1,aj,ai 9,aj,ai 2,aj,ai (-3),aj,ai 2,aj,ai 3,aj,ai 2,aj] 101 true),(876,.cells [ai 9,aj,ai 2,aj] 101 true)]++A.TB,877,.slice 877 0 4 none 4,[(1120,.cells [ai 0,aj,ai 1,aj,ai 1,aj,ai 1,aj,ai (-1),aj,ai 3,aj,ai 1,aj,ai 3,aj] 101 true)],[]⟩::A.E3
def A.E5:=⟨78,[],[],[.slice 690 0 4 none 4,.slice 877 0 4 none 4,(.func 167 [] [.ptr 878 0])],[(690,.cells [ai 1,aj,ai 1,aj,ai 1,aj,ai 2,aj,ai 1,aj,ai 2,aj,ai 1,aj,ai 2,aj] 101 true),(877,.cells [ai 0,aj,ai 1,aj,ai 1,aj,ai 1,aj,ai (-1),aj,ai 3,aj,ai 1,aj,ai 3,aj] 101 true),(878,.cells [ai 1,aj,ai 2,aj] 101 true)]++A.TB,881,(.slice 881 0 4 (some 4) 4),[(881,.cells [ai 1,aj,ai 1,aj,ai 0,aj,ai 1,aj,ai 2,aj,ai 3,aj,ai 1,aj,ai 3,aj] 101 true)],[]⟩::A.E4
def A.E6:=⟨66,[],[],[.slice 654 0 2 none 1,.slice 493 0 2 none 1],[(654,.cells [.slice 571 0 2 none 4,.slice 652 0 2 none 4] 90 true),(571,.cells [ai 2,aj,ai 1,aj,ai 1,aj,ai 1,aj] 101 true),(652,.cells [ai 1,aj,ai 1,aj,ai 5,aj,ai 1,aj] 101 true),(493,.cells [(.slice 474 0 2 (some 2) 4),(.slice 484 0 2 (some 2) 4)] 90 true),(474,.cells [ai 1,aj,ai 1,aj,ai 1,aj,ai 1,aj] 101 true),(484,.cells [ai (-1),aj,ai 1,aj,ai 2,aj,ai 1,aj] 101 true)]++A.TB,655,.aU [.slice 655 0 2 none 1,qF],[(888,.cells [(.slice 656 8 2 (some 2) 4),.slice 657 8 2 none 4] 90 true),(881,.cells [ai 1,aj,ai 1,aj,ai 0,aj,ai 1,aj,ai 2,aj,ai 3,aj,ai 1,aj,ai 3,aj] 101 true),(877,.cells [ai 0,aj,ai 1,aj,ai 1,aj,ai 1,aj,ai (-1),aj,ai 3,aj,ai 1,aj,ai 3,aj] 101 true)],[]⟩::A.E5
def A.E7:=⟨112,[],[],[.slice 160 0 2 none 1,(.slice 161 0 2 (some 2) 4),(.slice 162 0 2 (some 2) 1)],[(160,.cells [(.slice 155 0 3 (some 3) 4),(.slice 158 0 3 (some 3) 4)] 90 true),(155,.cells [ai 1,aj,ai 1,aj,ai (-1),aj,ai 1,aj,ai 0,aj,ai 1,aj] 101 true),(158,.cells [ai 0,aj,ai 1,aj,ai 1,aj,ai 1,aj,ai (-1),aj,ai 1,aj] 101 true),(161,.cells [ai 1,aj,ai 1,aj,ai 1,aj,ai 1,aj] 101 true),(162,.cells [(.slice 210 0 3 (some 3) 4),.slice 206 0 3 none 4] 90 true),(210,.cells [ai 1,aj,ai 1,aj,ai 0,aj,ai 1,aj,ai (-1),aj,ai 1,aj] 101 true),(206,.cells [ai 0,aj,ai 1,aj,ai 1,aj,ai 1,aj,ai (-1),aj,ai 1,aj] 101 true)]++A.TB,275,.aU [.slice 275 0 2 none 1,qF],[(655,.cells [(.slice 276 8 2 (some 2) 4),.slice 277 8 2 none 4] 90 true),(656,.cells [ai 1,aj,ai 1,aj,ai 0,aj,ai 1,aj,ai 2,aj,ai 3,aj,ai 1,aj,ai 3,aj] 101 true),(657,.cells [ai 0,aj,ai 1,aj,ai 1,aj,ai 1,aj,ai (-1),aj,ai 3,aj,ai 1,aj,ai 3,aj] 101 true)],[]⟩::A.E6
def A.Xr:=⟨196,[.agg [ai 1,aj],.agg [ai 3,aj]],.agg [ai 1,aj]⟩::A.A7
def A.Xs:=⟨146,[.agg [ai 1,aj],.agg [ai 3,aj]],.agg [ai 1,aj,ai 3,aj]⟩::A.Xr
def A.Xt:=⟨64,[.agg [ai 0,aj,ai 1,aj],.agg [ai 1,aj,ai 3,aj]],.agg [ai 1,aj,ai 3,aj]⟩::A.Xs
def A.Xu:=⟨79,[.agg [ai 1,aj,ai 3,aj],.agg [ai 0,aj,ai 1,aj]],.agg [ai 0,aj,ai 1,aj]⟩::A.Xt
def A.Xv:=⟨146,[(.agg [ai (-1),aj]),.agg [ai 3,aj]],(.agg [ai (-1),aj,ai 3,aj])⟩::A.Xu
def A.DT:=⟨64,[.agg [ai 0,aj,ai 1,aj],(.agg [ai (-1),aj,ai 3,aj])],(.agg [ai (-1),aj,ai 3,aj])⟩::A.Xv
def A.E8:=⟨87,[],[],[.slice 322 0 2 none 1,(.func 154 [.slice 302 0 2 none 4] [])],[(322,.cells [.slice 311 0 2 none 4,.slice 320 0 2 none 4] 90 true),(311,.cells [ai 2,aj,ai 3,aj,ai (-1),aj,ai 3,aj] 101 true),(320,.cells [ai 1,aj,ai 3,aj,ai 1,aj,ai 3,aj] 101 true),(302,.cells [ai (-1),aj,ai 1,aj,ai (-1),aj,ai 1,aj] 101 true)]++A.TB,422,.slice 422 0 2 none 4,[(693,.cells [ai (-1),aj,ai 3,aj,ai (-2),aj,ai 3,aj] 101 true)],[]⟩::A.E7
def A.E9:=⟨55,[],[],[.slice 160 0 2 none 1,(.slice 161 0 2 (some 2) 4)],[(160,.cells [(.slice 155 0 3 (some 3) 4),(.slice 158 0 3 (some 3) 4)] 90 true),(155,.cells [ai 1,aj,ai 1,aj,ai (-1),aj,ai 1,aj,ai 0,aj,ai 1,aj] 101 true),(158,.cells [ai 0,aj,ai 1,aj,ai 1,aj,ai 1,aj,ai (-1),aj,ai 1,aj] 101 true),(161,.cells [ai 1,aj,ai 1,aj,ai 1,aj,ai 1,aj] 101 true)]++A.TB,162,.slice 162 0 3 none 1,[(424,.cells [.slice 163 0 2 none 4,.slice 164 0 2 none 4,.slice 165 0 2 none 4] 90 true),(385,.cells [ai 2,aj,ai 3,aj,ai 1,aj,ai 3,aj] 101 true),(419,.cells [ai (-1),aj,ai 3,aj,ai 1,aj,ai 3,aj] 101 true),(422,.cells [ai (-1),aj,ai 3,aj,ai (-2),aj,ai 3,aj] 101 true)],[]⟩::A.E8
def A.uT:=⟨13,[],[],[(.slice 12 0 2 (some 2) 1),(.slice 13 0 2 (some 2) 1)],[(12,.cells [(.slice 10 0 3 (some 3) 1),(.slice 11 0 3 (some 3) 1)] 23 true),(10,.cells [.str [49],.str [45,49],.str [48]] 26 true),(11,.cells [.str [48],.str [49],.str [45,49]] 26 true),(13,.cells [.str [49],.str [49]] 26 true)]++A.TB,144,.aU [.slice 144 0 3 none 1,ai 0],[(253,.cells [(.slice 145 0 2 (some 2) 1),(.slice 146 0 2 (some 2) 1),(.slice 147 0 2 (some 2) 1)] 23 true),(180,.cells [.str [50,47,51],.str [49,47,51]] 26 true),(207,.cells [.str [45,49,47,51],.str [49,47,51]] 26 true),(239,.cells [.str [45,49,47,51],.str [45,50,47,51]] 26 true)],[]⟩::A.E9
def A.Xw:=⟨226,[.str [50],.str [48,49,50,51,52,53,54,55,56,57]],.str []⟩::A.DT
def A.Xx:=⟨193,[.str [50]],qF⟩::A.Xw
def A.Xy:=⟨149,[.str [50]],.agg [ai 2,aj]⟩::A.Xx
def A.Xz:=⟨140,[.str [49,47,51]],ai 0⟩::A.Xy
def A.XA:=⟨140,[.str [45,49,47,51]],ai 0⟩::A.Xz
def A.XB:=⟨65,[.str [49,47,51]],.agg [ai 1,aj,ai 3,aj]⟩::A.XA
def A.Nr:=⟨65,[.str [45,49,47,51]],(.agg [ai (-1),aj,ai 3,aj])⟩::A.XB
def A.Ia:=⟨16,[],[],[.slice 144 0 3 none 1,(.slice 148 0 2 (some 2) 1)],[(144,.cells [(.slice 145 0 2 (some 2) 1),(.slice 146 0 2 (some 2) 1),(.slice 147 0 2 (some 2) 1)] 23 true),(145,.cells [.str [50,47,51],.str [49,47,51]] 26 true),(146,.cells [.str [45,49,47,51],.str [49,47,51]] 26 true),(147,.cells [.str [45,49,47,51],.str [45,50,47,51]] 26 true),(148,.cells [.str [51],.str [48]] 26 true)]++A.TB,149,(.aU [(.slice 149 0 3 (some 3) 1),ai 0]),[(443,.cells [.str [50],.str [45,49],.str [45,49]] 26 true)],[]⟩::A.uT
def A.XC:=⟨140,[.str [50]],ai 0⟩::A.Nr
def A.Ib:=⟨65,[.str [50]],.agg [ai 2,aj,ai 1,aj]⟩::A.XC
def A.XD:=⟨164,[],[],[.slice 403 0 3 none 4,(.func 165 [] [.ptr 410 0])],[(403,.cells [ai 8,aj,ai 1,aj,ai 4,aj,ai 1,aj,ai 2,aj,ai 1,aj] 101 true),(410,.cells [ai 8,aj,ai 1,aj] 101 true)]++A.TB,411,.slice 411 0 3 none 4,[(709,.cells [ai 1,aj,ai 1,aj,ai 1,aj,ai 2,aj,ai 1,aj,ai 4,aj] 101 true)],[]⟩::A.Ia
def A.Ns:=⟨55,[],[],[.slice 192 0 2 none 1,(.slice 193 0 2 (some 2) 4)],[(192,.cells [(.slice 187 0 1 (some 1) 4),(.slice 190 0 1 (some 1) 4)] 90 true),(187,.cells [ai 1,aj,ai 1,aj] 101 true),(190,.cells [ai 2,aj,ai 1,aj] 101 true),(193,.cells [ai 4,aj,ai 1,aj,ai 1,aj,ai 1,aj] 101 true)]++A.TB,206,.slice 206 0 1 none 1,[(557,.cells [.slice 207 0 2 none 4] 90 true),(555,.cells [ai 1,aj,ai 2,aj,ai 1,aj,ai 4,aj] 101 true)],[]⟩::A.XD
def A.zC:=⟨149,[.str [53]],.agg [ai 5,aj]⟩::A.Ib
def A.XE:=⟨66,[],[],[.slice 326 0 1 none 1,.slice 283 0 1 none 1],[(326,.cells [.slice 324 0 1 none 4] 90 true),(324,.cells [ai 10,aj,ai 1,aj] 101 true),(283,.cells [(.slice 274 0 2 (some 2) 4)] 90 true),(274,.cells [ai 1,aj,ai 1,aj,ai 2,aj,ai 1,aj] 101 true)]++A.TB,342,.aU [.slice 342 0 1 none 1,qF],[(634,.cells [.slice 343 4 2 none 4] 90 true),(629,.cells [ai 1,aj,ai 1,aj,ai 1,aj,ai 10,aj,ai 1,aj,ai 5,aj] 101 true)],[]⟩::A.Ns
def A.XF:=⟨14,[],[],[(.slice 160 0 2 (some 2) 1),(.slice 13 0 2 (some 2) 1),.str [53]],[(160,.cells [(.slice 158 0 1 (some 1) 1),(.slice 159 0 1 (some 1) 1)] 23 true),(158,.cells [.str [49]] 26 true),(159,.cells [.str [50]] 26 true),(13,.cells [.str [49],.str [49]] 26 true)]++A.TB,231,.aU [.slice 231 0 1 none 1,ai 0],[(366,.cells [(.slice 232 0 2 (some 2) 1)] 23 true),(354,.cells [.str [49,47,49,48],.str [49,47,53]] 26 true)],[]⟩::A.XE
def A.XG:=⟨17,[],[],[(.slice 160 0 2 (some 2) 1),(.slice 13 0 2 (some 2) 1),(.slice 233 0 2 (some 2) 1),(.slice 234 0 1 (some 1) 1)],[(160,.cells [(.slice 158 0 1 (some 1) 1),(.slice 159 0 1 (some 1) 1)] 23 true),(158,.cells [.str [49]] 26 true),(159,.cells [.str [50]] 26 true),(13,.cells [.str [49],.str [49]] 26 true),(233,.cells [.str [53],.str [48]] 26 true),(234,.cells [.str [49]] 26 true)]++A.TB,235,(.aU [.str [50,48],ai 0]),[],[]⟩::A.XF
def A.XH:=⟨77,[],[],[(.slice 313 0 2 (some 2) 4),(.slice 307 0 2 (some 2) 4)],[(313,.cells [ai 1,aj,ai 5,aj,ai 2,aj,ai 5,aj] 101 true),(307,.cells [ai 1,aj,ai 5,aj,ai 2,aj,ai 5,aj] 101 true)]++A.TB,403,.agg [ai 1,aj,ai 5,aj],[],[]⟩::A.XG
def A.Ic:=⟨18,[],[],[(.slice 236 0 1 (some 1) 1),(.slice 13 0 2 (some 2) 1)],[(236,.cells [(.slice 235 0 2 (some 2) 1)] 23 true),(235,.cells [.str [49,47,53],.str [50,47,53]] 26 true),(13,.cells [.str [49],.str [49]] 26 true)]++A.TB,237,(.aU [(.slice 237 0 1 (some 1) 1),ai 0]),[(410,.cells [.str [49,47,53]] 26 true)],[]⟩::A.XH
def A.XI:=⟨79,[.agg [ai 4,aj,ai 1,aj],.agg [ai 1,aj,ai 2,aj]],.agg [ai 2,aj,ai 1,aj]⟩::A.zC
def A.kI:=⟨166,[.agg [ai 4,aj,ai 1,aj],.agg [ai 2,aj,ai 1,aj]],.agg [ai 2,aj,ai 1,aj]⟩::A.XI
def A.XJ:=⟨39,[],[],[(.slice 240 0 2 (some 2) 3),ai 2,ai 1],[(240,.cells [ai 0,.str [50],(.slice 238 0 2 (some 2) 1),ai 0,.str [45,49],(.slice 239 0 2 (some 2) 1)] 64 true),(238,.cells [.str [50],.str [52]] 26 true),(239,.cells [.str [45,51],.str [45,50]] 26 true)]++A.TB,241,.aU [.slice 241 0 2 none 1,ai 0],[(459,.cells [(.slice 242 0 1 (some 1) 1),(.slice 243 0 1 (some 1) 1)] 23 true),(441,.cells [.str [50]] 26 true),(453,.cells [.str [50]] 26 true)],[]⟩::A.Ic
def A.XK:=⟨40,[],[],[(.slice 240 0 2 (some 2) 3),ai 2,ai 1],[(240,.cells [ai 0,.str [50],(.slice 238 0 2 (some 2) 1),ai 0,.str [45,49],(.slice 239 0 2 (some 2) 1)] 64 true),(238,.cells [.str [50],.str [52]] 26 true),(239,.cells [.str [45,51],.str [45,50]] 26 true)]++A.TB,244,(.aU [(.slice 244 0 1 (some 1) 1),ai 0]),[(577,.cells [.str [50]] 26 true)],[]⟩::A.XJ
def A.XL:=⟨41,[],[],[(.slice 12 0 2 (some 2) 1),(.slice 13 0 2 (some 2) 1),(.slice 255 0 1 (some 1) 1)],[(12,.cells [(.slice 10 0 3 (some 3) 1),(.slice 11 0 3 (some 3) 1)] 23 true),(10,.cells [.str [49],.str [45,49],.str [48]] 26 true),(11,.cells [.str [48],.str [49],.str [45,49]] 26 true),(13,.cells [.str [49],.str [49]] 26 true),(255,.cells [(.slice 254 0 3 (some 3) 1)] 23 true),(254,.cells [.str [49],.str [48],.str [45,49]] 26 true)]++A.TB,256,.aU [.slice 256 0 1 none 1,ai 0],[(478,.cells [(.slice 257 0 2 (some 2) 1)] 23 true),(466,.cells [.str [49,47,50],.str [49,47,50]] 26 true)],[]⟩::A.XK
def A.XM:=⟨112,[],[],[.slice 281 0 2 none 1,(.slice 282 0 2 (some 2) 4),.slice 285 0 1 none 1],[(281,.cells [(.slice 276 0 3 (some 3) 4),(.slice 279 0 3 (some 3) 4)] 90 true),(276,.cells [ai 1,aj,ai 1,aj,ai (-1),aj,ai 1,aj,ai 0,aj,ai 1,aj] 101 true),(279,.cells [ai 0,aj,ai 1,aj,ai 1,aj,ai 1,aj,ai (-1),aj,ai 1,aj] 101 true),(282,.cells [ai 1,aj,ai 1,aj,ai 1,aj,ai 1,aj] 101 true),(285,.cells [(.slice 283 0 3 (some 3) 4)] 90 true),(283,.cells [ai 1,aj,ai 1,aj,ai 1,aj,ai 1,aj,ai 1,aj,ai 1,aj] 101 true)]++A.TB,286,.aU [aj,aF],[],[]⟩::A.XL
def A.XN:=⟨42,[],[],[(.slice 288 0 2 (some 2) 1),(.slice 289 0 2 (some 2) 1)],[(288,.cells [(.slice 286 0 3 (some 3) 1),(.slice 287 0 3 (some 3) 1)] 23 true),(286,.cells [.str [49],.str [48],.str [45,49]] 26 true),(287,.cells [.str [48],.str [49],.str [45,49]] 26 true),(289,.cells [.str [50],.str [51]] 26 true)]++A.TB,290,(.aU [(.slice 290 0 3 (some 3) 1),ai 0]),[(484,.cells [.str [50],.str [51],.str [45,53]] 26 true)],[]⟩::A.XM
def A.XO:=⟨46,[],[],[(.slice 12 0 2 (some 2) 1),.slice 136 0 1 none 1],[(12,.cells [(.slice 10 0 3 (some 3) 1),(.slice 11 0 3 (some 3) 1)] 23 true),(10,.cells [.str [49],.str [45,49],.str [48]] 26 true),(11,.cells [.str [48],.str [49],.str [45,49]] 26 true),(136,.cells [(.slice 137 0 3 (some 3) 1)] 23 true),(137,.cells [.str [49],.str [49],.str [49]] 26 true)]++A.TB,339,ai 0,[],[]⟩::A.XN
def A.XP:=⟨164,[],[],[(.slice 899 0 4 (some 4) 4),(.func 165 [] [.ptr 1080 0])],[(899,.cells [ai 0,aj,ai 1,aj,ai 9,aj,ai 2,aj,ai (-3),aj,ai 2,aj,ai 3,aj,ai 2,aj] 101 true),(1080,.cells [ai 9,aj,ai 2,aj] 101 true)]++A.TB,1081,.slice 1081 0 4 none 4,[(1324,.cells [ai 0,aj,ai 1,aj,ai 1,aj,ai 1,aj,ai (-1),aj,ai 3,aj,ai 1,aj,ai 3,aj] 101 true)],[]⟩::A.XO
def A.XQ:=⟨78,[],[],[.slice 894 0 4 none 4,.slice 1081 0 4 none 4,(.func 167 [] [.ptr 1082 0])],[(894,.cells [ai 1,aj,ai 1,aj,ai 1,aj,ai 2,aj,ai 1,aj,ai 2,aj,ai 1,aj,ai 2,aj] 101 true),(1081,.cells [ai 0,aj,ai 1,aj,ai 1,aj,ai 1,aj,ai (-1),aj,ai 3,aj,ai 1,aj,ai 3,aj] 101 true),(1082,.cells [ai 1,aj,ai 2,aj] 101 true)]++A.TB,1085,(.slice 1085 0 4 (some 4) 4),[(1085,.cells [ai 1,aj,ai 1,aj,ai 0,aj,ai 1,aj,ai 2,aj,ai 3,aj,ai 1,aj,ai 3,aj] 101 true)],[]⟩::A.XP
def A.XR:=⟨66,[],[],[.slice 858 0 2 none 1,.slice 697 0 2 none 1],[(858,.cells [.slice 775 0 2 none 4,.slice 856 0 2 none 4] 90 true),(775,.cells [ai 2,aj,ai 1,aj,ai 1,aj,ai 1,aj] 101 true),(856,.cells [ai 1,aj,ai 1,aj,ai 5,aj,ai 1,aj] 101 true),(697,.cells [(.slice 678 0 2 (some 2) 4),(.slice 688 0 2 (some 2) 4)] 90 true),(678,.cells [ai 1,aj,ai 1,aj,ai 1,aj,ai 1,aj] 101 true),(688,.cells [ai (-1),aj,ai 1,aj,ai 2,aj,ai 1,aj] 101 true)]++A.TB,859,.aU [.slice 859 0 2 none 1,qF],[(1092,.cells [(.slice 860 8 2 (some 2) 4),.slice 861 8 2 none 4] 90 true),(1085,.cells [ai 1,aj,ai 1,aj,ai 0,aj,ai 1,aj,ai 2,aj,ai 3,aj,ai 1,aj,ai 3,aj] 101 true),(1081,.cells [ai 0,aj,ai 1,aj,ai 1,aj,ai 1,aj,ai (-1),aj,ai 3,aj,ai 1,aj,ai 3,aj] 101 true)],[]⟩::A.XQ
def A.XT:=⟨112,[],[],[.slice 364 0 2 none 1,(.slice 365 0 2 (some 2) 4),(.slice 366 0 2 (some 2) 1)],[(364,.cells [(.slice 359 0 3 (some 3) 4),(.slice 362 0 3 (some 3) 4)] 90 true),(359,.cells [ai 1,aj,ai 1,aj,ai (-1),aj,ai 1,aj,ai 0,aj,ai 1,aj] 101 true),(362,.cells [ai 0,aj,ai 1,aj,ai 1,aj,ai 1,aj,ai (-1),aj,ai 1,aj] 101 true),(365,.cells [ai 1,aj,ai 1,aj,ai 1,aj,ai 1,aj] 101 true),(366,.cells [(.slice 414 0 3 (some 3) 4),.slice 410 0 3 none 4] 90 true),(414,.cells [ai 1,aj,ai 1,aj,ai 0,aj,ai 1,aj,ai (-1),aj,ai 1,aj] 101 true),(410,.cells [ai 0,aj,ai 1,aj,ai 1,aj,ai 1,aj,ai (-1),aj,ai 1,aj] 101 true)]++A.TB,479,.aU [.slice 479 0 2 none 1,qF],[(859,.cells [(.slice 480 8 2 (some 2) 4),.slice 481 8 2 none 4] 90 true),(860,.cells [ai 1,aj,ai 1,aj,ai 0,aj,ai 1,aj,ai 2,aj,ai 3,aj,ai 1,aj,ai 3,aj] 101 true),(861,.cells [ai 0,aj,ai 1,aj,ai 1,aj,ai 1,aj,ai (-1),aj,ai 3,aj,ai 1,aj,ai 3,aj] 101 true)],[]⟩::A.XR
def A.XU:=⟨87,[],[],[.slice 526 0 2 none 1,(.func 154 [.slice 506 0 2 none 4] [])],[(526,.cells [.slice 515 0 2 none 4,.slice 524 0 2 none 4] 90 true),(515,.cells [ai 2,aj,ai 3,aj,ai (-1),aj,ai 3,aj] 101 true),(524,.cells [ai 1,aj,ai 3,aj,ai 1,aj,ai 3,aj] 101 true),(506,.cells [ai (-1),aj,ai 1,aj,ai (-1),aj,ai 1,aj] 101 true)]++A.TB,626,.slice 626 0 2 none 4,[(897,.cells [ai (-1),aj,ai 3,aj,ai (-2),aj,ai 3,aj] 101 true)],[]⟩::A.XT
def A.XV:=⟨55,[],[],[.slice 364 0 2 none 1,(.slice 365 0 2 (some 2) 4)],[(364,.cells [(.slice 359 0 3 (some 3) 4),(.slice 362 0 3 (some 3) 4)] 90 true),(359,.cells [ai 1,aj,ai 1,aj,ai (-1),aj,ai 1,aj,ai 0,aj,ai 1,aj] 101 true),(362,.cells [ai 0,aj,ai 1,aj,ai 1,aj,ai 1,aj,ai (-1),aj,ai 1,aj] 101 true),(365,.cells [ai 1,aj,ai 1,aj,ai 1,aj,ai 1,aj] 101 true)]++A.TB,366,.slice 366 0 3 none 1,[(628,.cells [.slice 367 0 2 none 4,.slice 368 0 2 none 4,.slice 369 0 2 none 4] 90 true),(589,.cells [ai 2,aj,ai 3,aj,ai 1,aj,ai 3,aj] 101 true),(623,.cells [ai (-1),aj,ai 3,aj,ai 1,aj,ai 3,aj] 101 true),(626,.cells [ai (-1),aj,ai 3,aj,ai (-2),aj,ai 3,aj] 101 true)],[]⟩::A.XU
def A.SL:=⟨47,[],[],[(.slice 12 0 2 (some 2) 1),(.slice 13 0 2 (some 2) 1),.slice 144 0 3 none 1],[(12,.cells [(.slice 10 0 3 (some 3) 1),(.slice 11 0 3 (some 3) 1)] 23 true),(10,.cells [.str [49],.str [45,49],.str [48]] 26 true),(11,.cells [.str [48],.str [49],.str [45,49]] 26 true),(13,.cells [.str [49],.str [49]] 26 true),(144,.cells [(.slice 145 0 2 (some 2) 1),(.slice 146 0 2 (some 2) 1),(.slice 147 0 2 (some 2) 1)] 23 true),(145,.cells [.str [50,47,51],.str [49,47,51]] 26 true),(146,.cells [.str [45,49,47,51],.str [49,47,51]] 26 true),(147,.cells [.str [45,49,47,51],.str [45,50,47,51]] 26 true)]++A.TB,339,ai 0,[],[]⟩::A.XV
def A.L91:=⟨11,[],qF⟩::A.kI
def A.mixed:Tryz.prog.follows .mixedOrders=true:=by kernel_rfl
def A.names:(Tryz.prog.funcs.toList.all fun fn=>!(fn.name== "runtime.NumGoroutine"))=true:=by kernel_rfl
def A.exts:((List.range Tryz.prog.funcs.size).all fun i=>match Tryz.prog.funcs[i]? with
  |some fn=>fn.body.isSome||(As fn.name).isNone||Ie i [230,232,272,277]
  |none=>true)=true:=by kernel_rfl
def A.globals:Tryz.prog.globals.size=10:=by kernel_rfl
def A.XW(fn:Func)(e:Ext)(hf:Tryz.prog.funcs[230]?=some fn)(he:As fn.name=some e):(fn.name== "runtime.NumGoroutine")=false/\Extern.findNext fn=none/\Extern.find fn=some (Ig e):=by obtain rfl:fn=Tryz.f230:=(px (Tryz.func230.symm.trans hf)).symm;obtain rfl:e=.py:=(px ((show As Tryz.f230.name=some .py by kernel_rfl).symm.trans he)).symm;exact⟨by kernel_rfl,by kernel_rfl,by kernel_rfl⟩
def A.XX(fn:Func)(e:Ext)(hf:Tryz.prog.funcs[232]?=some fn)(he:As fn.name=some e):(fn.name== "runtime.NumGoroutine")=false/\Extern.findNext fn=none/\Extern.find fn=some (Ig e):=by obtain rfl:fn=Tryz.f232:=(px (Tryz.func232.symm.trans hf)).symm;obtain rfl:e=.pz:=(px ((show As Tryz.f232.name=some .pz by kernel_rfl).symm.trans he)).symm;exact⟨by kernel_rfl,by kernel_rfl,by kernel_rfl⟩
def A.XY(fn:Func)(e:Ext)(hf:Tryz.prog.funcs[272]?=some fn)(he:As fn.name=some e):(fn.name== "runtime.NumGoroutine")=false/\Extern.findNext fn=none/\Extern.find fn=some (Ig e):=by obtain rfl:fn=Tryz.f272:=(px (Tryz.func272.symm.trans hf)).symm;obtain rfl:e=.same:=(px ((show As Tryz.f272.name=some .same by kernel_rfl).symm.trans he)).symm;exact⟨by kernel_rfl,by kernel_rfl,by kernel_rfl⟩
def A.XZ(fn:Func)(e:Ext)(hf:Tryz.prog.funcs[277]?=some fn)(he:As fn.name=some e):(fn.name== "runtime.NumGoroutine")=false/\Extern.findNext fn=none/\Extern.find fn=some (Ig e):=by obtain rfl:fn=Tryz.f277:=(px (Tryz.func277.symm.trans hf)).symm;obtain rfl:e=.cn:=(px ((show As Tryz.f277.name=some .cn by kernel_rfl).symm.trans he)).symm;exact⟨by kernel_rfl,by kernel_rfl,by kernel_rfl⟩
def A.Ih:vS Tryz.prog:=by
 intro g fn e hf hb he;have h:=kJ.1 A.exts g (jz.2 (by
  rcases Nat.lt_or_ge g Tryz.prog.funcs.size with h|h
  ·exact h
  ·rw[Array.getElem?_eq_none h]at hf;cases hf));rw[hf]at h;simp only[hb,he,Option.isNone_some,Bool.or_false,Bool.false_or]at h;have hm:=Nt.1 h;simp only[iP,List.mem_nil_iff,or_false]at hm;rcases hm with rfl|rfl|rfl|rfl
 ·exact A.XW fn e hf he
 ·exact A.XX fn e hf he
 ·exact A.XY fn e hf he
 exact A.XZ fn e hf he
def A.A8:FQ Tryz.prog A.eg 10 where
 m:=A.mixed
 e:=A.Ih
 t:=fun f mf hf=>⟨hf,fun fn CN=>by
  have h:=kJ.1 A.names fn (Array.mem_toList_iff.2 (Array.mem_of_getElem? CN))
  simpa using h⟩
 g:=A.globals
end Go.Mx
