/-What came in, and the tables among the g-/
import Derived.Test.YtnkdakmfipgidaaGreatDoorLsP
import Derived.Deep.Slices
import Derived.Lib.LaidTab
import Derived.LaidSub
import Derived.ChangeShapes
import Derived.WideShapes
set_option linter.all false
namespace Go.Mx
open Go
variable {P:Program} {S:St} {W:World} {μ:Mu}
def xj(tb:List (Nat×O))(i:Nat):Nat:=match lk tb i with
 |some (.cells c _ _)=>c.length
 |_=>0
def jQ(P:Program)(W:World)(tb:List (Nat×O)):Prop:=∀i o,lk tb i=some o->∀μ,OM P μ W o ⟨i,0,xj tb i⟩
def jQ.one{g:Nat}{k:IntKind}{zs:List Int}{e:TypeId}{f:Nat×Nat}(h:W.heap[g]?=some (.cells (zs.map fun z=>Value.int k z).toArray e f)):jQ P W [(g,.cells (zs.map fun z=>V.int k z) e false)]:=by
 intro i o ho μ;obtain⟨lo,hi⟩:=f;simp only[lk]at ho;split at ho
 ·rename_i hb;have:=kO hb;subst this;simp only[aq]at ho;subst ho;have hl:xj [(g,O.cells (zs.map fun z=>V.int k z) e false)] g=zs.length:=by simp[xj,lk,hb]
  rw[hl];refine⟨_,lo,hi,h,by simp,by simp,fun j v hv=>?_,fun j x hj hx=>?_,fun h=>by cases h⟩
  ·rw[eG]at hv;cases hz:zs[j]? with
   |none=>rw[hz]at hv;cases hv
   |some z=> rw[hz]at hv;simp only[qc,aq]at hv;subst hv;exact⟨.int k z,by simp[hz],by simp[VR]⟩
  simp only[yE,List.getElem?_toArray,eG,ks]at hx;obtain⟨z,_,rfl⟩:=hx;rfl
 cases ho
structure uj (P:Program) (W:World) (μ:Mu) (S:St):Prop where
 hr:bn P μ W S
 w:S.w=[]
 ro:∀i l o,μ i=some l->S.h.get i=some o->o.wr=false
structure vO (μ:Mu) (S:St) (μ':Mu) (S':St):Prop where
 mu:∀i l,μ i=some l->μ' i=some l
 ad:ab S.h S.n S'.h S'.n
def vO.refl:vO μ S μ S:=⟨fun _ _ h=>h,ab.refl⟩
def vO.trans{μ1 μ2:Mu}{S1 S2:St}(a:vO μ S μ1 S1)(b:vO μ1 S1 μ2 S2):vO μ S μ2 S2:=⟨fun i l h=>b.mu i l (a.mu i l h),a.ad.trans b.ad⟩
def Yqe{tb:List (Nat×O)}{G:Nat}(hG:P.globals.size=G)(hW:G<=W.heap.size)(oe:OL G tb=true)(CG:jQ P W tb):∃μ,uj P W μ (GR G tb):=by
 subst hG;have get:∀i,i<P.globals.size->(GR P.globals.size tb).h.get i=some (match lk tb i with|some o=>o|none=>.dead):=fun i hi=>by
  show (uQ (As P.globals.size) tb).get i=_;rw[Dm];cases lk tb i with
  |some o=>rfl
  |none=>exact TX _ _ hi
 have hwr:∀i o,i<P.globals.size->(GR P.globals.size tb).h.get i=some o->o.wr=false:=fun i o hi ho=>by
  rw[get i hi]at ho;simp only[aq]at ho;cases hl:lk tb i with
  |none=>rw[hl]at ho;subst ho;rfl
  |some o'=>
   rw[hl]at ho;simp only at ho;subst ho;have:=(Zok oe hl).2;cases o' with
   |cells c e rw=>cases rw with
    |true=>cases this
    |false=>rfl
   |_=>cases this
 have TY:∀i l,(fun i=>if i<P.globals.size then some (⟨i,0,xj tb i⟩:L) else none) i=some l->i<P.globals.size/\l=⟨i,0,xj tb i⟩:=fun i l h=>by
  simp only at h;split at h
  ·rename_i hi;simp only[aq]at h;exact⟨hi,h.symm⟩
  cases h
 refine⟨fun i=>if i<P.globals.size then some ⟨i,0,xj tb i⟩ else none,⟨fun i l hl=>?_,fun i l hl=>?_,fun i j l l' o o' hi hj aW ho yB hw qG=>?_,fun g hg=>⟨xj tb g,by simp[hg]⟩⟩,rfl,fun i l o hl ho=>?_⟩
 ·obtain⟨h,rfl⟩:=TY i l hl;exact⟨h,by simp only;omega⟩
 ·obtain⟨h,rfl⟩:=TY i l hl;refine⟨_,get i h,?_⟩;cases fl:lk tb i with
  |none=>trivial
  |some o=>exact CG i o fl _
 ·rw[hwr i o (TY i l hi).1 ho]at hw;cases hw
 exact hwr i o (TY i l hl).1 ho
def Yps{tb:List (Nat×O)}{G g:Nat}{o:O}(h:lk tb g=some o):(GR G tb).h.get g=some o:=by show (uQ (As G) tb).get g=_;rw[Dm,h]
def uj.row(s:uj P W μ S){r:Tn}(oe:r.ok W)(hv:∀i,i<r.n->VR μ (r.g i) (r.f i)):
  ∃μ' S',uj P W μ' S'/\vO μ S μ' S'/\S'.n=S.n+1/\μ' S.n=some ⟨r.a.block,r.a.off,r.n⟩/\S'.h.get S.n=some (.cells ((List.range r.n).map r.g) (Eh W r.a) false):=by
 obtain⟨g1,g2,g3⟩:=oe;obtain⟨c',lo,hi,hb,hs,ic,fg,aC⟩:=Yak g1 g2;have dN:∀i l,μ i=some l->(fun i=>if i=S.n then some (⟨r.a.block,r.a.off,r.n⟩:L) else μ i) i=some l:=fun i l hl=>by have:=(s.hr.dt i l hl).1;simp only;rw[ak (by omega)];exact hl
 have xm:∀i l,(fun i=>if i=S.n then some (⟨r.a.block,r.a.off,r.n⟩:L) else μ i) i=some l->(i=S.n/\l=⟨r.a.block,r.a.off,r.n⟩)\/(i≠S.n/\μ i=some l):=fun i l h=>by
  simp only at h;split at h
  ·rename_i e;simp only[aq]at h;exact .inl ⟨e,h.symm⟩
  rename_i e;exact .inr ⟨e,h⟩
 have sQ:(S.h.set S.n (.cells ((List.range r.n).map r.g) (Eh W r.a) false)).get S.n=some (.cells ((List.range r.n).map r.g) (Eh W r.a) false):=by simp[T.ae]
 have hold:∀i,i≠S.n->(S.h.set S.n (.cells ((List.range r.n).map r.g) (Eh W r.a) false)).get i=S.h.get i:=fun i hi=>by simp[T.ae,hi]
 have qq:∀i l o,(fun i=>if i=S.n then some (⟨r.a.block,r.a.off,r.n⟩:L) else μ i) i=some l->(S.h.set S.n (.cells ((List.range r.n).map r.g) (Eh W r.a) false)).get i=some o->o.wr=false:=fun i l o hl ho=>by
  rcases xm i l hl with⟨rfl,rfl⟩|⟨h1,h2⟩
  ·rw[sQ]at ho;simp only[aq]at ho;subst ho;rfl
  rw[hold i h1]at ho;exact s.ro i l o h2 ho
 refine⟨_,⟨S.h.set S.n (.cells ((List.range r.n).map r.g) (Eh W r.a) false),S.n+1,[]⟩,⟨⟨fun i l hl=>?_,fun i l hl=>?_,fun i j l l' o o' jn hj aW ho yB hw qG=>?_,fun g hg=>?_⟩,rfl,qq⟩,⟨dN,by simp,fun i hi=>hold i (by omega)⟩,rfl,by simp,sQ⟩
 ·rcases xm i l hl with⟨rfl,rfl⟩|⟨h1,h2⟩
  ·exact⟨by simp,aC⟩
  obtain⟨q1,q2⟩:=s.hr.dt i l h2;exact⟨by simp only;omega,q2⟩
 ·rcases xm i l hl with⟨rfl,rfl⟩|⟨h1,h2⟩
  ·refine⟨_,sQ,c',lo,hi,hb,fg,by simp,fun j v hvj=>?_,fun j x hj hx=>?_,fun h=>by cases h⟩
   ·have hj:j<r.n:=by have:=(wj.1 hvj).1;simpa using this
    have IW:v=r.g j:=by simpa[hj]using hvj.symm
    subst IW;exact⟨_,ic j hj,VR.mono dN _ _ (hv j hj)⟩
   have hj:j<r.n:=hj;rw[ic j hj]at hx;simp only[aq]at hx;subst hx;exact g3 j hj
  obtain⟨o,q1,q2⟩:=s.hr.obj i l h2;exact⟨o,by rw[hold i h1];exact q1,q2.mono dN⟩
 ·rw[qq i l o jn ho]at hw;cases hw
 obtain⟨t,ht⟩:=s.hr.iN g hg;exact⟨t,dN _ _ ht⟩
def uj.slice(s:uj P W μ S){r:Tn}(oe:r.ok W)(hv:∀i,i<r.n->VR μ (r.g i) (r.f i)){len cap z:Nat}(hn:r.n=cap*z)(hl:len<=cap)(hz:0<z):
  ∃μ' S' i,uj P W μ' S'/\vO μ S μ' S'/\VR μ' (.slice i 0 len (some cap) z) (.slice (some r.a) len cap)/\i<S'.n/\S'.h.get i=some (.cells ((List.range r.n).map r.g) (Eh W r.a) false):=by obtain⟨μ',S',q1,q2,q3,q4,q5⟩:=s.row oe hv;refine⟨μ',S',S.n,q1,q2,?_,by omega,q5⟩;obtain⟨⟨b,off,sp⟩,n,f,g⟩:=r;obtain⟨g1,g2,_⟩:=oe;obtain⟨_,_,_,_,hs,_,_,_⟩:=Yak g1 g2;simp only at hs hn q4;subst hs;simp only[VR];exact⟨⟨b,off,n⟩,cap,q4,by simp,hl,by simp[hn],fun k hk=>by simpa using hk,fun h=>by cases h⟩
def uj.list{P:Program}{W:World}{μ:Mu}{S:St}(s:uj P W μ S){i:jq}(hi:i.ok W):
  ∃μ' S' v,uj P W μ' S'/\vO μ S μ' S'/\VR μ' v i.val/\Sl S'.h S'.n v (strs i.strs):=by
 cases i with
 |nil=>exact⟨μ,S,.aa,s,vO.refl,by simp[jq.val,VR],Sl.nil⟩
 |emp b=>exact⟨μ,S,.empty,s,vO.refl,by simp[jq.val,VR],.inl ⟨rfl,.inr rfl⟩⟩
 |sl b l c f=>
  obtain⟨h1,h2,h3⟩:=hi;obtain⟨μ',S',k,q1,q2,q3,q4,q5⟩:=s.slice (r:=⟨b,c,fun i=>.string (f i),fun i=>.str (f i).data.toList⟩) ⟨h2,h3,fun _ _=>rfl⟩ (fun i _=>by simp[VR]) (len:=l) (cap:=c) (z:=1) (by simp) h1 (by decide);refine⟨μ',S',_,q1,q2,q3,.inr ⟨k,0,some c,_,_,false,by simp[strs,jq.strs],q4,q5,fun j hj=>?_,by simp[strs,jq.strs];omega,fun k hk=>by simp[strs,jq.strs]at hk ⊢;omega⟩⟩;have pE:j<l:=by simpa[strs,jq.strs]using hj
  simp[strs,jq.strs,pE,show j<c by omega]
inductive TZ where
 |nil
 |emp (b:Addr)
 |sl (b:Addr) (l c:Nat) (f:Nat->Int)
def TZ.val:TZ->Value
 |.nil=>.slice none 0 0
 |.emp b=>.slice (some b) 0 0
 |.sl b l c f=>.slice (some b) l c
def TZ.ok(W:World):TZ->Prop
 |.sl b l c f=>l<=c/\0<c/\∀i,i<c->W.cell? (b.add i)=some (.int .i64 (f i))
 |_=>True
def uj.lists{P:Program}{W:World}{F:Nat->jq}:∀(n:Nat),(∀i,i<n->(F i).ok W)->∀{μ:Mu} {S:St},uj P W μ S->
  ∃μ' S',uj P W μ' S'/\vO μ S μ' S'/\∀i,i<n->∃v,VR μ' v (F i).val/\Sl S'.h S'.n v (strs (F i).strs)
 |0,_,μ,S,s=>⟨μ,S,s,vO.refl,fun i hi=>absurd hi (by omega)⟩
 |n+1,hF,μ,S,s=>by
  obtain⟨μ1,S1,s1,g1,a1⟩:=uj.lists n (fun i hi=>hF i (by omega)) s
  obtain⟨μ2,S2,v,s2,g2,a2,a3⟩:=s1.list (hF n (by omega))
  refine⟨μ2,S2,s2,g1.trans g2,fun i hi=>?_⟩
  by_cases e:i=n
  ·subst e;exact⟨v,a2,a3⟩
  ·obtain⟨u,b1,b2⟩:=a1 i (by omega)
   exact⟨u,VR.mono g2.mu _ _ b1,b2.ad g2.ad⟩
inductive mA where
 |nil
 |emp (b:Addr)
 |sl (b:Addr) (l c:Nat) (F:Nat->jq)
def mA.val:mA->Value
 |.nil=>.slice none 0 0
 |.emp b=>.slice (some b) 0 0
 |.sl b l c f=>.slice (some b) l c
def mA.ok(W:World):mA->Prop
 |.sl b l c F=>l<=c/\0<c/\∀i,i<c->W.cell? (b.add i)=some (F i).val/\(F i).ok W
 |_=>True
def mA.rows:mA->List (List aD)
 |.sl b l c F=>(List.range l).map fun i=>(F i).strs
 |_=>[]
def jq.one{i:jq}:i.val.oneCell'=true:=by cases i<;>rfl
def uj.mat{P:Program}{W:World}{μ:Mu}{S:St}(s:uj P W μ S){m:mA}(hm:m.ok W):
  ∃μ' S' v,uj P W μ' S'/\vO μ S μ' S'/\VR μ' v m.val/\∃us:List V,Sl S'.h S'.n v us/\us.length=m.rows.length/\∀(j:Nat) (l:List aD),m.rows[j]?=some l->∃u,us[j]?=some u/\Sl S'.h S'.n u (strs l):=by
 cases m with
 |nil=>exact⟨μ,S,.aa,s,vO.refl,by simp[mA.val,VR],[],Sl.nil,rfl,fun j l h=>by simp[mA.rows]at h⟩
 |emp b=>exact⟨μ,S,.empty,s,vO.refl,by simp[mA.val,VR],[],.inl ⟨rfl,.inr rfl⟩,rfl,fun j l h=>by simp[mA.rows]at h⟩
 |sl b l c F=>
  obtain⟨h1,h2,h3⟩:=hm;obtain⟨μ1,S1,s1,g1,a1⟩:=uj.lists c (fun i hi=>(h3 i hi).2) s;have hex:∀i,∃v:V,i<c->VR μ1 v (F i).val/\Sl S1.h S1.n v (strs (F i).strs):=fun i=>by
   by_cases hi:i<c
   ·obtain⟨v,hv⟩:=a1 i hi;exact⟨v,fun _=>hv⟩
   exact⟨.aa,fun h=>absurd h hi⟩
  obtain⟨g,hg⟩:=Classical.axiomOfChoice hex;obtain⟨μ',S',k,q1,q2,q3,q4,q5⟩:=s1.slice (r:=⟨b,c,fun i=>(F i).val,g⟩) ⟨h2,fun i hi=>(h3 i hi).1,fun _ _=>jq.one⟩ (fun i hi=>(hg i hi).1) (len:=l) (cap:=c) (z:=1) (by simp) h1 (by decide);refine⟨μ',S',_,q1,g1.trans q2,q3,(List.range l).map g,.inr ⟨k,0,some c,_,_,false,by simp,q4,q5,fun j hj=>?_,by simp;omega,fun k hk=>by simp at hk ⊢;omega⟩,by simp[mA.rows],fun j x hj=>?_⟩
  ·have pE:j<l:=by simpa using hj
   simp[pE,show j<c by omega]
  have JG:j<l:=by apply uH;intro hc;rw[fW (by simp[mA.rows];omega)]at hj;cases hj
  have hx:x=(F j).strs:=by simpa[mA.rows,JG]using hj.symm
  subst hx;exact⟨g j,by simp[JG],((hg j (by omega)).2).ad q2.ad⟩
open Go Go.ChangeShapes Go.WideShapes Go.RowKit Go.Deep
variable {P:Program}
def i_{t s:TypeId}(ht:P.underlying t=some (.slice s))(hs:P.underlying s=some .string)(hc:P.cellsOf s=1){H:Type}{enc:TypeId×Value->H}{W:World}{fuel:Nat}{c:Value}{x:DataW H×List MemPlace}
  (h:DataW.trod enc P W 0 (fun _=>true) true fuel t [c]=some x):∃i:jq,c=i.val/\i.ok W/\i.strs.length<9223372036854775808:=by
 rcases open_slice1 ht hc h with⟨hc,_⟩|⟨a,len,cap,m,n,Vf,D,Pl,hc,_,hl,dh,hm,_,hx⟩
 ·have jw:c=.slice none 0 0:=by simpa using hc
  exact⟨.nil,jw,trivial,by simp[jq.strs]⟩
 simp only[if_true]at hm;subst hm;have jw:c=.slice (some a) len m:=by simpa using hc
 rcases El m with h0|h0
 ·subst h0;have:len=0:=by omega
  subst this;exact⟨.emp a,jw,trivial,by simp[jq.strs]⟩
 refine⟨.sl a len m fun i=>match Vf i with|.string s=>s|_=>⟨#[]⟩,jw,⟨hl,h0,fun i hi=>?_⟩,by simp only[jq.strs,cG,List.length_range];unfold maxLen at dh;omega⟩;obtain⟨g1,g2⟩:=hx i hi;obtain⟨s,e0,_⟩:=DataW.trod_string hs g2;simp only[iH,and_true]at e0;rw[g1];simp only[e0]
def BP{t l s:TypeId}(ht:P.underlying t=some (.slice l))(aC:P.underlying l=some (.slice s))(hs:P.underlying s=some .string)(cX:P.cellsOf l=1)(hc:P.cellsOf s=1){H:Type}{enc:TypeId×Value->H}{W:World}{fuel:Nat}{c:Value}{x:DataW H×List MemPlace}
  (h:DataW.trod enc P W 0 (fun _=>true) true fuel t [c]=some x):∃m:mA,c=m.val/\m.ok W/\m.rows.length<9223372036854775808/\∀r∈m.rows,r.length<9223372036854775808:=by
 rcases open_slice1 ht cX h with⟨hc,_⟩|⟨a,len,cap,m,n,Vf,D,Pl,jw,_,hl,dh,hm,_,hx⟩
 ·have jw:c=.slice none 0 0:=by simpa using hc
  exact⟨.nil,jw,trivial,by simp[mA.rows],fun r hr=>by simp[mA.rows]at hr⟩
 simp only[if_true]at hm;subst hm;have jw:c=.slice (some a) len m:=by simpa using jw
 rcases El m with h0|h0
 ·subst h0;have:len=0:=by omega
  subst this;exact⟨.emp a,jw,trivial,by simp[mA.rows],fun r hr=>by simp[mA.rows]at hr⟩
 have eM:∀i,∃s:jq,i<m->Vf i=s.val/\s.ok W/\s.strs.length<9223372036854775808:=fun i=>by
  by_cases hi:i<m
  ·obtain⟨g1,g2⟩:=hx i hi;obtain⟨s,q⟩:=i_ aC hs hc g2;exact⟨s,fun _=>q⟩
  exact⟨.nil,fun h=>absurd h hi⟩
 obtain⟨F,hF⟩:=Classical.axiomOfChoice eM;refine⟨.sl a len m F,jw,⟨hl,h0,fun i hi=>⟨?_,(hF i hi).2.1⟩⟩,by simp only[mA.rows,cG,List.length_range];unfold maxLen at dh;omega,fun r hr=>?_⟩
 ·rw[(hx i hi).1,(hF i hi).1]
 obtain⟨i,hi,rfl⟩:=bF.1 hr;exact(hF i (by have:=gm.1 hi;omega)).2.2
def sS{W:World}{laid:List (String×DataW Unit)}{name:String}{k:IntKind}{zs:List Int}{g:Nat}{t e:TypeId}{n:Nat}{z:Array Value}
  (hg:P.globalNamed name=some g) (ON:(P.globals[g]?).map (·.type)=some t) (ht:P.underlying t=some (.array n e)) (he:P.underlying e=some (.int k)) (hce:P.cellsOf e=1) (hct:P.cellsOf t=n)
  (hf:laid.filter (fun x=>x.1==name)=[(name,Lib.tabData k zs)]) (aC:g<P.globals.size) (hz:((begin P (fun _ _=>0) default).world.heap[g]?).bind Obj.row?=some (z,t))
  (hl:laidMet P laid W) (hs:W.ShapedOpen P):jQ P W [(g,.cells (zs.map fun z=>V.int k z) t false)]:=by have h1:=laidMet.filter (fun x=>x.1==name) hl;rw[hf]at h1;have h2:=Lib.tabIs_of_head hg ON ht he hce hct h1;unfold Lib.TabIs World.var? at h2;rw[hg]at h2;obtain⟨cs,h3,_⟩:=hs.1 g z t aC hz;simp only[Option.bind_some,h3,aq]at h2;subst h2;exact jQ.one h3
def Ybo{P:Program}{t s:TypeId}(ht:P.underlying t=some (.slice s))(hs:P.underlying s=some .string)(hc:P.cellsOf s=1){H:Type}{enc:TypeId×Value->H}{W:World}{fuel:Nat}{c:Value}{x:DataW H×List MemPlace}
  (h:DataW.trod enc P W 0 (fun _=>true) true fuel t [c]=some x):∃i:jq,c=i.val/\i.ok W/\i.strs.length<9223372036854775808/\∀t∈i.strs,t.length<9223372036854775808:=by
 rcases open_slice1 ht hc h with⟨hc,_⟩|⟨a,len,cap,m,n,Vf,D,Pl,hc,_,hl,dh,hm,_,hx⟩
 ·have jw:c=.slice none 0 0:=by simpa using hc
  exact⟨.nil,jw,trivial,by simp[jq.strs],by simp[jq.strs]⟩
 simp only[if_true]at hm;subst hm;have jw:c=.slice (some a) len m:=by simpa using hc
 rcases El m with h0|h0
 ·subst h0;have:len=0:=by omega
  subst this;exact⟨.emp a,jw,trivial,by simp[jq.strs],by simp[jq.strs]⟩
 refine⟨.sl a len m fun i=>match Vf i with|.string s=>s|_=>⟨#[]⟩,jw,⟨hl,h0,fun i hi=>?_⟩,by simp only[jq.strs,cG,List.length_range];unfold maxLen at dh;omega,fun t ht=>?_⟩
 ·obtain⟨g1,g2⟩:=hx i hi;obtain⟨s,e0,_⟩:=DataW.trod_string hs g2;simp only[iH,and_true]at e0;rw[g1];simp only[e0]
 simp only[jq.strs]at ht;obtain⟨i,hi,rfl⟩:=bF.1 ht;obtain⟨g1,g2⟩:=hx i (by have:=gm.1 hi;omega);obtain⟨s,e0,_,e1⟩:=DataW.trod_string hs g2;simp only[iH,and_true]at e0;simp only[e0];unfold maxLen at e1;rw[Array.length_toList];have:s.data.size=s.size:=rfl;omega
def zL{P:Program}{t l s:TypeId}(ht:P.underlying t=some (.slice l))(aC:P.underlying l=some (.slice s))(hs:P.underlying s=some .string)(cX:P.cellsOf l=1)(hc:P.cellsOf s=1){H:Type}{enc:TypeId×Value->H}{W:World}{fuel:Nat}{c:Value}{x:DataW H×List MemPlace}
  (h:DataW.trod enc P W 0 (fun _=>true) true fuel t [c]=some x):∃m:mA,c=m.val/\m.ok W/\m.rows.length<9223372036854775808/\(∀r∈m.rows,r.length<9223372036854775808)/\∀r∈m.rows,∀t∈r,t.length<9223372036854775808:=by
 rcases open_slice1 ht cX h with⟨hc,_⟩|⟨a,len,cap,m,n,Vf,D,Pl,jw,_,hl,dh,hm,_,hx⟩
 ·have jw:c=.slice none 0 0:=by simpa using hc
  exact⟨.nil,jw,trivial,by simp[mA.rows],fun r hr=>by simp[mA.rows]at hr,fun r hr=>by simp[mA.rows]at hr⟩
 simp only[if_true]at hm;subst hm;have jw:c=.slice (some a) len m:=by simpa using jw
 rcases El m with h0|h0
 ·subst h0;have:len=0:=by omega
  subst this;exact⟨.emp a,jw,trivial,by simp[mA.rows],fun r hr=>by simp[mA.rows]at hr,fun r hr=>by simp[mA.rows]at hr⟩
 have eM:∀i,∃s:jq,i<m->Vf i=s.val/\s.ok W/\s.strs.length<9223372036854775808/\∀t∈s.strs,t.length<9223372036854775808:=fun i=>by
  by_cases hi:i<m
  ·obtain⟨g1,g2⟩:=hx i hi;obtain⟨s,q⟩:=Ybo aC hs hc g2;exact⟨s,fun _=>q⟩
  exact⟨.nil,fun h=>absurd h hi⟩
 obtain⟨F,hF⟩:=Classical.axiomOfChoice eM;refine⟨.sl a len m F,jw,⟨hl,h0,fun i hi=>⟨?_,(hF i hi).2.1⟩⟩,by simp only[mA.rows,cG,List.length_range];unfold maxLen at dh;omega,fun r hr=>?_,fun r hr=>?_⟩
 ·rw[(hx i hi).1,(hF i hi).1]
 ·obtain⟨i,hi,rfl⟩:=bF.1 hr;exact(hF i (by have:=gm.1 hi;omega)).2.2.1
 obtain⟨i,hi,rfl⟩:=bF.1 hr;exact(hF i (by have:=gm.1 hi;omega)).2.2.2
end Go.Mx
