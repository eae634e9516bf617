/-What came in, and the tables among the g-/
import Derived.Test.YtlbnjhhebffhdaaGreatDoorMxDec
import Derived.Deep.Slices
import Derived.Lib.LaidTab
import Derived.LaidSub
import Derived.ChangeShapes
import Derived.WideShapes
set_option linter.all false
namespace Go.Mx
open Go
variable {P:Program} {S:St} {W:World} {μ:Mu}
def uL(tb:List (Nat×O))(i:Nat):Nat:=match lk tb i with
 |some (.cells c _ _)=>c.length
 |_=>0
def zgn(P:Program)(W:World)(tb:List (Nat×O)):Prop:=∀i o,lk tb i=some o->∀μ,OM P μ W o ⟨i,0,uL tb i⟩
def zgn.one{g:Nat}{k:IntKind}{zs:List Int}{e:TypeId}{f:Nat×Nat}(h:W.heap[g]?=some (.cells (zs.map fun z=>Value.int k z).toArray e f)):zgn P W [(g,.cells (zs.map fun z=>V.int k z) e false)]:=by
 intro i o ho μ
 obtain⟨lo,hi⟩:=f
 simp only[lk]at ho
 split at ho
 ·rename_i hb
  have:=iU hb
  subst this
  simp only[au]at ho
  subst ho
  have hl:uL [(g,O.cells (zs.map fun z=>V.int k z) e false)] g=zs.length:=by simp[uL,lk,hb]
  rw[hl]
  refine⟨_,lo,hi,h,by simp,by simp,fun j v hv=>?_,fun j x hj hx=>?_,fun h=>by cases h⟩
  ·rw[jT]at hv
   cases hz:zs[j]? with
   |none=>rw[hz]at hv;cases hv
   |some z=>
    rw[hz]at hv
    simp only[BX,au]at hv
    subst hv
    exact⟨.int k z,by simp[hz],by simp[VR]⟩
  ·simp only[oJ,List.getElem?_toArray,jT,Ywc]at hx
   obtain⟨z,_,rfl⟩:=hx
   rfl
 ·cases ho
structure Jt (P:Program) (W:World) (μ:Mu) (S:St):Prop where
 hr:Za9 P μ W S
 w:S.w=[]
 ro:∀i l o,μ i=some l->S.h.get i=some o->o.wr=false
structure Mj (μ:Mu) (S:St) (μ':Mu) (S':St):Prop where
 mu:∀i l,μ i=some l->μ' i=some l
 ai:ah S.h S.n S'.h S'.n
def Mj.refl:Mj μ S μ S:=⟨fun _ _ h=>h,ah.refl⟩
def Mj.trans{μ1 μ2:Mu}{S1 S2:St}(a:Mj μ S μ1 S1)(b:Mj μ1 S1 μ2 S2):Mj μ S μ2 S2:=⟨fun i l h=>b.mu i l (a.mu i l h),a.ai.trans b.ai⟩
def Ymg{tb:List (Nat×O)}{G:Nat}(hG:P.globals.size=G)(hW:G<=W.heap.size)(hok:OL G tb=true)(xR:zgn P W tb):∃μ,Jt P W μ (Cu G tb):=by
 subst hG
 have get:∀i,i<P.globals.size->(Cu P.globals.size tb).h.get i=some (match lk tb i with|some o=>o|none=>.dead):=fun i hi=>by
  show (sD (yf P.globals.size) tb).get i=_
  rw[Be]
  cases lk tb i with
  |some o=>rfl
  |none=>exact TF _ _ hi
 have hwr:∀i o,i<P.globals.size->(Cu P.globals.size tb).h.get i=some o->o.wr=false:=fun i o hi ho=>by
  rw[get i hi]at ho
  simp only[au]at ho
  cases hl:lk tb i with
  |none=>rw[hl]at ho;subst ho;rfl
  |some o'=>
   rw[hl]at ho
   simp only at ho
   subst ho
   have:=(Zna hok hl).2
   cases o' with
   |cells c e rw=>cases rw with
    |true=>cases this
    |false=>rfl
   |_=>cases this
 have TG:∀i l,(fun i=>if i<P.globals.size then some (⟨i,0,uL tb i⟩:L) else none) i=some l->i<P.globals.size/\l=⟨i,0,uL tb i⟩:=fun i l h=>by
  simp only at h
  split at h
  ·rename_i hi;simp only[au]at h;exact⟨hi,h.symm⟩
  ·cases h
 refine⟨fun i=>if i<P.globals.size then some ⟨i,0,uL tb i⟩ else none,⟨fun i l hl=>?_,fun i l hl=>?_,fun i j l l' o o' hi hj cv ho vM hw qC=>?_,fun g hg=>⟨uL tb g,by simp[hg]⟩⟩,rfl,fun i l o hl ho=>?_⟩
 ·obtain⟨h,rfl⟩:=TG i l hl
  exact⟨h,by simp only;omega⟩
 ·obtain⟨h,rfl⟩:=TG i l hl
  refine⟨_,get i h,?_⟩
  cases fN:lk tb i with
  |none=>trivial
  |some o=>exact xR i o fN _
 ·rw[hwr i o (TG i l hi).1 ho]at hw;cases hw
 ·exact hwr i o (TG i l hl).1 ho
def Ylz{tb:List (Nat×O)}{G g:Nat}{o:O}(h:lk tb g=some o):(Cu G tb).h.get g=some o:=by
 show (sD (yf G) tb).get g=_
 rw[Be,h]
def Jt.row(s:Jt P W μ S){r:Tr}(hok:r.ok W)(hv:∀i,i<r.n->VR μ (r.g i) (r.f i)):
  ∃μ' S',Jt P W μ' S'/\Mj μ S μ' S'/\S'.n=S.n+1/\μ' S.n=some ⟨r.a.block,r.a.off,r.n⟩/\S'.h.get S.n=some (.cells ((List.range r.n).map r.g) (Cg W r.a) false):=by
 obtain⟨g1,g2,g3⟩:=hok
 obtain⟨c',lo,hi,hb,hs,fX,e_,aW⟩:=Zyb g1 g2
 have dE:∀i l,μ i=some l->(fun i=>if i=S.n then some (⟨r.a.block,r.a.off,r.n⟩:L) else μ i) i=some l:=fun i l hl=>by
  have:=(s.hr.dom i l hl).1
  simp only
  rw[aA (by omega)];exact hl
 have uN:∀i l,(fun i=>if i=S.n then some (⟨r.a.block,r.a.off,r.n⟩:L) else μ i) i=some l->(i=S.n/\l=⟨r.a.block,r.a.off,r.n⟩)\/(i≠S.n/\μ i=some l):=fun i l h=>by
  simp only at h
  split at h
  ·rename_i e;simp only[au]at h;exact .inl ⟨e,h.symm⟩
  ·rename_i e;exact .inr ⟨e,h⟩
 have zg9:(S.h.set S.n (.cells ((List.range r.n).map r.g) (Cg W r.a) false)).get S.n=some (.cells ((List.range r.n).map r.g) (Cg W r.a) false):=by simp[T.al]
 have hold:∀i,i≠S.n->(S.h.set S.n (.cells ((List.range r.n).map r.g) (Cg W r.a) false)).get i=S.h.get i:=fun i hi=>by simp[T.al,hi]
 have l8:∀i l o,(fun i=>if i=S.n then some (⟨r.a.block,r.a.off,r.n⟩:L) else μ i) i=some l->(S.h.set S.n (.cells ((List.range r.n).map r.g) (Cg W r.a) false)).get i=some o->o.wr=false:=fun i l o hl ho=>by
  rcases uN i l hl with⟨rfl,rfl⟩|⟨h1,h2⟩
  ·rw[zg9]at ho;simp only[au]at ho;subst ho;rfl
  ·rw[hold i h1]at ho;exact s.ro i l o h2 ho
 refine⟨_,⟨S.h.set S.n (.cells ((List.range r.n).map r.g) (Cg W r.a) false),S.n+1,[]⟩,⟨⟨fun i l hl=>?_,fun i l hl=>?_,fun i j l l' o o' gZ hj cv ho vM hw qC=>?_,fun g hg=>?_⟩,rfl,l8⟩,⟨dE,by simp,fun i hi=>hold i (by omega)⟩,rfl,by simp,zg9⟩
 ·rcases uN i l hl with⟨rfl,rfl⟩|⟨h1,h2⟩
  ·exact⟨by simp,aW⟩
  ·obtain⟨q1,q2⟩:=s.hr.dom i l h2
   exact⟨by simp only;omega,q2⟩
 ·rcases uN i l hl with⟨rfl,rfl⟩|⟨h1,h2⟩
  ·refine⟨_,zg9,c',lo,hi,hb,e_,by simp,fun j v hvj=>?_,fun j x hj hx=>?_,fun h=>by cases h⟩
   ·have hj:j<r.n:=by have:=(AM.1 hvj).1;simpa using this
    have Jl:v=r.g j:=by simpa[hj]using hvj.symm
    subst Jl
    exact⟨_,fX j hj,VR.mono dE _ _ (hv j hj)⟩
   ·have hj:j<r.n:=hj
    rw[fX j hj]at hx
    simp only[au]at hx
    subst hx
    exact g3 j hj
  ·obtain⟨o,q1,q2⟩:=s.hr.obj i l h2
   exact⟨o,by rw[hold i h1];exact q1,q2.mono dE⟩
 ·rw[l8 i l o gZ ho]at hw;cases hw
 ·obtain⟨t,ht⟩:=s.hr.zgj g hg
  exact⟨t,dE _ _ ht⟩
def Jt.slice(s:Jt P W μ S){r:Tr}(hok:r.ok W)(hv:∀i,i<r.n->VR μ (r.g i) (r.f i)){len cap z:Nat}(hn:r.n=cap*z)(hl:len<=cap)(hz:0<z):
  ∃μ' S' i,Jt P W μ' S'/\Mj μ S μ' S'/\VR μ' (.slice i 0 len (some cap) z) (.slice (some r.a) len cap)/\i<S'.n/\S'.h.get i=some (.cells ((List.range r.n).map r.g) (Cg W r.a) false):=by
 obtain⟨μ',S',q1,q2,q3,q4,q5⟩:=s.row hok hv
 refine⟨μ',S',S.n,q1,q2,?_,by omega,q5⟩
 obtain⟨⟨b,off,sp⟩,n,f,g⟩:=r
 obtain⟨g1,g2,_⟩:=hok
 obtain⟨_,_,_,_,hs,_,_,_⟩:=Zyb g1 g2
 simp only at hs hn q4
 subst hs
 simp only[VR]
 exact⟨⟨b,off,n⟩,cap,q4,by simp,hl,by simp[hn],fun k hk=>by simpa using hk,fun h=>by cases h⟩
def Jt.list{P:Program}{W:World}{μ:Mu}{S:St}(s:Jt P W μ S){i:Yvx}(hi:i.ok W):
  ∃μ' S' v,Jt P W μ' S'/\Mj μ S μ' S'/\VR μ' v i.val/\Sl S'.h S'.n v (strs i.strs):=by
 cases i with
 |nil=>exact⟨μ,S,.ziA,s,Mj.refl,by simp[Yvx.val,VR],Sl.nil⟩
 |emp b=>exact⟨μ,S,.empty,s,Mj.refl,by simp[Yvx.val,VR],.inl ⟨rfl,.inr rfl⟩⟩
 |sl b l c f=>
  obtain⟨h1,h2,h3⟩:=hi
  obtain⟨μ',S',k,q1,q2,q3,q4,q5⟩:=s.slice (r:=⟨b,c,fun i=>.string (f i),fun i=>.str (f i).data.toList⟩) ⟨h2,h3,fun _ _=>rfl⟩ (fun i _=>by simp[VR]) (len:=l) (cap:=c) (z:=1) (by simp) h1 (by decide)
  refine⟨μ',S',_,q1,q2,q3,.inr ⟨k,0,some c,_,_,false,by simp[strs,Yvx.strs],q4,q5,fun j hj=>?_,by simp[strs,Yvx.strs];omega,fun k hk=>by simp[strs,Yvx.strs]at hk ⊢;omega⟩⟩
  have qJ:j<l:=by simpa[strs,Yvx.strs]using hj
  simp[strs,Yvx.strs,qJ,show j<c by omega]
inductive Yv0 where
 |nil
 |emp (b:Addr)
 |sl (b:Addr) (l c:Nat) (f:Nat->Int)
inductive Yvz where
 |nil
 |emp (b:Addr)
 |sl (b:Addr) (l c:Nat) (F:Nat->Yvx)
open Go Go.ChangeShapes Go.WideShapes Go.RowKit Go.Deep
def Xfk{P:Program}{t s:TypeId}(ht:P.underlying t=some (.slice s))(hs:P.underlying s=some .string)(hc:P.cellsOf s=1){H:Type}{enc:TypeId×Value->H}{W:World}{fuel:Nat}{c:Value}{x:DataW H×List MemPlace}
  (h:DataW.trod enc P W 0 (fun _=>true) true fuel t [c]=some x):∃i:Yvx,c=i.val/\i.ok W/\i.strs.length<9223372036854775808:=by
 rcases open_slice1 ht hc h with⟨hc,_⟩|⟨a,len,cap,m,n,Vf,D,Pl,hc,_,hl,dT,hm,_,hx⟩
 ·have Jp:c=.slice none 0 0:=by simpa using hc
  exact⟨.nil,Jp,trivial,by simp[Yvx.strs]⟩
 ·simp only[if_true]at hm
  subst hm
  have Jp:c=.slice (some a) len m:=by simpa using hc
  rcases NY m with h0|h0
  ·subst h0
   have:len=0:=by omega
   subst this
   exact⟨.emp a,Jp,trivial,by simp[Yvx.strs]⟩
  ·refine⟨.sl a len m fun i=>match Vf i with|.string s=>s|_=>⟨#[]⟩,Jp,⟨hl,h0,fun i hi=>?_⟩,by simp only[Yvx.strs,Lh,List.length_range];unfold maxLen at dT;omega⟩
   obtain⟨g1,g2⟩:=hx i hi
   obtain⟨s,e0,_⟩:=DataW.trod_string hs g2
   simp only[iA,and_true]at e0
   rw[g1]
   simp only[e0]
def qL{P:Program}{W:World}{laid:List (String×DataW Unit)}{name:String}{k:IntKind}{zs:List Int}{g:Nat}{t e:TypeId}{n:Nat}{z:Array Value}
  (hg:P.globalNamed name=some g) (ON:(P.globals[g]?).map (·.type)=some t) (ht:P.underlying t=some (.array n e)) (he:P.underlying e=some (.int k)) (hce:P.cellsOf e=1) (hct:P.cellsOf t=n)
  (hf:laid.filter (fun x=>x.1==name)=[(name,Lib.tabData k zs)]) (aW:g<P.globals.size) (hz:((begin P (fun _ _=>0) default).world.heap[g]?).bind Obj.row?=some (z,t))
  (hl:laidMet P laid W) (hs:W.ShapedOpen P):zgn P W [(g,.cells (zs.map fun z=>V.int k z) t false)]:=by
 have h1:=laidMet.filter (fun x=>x.1==name) hl
 rw[hf]at h1
 have h2:=Lib.tabIs_of_head hg ON ht he hce hct h1
 unfold Lib.TabIs World.var? at h2
 rw[hg]at h2
 obtain⟨cs,h3,_⟩:=hs.1 g z t aW hz
 simp only[Option.bind_some,h3,au]at h2
 subst h2
 exact zgn.one h3
def OO{P:Program}{s:TypeId}(hs:P.underlying s=some .string){H:Type}{enc:TypeId×Value->H}{W:World}{fuel:Nat}{c:Value}{x:DataW H×List MemPlace}
  (h:DataW.trod enc P W 0 (fun _=>true) true fuel s [c]=some x):∃b:ByteArray,c=.string b/\b.data.toList.length<9223372036854775808:=by
 obtain⟨s',e0,_,e1⟩:=DataW.trod_string hs h
 simp only[iA,and_true]at e0
 refine⟨s',e0,?_⟩
 unfold maxLen at e1
 rw[Array.length_toList]
 have:s'.data.size=s'.size:=rfl
 omega
end Go.Mx
