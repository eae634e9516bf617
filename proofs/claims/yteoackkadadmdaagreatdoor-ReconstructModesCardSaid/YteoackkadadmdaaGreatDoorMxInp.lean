/-What came in-/
import Derived.Test.YteoackkadadmdaaGreatDoorMxLong
import Derived.Deep.Slices
import Derived.Lib.LaidTab
import Derived.LaidSub
import Derived.ChangeShapes
import Derived.WideShapes
import Derived.Test.YteoackkadadmdaaGreatDoorChecked
set_option linter.all false
namespace Go.Mx
open Go
inductive nA where
 |nil
 |emp (b:Addr)
 |sl (b:Addr) (l c:Nat) (f:Nat->ByteArray)
def nA.val:nA->Value
 |.nil=>.slice none 0 0
 |.emp b=>.slice (some b) 0 0
 |.sl b l c f=>.slice (some b) l c
def nA.ok(W:World):nA->Prop
 |.sl b l c f=>l<=c/\0<c/\∀i,i<c->W.cell? (b.add i)=some (.string (f i))
 |_=>True
def nA.strs:nA->List aQ
 |.sl b l c f=>(List.range l).map fun i=>(f i).data.toList
 |_=>[]
def C4(W:World)(a:Addr):TypeId:=match W.heap[a.block]? with
 |some (.cells _ e _)=>e
 |_=>0
def Zxu{W:World}{a:Addr}{n:Nat}{f:Nat->Value}(hn:0<n)(hc:∀i,i<n->W.cell? (a.add i)=some (f i)):
  ∃c' lo hi,W.heap[a.block]?=some (.cells c' (C4 W a) (lo,hi))/\a.spot=none/\(∀i,i<n->c'[a.off+i]?=some (f i))/\a.off+n<=c'.size/\a.block<W.heap.size:=by
 have h0:=hc 0 hn
 have V5:a.add 0=a:=by simp[Addr.add]
 rw[V5]at h0
 obtain⟨c',e,fr,hb⟩:∃c' e fr,W.heap[a.block]?=some (.cells c' e fr):=by
  unfold World.cell? at h0
  split at h0
  ·rename_i c' e fr hb;exact⟨c',e,fr,hb⟩
  ·cases h0
 have hs:a.spot=none:=by
  unfold World.cell? at h0
  rw[hb]at h0
  simp only at h0
  split at h0
  ·cases h0
  ·rename_i h;simpa using h
 have fS:∀i,i<n->c'[a.off+i]?=some (f i):=fun i hi=>by
  have:=hc i hi
  unfold World.cell? at this
  have e1:(a.add i).block=a.block:=by unfold Addr.add;split<;>rfl
  have e2:(a.add i).off=a.off+i:=by unfold Addr.add;split<;>simp_all
  have e3:(a.add i).spot=none:=by unfold Addr.add;split<;>simp_all
  rw[e1,hb]at this
  simp only[e2,e3,Option.isSome_none,fF,if_false]at this
  exact this
 have ay:a.block<W.heap.size:=by
  rcases Nat.lt_or_ge a.block W.heap.size with h|h
  ·exact h
  ·rw[Array.getElem?_eq_none h]at hb;cases hb
 have eK:a.off+n<=c'.size:=by
  have:=fS (n-1) (by omega)
  have h2:=(Array.getElem?_eq_some_iff.1 this).1
  omega
 obtain⟨lo,hi⟩:=fr
 exact⟨c',lo,hi,by rw[hb];simp[C4,hb],hs,fS,eK,ay⟩
structure QW where
 a:Addr
 n:Nat
 f:Nat->Value
 g:Nat->V
def QW.ok(W:World)(r:QW):Prop:=0<r.n/\(∀i,i<r.n->W.cell? (r.a.add i)=some (r.f i))/\∀i,i<r.n->(r.f i).oneCell'=true
def Zr6{P:Program}{dG:Nat->Option ku}{G:Nat}(hP:C6 P dG G){x:cG}(hx:ji P x){F d:Nat}{f:FuncId}{mf:ku}(hf:x_ P f=some mf){args:List V}{xs:List Value}{v:V}{y:Value}{S:St}{μ:Mu}{W:World}
  (h:Yr8 (B3 mf (dL (yA x dG F d) F) args S) v) (hh:bA P μ W S) (hS:S.w=[]) (Aq:bb μ args xs) (hv:∀μ z,VR μ v z->z=y):
  Calls P f ⟨xs⟩ W fun e W'=>e=.returned y/\RowKit.Below W.heap.size W W':=by
 obtain⟨s,bX,hw⟩:=h.ex
 obtain⟨fn,Aw,_⟩:=Zxw hf
 have ih:=Pt hP.m hP.e hP.t hx F d
 have:=Yea (Yfb ih hP.e (Lb hP.m hP.e ih) (Yj4 ih hP.e) (Zwh ih) F) Aw hf hh Aq bX
 refine callsIn_wide.1 (CallsIn.mono (F:=Fence.wide) this fun e W' he=>?_)
 cases e with
 |returned z=>
  obtain⟨μ',ws,h1,h2⟩:=he
  have pG:ws=[]:=by have:=h2.wl;rw[hw,hS]at this;simpa using this.symm
  subst pG
  exact⟨by rw[hv _ _ h1],h2.d_.os,h2.d_.tape,h2.d_.output,h2.d_.size,fun k hk=>h2.d_.block k hk fun i hi=>by cases hi⟩
 |panicked _=>exact he.elim
 |outgrown=>exact he.elim
def Cx.calls{P:Program}{C:Cx}{G:Nat}(hP:C6 P C.dG G)(hx:ji P C.x){f:Nat}{mf:ku}(hf:x_ P f=some mf)(ht:C.dG f=some mf){args:List V}{xs:List Value}{v:V}{y:Value}{S:St}{μ:Mu}{W:World}
  (hn:∀st,C.x (.func f [] []) args st=none) (h:Fn C f args S.h S.n (fun u _ _=>u=v)) (hh:bA P μ W S) (hS:S.w=[]) (Aq:bb μ args xs) (hv:∀μ z,VR μ v z->z=y):
  Calls P f ⟨xs⟩ W fun e W'=>e=.returned y/\RowKit.Below W.heap.size W W':=by
 obtain⟨u,aB,hc,hw,hk,hu⟩:=(h []).ex
 subst hu
 have hS':(⟨S.h,S.n,[]⟩:St)=S:=by obtain⟨a,b,c⟩:=S;simp only at hS;subst hS;rfl
 rw[hS']at hc
 rw[Cx.mw]at hc
 unfold rP at hc
 rw[hn]at hc
 simp only at hc
 obtain⟨n,wD⟩:=Zkx (q:=fun n=>dL (C.at n) n) (fun n m hnm=>zP (Cx.dT hnm) n m hnm) (fun _ _ _ _ _ e=>Cx.pK e) hc
 unfold xN at wD
 simp only[ht,List.nil_append,zn]at wD
 exact Zr6 (F:=n) (d:=n) hP hx hf ⟨_,wD,hw⟩ hh hS Aq hv
variable {P:Program} {S:St} {W:World} {μ:Mu}
def vS(tb:List (Nat×O))(i:Nat):Nat:=match lk tb i with
 |some (.cells c _ _)=>c.length
 |_=>0
def jg(P:Program)(W:World)(tb:List (Nat×O)):Prop:=∀i o,lk tb i=some o->∀μ,OM P μ W o ⟨i,0,vS tb i⟩
def jg.one{g:Nat}{k:IntKind}{zs:List Int}{e:TypeId}{f:Nat×Nat}(h:W.heap[g]?=some (.cells (zs.map fun z=>Value.int k z).toArray e f)):jg P W [(g,.cells (zs.map fun z=>V.int k z) e false)]:=by
 intro i o ho μ
 obtain⟨lo,hi⟩:=f
 simp only[lk]at ho
 split at ho
 ·rename_i hb
  have:=jA hb
  subst this
  simp only[al]at ho
  subst ho
  have hl:vS [(g,O.cells (zs.map fun z=>V.int k z) e false)] g=zs.length:=by simp[vS,lk,hb]
  rw[hl]
  refine⟨_,lo,hi,h,by simp,by simp,fun j v hv=>?_,fun j x hj hx=>?_,fun h=>by cases h⟩
  ·rw[gG]at hv
   cases hz:zs[j]? with
   |none=>rw[hz]at hv;cases hv
   |some z=>
    rw[hz]at hv
    simp only[xz,al]at hv
    subst hv
    exact⟨.int k z,by simp[hz],by simp[VR]⟩
  ·simp only[xJ,List.getElem?_toArray,gG,jT]at hx
   obtain⟨z,_,rfl⟩:=hx
   rfl
 ·cases ho
structure si (P:Program) (W:World) (μ:Mu) (S:St):Prop where
 hr:bA P μ W S
 w:S.w=[]
 ro:∀i l o,μ i=some l->S.h.get i=some o->o.wr=false
structure Zip (μ:Mu) (S:St) (μ':Mu) (S':St):Prop where
 mu:∀i l,μ i=some l->μ' i=some l
 ae:ab S.h S.n S'.h S'.n
def Zip.refl:Zip μ S μ S:=⟨fun _ _ h=>h,ab.refl⟩
def Zip.trans{μ1 μ2:Mu}{S1 S2:St}(a:Zip μ S μ1 S1)(b:Zip μ1 S1 μ2 S2):Zip μ S μ2 S2:=⟨fun i l h=>b.mu i l (a.mu i l h),a.ae.trans b.ae⟩
def Yma{tb:List (Nat×O)}{G:Nat}(hG:P.globals.size=G)(hW:G<=W.heap.size)(mC:Lq G tb=true)(Dp:jg P W tb):∃μ,si P W μ (Ei G tb):=by
 subst hG
 have get:∀i,i<P.globals.size->(Ei P.globals.size tb).h.get i=some (match lk tb i with|some o=>o|none=>.dead):=fun i hi=>by
  show (ti (yD P.globals.size) tb).get i=_
  rw[Ba]
  cases lk tb i with
  |some o=>rfl
  |none=>exact Pq _ _ hi
 have hwr:∀i o,i<P.globals.size->(Ei P.globals.size tb).h.get i=some o->o.wr=false:=fun i o hi ho=>by
  rw[get i hi]at ho
  simp only[al]at ho
  cases hl:lk tb i with
  |none=>rw[hl]at ho;subst ho;rfl
  |some o'=>
   rw[hl]at ho
   simp only at ho
   subst ho
   have:=(VB mC hl).2
   cases o' with
   |cells c e rw=>cases rw with
    |true=>cases this
    |false=>rfl
   |_=>cases this
 have QX:∀i l,(fun i=>if i<P.globals.size then some (⟨i,0,vS tb i⟩:L) else none) i=some l->i<P.globals.size/\l=⟨i,0,vS tb i⟩:=fun i l h=>by
  simp only at h
  split at h
  ·rename_i hi;simp only[al]at h;exact⟨hi,h.symm⟩
  ·cases h
 refine⟨fun i=>if i<P.globals.size then some ⟨i,0,vS tb i⟩ else none,⟨fun i l hl=>?_,fun i l hl=>?_,fun i j l l' o o' hi hj bB ho wH hw nF=>?_,fun g hg=>⟨vS tb g,by simp[hg]⟩⟩,rfl,fun i l o hl ho=>?_⟩
 ·obtain⟨h,rfl⟩:=QX i l hl
  exact⟨h,by simp only;omega⟩
 ·obtain⟨h,rfl⟩:=QX i l hl
  refine⟨_,get i h,?_⟩
  cases fK:lk tb i with
  |none=>trivial
  |some o=>exact Dp i o fK _
 ·rw[hwr i o (QX i l hi).1 ho]at hw;cases hw
 ·exact hwr i o (QX i l hl).1 ho
def Ylp{tb:List (Nat×O)}{G g:Nat}{o:O}(h:lk tb g=some o):(Ei G tb).h.get g=some o:=by
 show (ti (yD G) tb).get g=_
 rw[Ba,h]
def si.row(s:si P W μ S){r:QW}(mC:r.ok W)(hv:∀i,i<r.n->VR μ (r.g i) (r.f i)):
  ∃μ' S',si P W μ' S'/\Zip μ S μ' S'/\S'.n=S.n+1/\μ' S.n=some ⟨r.a.block,r.a.off,r.n⟩/\S'.h.get S.n=some (.cells ((List.range r.n).map r.g) (C4 W r.a) false):=by
 obtain⟨g1,g2,g3⟩:=mC
 obtain⟨c',lo,hi,hb,hs,fS,eK,ay⟩:=Zxu g1 g2
 have dw:∀i l,μ i=some l->(fun i=>if i=S.n then some (⟨r.a.block,r.a.off,r.n⟩:L) else μ i) i=some l:=fun i l hl=>by
  have:=(s.hr.df i l hl).1
  simp only
  rw[ar (by omega)];exact hl
 have vT:∀i l,(fun i=>if i=S.n then some (⟨r.a.block,r.a.off,r.n⟩:L) else μ i) i=some l->(i=S.n/\l=⟨r.a.block,r.a.off,r.n⟩)\/(i≠S.n/\μ i=some l):=fun i l h=>by
  simp only at h
  split at h
  ·rename_i e;simp only[al]at h;exact .inl ⟨e,h.symm⟩
  ·rename_i e;exact .inr ⟨e,h⟩
 have qk:(S.h.set S.n (.cells ((List.range r.n).map r.g) (C4 W r.a) false)).get S.n=some (.cells ((List.range r.n).map r.g) (C4 W r.a) false):=by simp[T.ag]
 have hold:∀i,i≠S.n->(S.h.set S.n (.cells ((List.range r.n).map r.g) (C4 W r.a) false)).get i=S.h.get i:=fun i hi=>by simp[T.ag,hi]
 have oJ:∀i l o,(fun i=>if i=S.n then some (⟨r.a.block,r.a.off,r.n⟩:L) else μ i) i=some l->(S.h.set S.n (.cells ((List.range r.n).map r.g) (C4 W r.a) false)).get i=some o->o.wr=false:=fun i l o hl ho=>by
  rcases vT i l hl with⟨rfl,rfl⟩|⟨h1,h2⟩
  ·rw[qk]at ho;simp only[al]at ho;subst ho;rfl
  ·rw[hold i h1]at ho;exact s.ro i l o h2 ho
 refine⟨_,⟨S.h.set S.n (.cells ((List.range r.n).map r.g) (C4 W r.a) false),S.n+1,[]⟩,⟨⟨fun i l hl=>?_,fun i l hl=>?_,fun i j l l' o o' iF hj bB ho wH hw nF=>?_,fun g hg=>?_⟩,rfl,oJ⟩,⟨dw,by simp,fun i hi=>hold i (by omega)⟩,rfl,by simp,qk⟩
 ·rcases vT i l hl with⟨rfl,rfl⟩|⟨h1,h2⟩
  ·exact⟨by simp,ay⟩
  ·obtain⟨q1,q2⟩:=s.hr.df i l h2
   exact⟨by simp only;omega,q2⟩
 ·rcases vT i l hl with⟨rfl,rfl⟩|⟨h1,h2⟩
  ·refine⟨_,qk,c',lo,hi,hb,eK,by simp,fun j v hvj=>?_,fun j x hj hx=>?_,fun h=>by cases h⟩
   ·have hj:j<r.n:=by have:=(y8.1 hvj).1;simpa using this
    have FD:v=r.g j:=by simpa[hj]using hvj.symm
    subst FD
    exact⟨_,fS j hj,VR.mono dw _ _ (hv j hj)⟩
   ·have hj:j<r.n:=hj
    rw[fS j hj]at hx
    simp only[al]at hx
    subst hx
    exact g3 j hj
  ·obtain⟨o,q1,q2⟩:=s.hr.obj i l h2
   exact⟨o,by rw[hold i h1];exact q1,q2.mono dw⟩
 ·rw[oJ i l o iF ho]at hw;cases hw
 ·obtain⟨t,ht⟩:=s.hr.gK g hg
  exact⟨t,dw _ _ ht⟩
def si.slice(s:si P W μ S){r:QW}(mC:r.ok W)(hv:∀i,i<r.n->VR μ (r.g i) (r.f i)){len cap z:Nat}(hn:r.n=cap*z)(hl:len<=cap)(hz:0<z):
  ∃μ' S' i,si P W μ' S'/\Zip μ S μ' S'/\VR μ' (.slice i 0 len (some cap) z) (.slice (some r.a) len cap)/\i<S'.n/\S'.h.get i=some (.cells ((List.range r.n).map r.g) (C4 W r.a) false):=by
 obtain⟨μ',S',q1,q2,q3,q4,q5⟩:=s.row mC hv
 refine⟨μ',S',S.n,q1,q2,?_,by omega,q5⟩
 obtain⟨⟨b,off,sp⟩,n,f,g⟩:=r
 obtain⟨g1,g2,_⟩:=mC
 obtain⟨_,_,_,_,hs,_,_,_⟩:=Zxu g1 g2
 simp only at hs hn q4
 subst hs
 simp only[VR]
 exact⟨⟨b,off,n⟩,cap,q4,by simp,hl,by simp[hn],fun k hk=>by simpa using hk,fun h=>by cases h⟩
def si.list{P:Program}{W:World}{μ:Mu}{S:St}(s:si P W μ S){i:nA}(hi:i.ok W):
  ∃μ' S' v,si P W μ' S'/\Zip μ S μ' S'/\VR μ' v i.val/\Sl S'.h S'.n v (strs i.strs):=by
 cases i with
 |nil=>exact⟨μ,S,.aa,s,Zip.refl,by simp[nA.val,VR],Sl.nil⟩
 |emp b=>exact⟨μ,S,.empty,s,Zip.refl,by simp[nA.val,VR],.inl ⟨rfl,.inr rfl⟩⟩
 |sl b l c f=>
  obtain⟨h1,h2,h3⟩:=hi
  obtain⟨μ',S',k,q1,q2,q3,q4,q5⟩:=s.slice (r:=⟨b,c,fun i=>.string (f i),fun i=>.str (f i).data.toList⟩) ⟨h2,h3,fun _ _=>rfl⟩ (fun i _=>by simp[VR]) (len:=l) (cap:=c) (z:=1) (by simp) h1 (by decide)
  refine⟨μ',S',_,q1,q2,q3,.inr ⟨k,0,some c,_,_,false,by simp[strs,nA.strs],q4,q5,fun j hj=>?_,by simp[strs,nA.strs];omega,fun k hk=>by simp[strs,nA.strs]at hk ⊢;omega⟩⟩
  have nM:j<l:=by simpa[strs,nA.strs]using hj
  simp[strs,nA.strs,nM,show j<c by omega]
inductive Yvu where
 |nil
 |emp (b:Addr)
 |sl (b:Addr) (l c:Nat) (f:Nat->Int)
def si.lists{P:Program}{W:World}{F:Nat->nA}:∀(n:Nat),(∀i,i<n->(F i).ok W)->∀{μ:Mu} {S:St},si P W μ S->
  ∃μ' S',si P W μ' S'/\Zip μ S μ' S'/\∀i,i<n->∃v,VR μ' v (F i).val/\Sl S'.h S'.n v (strs (F i).strs)
 |0,_,μ,S,s=>⟨μ,S,s,Zip.refl,fun i hi=>absurd hi (by omega)⟩
 |n+1,hF,μ,S,s=>by
  obtain⟨μ1,S1,s1,g1,a1⟩:=si.lists n (fun i hi=>hF i (by omega)) s
  obtain⟨μ2,S2,v,s2,g2,a2,a3⟩:=s1.list (hF n (by omega))
  refine⟨μ2,S2,s2,g1.trans g2,fun i hi=>?_⟩
  by_cases e:i=n
  ·subst e;exact⟨v,a2,a3⟩
  ·obtain⟨u,b1,b2⟩:=a1 i (by omega)
   exact⟨u,VR.mono g2.mu _ _ b1,b2.ae g2.ae⟩
inductive pV where
 |nil
 |emp (b:Addr)
 |sl (b:Addr) (l c:Nat) (F:Nat->nA)
def pV.val:pV->Value
 |.nil=>.slice none 0 0
 |.emp b=>.slice (some b) 0 0
 |.sl b l c f=>.slice (some b) l c
def pV.ok(W:World):pV->Prop
 |.sl b l c F=>l<=c/\0<c/\∀i,i<c->W.cell? (b.add i)=some (F i).val/\(F i).ok W
 |_=>True
def pV.rows:pV->List (List aQ)
 |.sl b l c F=>(List.range l).map fun i=>(F i).strs
 |_=>[]
def nA.one{i:nA}:i.val.oneCell'=true:=by cases i<;>rfl
def si.mat{P:Program}{W:World}{μ:Mu}{S:St}(s:si P W μ S){m:pV}(hm:m.ok W):
  ∃μ' S' v,si P W μ' S'/\Zip μ S μ' S'/\VR μ' v m.val/\∃us:List V,Sl S'.h S'.n v us/\us.length=m.rows.length/\∀(j:Nat) (l:List aQ),m.rows[j]?=some l->∃u,us[j]?=some u/\Sl S'.h S'.n u (strs l):=by
 cases m with
 |nil=>exact⟨μ,S,.aa,s,Zip.refl,by simp[pV.val,VR],[],Sl.nil,rfl,fun j l h=>by simp[pV.rows]at h⟩
 |emp b=>exact⟨μ,S,.empty,s,Zip.refl,by simp[pV.val,VR],[],.inl ⟨rfl,.inr rfl⟩,rfl,fun j l h=>by simp[pV.rows]at h⟩
 |sl b l c F=>
  obtain⟨h1,h2,h3⟩:=hm
  obtain⟨μ1,S1,s1,g1,a1⟩:=si.lists c (fun i hi=>(h3 i hi).2) s
  have hex:∀i,∃v:V,i<c->VR μ1 v (F i).val/\Sl S1.h S1.n v (strs (F i).strs):=fun i=>by
   by_cases hi:i<c
   ·obtain⟨v,hv⟩:=a1 i hi;exact⟨v,fun _=>hv⟩
   ·exact⟨.aa,fun h=>absurd h hi⟩
  obtain⟨g,hg⟩:=Classical.axiomOfChoice hex
  obtain⟨μ',S',k,q1,q2,q3,q4,q5⟩:=s1.slice (r:=⟨b,c,fun i=>(F i).val,g⟩) ⟨h2,fun i hi=>(h3 i hi).1,fun _ _=>nA.one⟩ (fun i hi=>(hg i hi).1) (len:=l) (cap:=c) (z:=1) (by simp) h1 (by decide)
  refine⟨μ',S',_,q1,g1.trans q2,q3,(List.range l).map g,.inr ⟨k,0,some c,_,_,false,by simp,q4,q5,fun j hj=>?_,by simp;omega,fun k hk=>by simp at hk ⊢;omega⟩,by simp[pV.rows],fun j x hj=>?_⟩
  ·have nM:j<l:=by simpa using hj
   simp[nM,show j<c by omega]
  ·have Gy:j<l:=by
    apply sM;intro hc
    rw[fC (by simp[pV.rows];omega)]at hj;cases hj
   have hx:x=(F j).strs:=by simpa[pV.rows,Gy]using hj.symm
   subst hx
   exact⟨g j,by simp[Gy],((hg j (by omega)).2).ae q2.ae⟩
open Go Go.ChangeShapes Go.WideShapes Go.RowKit Go.Deep
variable {P:Program}
def pW{t s:TypeId}(ht:P.underlying t=some (.slice s))(hs:P.underlying s=some .string)(hc:P.cellsOf s=1){H:Type}{enc:TypeId×Value->H}{W:World}{fuel:Nat}{c:Value}{x:DataW H×List MemPlace}
  (h:DataW.trod enc P W 0 (fun _=>true) true fuel t [c]=some x):∃i:nA,c=i.val/\i.ok W/\i.strs.length<9223372036854775808:=by
 rcases open_slice1 ht hc h with⟨hc,_⟩|⟨a,len,cap,m,n,Vf,D,Pl,hc,_,hl,dh,hm,_,hx⟩
 ·have oZ:c=.slice none 0 0:=by simpa using hc
  exact⟨.nil,oZ,trivial,by simp[nA.strs]⟩
 ·simp only[if_true]at hm
  subst hm
  have oZ:c=.slice (some a) len m:=by simpa using hc
  rcases FI m with h0|h0
  ·subst h0
   have:len=0:=by omega
   subst this
   exact⟨.emp a,oZ,trivial,by simp[nA.strs]⟩
  ·refine⟨.sl a len m fun i=>match Vf i with|.string s=>s|_=>⟨#[]⟩,oZ,⟨hl,h0,fun i hi=>?_⟩,by simp only[nA.strs,jP,List.length_range];unfold maxLen at dh;omega⟩
   obtain⟨g1,g2⟩:=hx i hi
   obtain⟨s,e0,_⟩:=DataW.trod_string hs g2
   simp only[iO,and_true]at e0
   rw[g1]
   simp only[e0]
def tA{t l s:TypeId}(ht:P.underlying t=some (.slice l))(ay:P.underlying l=some (.slice s))(hs:P.underlying s=some .string)(cO:P.cellsOf l=1)(hc:P.cellsOf s=1){H:Type}{enc:TypeId×Value->H}{W:World}{fuel:Nat}{c:Value}{x:DataW H×List MemPlace}
  (h:DataW.trod enc P W 0 (fun _=>true) true fuel t [c]=some x):∃m:pV,c=m.val/\m.ok W/\m.rows.length<9223372036854775808/\∀r∈m.rows,r.length<9223372036854775808:=by
 rcases open_slice1 ht cO h with⟨hc,_⟩|⟨a,len,cap,m,n,Vf,D,Pl,oZ,_,hl,dh,hm,_,hx⟩
 ·have oZ:c=.slice none 0 0:=by simpa using hc
  exact⟨.nil,oZ,trivial,by simp[pV.rows],fun r hr=>by simp[pV.rows]at hr⟩
 ·simp only[if_true]at hm
  subst hm
  have oZ:c=.slice (some a) len m:=by simpa using oZ
  rcases FI m with h0|h0
  ·subst h0
   have:len=0:=by omega
   subst this
   exact⟨.emp a,oZ,trivial,by simp[pV.rows],fun r hr=>by simp[pV.rows]at hr⟩
  ·have dH:∀i,∃s:nA,i<m->Vf i=s.val/\s.ok W/\s.strs.length<9223372036854775808:=fun i=>by
    by_cases hi:i<m
    ·obtain⟨g1,g2⟩:=hx i hi
     obtain⟨s,q⟩:=pW ay hs hc g2
     exact⟨s,fun _=>q⟩
    ·exact⟨.nil,fun h=>absurd h hi⟩
   obtain⟨F,hF⟩:=Classical.axiomOfChoice dH
   refine⟨.sl a len m F,oZ,⟨hl,h0,fun i hi=>⟨?_,(hF i hi).2.1⟩⟩,by simp only[pV.rows,jP,List.length_range];unfold maxLen at dh;omega,fun r hr=>?_⟩
   ·rw[(hx i hi).1,(hF i hi).1]
   ·obtain⟨i,hi,rfl⟩:=eM.1 hr
    exact(hF i (by have:=yb.1 hi;omega)).2.2
def rA{W:World}{laid:List (String×DataW Unit)}{name:String}{k:IntKind}{zs:List Int}{g:Nat}{t e:TypeId}{n:Nat}{z:Array Value}
  (hg:P.globalNamed name=some g) (MJ:(P.globals[g]?).map (·.type)=some t) (ht:P.underlying t=some (.array n e)) (he:P.underlying e=some (.int k)) (hce:P.cellsOf e=1) (hct:P.cellsOf t=n)
  (hf:laid.filter (fun x=>x.1==name)=[(name,Lib.tabData k zs)]) (ay:g<P.globals.size) (hz:((begin P (fun _ _=>0) default).world.heap[g]?).bind Obj.row?=some (z,t))
  (hl:laidMet P laid W) (hs:W.ShapedOpen P):jg P W [(g,.cells (zs.map fun z=>V.int k z) t false)]:=by
 have h1:=laidMet.filter (fun x=>x.1==name) hl
 rw[hf]at h1
 have h2:=Lib.tabIs_of_head hg MJ ht he hce hct h1
 unfold Lib.TabIs World.var? at h2
 rw[hg]at h2
 obtain⟨cs,h3,_⟩:=hs.1 g z t ay hz
 simp only[Option.bind_some,h3,al]at h2
 subst h2
 exact jg.one h3
open Go Go.Proofs
set_option maxRecDepth 1000000
noncomputable def A.dG:Nat->Option ku:=x_ Tryz.prog
abbrev A.p(L:List mb)(E:List jO):Prop:=Y3 A.TB 10 A.dG L E=true
abbrev A.e(L:List mb)(E:List jO):Prop:=Y4 A.TB 10 A.dG L E=true
abbrev ai(n:Int):V:=.int .i64 n
abbrev aG:V:=.bool false
abbrev ot:V:=.bool true
abbrev aj:V:=.aa
def A.L:List mb:=[]
def A.E:List jO:=[]
def A.L0:=⟨243,[.str [49],.str [45]],aG⟩::A.L
def A.L1:=⟨242,[.str [49],.str [47]],ai (-1)⟩::A.L0
def A.L2:=⟨205,[.str [49],.str [47]],(.bg [.str [49],.str [],aG])⟩::A.L1
def A.L3:=⟨149,[.str [49],.str [47]],(.bg [.str [49],.str [],aG])⟩::A.L2
def A.L4:=⟨261,[.str [48,49,50,51,52,53,54,55,56,57]],(.bg [.agg [aG,aG,aG,aG,aG,aG,aG,aG,aG,aG,aG,aG,aG,aG,aG,aG,aG,aG,aG,aG,aG,aG,aG,aG,aG,aG,aG,aG,aG,aG,aG,aG,aG,aG,aG,aG,aG,aG,aG,aG,aG,aG,aG,aG,aG,aG,aG,aG,ot,ot,ot,ot,ot,ot,ot,ot,ot,ot,aG,aG,aG,aG,aG,aG,aG,aG,aG,aG,aG,aG,aG,aG,aG,aG,aG,aG,aG,aG,aG,aG,aG,aG,aG,aG,aG,aG,aG,aG,aG,aG,aG,aG,aG,aG,aG,aG,aG,aG,aG,aG,aG,aG,aG,aG,aG,aG,aG,aG,aG,aG,aG,aG,aG,aG,aG,aG,aG,aG,aG,aG,aG,aG,aG,aG,aG,aG,aG,aG,aG,aG,aG,aG,aG,aG,aG,aG,aG,aG,aG,aG,aG,aG,aG,aG,aG,aG,aG,aG,aG,aG,aG,aG,aG,aG,aG,aG,aG,aG,aG,aG,aG,aG,aG,aG,aG,aG,aG,aG,aG,aG,aG,aG,aG,aG,aG,aG,aG,aG,aG,aG,aG,aG,aG,aG,aG,aG,aG,aG,aG,aG,aG,aG,aG,aG,aG,aG,aG,aG,aG,aG,aG,aG,aG,aG,aG,aG,aG,aG,aG,aG,aG,aG,aG,aG,aG,aG,aG,aG,aG,aG,aG,aG,aG,aG,aG,aG,aG,aG,aG,aG,aG,aG,aG,aG,aG,aG,aG,aG,aG,aG,aG,aG,aG,aG,aG,aG,aG,aG,aG,aG,aG,aG,aG,aG,aG,aG],ot])⟩::A.L3
def A.L5:=⟨235,[.str [49],.str [48,49,50,51,52,53,54,55,56,57]],.str []⟩::A.L4
def A.L6:=⟨191,[.str [49]],ot⟩::A.L5
def A.L7:=⟨135,[.str [49]],ai 0⟩::A.L6
def A.L8:=⟨135,[.str [45,49]],ai 0⟩::A.L7
def A.L9:=⟨205,[.str [48],.str [47]],(.bg [.str [48],.str [],aG])⟩::A.L8
def A.Q2:=⟨149,[.str [48],.str [47]],(.bg [.str [48],.str [],aG])⟩::A.L9
def A.Q3:=⟨235,[.str [48],.str [48,49,50,51,52,53,54,55,56,57]],.str []⟩::A.Q2
def A.Q4:=⟨191,[.str [48]],ot⟩::A.Q3
def A.Q5:=⟨135,[.str [48]],ai 0⟩::A.Q4
def A.Q6:=⟨245,[.str [49]],.bg [ai 1,.aY]⟩::A.Q5
def A.Q7:=⟨208,[.str [49]],.bg [ai 1,.aY]⟩::A.Q6
def A.Q8:=⟨202,[.int .u64 1,.int .u64 10],.bg [.int .u64 0,.int .u64 10]⟩::A.Q7
def A.Q9:=⟨148,[.agg [ai 1,aj],.agg [ai 10,aj]],.agg [ai 10,aj]⟩::A.Q8
def A.Ra:=⟨209,[.agg [ai 10,aj],ai 1],.agg [ai 10,aj]⟩::A.Q9
def A.Rb:=⟨202,[.int .u64 0,.int .u64 10],.bg [.int .u64 0,.int .u64 0]⟩::A.Ra
def A.Rc:=⟨148,[.agg [ai 0,aj],.agg [ai 10,aj]],.agg [ai 0,aj]⟩::A.Rb
def A.Re:=⟨146,[.agg [ai 0,aj],.agg [ai 1,aj]],.agg [ai 1,aj]⟩::A.Rc
def A.Rf:=⟨150,[.str [49]],.agg [ai 1,aj]⟩::A.Re
def A.Rh:=⟨80,[.str [49]],.agg [ai 1,aj,ai 1,aj]⟩::A.Rf
def A.Ri:=⟨150,[.str [45,49]],(.agg [ai (-1),aj])⟩::A.Rh
def A.Rj:=⟨80,[.str [45,49]],(.agg [ai (-1),aj,ai 1,aj])⟩::A.Ri
def A.Rk:=⟨150,[.str [48]],.agg [ai 0,aj]⟩::A.Rj
def A.Rl:=⟨80,[.str [48]],.agg [ai 0,aj,ai 1,aj]⟩::A.Rk
def A.Rm:=⟨147,[.agg [ai 1,aj],.agg [ai 1,aj]],.agg [ai 1,aj,ai 1,aj]⟩::A.Rl
def A.Rn:=⟨202,[.int .u64 1,.int .u64 1],.bg [.int .u64 0,.int .u64 1]⟩::A.Rm
def A.Ro:=⟨148,[.agg [ai 1,aj],.agg [ai 1,aj]],.agg [ai 1,aj]⟩::A.Rn
def A.Rp:=⟨86,[.agg [ai 1,aj,ai 1,aj],.agg [ai 1,aj,ai 1,aj]],.agg [ai 1,aj,ai 1,aj]⟩::A.Ro
def A.Rq:=⟨132,[.agg [ai 1,aj,ai 1,aj],.agg [ai 1,aj,ai 1,aj]],.agg [ai 1,aj,ai 1,aj]⟩::A.Rp
def A.Rr:=⟨148,[(.agg [ai (-1),aj]),.agg [ai 1,aj]],(.agg [ai (-1),aj])⟩::A.Rq
def A.Rt:=⟨86,[(.agg [ai (-1),aj,ai 1,aj]),.agg [ai 1,aj,ai 1,aj]],(.agg [ai (-1),aj,ai 1,aj])⟩::A.Rr
def A.Ru:=⟨132,[(.agg [ai (-1),aj,ai 1,aj]),.agg [ai 1,aj,ai 1,aj]],(.agg [ai (-1),aj,ai 1,aj])⟩::A.Rt
def A.Rv:=⟨148,[.agg [ai 0,aj],.agg [ai 1,aj]],.agg [ai 0,aj]⟩::A.Ru
def A.Rw:=⟨86,[.agg [ai 0,aj,ai 1,aj],.agg [ai 1,aj,ai 1,aj]],.agg [ai 0,aj,ai 1,aj]⟩::A.Rv
def A.Rx:=⟨132,[.agg [ai 0,aj,ai 1,aj],.agg [ai 1,aj,ai 1,aj]],.agg [ai 0,aj,ai 1,aj]⟩::A.Rw
def A.Ry:=⟨86,[(.agg [ai (-1),aj,ai 1,aj]),.agg [ai 0,aj,ai 1,aj]],.agg [ai 0,aj,ai 1,aj]⟩::A.Rx
def A.Rz:=⟨144,[.agg [ai 0,aj,ai 1,aj]],ot⟩::A.Ry
def A.RA:=⟨148,[(.agg [ai (-1),aj]),(.agg [ai (-1),aj])],.agg [ai 1,aj]⟩::A.Rz
def A.RB:=⟨86,[(.agg [ai (-1),aj,ai 1,aj]),(.agg [ai (-1),aj,ai 1,aj])],.agg [ai 1,aj,ai 1,aj]⟩::A.RA
def A.RC:=⟨210,[.agg [ai 1,aj]],ai 1⟩::A.RB
def A.ER:=⟨151,[.agg [ai 1,aj]],aG⟩::A.RC
def A.E0:=⟨19,[],[],[(.slice 12 0 2 (some 2) 1)],[(12,.cells [(.slice 10 0 3 (some 3) 1),(.slice 11 0 3 (some 3) 1)] 23 true),(10,.cells [.str [49],.str [45,49],.str [48]] 40 true),(11,.cells [.str [48],.str [49],.str [45,49]] 40 true)]++A.TB,136,.bg [.slice 136 0 1 none 1,ai 0],[(329,.cells [(.slice 137 0 3 (some 3) 1)] 23 true),(315,.cells [.str [49],.str [49],.str [49]] 40 true)],[]⟩::A.E
def A.E1:=⟨20,[],[],[(.slice 12 0 2 (some 2) 1)],[(12,.cells [(.slice 10 0 3 (some 3) 1),(.slice 11 0 3 (some 3) 1)] 23 true),(10,.cells [.str [49],.str [45,49],.str [48]] 40 true),(11,.cells [.str [48],.str [49],.str [45,49]] 40 true)]++A.TB,138,.bg [.slice 138 0 2 none 1,ai 0],[(309,.cells [(.slice 139 0 3 (some 3) 1),(.slice 140 0 3 (some 3) 1)] 23 true),(270,.cells [.str [49],.str [48],.str [45,49]] 40 true),(295,.cells [.str [48],.str [49],.str [45,49]] 40 true)],[]⟩::A.E0
def A.RD:=⟨235,[.str [51],.str [48,49,50,51,52,53,54,55,56,57]],.str []⟩::A.ER
def A.RE:=⟨191,[.str [51]],ot⟩::A.RD
def A.RF:=⟨150,[.str [51]],.agg [ai 3,aj]⟩::A.RE
def A.RG:=⟨79,[.agg [ai 0,aj,ai 1,aj],.agg [ai 1,aj,ai 1,aj]],.agg [ai 1,aj,ai 1,aj]⟩::A.RF
def A.RH:=⟨79,[.agg [ai 0,aj,ai 1,aj],.agg [ai 0,aj,ai 1,aj]],.agg [ai 0,aj,ai 1,aj]⟩::A.RG
def A.RI:=⟨148,[.agg [ai 1,aj],.agg [ai 3,aj]],.agg [ai 3,aj]⟩::A.RH
def A.RJ:=⟨237,[.agg [ai 2,aj],.agg [ai 1,aj]],(.bg [.agg [ai 2,aj],.agg [ai 0,aj]])⟩::A.RI
def A.RK:=⟨194,[.agg [ai 1,aj],.agg [ai 2,aj]],.agg [ai 1,aj]⟩::A.RJ
def A.RL:=⟨237,[.agg [ai 1,aj],.agg [ai 1,aj]],(.bg [.agg [ai 1,aj],.agg [ai 0,aj]])⟩::A.RK
def A.RM:=⟨201,[.agg [ai 1,aj],.agg [ai 1,aj]],.agg [ai 1,aj]⟩::A.RL
def A.RN:=⟨201,[.agg [ai 2,aj],.agg [ai 1,aj]],.agg [ai 2,aj]⟩::A.RM
def A.RO:=⟨147,[.agg [ai 1,aj],.agg [ai 2,aj]],.agg [ai 1,aj,ai 2,aj]⟩::A.RN
def A.RP:=⟨188,[.agg [ai 2,aj,ai 1,aj]],.agg [ai 1,aj,ai 2,aj]⟩::A.RO
def A.RQ:=⟨148,[.agg [ai 2,aj],.agg [ai 1,aj]],.agg [ai 2,aj]⟩::A.RP
def A.RS:=⟨202,[.int .u64 1,.int .u64 2],.bg [.int .u64 0,.int .u64 2]⟩::A.RQ
def A.RT:=⟨148,[.agg [ai 1,aj],.agg [ai 2,aj]],.agg [ai 2,aj]⟩::A.RS
def A.RU:=⟨86,[.agg [ai 2,aj,ai 1,aj],.agg [ai 1,aj,ai 2,aj]],.agg [ai 1,aj,ai 1,aj]⟩::A.RT
def A.RV:=⟨132,[.agg [ai 2,aj,ai 1,aj],.agg [ai 2,aj,ai 1,aj]],.agg [ai 1,aj,ai 1,aj]⟩::A.RU
def A.RW:=⟨86,[.agg [ai 1,aj,ai 1,aj],.agg [ai 1,aj,ai 2,aj]],.agg [ai 1,aj,ai 2,aj]⟩::A.RV
def A.RX:=⟨132,[.agg [ai 1,aj,ai 1,aj],.agg [ai 2,aj,ai 1,aj]],.agg [ai 1,aj,ai 2,aj]⟩::A.RW
def A.RY:=⟨148,[.agg [ai 3,aj],.agg [ai 1,aj]],.agg [ai 3,aj]⟩::A.RX
def A.RZ:=⟨237,[.agg [ai 3,aj],.agg [ai 1,aj]],(.bg [.agg [ai 3,aj],.agg [ai 0,aj]])⟩::A.RY
def A.R4:=⟨201,[.agg [ai 3,aj],.agg [ai 1,aj]],.agg [ai 3,aj]⟩::A.RZ
def A.R5:=⟨194,[.agg [ai 2,aj],.agg [ai 3,aj]],.agg [ai 1,aj]⟩::A.R4
def A.R6:=⟨147,[.agg [ai 2,aj],.agg [ai 3,aj]],.agg [ai 2,aj,ai 3,aj]⟩::A.R5
def A.ES:=⟨147,[.agg [ai 0,aj],.agg [ai 3,aj]],.agg [ai 0,aj,ai 1,aj]⟩::A.R6
def A.E2:=⟨56,[],[],[.slice 567 0 2 none 1],[(567,.cells [.slice 560 0 3 none 4,.slice 565 0 3 none 4] 76 true),(560,.cells [ai 2,aj,ai 1,aj,ai 1,aj,ai 1,aj,ai 3,aj,ai 1,aj] 103 true),(565,.cells [ai 1,aj,ai 1,aj,ai 2,aj,ai 1,aj,ai 0,aj,ai 1,aj] 103 true)]++A.TB,568,(.bg [(.slice 568 0 2 (some 2) 1),.slice 571 0 2 none 1]),[(568,.cells [(.slice 569 0 3 (some 3) 4),.slice 570 0 3 none 4] 76 true),(916,.cells [ai 1,aj,ai 1,aj,ai 0,aj,ai 1,aj,ai 2,aj,ai 1,aj] 103 true),(912,.cells [ai 0,aj,ai 1,aj,ai 1,aj,ai 1,aj,ai (-1),aj,ai 1,aj] 103 true),(1155,.cells [ai 0,ai 1] 3 true)],[]⟩::A.E1
def A.E3:=⟨21,[],[],[(.slice 12 0 2 (some 2) 1),(.slice 141 0 3 (some 3) 1)],[(12,.cells [(.slice 10 0 3 (some 3) 1),(.slice 11 0 3 (some 3) 1)] 23 true),(10,.cells [.str [49],.str [45,49],.str [48]] 40 true),(11,.cells [.str [48],.str [49],.str [45,49]] 40 true),(141,.cells [.str [51],.str [48],.str [48]] 40 true)]++A.TB,142,(.bg [(.slice 142 0 3 (some 3) 1),(.slice 143 0 3 (some 3) 1),ai 0]),[(753,.cells [.str [50],.str [45,49],.str [45,49]] 40 true),(804,.cells [.str [49],.str [49],.str [49]] 40 true)],[]⟩::A.E2
def A.R7:=⟨147,[.agg [ai 2,aj],.agg [ai 9,aj]],.agg [ai 2,aj,ai 9,aj]⟩::A.ES
def A.yQ:=⟨188,[.agg [ai 9,aj,ai 2,aj]],.agg [ai 2,aj,ai 9,aj]⟩::A.R7
def A.E4:=⟨130,[],[],[(.slice 695 0 4 (some 4) 4),(.func 131 [] [.ptr 876 0])],[(695,.cells [ai 0,aj,ai 1,aj,ai 9,aj,ai 2,aj,ai (-3),aj,ai 2,aj,ai 3,aj,ai 2,aj] 103 true),(876,.cells [ai 9,aj,ai 2,aj] 103 true)]++A.TB,877,.slice 877 0 4 none 4,[(1120,.cells [ai 0,aj,ai 1,aj,ai 1,aj,ai 1,aj,ai (-1),aj,ai 3,aj,ai 1,aj,ai 3,aj] 103 true)],[]⟩::A.E3
def A.E5:=⟨68,[],[],[.slice 690 0 4 none 4,.slice 877 0 4 none 4,(.func 133 [] [.ptr 878 0])],[(690,.cells [ai 1,aj,ai 1,aj,ai 1,aj,ai 2,aj,ai 1,aj,ai 2,aj,ai 1,aj,ai 2,aj] 103 true),(877,.cells [ai 0,aj,ai 1,aj,ai 1,aj,ai 1,aj,ai (-1),aj,ai 3,aj,ai 1,aj,ai 3,aj] 103 true),(878,.cells [ai 1,aj,ai 2,aj] 103 true)]++A.TB,881,(.slice 881 0 4 (some 4) 4),[(881,.cells [ai 1,aj,ai 1,aj,ai 0,aj,ai 1,aj,ai 2,aj,ai 3,aj,ai 1,aj,ai 3,aj] 103 true)],[]⟩::A.E4
def A.E6:=⟨62,[],[],[.slice 654 0 2 none 1,.slice 493 0 2 none 1],[(654,.cells [.slice 571 0 2 none 4,.slice 652 0 2 none 4] 76 true),(571,.cells [ai 2,aj,ai 1,aj,ai 1,aj,ai 1,aj] 103 true),(652,.cells [ai 1,aj,ai 1,aj,ai 5,aj,ai 1,aj] 103 true),(493,.cells [(.slice 474 0 2 (some 2) 4),(.slice 484 0 2 (some 2) 4)] 76 true),(474,.cells [ai 1,aj,ai 1,aj,ai 1,aj,ai 1,aj] 103 true),(484,.cells [ai (-1),aj,ai 1,aj,ai 2,aj,ai 1,aj] 103 true)]++A.TB,655,.bg [.slice 655 0 2 none 1,ot],[(888,.cells [(.slice 656 8 2 (some 2) 4),.slice 657 8 2 none 4] 76 true),(881,.cells [ai 1,aj,ai 1,aj,ai 0,aj,ai 1,aj,ai 2,aj,ai 3,aj,ai 1,aj,ai 3,aj] 103 true),(877,.cells [ai 0,aj,ai 1,aj,ai 1,aj,ai 1,aj,ai (-1),aj,ai 3,aj,ai 1,aj,ai 3,aj] 103 true)],[]⟩::A.E5
def A.E7:=⟨42,[],[],[.slice 160 0 2 none 1,(.slice 161 0 2 (some 2) 4),(.slice 162 0 2 (some 2) 1)],[(160,.cells [(.slice 155 0 3 (some 3) 4),(.slice 158 0 3 (some 3) 4)] 76 true),(155,.cells [ai 1,aj,ai 1,aj,ai (-1),aj,ai 1,aj,ai 0,aj,ai 1,aj] 103 true),(158,.cells [ai 0,aj,ai 1,aj,ai 1,aj,ai 1,aj,ai (-1),aj,ai 1,aj] 103 true),(161,.cells [ai 1,aj,ai 1,aj,ai 1,aj,ai 1,aj] 103 true),(162,.cells [(.slice 210 0 3 (some 3) 4),.slice 206 0 3 none 4] 76 true),(210,.cells [ai 1,aj,ai 1,aj,ai 0,aj,ai 1,aj,ai (-1),aj,ai 1,aj] 103 true),(206,.cells [ai 0,aj,ai 1,aj,ai 1,aj,ai 1,aj,ai (-1),aj,ai 1,aj] 103 true)]++A.TB,275,.bg [.slice 275 0 2 none 1,ot],[(655,.cells [(.slice 276 8 2 (some 2) 4),.slice 277 8 2 none 4] 76 true),(656,.cells [ai 1,aj,ai 1,aj,ai 0,aj,ai 1,aj,ai 2,aj,ai 3,aj,ai 1,aj,ai 3,aj] 103 true),(657,.cells [ai 0,aj,ai 1,aj,ai 1,aj,ai 1,aj,ai (-1),aj,ai 3,aj,ai 1,aj,ai 3,aj] 103 true)],[]⟩::A.E6
def A.R8:=⟨194,[.agg [ai 1,aj],.agg [ai 3,aj]],.agg [ai 1,aj]⟩::A.yQ
def A.R9:=⟨147,[.agg [ai 1,aj],.agg [ai 3,aj]],.agg [ai 1,aj,ai 3,aj]⟩::A.R8
def A.Sa:=⟨79,[.agg [ai 0,aj,ai 1,aj],.agg [ai 1,aj,ai 3,aj]],.agg [ai 1,aj,ai 3,aj]⟩::A.R9
def A.Sb:=⟨86,[.agg [ai 1,aj,ai 3,aj],.agg [ai 0,aj,ai 1,aj]],.agg [ai 0,aj,ai 1,aj]⟩::A.Sa
def A.Sd:=⟨147,[(.agg [ai (-1),aj]),.agg [ai 3,aj]],(.agg [ai (-1),aj,ai 3,aj])⟩::A.Sb
def A.Br:=⟨79,[.agg [ai 0,aj,ai 1,aj],(.agg [ai (-1),aj,ai 3,aj])],(.agg [ai (-1),aj,ai 3,aj])⟩::A.Sd
def A.E8:=⟨94,[],[],[.slice 322 0 2 none 1,(.func 140 [.slice 302 0 2 none 4] [])],[(322,.cells [.slice 311 0 2 none 4,.slice 320 0 2 none 4] 76 true),(311,.cells [ai 2,aj,ai 3,aj,ai (-1),aj,ai 3,aj] 103 true),(320,.cells [ai 1,aj,ai 3,aj,ai 1,aj,ai 3,aj] 103 true),(302,.cells [ai (-1),aj,ai 1,aj,ai (-1),aj,ai 1,aj] 103 true)]++A.TB,422,.slice 422 0 2 none 4,[(693,.cells [ai (-1),aj,ai 3,aj,ai (-2),aj,ai 3,aj] 103 true)],[]⟩::A.E7
def A.E9:=⟨71,[],[],[.slice 160 0 2 none 1,(.slice 161 0 2 (some 2) 4)],[(160,.cells [(.slice 155 0 3 (some 3) 4),(.slice 158 0 3 (some 3) 4)] 76 true),(155,.cells [ai 1,aj,ai 1,aj,ai (-1),aj,ai 1,aj,ai 0,aj,ai 1,aj] 103 true),(158,.cells [ai 0,aj,ai 1,aj,ai 1,aj,ai 1,aj,ai (-1),aj,ai 1,aj] 103 true),(161,.cells [ai 1,aj,ai 1,aj,ai 1,aj,ai 1,aj] 103 true)]++A.TB,162,.slice 162 0 3 none 1,[(424,.cells [.slice 163 0 2 none 4,.slice 164 0 2 none 4,.slice 165 0 2 none 4] 76 true),(385,.cells [ai 2,aj,ai 3,aj,ai 1,aj,ai 3,aj] 103 true),(419,.cells [ai (-1),aj,ai 3,aj,ai 1,aj,ai 3,aj] 103 true),(422,.cells [ai (-1),aj,ai 3,aj,ai (-2),aj,ai 3,aj] 103 true)],[]⟩::A.E8
def A.sq:=⟨22,[],[],[(.slice 12 0 2 (some 2) 1),(.slice 13 0 2 (some 2) 1)],[(12,.cells [(.slice 10 0 3 (some 3) 1),(.slice 11 0 3 (some 3) 1)] 23 true),(10,.cells [.str [49],.str [45,49],.str [48]] 40 true),(11,.cells [.str [48],.str [49],.str [45,49]] 40 true),(13,.cells [.str [49],.str [49]] 40 true)]++A.TB,144,.bg [.slice 144 0 3 none 1,ai 0],[(253,.cells [(.slice 145 0 2 (some 2) 1),(.slice 146 0 2 (some 2) 1),(.slice 147 0 2 (some 2) 1)] 23 true),(180,.cells [.str [50,47,51],.str [49,47,51]] 40 true),(207,.cells [.str [45,49,47,51],.str [49,47,51]] 40 true),(239,.cells [.str [45,49,47,51],.str [45,50,47,51]] 40 true)],[]⟩::A.E9
def A.Se:=⟨235,[.str [50],.str [48,49,50,51,52,53,54,55,56,57]],.str []⟩::A.Br
def A.Sf:=⟨191,[.str [50]],ot⟩::A.Se
def A.Sg:=⟨150,[.str [50]],.agg [ai 2,aj]⟩::A.Sf
def A.Sh:=⟨135,[.str [49,47,51]],ai 0⟩::A.Sg
def A.Si:=⟨135,[.str [45,49,47,51]],ai 0⟩::A.Sh
def A.Sj:=⟨80,[.str [49,47,51]],.agg [ai 1,aj,ai 3,aj]⟩::A.Si
def A.JE:=⟨80,[.str [45,49,47,51]],(.agg [ai (-1),aj,ai 3,aj])⟩::A.Sj
def A.ET:=⟨23,[],[],[.slice 144 0 3 none 1,(.slice 148 0 2 (some 2) 1)],[(144,.cells [(.slice 145 0 2 (some 2) 1),(.slice 146 0 2 (some 2) 1),(.slice 147 0 2 (some 2) 1)] 23 true),(145,.cells [.str [50,47,51],.str [49,47,51]] 40 true),(146,.cells [.str [45,49,47,51],.str [49,47,51]] 40 true),(147,.cells [.str [45,49,47,51],.str [45,50,47,51]] 40 true),(148,.cells [.str [51],.str [48]] 40 true)]++A.TB,149,(.bg [(.slice 149 0 3 (some 3) 1),ai 0]),[(443,.cells [.str [50],.str [45,49],.str [45,49]] 40 true)],[]⟩::A.sq
def A.Sk:=⟨135,[.str [50]],ai 0⟩::A.JE
def A.EU:=⟨80,[.str [50]],.agg [ai 2,aj,ai 1,aj]⟩::A.Sk
def A.Sm:=⟨130,[],[],[.slice 403 0 3 none 4,(.func 131 [] [.ptr 410 0])],[(403,.cells [ai 8,aj,ai 1,aj,ai 4,aj,ai 1,aj,ai 2,aj,ai 1,aj] 103 true),(410,.cells [ai 8,aj,ai 1,aj] 103 true)]++A.TB,411,.slice 411 0 3 none 4,[(709,.cells [ai 1,aj,ai 1,aj,ai 1,aj,ai 2,aj,ai 1,aj,ai 4,aj] 103 true)],[]⟩::A.ET
def A.JF:=⟨71,[],[],[.slice 192 0 2 none 1,(.slice 193 0 2 (some 2) 4)],[(192,.cells [(.slice 187 0 1 (some 1) 4),(.slice 190 0 1 (some 1) 4)] 76 true),(187,.cells [ai 1,aj,ai 1,aj] 103 true),(190,.cells [ai 2,aj,ai 1,aj] 103 true),(193,.cells [ai 4,aj,ai 1,aj,ai 1,aj,ai 1,aj] 103 true)]++A.TB,206,.slice 206 0 1 none 1,[(557,.cells [.slice 207 0 2 none 4] 76 true),(555,.cells [ai 1,aj,ai 2,aj,ai 1,aj,ai 4,aj] 103 true)],[]⟩::A.Sm
def A.xw:=⟨150,[.str [53]],.agg [ai 5,aj]⟩::A.EU
def A.So:=⟨62,[],[],[.slice 326 0 1 none 1,.slice 283 0 1 none 1],[(326,.cells [.slice 324 0 1 none 4] 76 true),(324,.cells [ai 10,aj,ai 1,aj] 103 true),(283,.cells [(.slice 274 0 2 (some 2) 4)] 76 true),(274,.cells [ai 1,aj,ai 1,aj,ai 2,aj,ai 1,aj] 103 true)]++A.TB,342,.bg [.slice 342 0 1 none 1,ot],[(634,.cells [.slice 343 4 2 none 4] 76 true),(629,.cells [ai 1,aj,ai 1,aj,ai 1,aj,ai 10,aj,ai 1,aj,ai 5,aj] 103 true)],[]⟩::A.JF
def A.Sp:=⟨26,[],[],[(.slice 160 0 2 (some 2) 1),(.slice 13 0 2 (some 2) 1),.str [53]],[(160,.cells [(.slice 158 0 1 (some 1) 1),(.slice 159 0 1 (some 1) 1)] 23 true),(158,.cells [.str [49]] 40 true),(159,.cells [.str [50]] 40 true),(13,.cells [.str [49],.str [49]] 40 true)]++A.TB,231,.bg [.slice 231 0 1 none 1,ai 0],[(366,.cells [(.slice 232 0 2 (some 2) 1)] 23 true),(354,.cells [.str [49,47,49,48],.str [49,47,53]] 40 true)],[]⟩::A.So
def A.Sq:=⟨27,[],[],[(.slice 160 0 2 (some 2) 1),(.slice 13 0 2 (some 2) 1),(.slice 233 0 2 (some 2) 1),(.slice 234 0 1 (some 1) 1)],[(160,.cells [(.slice 158 0 1 (some 1) 1),(.slice 159 0 1 (some 1) 1)] 23 true),(158,.cells [.str [49]] 40 true),(159,.cells [.str [50]] 40 true),(13,.cells [.str [49],.str [49]] 40 true),(233,.cells [.str [53],.str [48]] 40 true),(234,.cells [.str [49]] 40 true)]++A.TB,235,(.bg [.str [50,48],ai 0]),[],[]⟩::A.Sp
def A.Sr:=⟨85,[],[],[(.slice 313 0 2 (some 2) 4),(.slice 307 0 2 (some 2) 4)],[(313,.cells [ai 1,aj,ai 5,aj,ai 2,aj,ai 5,aj] 103 true),(307,.cells [ai 1,aj,ai 5,aj,ai 2,aj,ai 5,aj] 103 true)]++A.TB,403,.agg [ai 1,aj,ai 5,aj],[],[]⟩::A.Sq
def A.EV:=⟨28,[],[],[(.slice 236 0 1 (some 1) 1),(.slice 13 0 2 (some 2) 1)],[(236,.cells [(.slice 235 0 2 (some 2) 1)] 23 true),(235,.cells [.str [49,47,53],.str [50,47,53]] 40 true),(13,.cells [.str [49],.str [49]] 40 true)]++A.TB,237,(.bg [(.slice 237 0 1 (some 1) 1),ai 0]),[(410,.cells [.str [49,47,53]] 40 true)],[]⟩::A.Sr
def A.Ss:=⟨86,[.agg [ai 4,aj,ai 1,aj],.agg [ai 1,aj,ai 2,aj]],.agg [ai 2,aj,ai 1,aj]⟩::A.xw
def A.jh:=⟨132,[.agg [ai 4,aj,ai 1,aj],.agg [ai 2,aj,ai 1,aj]],.agg [ai 2,aj,ai 1,aj]⟩::A.Ss
def A.Su:=⟨29,[],[],[(.slice 240 0 2 (some 2) 3),ai 2,ai 1],[(240,.cells [ai 0,.str [50],(.slice 238 0 2 (some 2) 1),ai 0,.str [45,49],(.slice 239 0 2 (some 2) 1)] 57 true),(238,.cells [.str [50],.str [52]] 40 true),(239,.cells [.str [45,51],.str [45,50]] 40 true)]++A.TB,241,.bg [.slice 241 0 2 none 1,ai 0],[(459,.cells [(.slice 242 0 1 (some 1) 1),(.slice 243 0 1 (some 1) 1)] 23 true),(441,.cells [.str [50]] 40 true),(453,.cells [.str [50]] 40 true)],[]⟩::A.EV
def A.Sv:=⟨30,[],[],[(.slice 240 0 2 (some 2) 3),ai 2,ai 1],[(240,.cells [ai 0,.str [50],(.slice 238 0 2 (some 2) 1),ai 0,.str [45,49],(.slice 239 0 2 (some 2) 1)] 57 true),(238,.cells [.str [50],.str [52]] 40 true),(239,.cells [.str [45,51],.str [45,50]] 40 true)]++A.TB,244,(.bg [(.slice 244 0 1 (some 1) 1),ai 0]),[(577,.cells [.str [50]] 40 true)],[]⟩::A.Su
def A.Sw:=⟨8,[],[],[(.slice 12 0 2 (some 2) 1),(.slice 13 0 2 (some 2) 1),(.slice 255 0 1 (some 1) 1)],[(12,.cells [(.slice 10 0 3 (some 3) 1),(.slice 11 0 3 (some 3) 1)] 23 true),(10,.cells [.str [49],.str [45,49],.str [48]] 40 true),(11,.cells [.str [48],.str [49],.str [45,49]] 40 true),(13,.cells [.str [49],.str [49]] 40 true),(255,.cells [(.slice 254 0 3 (some 3) 1)] 23 true),(254,.cells [.str [49],.str [48],.str [45,49]] 40 true)]++A.TB,256,.bg [.slice 256 0 1 none 1,ai 0],[(478,.cells [(.slice 257 0 2 (some 2) 1)] 23 true),(466,.cells [.str [49,47,50],.str [49,47,50]] 40 true)],[]⟩::A.Sv
def A.Sx:=⟨42,[],[],[.slice 281 0 2 none 1,(.slice 282 0 2 (some 2) 4),.slice 285 0 1 none 1],[(281,.cells [(.slice 276 0 3 (some 3) 4),(.slice 279 0 3 (some 3) 4)] 76 true),(276,.cells [ai 1,aj,ai 1,aj,ai (-1),aj,ai 1,aj,ai 0,aj,ai 1,aj] 103 true),(279,.cells [ai 0,aj,ai 1,aj,ai 1,aj,ai 1,aj,ai (-1),aj,ai 1,aj] 103 true),(282,.cells [ai 1,aj,ai 1,aj,ai 1,aj,ai 1,aj] 103 true),(285,.cells [(.slice 283 0 3 (some 3) 4)] 76 true),(283,.cells [ai 1,aj,ai 1,aj,ai 1,aj,ai 1,aj,ai 1,aj,ai 1,aj] 103 true)]++A.TB,286,.bg [aj,aG],[],[]⟩::A.Sw
def A.Sy:=⟨31,[],[],[(.slice 288 0 2 (some 2) 1),(.slice 289 0 2 (some 2) 1)],[(288,.cells [(.slice 286 0 3 (some 3) 1),(.slice 287 0 3 (some 3) 1)] 23 true),(286,.cells [.str [49],.str [48],.str [45,49]] 40 true),(287,.cells [.str [48],.str [49],.str [45,49]] 40 true),(289,.cells [.str [50],.str [51]] 40 true)]++A.TB,290,(.bg [(.slice 290 0 3 (some 3) 1),ai 0]),[(484,.cells [.str [50],.str [51],.str [45,53]] 40 true)],[]⟩::A.Sx
def A.Sz:=⟨35,[],[],[(.slice 12 0 2 (some 2) 1),.slice 136 0 1 none 1],[(12,.cells [(.slice 10 0 3 (some 3) 1),(.slice 11 0 3 (some 3) 1)] 23 true),(10,.cells [.str [49],.str [45,49],.str [48]] 40 true),(11,.cells [.str [48],.str [49],.str [45,49]] 40 true),(136,.cells [(.slice 137 0 3 (some 3) 1)] 23 true),(137,.cells [.str [49],.str [49],.str [49]] 40 true)]++A.TB,339,ai 0,[],[]⟩::A.Sy
def A.SA:=⟨130,[],[],[(.slice 899 0 4 (some 4) 4),(.func 131 [] [.ptr 1080 0])],[(899,.cells [ai 0,aj,ai 1,aj,ai 9,aj,ai 2,aj,ai (-3),aj,ai 2,aj,ai 3,aj,ai 2,aj] 103 true),(1080,.cells [ai 9,aj,ai 2,aj] 103 true)]++A.TB,1081,.slice 1081 0 4 none 4,[(1324,.cells [ai 0,aj,ai 1,aj,ai 1,aj,ai 1,aj,ai (-1),aj,ai 3,aj,ai 1,aj,ai 3,aj] 103 true)],[]⟩::A.Sz
def A.SB:=⟨68,[],[],[.slice 894 0 4 none 4,.slice 1081 0 4 none 4,(.func 133 [] [.ptr 1082 0])],[(894,.cells [ai 1,aj,ai 1,aj,ai 1,aj,ai 2,aj,ai 1,aj,ai 2,aj,ai 1,aj,ai 2,aj] 103 true),(1081,.cells [ai 0,aj,ai 1,aj,ai 1,aj,ai 1,aj,ai (-1),aj,ai 3,aj,ai 1,aj,ai 3,aj] 103 true),(1082,.cells [ai 1,aj,ai 2,aj] 103 true)]++A.TB,1085,(.slice 1085 0 4 (some 4) 4),[(1085,.cells [ai 1,aj,ai 1,aj,ai 0,aj,ai 1,aj,ai 2,aj,ai 3,aj,ai 1,aj,ai 3,aj] 103 true)],[]⟩::A.SA
def A.SC:=⟨62,[],[],[.slice 858 0 2 none 1,.slice 697 0 2 none 1],[(858,.cells [.slice 775 0 2 none 4,.slice 856 0 2 none 4] 76 true),(775,.cells [ai 2,aj,ai 1,aj,ai 1,aj,ai 1,aj] 103 true),(856,.cells [ai 1,aj,ai 1,aj,ai 5,aj,ai 1,aj] 103 true),(697,.cells [(.slice 678 0 2 (some 2) 4),(.slice 688 0 2 (some 2) 4)] 76 true),(678,.cells [ai 1,aj,ai 1,aj,ai 1,aj,ai 1,aj] 103 true),(688,.cells [ai (-1),aj,ai 1,aj,ai 2,aj,ai 1,aj] 103 true)]++A.TB,859,.bg [.slice 859 0 2 none 1,ot],[(1092,.cells [(.slice 860 8 2 (some 2) 4),.slice 861 8 2 none 4] 76 true),(1085,.cells [ai 1,aj,ai 1,aj,ai 0,aj,ai 1,aj,ai 2,aj,ai 3,aj,ai 1,aj,ai 3,aj] 103 true),(1081,.cells [ai 0,aj,ai 1,aj,ai 1,aj,ai 1,aj,ai (-1),aj,ai 3,aj,ai 1,aj,ai 3,aj] 103 true)],[]⟩::A.SB
def A.SD:=⟨42,[],[],[.slice 364 0 2 none 1,(.slice 365 0 2 (some 2) 4),(.slice 366 0 2 (some 2) 1)],[(364,.cells [(.slice 359 0 3 (some 3) 4),(.slice 362 0 3 (some 3) 4)] 76 true),(359,.cells [ai 1,aj,ai 1,aj,ai (-1),aj,ai 1,aj,ai 0,aj,ai 1,aj] 103 true),(362,.cells [ai 0,aj,ai 1,aj,ai 1,aj,ai 1,aj,ai (-1),aj,ai 1,aj] 103 true),(365,.cells [ai 1,aj,ai 1,aj,ai 1,aj,ai 1,aj] 103 true),(366,.cells [(.slice 414 0 3 (some 3) 4),.slice 410 0 3 none 4] 76 true),(414,.cells [ai 1,aj,ai 1,aj,ai 0,aj,ai 1,aj,ai (-1),aj,ai 1,aj] 103 true),(410,.cells [ai 0,aj,ai 1,aj,ai 1,aj,ai 1,aj,ai (-1),aj,ai 1,aj] 103 true)]++A.TB,479,.bg [.slice 479 0 2 none 1,ot],[(859,.cells [(.slice 480 8 2 (some 2) 4),.slice 481 8 2 none 4] 76 true),(860,.cells [ai 1,aj,ai 1,aj,ai 0,aj,ai 1,aj,ai 2,aj,ai 3,aj,ai 1,aj,ai 3,aj] 103 true),(861,.cells [ai 0,aj,ai 1,aj,ai 1,aj,ai 1,aj,ai (-1),aj,ai 3,aj,ai 1,aj,ai 3,aj] 103 true)],[]⟩::A.SC
def A.SE:=⟨94,[],[],[.slice 526 0 2 none 1,(.func 140 [.slice 506 0 2 none 4] [])],[(526,.cells [.slice 515 0 2 none 4,.slice 524 0 2 none 4] 76 true),(515,.cells [ai 2,aj,ai 3,aj,ai (-1),aj,ai 3,aj] 103 true),(524,.cells [ai 1,aj,ai 3,aj,ai 1,aj,ai 3,aj] 103 true),(506,.cells [ai (-1),aj,ai 1,aj,ai (-1),aj,ai 1,aj] 103 true)]++A.TB,626,.slice 626 0 2 none 4,[(897,.cells [ai (-1),aj,ai 3,aj,ai (-2),aj,ai 3,aj] 103 true)],[]⟩::A.SD
def A.SF:=⟨71,[],[],[.slice 364 0 2 none 1,(.slice 365 0 2 (some 2) 4)],[(364,.cells [(.slice 359 0 3 (some 3) 4),(.slice 362 0 3 (some 3) 4)] 76 true),(359,.cells [ai 1,aj,ai 1,aj,ai (-1),aj,ai 1,aj,ai 0,aj,ai 1,aj] 103 true),(362,.cells [ai 0,aj,ai 1,aj,ai 1,aj,ai 1,aj,ai (-1),aj,ai 1,aj] 103 true),(365,.cells [ai 1,aj,ai 1,aj,ai 1,aj,ai 1,aj] 103 true)]++A.TB,366,.slice 366 0 3 none 1,[(628,.cells [.slice 367 0 2 none 4,.slice 368 0 2 none 4,.slice 369 0 2 none 4] 76 true),(589,.cells [ai 2,aj,ai 3,aj,ai 1,aj,ai 3,aj] 103 true),(623,.cells [ai (-1),aj,ai 3,aj,ai 1,aj,ai 3,aj] 103 true),(626,.cells [ai (-1),aj,ai 3,aj,ai (-2),aj,ai 3,aj] 103 true)],[]⟩::A.SE
def A.NS:=⟨36,[],[],[(.slice 12 0 2 (some 2) 1),(.slice 13 0 2 (some 2) 1),.slice 144 0 3 none 1],[(12,.cells [(.slice 10 0 3 (some 3) 1),(.slice 11 0 3 (some 3) 1)] 23 true),(10,.cells [.str [49],.str [45,49],.str [48]] 40 true),(11,.cells [.str [48],.str [49],.str [45,49]] 40 true),(13,.cells [.str [49],.str [49]] 40 true),(144,.cells [(.slice 145 0 2 (some 2) 1),(.slice 146 0 2 (some 2) 1),(.slice 147 0 2 (some 2) 1)] 23 true),(145,.cells [.str [50,47,51],.str [49,47,51]] 40 true),(146,.cells [.str [45,49,47,51],.str [49,47,51]] 40 true),(147,.cells [.str [45,49,47,51],.str [45,50,47,51]] 40 true)]++A.TB,339,ai 0,[],[]⟩::A.SF
def A.Y5:=⟨7,[],ot⟩::A.jh
def A.mixed:Tryz.prog.follows .mixedOrders=true:=by kernel_rfl
def A.names:(Tryz.prog.funcs.toList.all fun fn=>!(fn.name== "runtime.NumGoroutine"))=true:=by kernel_rfl
def A.exts:((List.range Tryz.prog.funcs.size).all fun i=>match Tryz.prog.funcs[i]? with
  |some fn=>fn.body.isSome||(ya fn.name).isNone||EW i [239,241,282,289]
  |none=>true)=true:=by kernel_rfl
def A.globals:Tryz.prog.globals.size=10:=by kernel_rfl
def A.SG(fn:Func)(e:Ext)(hf:Tryz.prog.funcs[239]?=some fn)(he:ya fn.name=some e):(fn.name== "runtime.NumGoroutine")=false/\Extern.findNext fn=none/\Extern.find fn=some (EX e):=by
 obtain rfl:fn=Tryz.f239:=(pk (Tryz.func239.symm.trans hf)).symm
 obtain rfl:e=.eW:=(pk ((show ya Tryz.f239.name=some .eW by kernel_rfl).symm.trans he)).symm
 exact⟨by kernel_rfl,by kernel_rfl,by kernel_rfl⟩
def A.SH(fn:Func)(e:Ext)(hf:Tryz.prog.funcs[241]?=some fn)(he:ya fn.name=some e):(fn.name== "runtime.NumGoroutine")=false/\Extern.findNext fn=none/\Extern.find fn=some (EX e):=by
 obtain rfl:fn=Tryz.f241:=(pk (Tryz.func241.symm.trans hf)).symm
 obtain rfl:e=.iH:=(pk ((show ya Tryz.f241.name=some .iH by kernel_rfl).symm.trans he)).symm
 exact⟨by kernel_rfl,by kernel_rfl,by kernel_rfl⟩
def A.SI(fn:Func)(e:Ext)(hf:Tryz.prog.funcs[282]?=some fn)(he:ya fn.name=some e):(fn.name== "runtime.NumGoroutine")=false/\Extern.findNext fn=none/\Extern.find fn=some (EX e):=by
 obtain rfl:fn=Tryz.f282:=(pk (Tryz.func282.symm.trans hf)).symm
 obtain rfl:e=.same:=(pk ((show ya Tryz.f282.name=some .same by kernel_rfl).symm.trans he)).symm
 exact⟨by kernel_rfl,by kernel_rfl,by kernel_rfl⟩
def A.SJ(fn:Func)(e:Ext)(hf:Tryz.prog.funcs[289]?=some fn)(he:ya fn.name=some e):(fn.name== "runtime.NumGoroutine")=false/\Extern.findNext fn=none/\Extern.find fn=some (EX e):=by
 obtain rfl:fn=Tryz.f289:=(pk (Tryz.func289.symm.trans hf)).symm
 obtain rfl:e=.bM:=(pk ((show ya Tryz.f289.name=some .bM by kernel_rfl).symm.trans he)).symm
 exact⟨by kernel_rfl,by kernel_rfl,by kernel_rfl⟩
def A.EY:tC Tryz.prog:=by
 intro g fn e hf hb he
 have h:=lA.1 A.exts g (yb.2 (by
  rcases Nat.lt_or_ge g Tryz.prog.funcs.size with h|h
  ·exact h
  ·rw[Array.getElem?_eq_none h]at hf;cases hf))
 rw[hf]at h
 simp only[hb,he,Option.isNone_some,Bool.or_false,Bool.false_or]at h
 have hm:=JG.1 h
 simp only[kv,List.mem_nil_iff,or_false]at hm
 rcases hm with rfl|rfl|rfl|rfl
 ·exact A.SG fn e hf he
 ·exact A.SH fn e hf he
 ·exact A.SI fn e hf he
 ·exact A.SJ fn e hf he
def A.yR:C6 Tryz.prog A.dG 10 where
 m:=A.mixed
 e:=A.EY
 t:=fun f mf hf=>⟨hf,fun fn Aw=>by
  have h:=lA.1 A.names fn (Array.mem_toList_iff.2 (Array.mem_of_getElem? Aw))
  simpa using h⟩
 g:=A.globals
end Go.Mx
