/-The seat-/
import Derived.Test.YtjjmkflbfpeagaaGreatDoorMxUtf
import Derived.Test.YtjjmkflbfpeagaaGreatDoorProg
import Derived.Deep.Slices
import Derived.Lib.LaidTab
import Derived.LaidSub
import Derived.ChangeShapes
import Derived.WideShapes
import Derived.Test.YtjjmkflbfpeagaaGreatDoorChecked
set_option linter.all false
namespace Go.Mx
noncomputable section
open Go Go.Proofs
set_option maxRecDepth 1000000
abbrev A.F(n:Nat):=wv Tryz.prog n
def mv(a b:Nat):dk:=⟨some a,.mF (.tmp b),none⟩
def mc(a:Nat)(n:Int):dk:=⟨some a,.mF (.const (.int .i64 n)),none⟩
def ia(a z x i:Nat):dk:=⟨some a,.c_ z (.tmp x) (.tmp i),none⟩
def ld(a x:Nat):dk:=⟨some a,.load none (.tmp x),none⟩
def xt(a x i:Nat):dk:=⟨some a,.extract (.tmp x) i,none⟩
def bi(a:Nat)(o:BinOp)(x y:Nat):dk:=⟨some a,.bin o (.node []) false (.tmp x) (.tmp y),none⟩
def bc(a:Nat)(o:BinOp)(x:Nat)(n:Int):dk:=⟨some a,.bin o (.node []) false (.tmp x) (.const (.int .i64 n)),none⟩
def ln(a x:Nat):dk:=⟨some a,.len 1 (.tmp x),none⟩
def so(a x:Nat):dk:=⟨none,.store 1 (.tmp a) (.tmp x),none⟩
def c1(a f x:Nat):dk:=⟨some a,.call (.const (.func f [] [])) [.tmp x],none⟩
def c2(a f x y:Nat):dk:=⟨some a,.call (.const (.func f [] [])) [.tmp x,.tmp y],none⟩
def lN(a n x:Nat):dk:=⟨some a,.load (some n) (.tmp x),none⟩
def fa(a o x:Nat):dk:=⟨some a,.og o (.tmp x),none⟩
def pf(a x y:Nat):dk:=⟨some a,.pick (.tmp x) (.tmp y) (.const (.bool false)),none⟩
def pt(a x y:Nat):dk:=⟨some a,.pick (.tmp x) (.const (.bool true)) (.tmp y),none⟩
def ei(a x:Nat)(n:Int):dk:=⟨some a,.bin .eql (.cQ .int) true (.tmp x) (.const (.int .i64 n)),none⟩
def ni(a x:Nat)(n:Int):dk:=⟨some a,.bin .neq (.cQ .int) true (.tmp x) (.const (.int .i64 n)),none⟩
def mN(a:Nat):dk:=⟨some a,.mF (.const .aa),none⟩
def bx(a e x:Nat):dk:=⟨some a,.box e (.tmp x),none⟩
def mg(a x g:Nat):dk:=⟨some a,.mF (.tmp x),some (g,true)⟩
def mh(a x g:Nat):dk:=⟨some a,.mF (.tmp x),some (g,false)⟩
def sr(l:List dk)(c:cj):cj:=.seq (.fL l) c
def cd(x:Nat)(a b:cj):cj:=.cond (.tmp x) a b
def ge(a:Nat)(o:fS):dk:=⟨some a,o,none⟩
def gn(o:fS):dk:=⟨none,o,none⟩
def gy(a g:Nat)(o:fS):dk:=⟨some a,o,some (g,true)⟩
def gz(a g:Nat)(o:fS):dk:=⟨some a,o,some (g,false)⟩
abbrev tq(x:Nat):Src:=.tmp x
abbrev kq(n:Int):Src:=.const (.int .i64 n)
abbrev fq(f:Nat):Src:=.const (.func f [] [])
attribute [simp] zq BP mv mc ia ld xt bi bc ln so c1 c2 lN fa pf pt ei ni mN bx mg mh sr cd ge gn gy gz
def A.J1:O:=.cells (([1,10,100,1000,10000,100000,1000000,10000000,100000000,1000000000,10000000000,100000000000,1000000000000,10000000000000,100000000000000,1000000000000000,10000000000000000,100000000000000000,1000000000000000000,10000000000000000000]:List Int).map fun z=>.int .u64 z) 330 false
def A.TB:List (Nat×O):=[(5,A.J1)]
def A.C:Cx:=⟨Ha A.TB [⟨5,[],.bool true⟩],wv Tryz.prog⟩
def A.t:A.C.dw=wv Tryz.prog:=rfl
def A.x0{f:Nat}{a c args:List V}{st:St}(h:Nat.beq 5 f=false):A.C.x (.func f a c) args st=none:=by
 show Ha A.TB [⟨5,[],.bool true⟩] (.func f a c) args st=none
 unfold Ha
 split
 ·rename_i heq
  simp only[V.func.injEq]at heq
  obtain⟨rfl,rfl,rfl⟩:=heq
  simp only[G9,h]
 ·rfl
def Yqe(P:Program)(fn:Func):cj:=match fn.body with
 |some c=>ij P c
 |none=>.skip
def Cs:cj->List cj
 |.seq a b=>Cs a++Cs b
 |.cond _ a b=>Cs a++Cs b
 |.block _ a=>Cs a
 |.scope a=>Cs a
 |.loop a=>a::Cs a
 |_=>[]
def A6:List cj->cj->cj×List cj
 |ls,.seq a b=>match A6 ls a with
  |(a,ls)=>match A6 ls b with
   |(b,ls)=>(.seq a b,ls)
 |ls,.cond s a b=>match A6 ls a with
  |(a,ls)=>match A6 ls b with
   |(b,ls)=>(.cond s a b,ls)
 |ls,.block k a=>match A6 ls a with
  |(a,ls)=>(.block k a,ls)
 |ls,.scope a=>match A6 ls a with
  |(a,ls)=>(.scope a,ls)
 |l::ls,.loop _=>(.loop l,ls)
 |ls,c=>(c,ls)
@[simp] def A.q (f:Func) {b:cj} (_h:Yqe Tryz.prog f=b:=by conv=>lhs;cbv):cj:=b
@[simp] def A.ql (w:cj) (i:Nat) (ls:List cj) {b:cj} (_h:(A6 ls ((Cs w)[i]?.getD .skip)).1=b:=by conv=>lhs;cbv):cj:=b
@[simp] def A.qb (w:cj) (ls:List cj) {b:cj} (_h:(A6 ls w).1=b:=by conv=>lhs;cbv):cj:=b
def ED:List Nat->cj->cj
 |0::p,.seq a _=>ED p a
 |_::p,.seq _ b=>ED p b
 |0::p,.cond _ a _=>ED p a
 |_::p,.cond _ _ b=>ED p b
 |_::p,.block _ a=>ED p a
 |_::p,.scope a=>ED p a
 |_,c=>c
def EE(x:cj):List Nat->cj->cj
 |0::p,.seq a b=>.seq (EE x p a) b
 |_::p,.seq a b=>.seq a (EE x p b)
 |0::p,.cond s a b=>.cond s (EE x p a) b
 |_::p,.cond s a b=>.cond s a (EE x p b)
 |_::p,.block k a=>.block k (EE x p a)
 |_::p,.scope a=>.scope (EE x p a)
 |_,_=>x
def Yqn:List (List Nat×cj)->cj->cj
 |[],w=>w
 |(p,x)::l,w=>Yqn l (EE x p w)
@[simp] def A.qt (w:cj) (ls:List cj) (cs:List (List Nat×cj)) (p:List Nat) {b:cj} (_h:ED p (Yqn cs (A6 ls w).1)=b:=by conv=>lhs;cbv):cj:=b
def A.kk{n k:Nat}{res:List Dk}{b:cj}(hc:wv Tryz.prog n=some ⟨k,res,b⟩)(hx:Nat.beq 5 n=false){K:List Kf}{Q:Rs->Prop}{f c args:List V}{st:St}(h:(f++args++c).length<=k):bD A.C K (qi (A.C.call (.func n f c) args st)) Q↔bD A.C (.fin res st::K) (eR (A.C.code none b ⟨wJ .nil 0 (f++args++c),k,[]⟩ ⟨st.h,st.n,[]⟩)) Q:=Ye8 (A.x0 (f:=n) hx) (mf:=⟨k,res,b⟩) (by rw[A.t];exact hc) h
def A.known{h:T O}{N:Nat}{w:List Nat}(hp:h.get 5=some A.J1):A.C.call (.func 5 [] []) [] ⟨h,N,w⟩=some (.bool true,⟨h,N,w⟩):=by
 have hq:G8 (h.get 5) A.J1=true:=by rw[hp];decide+kernel
 have hi:Cm ⟨h,N,w⟩ A.TB=true:=by
  show (match G8 (h.get 5) A.J1 with|true=>true|false=>false)=true
  rw[hq]
 have hx:A.C.x (.func 5 [] []) [] ⟨h,N,w⟩=some (.bool true,⟨h,N,w⟩):=by
  show (match Cm ⟨h,N,w⟩ A.TB with|true=>some (V.bool true,(⟨h,N,w⟩:St))|false=>none)=_
  rw[hi]
 rw[Cx.px]
 unfold qG
 rw[hx]
open Go
inductive Ysf where
 |nil
 |emp (b:Addr)
 |sl (b:Addr) (l c:Nat) (f:Nat->ByteArray)
def A7(W:World)(a:Addr):TypeId:=match W.heap[a.block]? with
 |some (.cells _ e _)=>e
 |_=>0
def Zwo{W:World}{a:Addr}{n:Nat}{f:Nat->Value}(hn:0<n)(hc:∀i,i<n->W.cell? (a.add i)=some (f i)):
  ∃c' lo hi,W.heap[a.block]?=some (.cells c' (A7 W a) (lo,hi))/\a.spot=none/\(∀i,i<n->c'[a.off+i]?=some (f i))/\a.off+n<=c'.size/\a.block<W.heap.size:=by
 have h0:=hc 0 hn
 have T5:a.add 0=a:=by simp[Addr.add]
 rw[T5]at h0
 obtain⟨c',e,fr,hb⟩:∃c' e fr,W.heap[a.block]?=some (.cells c' e fr):=by
  unfold World.cell? at h0
  split at h0
  ·rename_i c' e fr hb;exact⟨c',e,fr,hb⟩
  ·cases h0
 have hs:a.spot=none:=by
  unfold World.cell? at h0
  rw[hb]at h0
  simp only at h0
  split at h0
  ·cases h0
  ·rename_i h;simpa using h
 have fO:∀i,i<n->c'[a.off+i]?=some (f i):=fun i hi=>by
  have:=hc i hi
  unfold World.cell? at this
  have e1:(a.add i).block=a.block:=by unfold Addr.add;split<;>rfl
  have e2:(a.add i).off=a.off+i:=by unfold Addr.add;split<;>simp_all
  have e3:(a.add i).spot=none:=by unfold Addr.add;split<;>simp_all
  rw[e1,hb]at this
  simp only[e2,e3,Option.isSome_none,fY,if_false]at this
  exact this
 have aO:a.block<W.heap.size:=by
  rcases Nat.lt_or_ge a.block W.heap.size with h|h
  ·exact h
  ·rw[Array.getElem?_eq_none h]at hb;cases hb
 have eF:a.off+n<=c'.size:=by
  have:=fO (n-1) (by omega)
  have h2:=(Array.getElem?_eq_some_iff.1 this).1
  omega
 obtain⟨lo,hi⟩:=fr
 exact⟨c',lo,hi,by rw[hb];simp[A7,hb],hs,fO,eF,aO⟩
structure On where
 a:Addr
 n:Nat
 f:Nat->Value
 g:Nat->V
def On.ok(W:World)(r:On):Prop:=0<r.n/\(∀i,i<r.n->W.cell? (r.a.add i)=some (r.f i))/\∀i,i<r.n->(r.f i).oneCell'=true
def Zqt{P:Program}{dw:Nat->Option jX}{G:Nat}(hP:Bu P dw G){x:cH}(hx:iO P x){F d:Nat}{f:FuncId}{mf:jX}(hf:wv P f=some mf){args:List V}{xs:List Value}{v:V}{y:Value}{S:St}{μ:Mu}{W:World}
  (h:Yok (Az mf (dH (wQ x dw F d) F) args S) v) (hh:a_ P μ W S) (hS:S.w=[]) (yk:aP μ args xs) (hv:∀μ z,VR μ v z->z=y):
  Calls P f ⟨xs⟩ W fun e W'=>e=.returned y/\RowKit.Below W.heap.size W W':=by
 obtain⟨s,bH,hw⟩:=h.ex
 obtain⟨fn,zE,_⟩:=Za hf
 have ih:=Oa hP.m hP.e hP.t hx F d
 have:=Y7 (Yu ih hP.e (YV hP.m hP.e ih) (Zh ih hP.e) (Zb ih) F) zE hf hh yk bH
 refine callsIn_wide.1 (CallsIn.mono (F:=Fence.wide) this fun e W' he=>?_)
 cases e with
 |returned z=>
  obtain⟨μ',ws,h1,h2⟩:=he
  have oz:ws=[]:=by have:=h2.wl;rw[hw,hS]at this;simpa using this.symm
  subst oz
  exact⟨by rw[hv _ _ h1],h2.dV.os,h2.dV.tape,h2.dV.output,h2.dV.size,fun k hk=>h2.dV.block k hk fun i hi=>by cases hi⟩
 |panicked _=>exact he.elim
 |outgrown=>exact he.elim
def Cx.calls{P:Program}{C:Cx}{G:Nat}(hP:Bu P C.dw G)(hx:iO P C.x){f:Nat}{mf:jX}(hf:wv P f=some mf)(ht:C.dw f=some mf){args:List V}{xs:List Value}{v:V}{y:Value}{S:St}{μ:Mu}{W:World}
  (hn:∀st,C.x (.func f [] []) args st=none) (h:Fn C f args S.h S.n (fun u _ _=>u=v)) (hh:a_ P μ W S) (hS:S.w=[]) (yk:aP μ args xs) (hv:∀μ z,VR μ v z->z=y):
  Calls P f ⟨xs⟩ W fun e W'=>e=.returned y/\RowKit.Below W.heap.size W W':=by
 obtain⟨u,ax,hc,hw,hk,hu⟩:=(h []).ex
 subst hu
 have hS':(⟨S.h,S.n,[]⟩:St)=S:=by obtain⟨a,b,c⟩:=S;simp only at hS;subst hS;rfl
 rw[hS']at hc
 rw[Cx.px]at hc
 unfold qG at hc
 rw[hn]at hc
 simp only at hc
 obtain⟨n,AE⟩:=Zq (q:=fun n=>dH (C.at n) n) (fun n m hnm=>xY (Cx.dN hnm) n m hnm) (fun _ _ _ _ _ e=>Cx.oD e) hc
 unfold vE at AE
 simp only[ht,List.nil_append,yX]at AE
 exact Zqt (F:=n) (d:=n) hP hx hf ⟨_,AE,hw⟩ hh hS yk hv
variable {P:Program} {S:St} {W:World} {μ:Mu}
def tf(tb:List (Nat×O))(i:Nat):Nat:=match lk tb i with
 |some (.cells c _ _)=>c.length
 |_=>0
def iL(P:Program)(W:World)(tb:List (Nat×O)):Prop:=∀i o,lk tb i=some o->∀μ,OM P μ W o ⟨i,0,tf tb i⟩
def iL.one{g:Nat}{k:IntKind}{zs:List Int}{e:TypeId}{f:Nat×Nat}(h:W.heap[g]?=some (.cells (zs.map fun z=>Value.int k z).toArray e f)):iL P W [(g,.cells (zs.map fun z=>V.int k z) e false)]:=by
 intro i o ho μ
 obtain⟨lo,hi⟩:=f
 simp only[lk]at ho
 split at ho
 ·rename_i hb
  have:=iE hb
  subst this
  simp only[ak]at ho
  subst ho
  have hl:tf [(g,O.cells (zs.map fun z=>V.int k z) e false)] g=zs.length:=by simp[tf,lk,hb]
  rw[hl]
  refine⟨_,lo,hi,h,by simp,by simp,fun j v hv=>?_,fun j x hj hx=>?_,fun h=>by cases h⟩
  ·rw[ko]at hv
   cases hz:zs[j]? with
   |none=>rw[hz]at hv;cases hv
   |some z=>
    rw[hz]at hv
    simp only[Aq,ak]at hv
    subst hv
    exact⟨.int k z,by simp[hz],by simp[VR]⟩
  ·simp only[vW,List.getElem?_toArray,ko,fZ]at hx
   obtain⟨z,_,rfl⟩:=hx
   rfl
 ·cases ho
structure EF (P:Program) (W:World) (μ:Mu) (S:St):Prop where
 hr:a_ P μ W S
 w:S.w=[]
 ro:∀i l o,μ i=some l->S.h.get i=some o->o.wr=false
structure Hg (μ:Mu) (S:St) (μ':Mu) (S':St):Prop where
 mu:∀i l,μ i=some l->μ' i=some l
 ae:ad S.h S.n S'.h S'.n
def Hg.trans{μ1 μ2:Mu}{S1 S2:St}(a:Hg μ S μ1 S1)(b:Hg μ1 S1 μ2 S2):Hg μ S μ2 S2:=⟨fun i l h=>b.mu i l (a.mu i l h),a.ae.trans b.ae⟩
def Yjn{tb:List (Nat×O)}{G:Nat}(hG:P.globals.size=G)(hW:G<=W.heap.size)(kZ:JS G tb=true)(BN:iL P W tb):∃μ,EF P W μ (AW G tb):=by
 subst hG
 have get:∀i,i<P.globals.size->(AW P.globals.size tb).h.get i=some (match lk tb i with|some o=>o|none=>.dead):=fun i hi=>by
  show (qS (wR P.globals.size) tb).get i=_
  rw[zL]
  cases lk tb i with
  |some o=>rfl
  |none=>exact NY _ _ hi
 have hwr:∀i o,i<P.globals.size->(AW P.globals.size tb).h.get i=some o->o.wr=false:=fun i o hi ho=>by
  rw[get i hi]at ho
  simp only[ak]at ho
  cases hl:lk tb i with
  |none=>rw[hl]at ho;subst ho;rfl
  |some o'=>
   rw[hl]at ho
   simp only at ho
   subst ho
   have:=(TA kZ hl).2
   cases o' with
   |cells c e rw=>cases rw with
    |true=>cases this
    |false=>rfl
   |_=>cases this
 have Oo:∀i l,(fun i=>if i<P.globals.size then some (⟨i,0,tf tb i⟩:L) else none) i=some l->i<P.globals.size/\l=⟨i,0,tf tb i⟩:=fun i l h=>by
  simp only at h
  split at h
  ·rename_i hi;simp only[ak]at h;exact⟨hi,h.symm⟩
  ·cases h
 refine⟨fun i=>if i<P.globals.size then some ⟨i,0,tf tb i⟩ else none,⟨fun i l hl=>?_,fun i l hl=>?_,fun i j l l' o o' hi hj bK ho ux hw ph=>?_,fun g hg=>⟨tf tb g,by simp[hg]⟩⟩,rfl,fun i l o hl ho=>?_⟩
 ·obtain⟨h,rfl⟩:=Oo i l hl
  exact⟨h,by simp only;omega⟩
 ·obtain⟨h,rfl⟩:=Oo i l hl
  refine⟨_,get i h,?_⟩
  cases fz:lk tb i with
  |none=>trivial
  |some o=>exact BN i o fz _
 ·rw[hwr i o (Oo i l hi).1 ho]at hw;cases hw
 ·exact hwr i o (Oo i l hl).1 ho
def Yi4{tb:List (Nat×O)}{G g:Nat}{o:O}(h:lk tb g=some o):(AW G tb).h.get g=some o:=by
 show (qS (wR G) tb).get g=_
 rw[zL,h]
def EF.row(s:EF P W μ S){r:On}(kZ:r.ok W)(hv:∀i,i<r.n->VR μ (r.g i) (r.f i)):
  ∃μ' S',EF P W μ' S'/\Hg μ S μ' S'/\S'.n=S.n+1/\μ' S.n=some ⟨r.a.block,r.a.off,r.n⟩/\S'.h.get S.n=some (.cells ((List.range r.n).map r.g) (A7 W r.a) false):=by
 obtain⟨g1,g2,g3⟩:=kZ
 obtain⟨c',lo,hi,hb,hs,fO,eF,aO⟩:=Zwo g1 g2
 have dr:∀i l,μ i=some l->(fun i=>if i=S.n then some (⟨r.a.block,r.a.off,r.n⟩:L) else μ i) i=some l:=fun i l hl=>by
  have:=(s.hr.cU i l hl).1
  simp only
  rw[aq (by omega)];exact hl
 have th:∀i l,(fun i=>if i=S.n then some (⟨r.a.block,r.a.off,r.n⟩:L) else μ i) i=some l->(i=S.n/\l=⟨r.a.block,r.a.off,r.n⟩)\/(i≠S.n/\μ i=some l):=fun i l h=>by
  simp only at h
  split at h
  ·rename_i e;simp only[ak]at h;exact .inl ⟨e,h.symm⟩
  ·rename_i e;exact .inr ⟨e,h⟩
 have vF:(S.h.set S.n (.cells ((List.range r.n).map r.g) (A7 W r.a) false)).get S.n=some (.cells ((List.range r.n).map r.g) (A7 W r.a) false):=by simp[T.ai]
 have hold:∀i,i≠S.n->(S.h.set S.n (.cells ((List.range r.n).map r.g) (A7 W r.a) false)).get i=S.h.get i:=fun i hi=>by simp[T.ai,hi]
 have kR:∀i l o,(fun i=>if i=S.n then some (⟨r.a.block,r.a.off,r.n⟩:L) else μ i) i=some l->(S.h.set S.n (.cells ((List.range r.n).map r.g) (A7 W r.a) false)).get i=some o->o.wr=false:=fun i l o hl ho=>by
  rcases th i l hl with⟨rfl,rfl⟩|⟨h1,h2⟩
  ·rw[vF]at ho;simp only[ak]at ho;subst ho;rfl
  ·rw[hold i h1]at ho;exact s.ro i l o h2 ho
 refine⟨_,⟨S.h.set S.n (.cells ((List.range r.n).map r.g) (A7 W r.a) false),S.n+1,[]⟩,⟨⟨fun i l hl=>?_,fun i l hl=>?_,fun i j l l' o o' iV hj bK ho ux hw ph=>?_,fun g hg=>?_⟩,rfl,kR⟩,⟨dr,by simp,fun i hi=>hold i (by omega)⟩,rfl,by simp,vF⟩
 ·rcases th i l hl with⟨rfl,rfl⟩|⟨h1,h2⟩
  ·exact⟨by simp,aO⟩
  ·obtain⟨q1,q2⟩:=s.hr.cU i l h2
   exact⟨by simp only;omega,q2⟩
 ·rcases th i l hl with⟨rfl,rfl⟩|⟨h1,h2⟩
  ·refine⟨_,vF,c',lo,hi,hb,eF,by simp,fun j v hvj=>?_,fun j x hj hx=>?_,fun h=>by cases h⟩
   ·have hj:j<r.n:=by have:=(zo.1 hvj).1;simpa using this
    have D4:v=r.g j:=by simpa[hj]using hvj.symm
    subst D4
    exact⟨_,fO j hj,VR.mono dr _ _ (hv j hj)⟩
   ·have hj:j<r.n:=hj
    rw[fO j hj]at hx
    simp only[ak]at hx
    subst hx
    exact g3 j hj
  ·obtain⟨o,q1,q2⟩:=s.hr.obj i l h2
   exact⟨o,by rw[hold i h1];exact q1,q2.mono dr⟩
 ·rw[kR i l o iV ho]at hw;cases hw
 ·obtain⟨t,ht⟩:=s.hr.gj g hg
  exact⟨t,dr _ _ ht⟩
def EF.slice(s:EF P W μ S){r:On}(kZ:r.ok W)(hv:∀i,i<r.n->VR μ (r.g i) (r.f i)){len cap z:Nat}(hn:r.n=cap*z)(hl:len<=cap)(hz:0<z):
  ∃μ' S' i,EF P W μ' S'/\Hg μ S μ' S'/\VR μ' (.slice i 0 len (some cap) z) (.slice (some r.a) len cap)/\i<S'.n/\S'.h.get i=some (.cells ((List.range r.n).map r.g) (A7 W r.a) false):=by
 obtain⟨μ',S',q1,q2,q3,q4,q5⟩:=s.row kZ hv
 refine⟨μ',S',S.n,q1,q2,?_,by omega,q5⟩
 obtain⟨⟨b,off,sp⟩,n,f,g⟩:=r
 obtain⟨g1,g2,_⟩:=kZ
 obtain⟨_,_,_,_,hs,_,_,_⟩:=Zwo g1 g2
 simp only at hs hn q4
 subst hs
 simp only[VR]
 exact⟨⟨b,off,n⟩,cap,q4,by simp,hl,by simp[hn],fun k hk=>by simpa using hk,fun h=>by cases h⟩
inductive Ysh where
 |nil
 |emp (b:Addr)
 |sl (b:Addr) (l c:Nat) (f:Nat->Int)
inductive Ysg where
 |nil
 |emp (b:Addr)
 |sl (b:Addr) (l c:Nat) (F:Nat->Ysf)
open Go Go.ChangeShapes Go.WideShapes Go.RowKit Go.Deep
def pD{P:Program}{W:World}{laid:List (String×DataW Unit)}{name:String}{k:IntKind}{zs:List Int}{g:Nat}{t e:TypeId}{n:Nat}{z:Array Value}
  (hg:P.globalNamed name=some g) (J2:(P.globals[g]?).map (·.type)=some t) (ht:P.underlying t=some (.array n e)) (he:P.underlying e=some (.int k)) (hce:P.cellsOf e=1) (ZG:P.cellsOf t=n)
  (hf:laid.filter (fun x=>x.1==name)=[(name,Lib.tabData k zs)]) (aO:g<P.globals.size) (hz:((begin P (fun _ _=>0) default).world.heap[g]?).bind Obj.row?=some (z,t))
  (hl:laidMet P laid W) (hs:W.ShapedOpen P):iL P W [(g,.cells (zs.map fun z=>V.int k z) t false)]:=by
 have h1:=laidMet.filter (fun x=>x.1==name) hl
 rw[hf]at h1
 have h2:=Lib.tabIs_of_head hg J2 ht he hce ZG h1
 unfold Lib.TabIs World.var? at h2
 rw[hg]at h2
 obtain⟨cs,h3,_⟩:=hs.1 g z t aO hz
 simp only[Option.bind_some,h3,ak]at h2
 subst h2
 exact iL.one h3
def T6{P:Program}{s:TypeId}(hs:P.underlying s=some .string){H:Type}{enc:TypeId×Value->H}{W:World}{fuel:Nat}{c:Value}{x:DataW H×List MemPlace}
  (h:DataW.trod enc P W 0 (fun _=>true) true fuel s [c]=some x):∃b:ByteArray,c=.string b/\b.data.toList.length<9223372036854775808:=by
 obtain⟨s',e0,_,e1⟩:=DataW.trod_string hs h
 simp only[iB,and_true]at e0
 refine⟨s',e0,?_⟩
 unfold maxLen at e1
 rw[Array.length_toList]
 have:s'.data.size=s'.size:=rfl
 omega
def A.dw:Nat->Option jX:=wv Tryz.prog
abbrev A.p(L:List lB)(E:List jG):Prop:=Yh5 A.TB 10 A.dw L E=true
abbrev A.e(L:List lB)(E:List jG):Prop:=Ycr A.TB 10 A.dw L E=true
abbrev ar(n:Int):V:=.int .i64 n
abbrev aF:V:=.bool false
abbrev rG:V:=.bool true
abbrev ay:V:=.aa
def A.L:List lB:=[]
def A.E:List jG:=[]
def A.L0:=⟨241,[.str [48,49,50,51,52,53,54,55,56,57]],(.aY [.agg (List.replicate 48 aF++List.replicate 10 rG++List.replicate 198 aF),rG])⟩::A.L
def A.L1:=⟨208,[.str [49],.str [48,49,50,51,52,53,54,55,56,57]],.str []⟩::A.L0
def A.L2:=⟨161,[.str [49]],rG⟩::A.L1
def A.L3:=⟨123,[.agg [ar 1,ay],.agg [ar 10,ay]],.agg [ar 10,ay]⟩::A.L2
def A.L4:=⟨187,[.agg [ar 10,ay],ar 1],.agg [ar 10,ay]⟩::A.L3
def A.L5:=⟨123,[.agg [ar 0,ay],.agg [ar 10,ay]],.agg [ar 0,ay]⟩::A.L4
def A.L6:=⟨126,[.str [49]],.agg [ar 1,ay]⟩::A.L5
def A.L7:=⟨126,[.str [50]],.agg [ar 2,ay]⟩::A.L6
def A.L8:=⟨115,[.str [49,47,50]],ar 0⟩::A.L7
def A.L9:=⟨66,[.str [49,47,50]],.agg [ar 1,ay,ar 2,ay]⟩::A.L8
def A.PA:=⟨115,[.str [49]],ar 0⟩::A.L9
def A.CN:=⟨66,[.str [49]],.agg [ar 1,ay,ar 1,ay]⟩::A.PA
def A.E0:=⟨64,[],[],[.str [48]],[]++A.TB,33,ar 0,[],[]⟩::A.E
def A.E1:=⟨25,[],[],[(.agg [.str [49,47,50],.str [49],.str [48],ar 0])],[]++A.TB,12,ar 0,[],[]⟩::A.E0
def A.bC:=⟨122,[.agg [ar 1,ay],.agg [ar 2,ay]],.agg [ar 1,ay,ar 2,ay]⟩::A.CN
def A.E2:=⟨71,[],[],[.agg [ar 0,ay,ar 1,ay],.agg [ar 1,ay,ar 2,ay]],[]++A.TB,92,.agg [ar 1,ay,ar 2,ay],[],[]⟩::A.E1
def A.E3:=⟨71,[],[],[.agg [ar 1,ay,ar 2,ay],.agg [ar 0,ay,ar 1,ay]],[]++A.TB,123,.agg [ar 1,ay,ar 2,ay],[],[]⟩::A.E2
def A.E4:=⟨71,[],[],[.agg [ar 1,ay,ar 1,ay],(.agg [ar (-1),ay,ar 2,ay])],[]++A.TB,133,.agg [ar 1,ay,ar 2,ay],[],[]⟩::A.E3
def A.E5:=⟨122,[],[],[.agg [ar 1,ay],.agg [ar 4,ay]],[]++A.TB,157,.agg [ar 1,ay,ar 4,ay],[],[]⟩::A.E4
def A.E6:=⟨122,[],[],[.agg [ar 6,ay],.agg [ar 8,ay]],[]++A.TB,173,.agg [ar 3,ay,ar 4,ay],[],[]⟩::A.E5
def A.E7:=⟨71,[],[],[.agg [ar 1,ay,ar 2,ay],.agg [ar 1,ay,ar 4,ay]],[]++A.TB,157,.agg [ar 3,ay,ar 4,ay],[],[]⟩::A.E6
def A.E8:=⟨122,[],[],[(.agg [ar (-1),ay]),.agg [ar 2,ay]],[]++A.TB,180,(.agg [ar (-1),ay,ar 2,ay]),[],[]⟩::A.E7
def A.E9:=⟨71,[],[],[.agg [ar 1,ay,ar 2,ay],(.agg [ar (-1),ay,ar 1,ay])],[]++A.TB,164,(.agg [ar (-1),ay,ar 2,ay]),[],[]⟩::A.E8
def A.PC:=⟨63,[],[],[.agg [ar 0,ay,ar 1,ay],(.agg [ar (-1),ay,ar 2,ay])],[]++A.TB,164,.agg [ar 0,ay,ar 1,ay],[],[]⟩::A.E9
def A.PD:=⟨122,[],[],[.agg [ar 3,ay],.agg [ar 4,ay]],[]++A.TB,180,.agg [ar 3,ay,ar 4,ay],[],[]⟩::A.PC
def A.Mm:=⟨71,[],[],[.agg [ar 3,ay,ar 4,ay],.agg [ar 0,ay,ar 1,ay]],[]++A.TB,164,.agg [ar 3,ay,ar 4,ay],[],[]⟩::A.PD
def A.PE:=⟨122,[],[],[.agg [ar 1,ay],.agg [ar 4,ay]],[]++A.TB,191,.agg [ar 1,ay,ar 4,ay],[],[]⟩::A.Mm
def A.PF:=⟨71,[],[],[.agg [ar 1,ay,ar 1,ay],(.agg [ar (-3),ay,ar 4,ay])],[]++A.TB,174,.agg [ar 1,ay,ar 4,ay],[],[]⟩::A.PE
def A.PG:=⟨122,[],[],[.agg [ar 3,ay],.agg [ar 4,ay]],[]++A.TB,189,.agg [ar 3,ay,ar 4,ay],[],[]⟩::A.PF
def A.PH:=⟨122,[],[],[.agg [ar 1,ay],.agg [ar 8,ay]],[]++A.TB,198,.agg [ar 1,ay,ar 8,ay],[],[]⟩::A.PG
def A.PI:=⟨122,[],[],[.agg [ar 28,ay],.agg [ar 32,ay]],[]++A.TB,214,.agg [ar 7,ay,ar 8,ay],[],[]⟩::A.PH
def A.PJ:=⟨71,[],[],[.agg [ar 3,ay,ar 4,ay],.agg [ar 1,ay,ar 8,ay]],[]++A.TB,198,.agg [ar 7,ay,ar 8,ay],[],[]⟩::A.PI
def A.PL:=⟨122,[],[],[(.agg [ar (-2),ay]),.agg [ar 8,ay]],[]++A.TB,221,(.agg [ar (-1),ay,ar 4,ay]),[],[]⟩::A.PJ
def A.PM:=⟨71,[],[],[.agg [ar 1,ay,ar 4,ay],(.agg [ar (-1),ay,ar 2,ay])],[]++A.TB,205,(.agg [ar (-1),ay,ar 4,ay]),[],[]⟩::A.PL
def A.PN:=⟨63,[],[],[.agg [ar 0,ay,ar 1,ay],(.agg [ar (-1),ay,ar 4,ay])],[]++A.TB,205,.agg [ar 0,ay,ar 1,ay],[],[]⟩::A.PM
def A.PO:=⟨122,[],[],[.agg [ar 7,ay],.agg [ar 8,ay]],[]++A.TB,221,.agg [ar 7,ay,ar 8,ay],[],[]⟩::A.PN
def A.PQ:=⟨71,[],[],[.agg [ar 7,ay,ar 8,ay],.agg [ar 0,ay,ar 1,ay]],[]++A.TB,205,.agg [ar 7,ay,ar 8,ay],[],[]⟩::A.PO
def A.PR:=⟨28,[],[],[(.agg [.str [49,47,50],.str [49],.str [48],ar 0]),(.slice 14 0 3 (some 3) 4)],[(14,.cells [ar 1,ay,ar 1,ay,ar 1,ay,ar 1,ay,ar 1,ay,ar 1,ay] 72 true)]++A.TB,15,.aY [.slice 15 0 3 none 4,.slice 16 0 3 none 4],[(175,.cells [ar 1,ay,ar 1,ay,ar 1,ay,ar 2,ay,ar 1,ay,ar 4,ay] 72 true),(166,.cells [ar 0,ay,ar 1,ay,ar 1,ay,ar 2,ay,ar 3,ay,ar 4,ay] 72 true)],[]⟩::A.PQ
def A.PS:=⟨130,[],[],[.slice 15 0 3 none 4,(.func 73 [] [])],[(15,.cells [ar 1,ay,ar 1,ay,ar 1,ay,ar 2,ay,ar 1,ay,ar 4,ay] 72 true)]++A.TB,17,ar (-1),[],[]⟩::A.PR
def A.PT:=⟨74,[],[],[.slice 15 0 3 none 4],[(15,.cells [ar 1,ay,ar 1,ay,ar 1,ay,ar 2,ay,ar 1,ay,ar 4,ay] 72 true)]++A.TB,17,(.slice 17 0 3 (some 3) 1),[(17,.cells [.str [49],.str [49,47,50],.str [49,47,52]] 22 true)],[]⟩::A.PS
def A.PU:=⟨130,[],[],[.slice 16 0 3 none 4,(.func 73 [] [])],[(16,.cells [ar 0,ay,ar 1,ay,ar 1,ay,ar 2,ay,ar 3,ay,ar 4,ay] 72 true)]++A.TB,18,ar (-1),[],[]⟩::A.PT
def A.PV:=⟨74,[],[],[.slice 16 0 3 none 4],[(16,.cells [ar 0,ay,ar 1,ay,ar 1,ay,ar 2,ay,ar 3,ay,ar 4,ay] 72 true)]++A.TB,18,(.slice 18 0 3 (some 3) 1),[(18,.cells [.str [48],.str [49,47,50],.str [51,47,52]] 22 true)],[]⟩::A.PU
def A.PW:=⟨140,[],[],[(.slice 21 0 1 (some 1) 1),.agg [ar 64,ar 16]],[(21,.cells [(.slice 20 0 1 (some 1) 1)] 28 true),(20,.cells [.str [50]] 22 true)]++A.TB,26,ar 0,[],[]⟩::A.PV
def A.PX:=⟨63,[],[],[.agg [ar 2,ay,ar 1,ay],.agg [ar 1,ay,ar 2,ay]],[]++A.TB,50,.agg [ar 1,ay,ar 1,ay],[],[]⟩::A.PW
def A.PY:=⟨238,[],[],[.slice 64 0 1 none 4,(.slice 29 0 1 (some 1) 4)],[(64,.cells [ar 1,ay,ar 1,ay] 72 true),(29,.cells [ar 2,ay,ar 1,ay] 72 true)]++A.TB,69,.agg [ar 2,ay,ar 1,ay],[],[]⟩::A.PX
def A.PZ:=⟨149,[],[],[.slice 72 0 1 none 1,(.slice 36 0 1 (some 1) 4)],[(72,.cells [.slice 70 0 1 none 4] 67 true),(70,.cells [ar 2,ay,ar 1,ay] 72 true),(36,.cells [ar 1,ay,ar 1,ay] 72 true)]++A.TB,73,.slice 73 0 1 none 1,[(97,.cells [(.slice 74 0 1 (some 1) 4)] 67 true),(82,.cells [ar 2,ay,ar 1,ay] 72 true)],[]⟩::A.PY
def A.P0:=⟨238,[],[],[.slice 78 0 1 none 4,(.slice 74 0 1 (some 1) 4)],[(78,.cells [ar 2,ay,ar 1,ay] 72 true),(74,.cells [ar 2,ay,ar 1,ay] 72 true)]++A.TB,83,.agg [ar 4,ay,ar 1,ay],[],[]⟩::A.PZ
def A.P1:=⟨122,[],[],[.agg [ar 1,ay],.agg [ar 4,ay]],[]++A.TB,106,.agg [ar 1,ay,ar 4,ay],[],[]⟩::A.P0
def A.P2:=⟨63,[],[],[.agg [ar 4,ay,ar 1,ay],.agg [ar 1,ay,ar 4,ay]],[]++A.TB,106,.agg [ar 1,ay,ar 1,ay],[],[]⟩::A.P1
def A.P3:=⟨122,[],[],[.agg [ar 1,ay],.agg [ar 4,ay]],[]++A.TB,116,.agg [ar 1,ay,ar 4,ay],[],[]⟩::A.P2
def A.P4:=⟨122,[],[],[.agg [ar 2,ay],.agg [ar 4,ay]],[]++A.TB,125,.agg [ar 1,ay,ar 2,ay],[],[]⟩::A.P3
def A.P6:=⟨145,[],[],[.slice 90 0 2 none 4,(.func 146 [] [.ptr 97 0])],[(90,.cells [ar 4,ay,ar 1,ay,ar 2,ay,ar 1,ay] 72 true),(97,.cells [ar 4,ay,ar 1,ay] 72 true)]++A.TB,98,.slice 98 0 2 none 4,[(126,.cells [ar 1,ay,ar 1,ay,ar 1,ay,ar 2,ay] 72 true)],[]⟩::A.P4
def A.P7:=⟨105,[],[],[.slice 35 0 1 none 1,(.slice 36 0 1 (some 1) 4),(.slice 37 0 1 (some 1) 1)],[(35,.cells [(.slice 29 0 1 (some 1) 4)] 67 true),(29,.cells [ar 2,ay,ar 1,ay] 72 true),(36,.cells [ar 1,ay,ar 1,ay] 72 true),(37,.cells [.slice 51 0 1 none 4] 67 true),(51,.cells [ar 1,ay,ar 1,ay] 72 true)]++A.TB,55,.aY [.slice 55 0 1 none 1,rG],[(103,.cells [.slice 56 4 1 none 4] 67 true),(98,.cells [ar 1,ay,ar 1,ay,ar 1,ay,ar 2,ay] 72 true)],[]⟩::A.P6
def A.P9:=⟨71,[],[],[.agg [ar 0,ay,ar 1,ay],.agg [ar 1,ay,ar 2,ay]],[]++A.TB,87,.agg [ar 1,ay,ar 2,ay],[],[]⟩::A.P7
def A.Qa:=⟨153,[],[],[.slice 68 0 1 none 1,.slice 60 0 1 none 4],[(68,.cells [.slice 66 0 1 none 4] 67 true),(66,.cells [ar 1,ay,ar 2,ay] 72 true),(60,.cells [ar 1,ay,ar 1,ay] 72 true)]++A.TB,70,.slice 70 0 1 none 4,[(88,.cells [ar 1,ay,ar 2,ay] 72 true)],[]⟩::A.P9
def A.Qc:=⟨54,[],[],[.slice 35 0 1 none 1,(.slice 36 0 1 (some 1) 4)],[(35,.cells [(.slice 29 0 1 (some 1) 4)] 67 true),(29,.cells [ar 2,ay,ar 1,ay] 72 true),(36,.cells [ar 1,ay,ar 1,ay] 72 true)]++A.TB,37,.slice 37 0 1 none 1,[(72,.cells [.slice 38 0 1 none 4] 67 true),(70,.cells [ar 1,ay,ar 2,ay] 72 true)],[]⟩::A.Qa
def A.Qd:=⟨102,[],[],[.slice 38 0 1 none 4],[(38,.cells [ar 1,ay,ar 2,ay] 72 true)]++A.TB,39,(.aY [(.slice 39 0 1 (some 1) 1),ar 0]),[(48,.cells [.str [49,47,50]] 22 true)],[]⟩::A.Qc
def A.Qe:=⟨20,[],[],[(.slice 21 0 1 (some 1) 1),(.slice 22 0 1 (some 1) 1)],[(21,.cells [(.slice 20 0 1 (some 1) 1)] 28 true),(20,.cells [.str [50]] 22 true),(22,.cells [.str [49]] 22 true)]++A.TB,23,.aY [.slice 23 0 1 none 1,ar 0],[(41,.cells [(.slice 24 0 1 (some 1) 1)] 28 true),(39,.cells [.str [49,47,50]] 22 true)],[]⟩::A.Qd
def A.Qf:=⟨110,[],[],[(.agg [.str [48],.str [48]])],[]++A.TB,33,ar 0,[],[]⟩::A.Qe
def A.Qg:=⟨118,[],[],[.ptr 76 0,ar 0,ar (-1)],[(76,.cells [(.slice 25 0 1 (some 1) 3),.str [49],.str [49],.str [49],ay,ay,(.slice 48 0 1 (some 1) 4),ar 1,ay,ar 1,ay,ar 1,ay,ar 1,ay,(.slice 61 0 1 (some 1) 1),(.slice 62 0 1 (some 1) 4),(.slice 68 0 1 (some 1) 4),(.slice 74 0 0 (some 0) 4),.map 75] 113 true),(25,.cells [.str [48],.str [48],aF] 54 true),(48,.cells [ar 3,ay,ar 1,ay] 72 true),(61,.cells [ay] 159 true),(62,.cells [ar 0,ay,ar 1,ay] 72 true),(68,.cells [ar 0,ay,ar 1,ay] 72 true),(74,.cells [] 72 true),(75,.map [])]++A.TB,79,.aY [],[(124,.cells [ar (-1),ay,ar 1,ay,ar (-4),ay,ar 1,ay,ar 1,ay,ar 1,ay,ar (-2),ay,ar 1,ay] 199 true)],[(61,.cells [(.slice 79 0 2 (some 2) 8)] 159 true),(75,.map [((ar 0),rG)])]⟩::A.Qf
def A.Qh:=⟨58,[],[],[(.agg [(.slice 25 0 1 (some 1) 3),.str [49],.str [49],.str [49],ay,ay]),(.slice 27 0 1 (some 1) 1)],[(25,.cells [.str [48],.str [48],aF] 54 true),(27,.cells [.str [51]] 22 true)]++A.TB,47,.ptr 47 0,[(76,.cells [(.slice 25 0 1 (some 1) 3),.str [49],.str [49],.str [49],ay,ay,(.slice 48 0 1 (some 1) 4),ar 1,ay,ar 1,ay,ar 1,ay,ar 1,ay,(.slice 49 0 1 (some 1) 1),(.slice 51 0 1 (some 1) 4),(.slice 52 0 1 (some 1) 4),(.slice 53 0 0 (some 0) 4),.map 54] 113 true),(48,.cells [ar 3,ay,ar 1,ay] 72 true),(61,.cells [(.slice 50 0 2 (some 2) 8)] 159 true),(79,.cells [ar (-1),ay,ar 1,ay,ar (-4),ay,ar 1,ay,ar 1,ay,ar 1,ay,ar (-2),ay,ar 1,ay] 199 true),(62,.cells [ar 1,ay,ar 1,ay] 72 true),(68,.cells [ar 2,ay,ar 1,ay] 72 true),(74,.cells [] 72 true),(75,.map [((ar 0),rG)])],[]⟩::A.Qg
def A.Qi:=⟨21,[],[],[(.agg [(.slice 25 0 1 (some 1) 3),.str [49],.str [49],.str [49],ay,ay]),(.slice 27 0 1 (some 1) 1)],[(25,.cells [.str [48],.str [48],aF] 54 true),(27,.cells [.str [51]] 22 true)]++A.TB,28,(.aY [(.slice 28 0 1 (some 1) 1),(.agg [(.slice 29 0 1 (some 1) 1),(.slice 30 0 0 (some 0) 1)]),ar 0]),[(85,.cells [.str [49]] 22 true),(99,.cells [.str [50]] 22 true),(104,.cells [] 22 true)],[]⟩::A.Qh
def A.Qj:=⟨122,[],[],[.agg [ar 1,ay],.agg [ar 4,ay]],[]++A.TB,42,.agg [ar 1,ay,ar 4,ay],[],[]⟩::A.Qi
def A.Mn:=⟨34,[],[],[.str [49,47,50],.str [49,47,50],(.func 63 [] [])],[]++A.TB,32,(.aY [.str [49,47,52],ar 0]),[],[]⟩::A.Qj
def A.Wx:=⟨5,[],rG⟩::A.bC
def A.mixed:Tryz.prog.follows .mixedOrders=true:=by kernel_rfl
def A.names:(Tryz.prog.funcs.toList.all fun fn=>!(fn.name== "runtime.NumGoroutine"))=true:=by kernel_rfl
def A.exts:((List.range Tryz.prog.funcs.size).all fun i=>match Tryz.prog.funcs[i]? with
  |some fn=>fn.body.isSome||(wu fn.name).isNone||Eu i [221,228,292,280]
  |none=>true)=true:=by kernel_rfl
def A.globals:Tryz.prog.globals.size=10:=by kernel_rfl
def A.T7(fn:Func)(e:Ext)(hf:Tryz.prog.funcs[221]?=some fn)(he:wu fn.name=some e):(fn.name== "runtime.NumGoroutine")=false/\Extern.findNext fn=none/\Extern.find fn=some (Eg e):=by
 obtain rfl:fn=Tryz.f221:=(uz (Tryz.func221.symm.trans hf)).symm
 obtain rfl:e=.mB:=(uz ((show wu Tryz.f221.name=some .mB by kernel_rfl).symm.trans he)).symm
 exact⟨by kernel_rfl,by kernel_rfl,by kernel_rfl⟩
def A.T8(fn:Func)(e:Ext)(hf:Tryz.prog.funcs[228]?=some fn)(he:wu fn.name=some e):(fn.name== "runtime.NumGoroutine")=false/\Extern.findNext fn=none/\Extern.find fn=some (Eg e):=by
 obtain rfl:fn=Tryz.f228:=(uz (Tryz.func228.symm.trans hf)).symm
 obtain rfl:e=.mC:=(uz ((show wu Tryz.f228.name=some .mC by kernel_rfl).symm.trans he)).symm
 exact⟨by kernel_rfl,by kernel_rfl,by kernel_rfl⟩
def A.T9(fn:Func)(e:Ext)(hf:Tryz.prog.funcs[292]?=some fn)(he:wu fn.name=some e):(fn.name== "runtime.NumGoroutine")=false/\Extern.findNext fn=none/\Extern.find fn=some (Eg e):=by
 obtain rfl:fn=Tryz.f292:=(uz (Tryz.func292.symm.trans hf)).symm
 obtain rfl:e=.same:=(uz ((show wu Tryz.f292.name=some .same by kernel_rfl).symm.trans he)).symm
 exact⟨by kernel_rfl,by kernel_rfl,by kernel_rfl⟩
def A.Ua(fn:Func)(e:Ext)(hf:Tryz.prog.funcs[280]?=some fn)(he:wu fn.name=some e):(fn.name== "runtime.NumGoroutine")=false/\Extern.findNext fn=none/\Extern.find fn=some (Eg e):=by
 obtain rfl:fn=Tryz.f280:=(uz (Tryz.func280.symm.trans hf)).symm
 obtain rfl:e=.bV:=(uz ((show wu Tryz.f280.name=some .bV by kernel_rfl).symm.trans he)).symm
 exact⟨by kernel_rfl,by kernel_rfl,by kernel_rfl⟩
def A.EG:rn Tryz.prog:=by
 intro g fn e hf hb he
 have h:=sJ.1 A.exts g (List.mem_range.2 (by
  rcases Nat.lt_or_ge g Tryz.prog.funcs.size with h|h
  ·exact h
  ·rw[Array.getElem?_eq_none h]at hf;cases hf))
 rw[hf]at h
 simp only[hb,he,Option.isNone_some,Bool.or_false,Bool.false_or]at h
 have hm:=JR.1 h
 simp only[jy,List.mem_nil_iff,or_false]at hm
 rcases hm with rfl|rfl|rfl|rfl
 ·exact A.T7 fn e hf he
 ·exact A.T8 fn e hf he
 ·exact A.T9 fn e hf he
 ·exact A.Ua fn e hf he
def A.wY:Bu Tryz.prog A.dw 10 where
 m:=A.mixed
 e:=A.EG
 t:=fun f mf hf=>⟨hf,fun fn zE=>by
  have h:=sJ.1 A.names fn (Array.mem_toList_iff.2 (Array.mem_of_getElem? zE))
  simpa using h⟩
 g:=A.globals
end
end Go.Mx
