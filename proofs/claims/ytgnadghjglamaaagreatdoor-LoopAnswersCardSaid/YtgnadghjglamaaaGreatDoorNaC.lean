/-The seat-/
import Derived.Test.YtgnadghjglamaaaGreatDoorMxUtf
import Derived.Test.YtgnadghjglamaaaGreatDoorProg
import Derived.Deep.Slices
import Derived.Lib.LaidTab
import Derived.LaidSub
import Derived.ChangeShapes
import Derived.WideShapes
set_option linter.all false
namespace Go.Mx
noncomputable section
open Go Go.Proofs
set_option maxRecDepth 1000000
abbrev A.F(n:Nat):=Zlk Tryz.prog n
def mv(a b:Nat):Zbc:=⟨some a,.mov (.tmp b),none⟩
def mc(a:Nat)(n:Int):Zbc:=⟨some a,.mov (.const (.int .i64 n)),none⟩
def ia(a z x i:Nat):Zbc:=⟨some a,.iaddrSl z (.tmp x) (.tmp i),none⟩
def ld(a x:Nat):Zbc:=⟨some a,.load none (.tmp x),none⟩
def xt(a x i:Nat):Zbc:=⟨some a,.extract (.tmp x) i,none⟩
def bi(a:Nat)(o:BinOp)(x y:Nat):Zbc:=⟨some a,.bin o (.node []) false (.tmp x) (.tmp y),none⟩
def bc(a:Nat)(o:BinOp)(x:Nat)(n:Int):Zbc:=⟨some a,.bin o (.node []) false (.tmp x) (.const (.int .i64 n)),none⟩
def ln(a x:Nat):Zbc:=⟨some a,.len 1 (.tmp x),none⟩
def so(a x:Nat):Zbc:=⟨none,.store 1 (.tmp a) (.tmp x),none⟩
def c1(a f x:Nat):Zbc:=⟨some a,.call (.const (.func f [] [])) [.tmp x],none⟩
def c2(a f x y:Nat):Zbc:=⟨some a,.call (.const (.func f [] [])) [.tmp x,.tmp y],none⟩
def lN(a n x:Nat):Zbc:=⟨some a,.load (some n) (.tmp x),none⟩
def fa(a o x:Nat):Zbc:=⟨some a,.faddr o (.tmp x),none⟩
def pf(a x y:Nat):Zbc:=⟨some a,.pick (.tmp x) (.tmp y) (.const (.bool false)),none⟩
def pt(a x y:Nat):Zbc:=⟨some a,.pick (.tmp x) (.const (.bool true)) (.tmp y),none⟩
def ei(a x:Nat)(n:Int):Zbc:=⟨some a,.bin .eql (.prim .int) true (.tmp x) (.const (.int .i64 n)),none⟩
def ni(a x:Nat)(n:Int):Zbc:=⟨some a,.bin .neq (.prim .int) true (.tmp x) (.const (.int .i64 n)),none⟩
def mN(a:Nat):Zbc:=⟨some a,.mov (.const .nilslice),none⟩
def bx(a e x:Nat):Zbc:=⟨some a,.box e (.tmp x),none⟩
def mg(a x g:Nat):Zbc:=⟨some a,.mov (.tmp x),some (g,true)⟩
def mh(a x g:Nat):Zbc:=⟨some a,.mov (.tmp x),some (g,false)⟩
def sr(l:List Zbc)(c:Zaw):Zaw:=.seq (.reg l) c
def cd(x:Nat)(a b:Zaw):Zaw:=.cond (.tmp x) a b
def ge(a:Nat)(o:MOp):Zbc:=⟨some a,o,none⟩
def gn(o:MOp):Zbc:=⟨none,o,none⟩
def gy(a g:Nat)(o:MOp):Zbc:=⟨some a,o,some (g,true)⟩
def gz(a g:Nat)(o:MOp):Zbc:=⟨some a,o,some (g,false)⟩
abbrev tq(x:Nat):Src:=.tmp x
abbrev kq(n:Int):Src:=.const (.int .i64 n)
abbrev fq(f:Nat):Src:=.const (.func f [] [])
attribute [simp] Yth Ytv mv mc ia ld xt bi bc ln so c1 c2 lN fa pf pt ei ni mN bx mg mh sr cd ge gn gy gz
def A.p10:O:=.cells (([1,10,100,1000,10000,100000,1000000,10000000,100000000,1000000000,10000000000,100000000000,1000000000000,10000000000000,100000000000000,1000000000000000,10000000000000000,100000000000000000,1000000000000000000,10000000000000000000]:List Int).map fun z=>.int .u64 z) 306 false
def A.TB:List (Nat×O):=[(6,A.p10)]
def A.C:Cx:=⟨Zxd A.TB [⟨7,[],.bool true⟩],Zlk Tryz.prog⟩
def A.t:A.C.tbl=Zlk Tryz.prog:=rfl
def A.x0{f:Nat}{a c args:List V}{st:St}(h:Nat.beq 7 f=false):A.C.x (.func f a c) args st=none:=by
 show Zxd A.TB [⟨7,[],.bool true⟩] (.func f a c) args st=none
 unfold Zxd
 split
 ·rename_i heq
  simp only[V.func.injEq]at heq
  obtain⟨rfl,rfl,rfl⟩:=heq
  simp only[Zxc,h]
 ·rfl
def Ypk(P:Program)(fn:Func):Zaw:=match fn.body with
 |some c=>Zcu P c
 |none=>.skip
def Zle:Zaw→List Zaw
 |.seq a b=>Zle a++Zle b
 |.cond _ a b=>Zle a++Zle b
 |.block _ a=>Zle a
 |.scope a=>Zle a
 |.loop a=>a::Zle a
 |_=>[]
def Zpy:List Zaw→Zaw→Zaw×List Zaw
 |ls,.seq a b=>match Zpy ls a with
  |(a,ls)=>match Zpy ls b with
   |(b,ls)=>(.seq a b,ls)
 |ls,.cond s a b=>match Zpy ls a with
  |(a,ls)=>match Zpy ls b with
   |(b,ls)=>(.cond s a b,ls)
 |ls,.block k a=>match Zpy ls a with
  |(a,ls)=>(.block k a,ls)
 |ls,.scope a=>match Zpy ls a with
  |(a,ls)=>(.scope a,ls)
 |l::ls,.loop _=>(.loop l,ls)
 |ls,c=>(c,ls)
@[simp] def A.q (f:Func) {b:Zaw} (_h:Ypk Tryz.prog f=b:=by conv=>lhs;cbv):Zaw:=b
@[simp] def A.ql (w:Zaw) (i:Nat) (ls:List Zaw) {b:Zaw} (_h:(Zpy ls ((Zle w)[i]?.getD .skip)).1=b:=by conv=>lhs;cbv):Zaw:=b
@[simp] def A.qb (w:Zaw) (ls:List Zaw) {b:Zaw} (_h:(Zpy ls w).1=b:=by conv=>lhs;cbv):Zaw:=b
def atP:List Nat→Zaw→Zaw
 |0::p,.seq a _=>atP p a
 |_::p,.seq _ b=>atP p b
 |0::p,.cond _ a _=>atP p a
 |_::p,.cond _ _ b=>atP p b
 |_::p,.block _ a=>atP p a
 |_::p,.scope a=>atP p a
 |_,c=>c
def Yix(x:Zaw):List Nat→Zaw→Zaw
 |0::p,.seq a b=>.seq (Yix x p a) b
 |_::p,.seq a b=>.seq a (Yix x p b)
 |0::p,.cond s a b=>.cond s (Yix x p a) b
 |_::p,.cond s a b=>.cond s a (Yix x p b)
 |_::p,.block k a=>.block k (Yix x p a)
 |_::p,.scope a=>.scope (Yix x p a)
 |_,_=>x
def Ypz:List (List Nat×Zaw)→Zaw→Zaw
 |[],w=>w
 |(p,x)::l,w=>Ypz l (Yix x p w)
@[simp] def A.qt (w:Zaw) (ls:List Zaw) (cs:List (List Nat×Zaw)) (p:List Nat) {b:Zaw} (_h:atP p (Ypz cs (Zpy ls w).1)=b:=by conv=>lhs;cbv):Zaw:=b
def A.kk{n k:Nat}{res:List Ylt}{b:Zaw}(hc:Zlk Tryz.prog n=some ⟨k,res,b⟩)(hx:Nat.beq 7 n=false){K:List Kf}{Q:Rs→Prop}{f c args:List V}{st:St}(h:(f++args++c).length≤k):Run A.C K (Zp9 (A.C.call (.func n f c) args st)) Q↔Run A.C (.fin res st::K) (exR (A.C.code none b ⟨Zek .nil 0 (f++args++c),k,[]⟩ ⟨st.h,st.n,[]⟩)) Q:=Yey (A.x0 (f:=n) hx) (mf:=⟨k,res,b⟩) (by rw[A.t];exact hc) h
def A.known{h:T O}{N:Nat}{w:List Nat}(hp:h.get 6=some A.p10):A.C.call (.func 7 [] []) [] ⟨h,N,w⟩=some (.bool true,⟨h,N,w⟩):=by
 have hq:oEq (h.get 6) A.p10=true:=by rw[hp];decide+kernel
 have hi:Zla ⟨h,N,w⟩ A.TB=true:=by
  show (match oEq (h.get 6) A.p10 with|true=>true|false=>false)=true
  rw[hq]
 have hx:A.C.x (.func 7 [] []) [] ⟨h,N,w⟩=some (.bool true,⟨h,N,w⟩):=by
  show (match Zla ⟨h,N,w⟩ A.TB with|true=>some (V.bool true,(⟨h,N,w⟩:St))|false=>none)=_
  rw[hi]
 rw[Cx.call_eq]
 unfold Zee
 rw[hx]
open Go
inductive Zp8 where
 |nil
 |emp (b:Addr)
 |sl (b:Addr) (l c:Nat) (f:Nat→ByteArray)
def Zp8.val:Zp8→Value
 |.nil=>.slice none 0 0
 |.emp b=>.slice (some b) 0 0
 |.sl b l c f=>.slice (some b) l c
def Zp8.ok(W:World):Zp8→Prop
 |.sl b l c f=>l≤c∧0<c∧∀i,i<c→W.cell? (b.add i)=some (.string (f i))
 |_=>True
def Zp8.strs:Zp8→List Str
 |.sl b l c f=>(List.range l).map fun i=>(f i).data.toList
 |_=>[]
def eOf(W:World)(a:Addr):TypeId:=match W.heap[a.block]? with
 |some (.cells _ e _)=>e
 |_=>0
def Zwg{W:World}{a:Addr}{n:Nat}{f:Nat→Value}(hn:0<n)(hc:∀i,i<n→W.cell? (a.add i)=some (f i)):
  ∃c' lo hi,W.heap[a.block]?=some (.cells c' (eOf W a) (lo,hi))∧a.spot=none∧(∀i,i<n→c'[a.off+i]?=some (f i))∧a.off+n≤c'.size∧a.block<W.heap.size:=by
 have h0:=hc 0 hn
 have ha0:a.add 0=a:=by simp[Addr.add]
 rw[ha0]at h0
 obtain⟨c',e,fr,hb⟩:∃c' e fr,W.heap[a.block]?=some (.cells c' e fr):=by
  unfold World.cell? at h0
  split at h0
  ·rename_i c' e fr hb;exact⟨c',e,fr,hb⟩
  ·cases h0
 have hs:a.spot=none:=by
  unfold World.cell? at h0
  rw[hb]at h0
  simp only at h0
  split at h0
  ·cases h0
  ·rename_i h;simpa using h
 have hcell:∀i,i<n→c'[a.off+i]?=some (f i):=fun i hi=>by
  have:=hc i hi
  unfold World.cell? at this
  have e1:(a.add i).block=a.block:=by unfold Addr.add;split<;>rfl
  have e2:(a.add i).off=a.off+i:=by unfold Addr.add;split<;>simp_all
  have e3:(a.add i).spot=none:=by unfold Addr.add;split<;>simp_all
  rw[e1,hb]at this
  simp only[e2,e3,Option.isSome_none,Yr3,if_false]at this
  exact this
 have hlt:a.block<W.heap.size:=by
  rcases Nat.lt_or_ge a.block W.heap.size with h|h
  ·exact h
  ·rw[Array.getElem?_eq_none h]at hb;cases hb
 have hend:a.off+n≤c'.size:=by
  have:=hcell (n-1) (by omega)
  have h2:=(Array.getElem?_eq_some_iff.1 this).1
  omega
 obtain⟨lo,hi⟩:=fr
 exact⟨c',lo,hi,by rw[hb];simp[eOf,hb],hs,hcell,hend,hlt⟩
structure Yn5 where
 a:Addr
 n:Nat
 f:Nat→Value
 g:Nat→V
def Yn5.ok(W:World)(r:Yn5):Prop:=0<r.n∧(∀i,i<r.n→W.cell? (r.a.add i)=some (r.f i))∧∀i,i<r.n→(r.f i).oneCell'=true
def Zqp{P:Program}{tbl:Nat→Option Zej}{G:Nat}(hP:Zlg P tbl G){x:Za1}(hx:Zbx P x){F d:Nat}{f:FuncId}{mf:Zej}(hf:Zlk P f=some mf){args:List V}{xs:List Value}{v:V}{y:Value}{S:St}{μ:Mu}{W:World}
  (h:Yns (Zgf mf (Zbh (Zgr x tbl F d) F) args S) v) (hh:Zba P μ W S) (hS:S.w=[]) (hargs:VRs μ args xs) (hv:∀μ z,VR μ v z→z=y):
  Calls P f ⟨xs⟩ W fun e W'=>e=.returned y∧RowKit.Below W.heap.size W W':=by
 obtain⟨s,hrun,hw⟩:=h.ex
 obtain⟨fn,hfn,_⟩:=Zwi hf
 have ih:=Zj3 hP.m hP.e hP.t hx F d
 have:=Yci (Ydd ih hP.e (Yct hP.m hP.e ih) (Yhh ih hP.e) (Zu6 ih) F) hfn hf hh hargs hrun
 refine callsIn_wide.1 (CallsIn.mono (F:=Fence.wide) this fun e W' he=>?_)
 cases e with
 |returned z=>
  obtain⟨μ',ws,h1,h2⟩:=he
  have hws:ws=[]:=by have:=h2.wl;rw[hw,hS]at this;simpa using this.symm
  subst hws
  exact⟨by rw[hv _ _ h1],h2.chg.os,h2.chg.tape,h2.chg.output,h2.chg.size,fun k hk=>h2.chg.block k hk fun i hi=>by cases hi⟩
 |panicked _=>exact he.elim
 |outgrown=>exact he.elim
def Cx.calls{P:Program}{C:Cx}{G:Nat}(hP:Zlg P C.tbl G)(hx:Zbx P C.x){f:Nat}{mf:Zej}(hf:Zlk P f=some mf)(ht:C.tbl f=some mf){args:List V}{xs:List Value}{v:V}{y:Value}{S:St}{μ:Mu}{W:World}
  (hn:∀st,C.x (.func f [] []) args st=none) (h:Fn C f args S.h S.n (fun u _ _=>u=v)) (hh:Zba P μ W S) (hS:S.w=[]) (hargs:VRs μ args xs) (hv:∀μ z,VR μ v z→z=y):
  Calls P f ⟨xs⟩ W fun e W'=>e=.returned y∧RowKit.Below W.heap.size W W':=by
 obtain⟨u,st',hc,hw,hk,hu⟩:=(h []).ex
 subst hu
 have hS':(⟨S.h,S.n,[]⟩:St)=S:=by obtain⟨a,b,c⟩:=S;simp only at hS;subst hS;rfl
 rw[hS']at hc
 rw[Cx.call_eq]at hc
 unfold Zee at hc
 rw[hn]at hc
 simp only at hc
 obtain⟨n,hn'⟩:=Zkj (q:=fun n=>Zbh (C.at n) n) (fun n m hnm=>Zb3 (Cx.at_mono hnm) n m hnm) (fun _ _ _ _ _ e=>Cx.code_need e) hc
 unfold Zcq at hn'
 simp only[ht,List.nil_append,Ytz]at hn'
 exact Zqp (F:=n) (d:=n) hP hx hf ⟨_,hn',hw⟩ hh hS hargs hv
variable {P:Program} {S:St} {W:World} {μ:Mu}
def gTot(tb:List (Nat×O))(i:Nat):Nat:=match lk tb i with
 |some (.cells c _ _)=>c.length
 |_=>0
def TabsIn(P:Program)(W:World)(tb:List (Nat×O)):Prop:=∀i o,lk tb i=some o→∀μ,OM P μ W o ⟨i,0,gTot tb i⟩
def TabsIn.one{g:Nat}{k:IntKind}{zs:List Int}{e:TypeId}{f:Nat×Nat}(h:W.heap[g]?=some (.cells (zs.map fun z=>Value.int k z).toArray e f)):TabsIn P W [(g,.cells (zs.map fun z=>V.int k z) e false)]:=by
 intro i o ho μ
 obtain⟨lo,hi⟩:=f
 simp only[lk]at ho
 split at ho
 ·rename_i hb
  have:=Za3 hb
  subst this
  simp only[Yrs]at ho
  subst ho
  have hl:gTot [(g,O.cells (zs.map fun z=>V.int k z) e false)] g=zs.length:=by simp[gTot,lk,hb]
  rw[hl]
  refine⟨_,lo,hi,h,by simp,by simp,fun j v hv=>?_,fun j x hj hx=>?_,fun h=>by cases h⟩
  ·rw[Yso]at hv
   cases hz:zs[j]? with
   |none=>rw[hz]at hv;cases hv
   |some z=>
    rw[hz]at hv
    simp only[Yuq,Yrs]at hv
    subst hv
    exact⟨.int k z,by simp[hz],by simp[VR]⟩
  ·simp only[Yt5,List.getElem?_toArray,Yso,Yr0]at hx
   obtain⟨z,_,rfl⟩:=hx
   rfl
 ·cases ho
structure Yd6 (P:Program) (W:World) (μ:Mu) (S:St):Prop where
 hr:Zba P μ W S
 w:S.w=[]
 ro:∀i l o,μ i=some l→S.h.get i=some o→o.wr=false
structure Znz (μ:Mu) (S:St) (μ':Mu) (S':St):Prop where
 mu:∀i l,μ i=some l→μ' i=some l
 keep:Keeps S.h S.n S'.h S'.n
def Znz.refl:Znz μ S μ S:=⟨fun _ _ h=>h,Keeps.refl⟩
def Znz.trans{μ1 μ2:Mu}{S1 S2:St}(a:Znz μ S μ1 S1)(b:Znz μ1 S1 μ2 S2):Znz μ S μ2 S2:=⟨fun i l h=>b.mu i l (a.mu i l h),a.keep.trans b.keep⟩
def Yi6{tb:List (Nat×O)}{G:Nat}(hG:P.globals.size=G)(hW:G≤W.heap.size)(hok:Zql G tb=true)(hin:TabsIn P W tb):∃μ,Yd6 P W μ (Zr8 G tb):=by
 subst hG
 have get:∀i,i<P.globals.size→(Zr8 P.globals.size tb).h.get i=some (match lk tb i with|some o=>o|none=>.dead):=fun i hi=>by
  show (Zec (Zlj P.globals.size) tb).get i=_
  rw[Zcf]
  cases lk tb i with
  |some o=>rfl
  |none=>exact Zkd _ _ hi
 have hwr:∀i o,i<P.globals.size→(Zr8 P.globals.size tb).h.get i=some o→o.wr=false:=fun i o hi ho=>by
  rw[get i hi]at ho
  simp only[Yrs]at ho
  cases hl:lk tb i with
  |none=>rw[hl]at ho;subst ho;rfl
  |some o'=>
   rw[hl]at ho
   simp only at ho
   subst ho
   have:=(Zmd hok hl).2
   cases o' with
   |cells c e rw=>cases rw with
    |true=>cases this
    |false=>rfl
   |_=>cases this
 have hmu:∀i l,(fun i=>if i<P.globals.size then some (⟨i,0,gTot tb i⟩:L) else none) i=some l→i<P.globals.size∧l=⟨i,0,gTot tb i⟩:=fun i l h=>by
  simp only at h
  split at h
  ·rename_i hi;simp only[Yrs]at h;exact⟨hi,h.symm⟩
  ·cases h
 refine⟨fun i=>if i<P.globals.size then some ⟨i,0,gTot tb i⟩ else none,⟨fun i l hl=>?_,fun i l hl=>?_,fun i j l l' o o' hi hj hne ho ho' hw hlv=>?_,fun g hg=>⟨gTot tb g,by simp[hg]⟩⟩,rfl,fun i l o hl ho=>?_⟩
 ·obtain⟨h,rfl⟩:=hmu i l hl
  exact⟨h,by simp only;omega⟩
 ·obtain⟨h,rfl⟩:=hmu i l hl
  refine⟨_,get i h,?_⟩
  cases hlk:lk tb i with
  |none=>trivial
  |some o=>exact hin i o hlk _
 ·rw[hwr i o (hmu i l hi).1 ho]at hw;cases hw
 ·exact hwr i o (hmu i l hl).1 ho
def Yir{tb:List (Nat×O)}{G g:Nat}{o:O}(h:lk tb g=some o):(Zr8 G tb).h.get g=some o:=by
 show (Zec (Zlj G) tb).get g=_
 rw[Zcf,h]
def Yd6.row(s:Yd6 P W μ S){r:Yn5}(hok:r.ok W)(hv:∀i,i<r.n→VR μ (r.g i) (r.f i)):
  ∃μ' S',Yd6 P W μ' S'∧Znz μ S μ' S'∧S'.n=S.n+1∧μ' S.n=some ⟨r.a.block,r.a.off,r.n⟩∧S'.h.get S.n=some (.cells ((List.range r.n).map r.g) (eOf W r.a) false):=by
 obtain⟨g1,g2,g3⟩:=hok
 obtain⟨c',lo,hi,hb,hs,hcell,hend,hlt⟩:=Zwg g1 g2
 have hmono:∀i l,μ i=some l→(fun i=>if i=S.n then some (⟨r.a.block,r.a.off,r.n⟩:L) else μ i) i=some l:=fun i l hl=>by
  have:=(s.hr.dom i l hl).1
  simp only
  rw[Yrt (by omega)];exact hl
 have hsplit:∀i l,(fun i=>if i=S.n then some (⟨r.a.block,r.a.off,r.n⟩:L) else μ i) i=some l→(i=S.n∧l=⟨r.a.block,r.a.off,r.n⟩)∨(i≠S.n∧μ i=some l):=fun i l h=>by
  simp only at h
  split at h
  ·rename_i e;simp only[Yrs]at h;exact .inl ⟨e,h.symm⟩
  ·rename_i e;exact .inr ⟨e,h⟩
 have hnew:(S.h.set S.n (.cells ((List.range r.n).map r.g) (eOf W r.a) false)).get S.n=some (.cells ((List.range r.n).map r.g) (eOf W r.a) false):=by simp[T.get_set]
 have hold:∀i,i≠S.n→(S.h.set S.n (.cells ((List.range r.n).map r.g) (eOf W r.a) false)).get i=S.h.get i:=fun i hi=>by simp[T.get_set,hi]
 have hro:∀i l o,(fun i=>if i=S.n then some (⟨r.a.block,r.a.off,r.n⟩:L) else μ i) i=some l→(S.h.set S.n (.cells ((List.range r.n).map r.g) (eOf W r.a) false)).get i=some o→o.wr=false:=fun i l o hl ho=>by
  rcases hsplit i l hl with⟨rfl,rfl⟩|⟨h1,h2⟩
  ·rw[hnew]at ho;simp only[Yrs]at ho;subst ho;rfl
  ·rw[hold i h1]at ho;exact s.ro i l o h2 ho
 refine⟨_,⟨S.h.set S.n (.cells ((List.range r.n).map r.g) (eOf W r.a) false),S.n+1,[]⟩,⟨⟨fun i l hl=>?_,fun i l hl=>?_,fun i j l l' o o' hi' hj hne ho ho' hw hlv=>?_,fun g hg=>?_⟩,rfl,hro⟩,⟨hmono,by simp,fun i hi=>hold i (by omega)⟩,rfl,by simp,hnew⟩
 ·rcases hsplit i l hl with⟨rfl,rfl⟩|⟨h1,h2⟩
  ·exact⟨by simp,hlt⟩
  ·obtain⟨q1,q2⟩:=s.hr.dom i l h2
   exact⟨by simp only;omega,q2⟩
 ·rcases hsplit i l hl with⟨rfl,rfl⟩|⟨h1,h2⟩
  ·refine⟨_,hnew,c',lo,hi,hb,hend,by simp,fun j v hvj=>?_,fun j x hj hx=>?_,fun h=>by cases h⟩
   ·have hj:j<r.n:=by have:=(Ys9.1 hvj).1;simpa using this
    have hv':v=r.g j:=by simpa[hj]using hvj.symm
    subst hv'
    exact⟨_,hcell j hj,VR.mono hmono _ _ (hv j hj)⟩
   ·have hj:j<r.n:=hj
    rw[hcell j hj]at hx
    simp only[Yrs]at hx
    subst hx
    exact g3 j hj
  ·obtain⟨o,q1,q2⟩:=s.hr.obj i l h2
   exact⟨o,by rw[hold i h1];exact q1,q2.mono hmono⟩
 ·rw[hro i l o hi' ho]at hw;cases hw
 ·obtain⟨t,ht⟩:=s.hr.glob g hg
  exact⟨t,hmono _ _ ht⟩
def Yd6.slice(s:Yd6 P W μ S){r:Yn5}(hok:r.ok W)(hv:∀i,i<r.n→VR μ (r.g i) (r.f i)){len cap z:Nat}(hn:r.n=cap*z)(hl:len≤cap)(hz:0<z):
  ∃μ' S' i,Yd6 P W μ' S'∧Znz μ S μ' S'∧VR μ' (.slice i 0 len (some cap) z) (.slice (some r.a) len cap)∧i<S'.n∧S'.h.get i=some (.cells ((List.range r.n).map r.g) (eOf W r.a) false):=by
 obtain⟨μ',S',q1,q2,q3,q4,q5⟩:=s.row hok hv
 refine⟨μ',S',S.n,q1,q2,?_,by omega,q5⟩
 obtain⟨⟨b,off,sp⟩,n,f,g⟩:=r
 obtain⟨g1,g2,_⟩:=hok
 obtain⟨_,_,_,_,hs,_,_,_⟩:=Zwg g1 g2
 simp only at hs hn q4
 subst hs
 simp only[VR]
 exact⟨⟨b,off,n⟩,cap,q4,by simp,hl,by simp[hn],fun k hk=>by simpa using hk,fun h=>by cases h⟩
def Yd6.list{P:Program}{W:World}{μ:Mu}{S:St}(s:Yd6 P W μ S){i:Zp8}(hi:i.ok W):
  ∃μ' S' v,Yd6 P W μ' S'∧Znz μ S μ' S'∧VR μ' v i.val∧Sl S'.h S'.n v (strs i.strs):=by
 cases i with
 |nil=>exact⟨μ,S,.nilslice,s,Znz.refl,by simp[Zp8.val,VR],Sl.nil⟩
 |emp b=>exact⟨μ,S,.empty,s,Znz.refl,by simp[Zp8.val,VR],.inl ⟨rfl,.inr rfl⟩⟩
 |sl b l c f=>
  obtain⟨h1,h2,h3⟩:=hi
  obtain⟨μ',S',k,q1,q2,q3,q4,q5⟩:=s.slice (r:=⟨b,c,fun i=>.string (f i),fun i=>.str (f i).data.toList⟩) ⟨h2,h3,fun _ _=>rfl⟩ (fun i _=>by simp[VR]) (len:=l) (cap:=c) (z:=1) (by simp) h1 (by decide)
  refine⟨μ',S',_,q1,q2,q3,.inr ⟨k,0,some c,_,_,false,by simp[strs,Zp8.strs],q4,q5,fun j hj=>?_,by simp[strs,Zp8.strs];omega,fun k hk=>by simp[strs,Zp8.strs]at hk ⊢;omega⟩⟩
  have hj2:j<l:=by simpa[strs,Zp8.strs]using hj
  simp[strs,Zp8.strs,hj2,show j<c by omega]
inductive Yrp where
 |nil
 |emp (b:Addr)
 |sl (b:Addr) (l c:Nat) (f:Nat→Int)
inductive Yro where
 |nil
 |emp (b:Addr)
 |sl (b:Addr) (l c:Nat) (F:Nat→Zp8)
open Go Go.ChangeShapes Go.WideShapes Go.RowKit Go.Deep
def open_list{P:Program}{t s:TypeId}(ht:P.underlying t=some (.slice s))(hs:P.underlying s=some .string)(hc:P.cellsOf s=1){H:Type}{enc:TypeId×Value→H}{W:World}{fuel:Nat}{c:Value}{x:DataW H×List MemPlace}
  (h:DataW.trod enc P W 0 (fun _=>true) true fuel t [c]=some x):∃i:Zp8,c=i.val∧i.ok W∧i.strs.length<9223372036854775808:=by
 rcases open_slice1 ht hc h with⟨hc,_⟩|⟨a,len,cap,m,n,Vf,D,Pl,hc,_,hl,hmx,hm,_,hx⟩
 ·have hc':c=.slice none 0 0:=by simpa using hc
  exact⟨.nil,hc',trivial,by simp[Zp8.strs]⟩
 ·simp only[if_true]at hm
  subst hm
  have hc':c=.slice (some a) len m:=by simpa using hc
  rcases Yu4 m with h0|h0
  ·subst h0
   have:len=0:=by omega
   subst this
   exact⟨.emp a,hc',trivial,by simp[Zp8.strs]⟩
  ·refine⟨.sl a len m fun i=>match Vf i with|.string s=>s|_=>⟨#[]⟩,hc',⟨hl,h0,fun i hi=>?_⟩,by simp only[Zp8.strs,Yug,List.length_range];unfold maxLen at hmx;omega⟩
   obtain⟨g1,g2⟩:=hx i hi
   obtain⟨s,e0,_⟩:=DataW.trod_string hs g2
   simp only[Yse,and_true]at e0
   rw[g1]
   simp only[e0]
def tabs_of_laid{P:Program}{W:World}{laid:List (String×DataW Unit)}{name:String}{k:IntKind}{zs:List Int}{g:Nat}{t e:TypeId}{n:Nat}{z:Array Value}
  (hg:P.globalNamed name=some g) (hty:(P.globals[g]?).map (·.type)=some t) (ht:P.underlying t=some (.array n e)) (he:P.underlying e=some (.int k)) (hce:P.cellsOf e=1) (hct:P.cellsOf t=n)
  (hf:laid.filter (fun x=>x.1==name)=[(name,Lib.tabData k zs)]) (hlt:g<P.globals.size) (hz:((begin P (fun _ _=>0) default).world.heap[g]?).bind Obj.row?=some (z,t))
  (hl:laidMet P laid W) (hs:W.ShapedOpen P):TabsIn P W [(g,.cells (zs.map fun z=>V.int k z) t false)]:=by
 have h1:=laidMet.filter (fun x=>x.1==name) hl
 rw[hf]at h1
 have h2:=Lib.tabIs_of_head hg hty ht he hce hct h1
 unfold Lib.TabIs World.var? at h2
 rw[hg]at h2
 obtain⟨cs,h3,_⟩:=hs.1 g z t hlt hz
 simp only[Option.bind_some,h3,Yrs]at h2
 subst h2
 exact TabsIn.one h3
def Zkw{P:Program}{s:TypeId}(hs:P.underlying s=some .string){H:Type}{enc:TypeId×Value→H}{W:World}{fuel:Nat}{c:Value}{x:DataW H×List MemPlace}
  (h:DataW.trod enc P W 0 (fun _=>true) true fuel s [c]=some x):∃b:ByteArray,c=.string b∧b.data.toList.length<9223372036854775808:=by
 obtain⟨s',e0,_,e1⟩:=DataW.trod_string hs h
 simp only[Yse,and_true]at e0
 refine⟨s',e0,?_⟩
 unfold maxLen at e1
 rw[Array.length_toList]
 have:s'.data.size=s'.size:=rfl
 omega
end
end Go.Mx
