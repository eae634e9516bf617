/-The operations of M stand for the Go mod-/
import Derived.Test.YtgnadghjglamaaaGreatDoorMxOp8
import Derived.Lib.Builder
import Derived.Lib.UnsafeStr
set_option linter.all false
namespace Go.Mx
open Go
set_option maxHeartbeats 2000000
def Cq:Ext->Array Value->Sem Value
 |.nS=>add64Entry
 |.nT=>Go.Proofs.sub64Entry
 |.same=>Extern.AbiNoEscape.same
 |.cy=>Extern.BytealgIndexByte.indexByte
 |.lH=>fun _=>stuck "not taken"
 |.pH=>Extern.MathFloatBits.float64bits
 |.pJ=>Extern.MathFloatBits.float64frombits
def tN(P:Program):Prop:=∀(g:FuncId) (fn:Func) (e:Ext),P.funcs[g]?=some fn->fn.body.isSome=false->tR fn.name=some e->
 (fn.name== "runtime.NumGoroutine")=false/\Extern.findNext fn=none/\Extern.find fn=some (Cq e)
def Zj4(c:UInt8):∀(l:List UInt8),Go.Lib.indexByte l c= -1\/0<=Go.Lib.indexByte l c
 |[]=>.inl rfl
 |b::l=>by
  rcases Zj4 c l with h|h<;>simp only[Go.Lib.indexByte]<;>split<;>first|omega|(split<;>omega)
def Zm7(c:UInt8):∀(l:List UInt8) (i:Nat),IZ c l i=if Go.Lib.indexByte l c= -1 then -1 else Go.Lib.indexByte l c+i
 |[],i=>by simp[IZ,Go.Lib.indexByte]
 |b::l,i=>by
  have h:=Zj4 c l
  simp only[IZ,Go.Lib.indexByte]
  split
  ·simp
  ·rw[Zm7 c l (i+1)]
   by_cases e:Go.Lib.indexByte l c= -1
   ·simp[e]
   ·have e':(Go.Lib.indexByte l c== -1)=false:=by simpa using e
    rw[aA e,e']
    simp only[gV,if_false]
    rw[aA (by omega)]
    omega
section
variable {P:Program} {μ:Mu} {w:World} {st aB:St} {r:T V} {n:Nat} {a:Act} {call:cM} {v:V}
def Yna(hh:bk P μ w st)(hr:RR μ r n a.tmps)(hE:tN P){g:Nat}{fn:Func}{e:Ext}{xs:List Operand}{ss:List Src}(hg:P.funcs[g]?=some fn)(hb:fn.body.isSome=false)(he:tR fn.name=some e)
  (hx:uW P xs=some ss) (h:Jh e ss call r st=some (v,aB)):a_ P μ w st (callFunc g ⟨xs.map a.eval⟩) v aB:=by
 obtain⟨e1,e2,e3⟩:=hE g fn e hg hb he
 have bL:=run_callFunc_extern hg e1 (by simpa using hb) e2 e3 ⟨xs.map a.eval⟩ w
 have fin:∀x,(Cq e ⟨xs.map a.eval⟩).run P w=.ok x w->VR μ v x->aB=st->a_ P μ w st (callFunc g ⟨xs.map a.eval⟩) v aB:=by
  intro x hx hv hs
  subst hs
  exact⟨.value x,x,w,μ,[],by rw[bL,hx];rfl,.inl rfl,hv,bD.refl hh⟩
 unfold Jh at h
 cases hl:tY r ss with
 |none=>cases e<;>simp[hl]at h
 |some l=>
  have hv:=Ju hh hr hx hl
  have nZ:∀u,B9 e l=some u->(Cq e ⟨xs.map a.eval⟩).run P w=.ok (match u with|.aS [.int .u64 p,.int .u64 q]=>.tuple #[.int .u64 p,.int .u64 q]|.int k m=>.int k m|.kg k m=>.float k m|_=>undef) w/\
    VR μ u (match u with|.aS [.int .u64 p,.int .u64 q]=>.tuple #[.int .u64 p,.int .u64 q]|.int k m=>.int k m|.kg k m=>.float k m|_=>undef):=by
   intro u hu
   unfold B9 at hu
   split at hu
   ·rename_i x y c
    split at hu
    ·cases hu
    ·rename_i hc
     simp only[au]at hu;subst hu
     simp only[aW,VR]at hv
     obtain⟨_,_,h1,rfl,_,_,rfl,rfl,_,_,rfl,rfl,rfl⟩:=hv
     rw[h1]
     refine⟨?_,by simp[VR,aW]⟩
     have yh:c=0\/c=1:=Decidable.not_not.1 hc
     rcases yh with rfl|rfl<;>rfl
   ·rename_i x y c
    split at hu
    ·cases hu
    ·rename_i hc
     simp only[au]at hu;subst hu
     simp only[aW,VR]at hv
     obtain⟨_,_,h1,rfl,_,_,rfl,rfl,_,_,rfl,rfl,rfl⟩:=hv
     rw[h1]
     refine⟨?_,by simp[VR,aW]⟩
     have yh:c=0\/c=1:=Decidable.not_not.1 hc
     have hi:∀(p:Prop) [Decidable p],((if p then 1 else 0:Int))=Int.ofNat (if p then 1 else 0):=fun p _=>by split<;>rfl
     rcases yh with rfl|rfl<;>rw[hi]<;>rfl
   ·rename_i s c
    simp only[au]at hu;subst hu
    simp only[aW,VR]at hv
    obtain⟨_,_,h1,rfl,_,_,rfl,rfl,rfl⟩:=hv
    rw[h1]
    refine⟨?_,by simp[VR]⟩
    have:=Go.Lib.run_indexByteString (P:=P) ⟨s.toArray⟩ c w
    show (Extern.BytealgIndexByte.indexByte #[.string ⟨s.toArray⟩,.int .u8 c]).run P w=_
    rw[this,Zm7]
    simp only[]
    congr 2
    split
    ·rename_i e;exact e
    ·simp
   all_goals try cases hu
   ·rename_i b
    simp only[aW,VR]at hv
    obtain⟨_,_,h1,rfl,rfl⟩:=hv
    rw[h1]
    exact⟨rfl,by simp[VR]⟩
   ·rename_i b
    simp only[aW,VR]at hv
    obtain⟨_,_,h1,rfl,rfl⟩:=hv
    rw[h1]
    exact⟨rfl,by simp[VR]⟩
  cases e with
  |same=>
   rcases l with _|⟨u,_|⟨u',l⟩⟩<;>simp[hl,B9]at h
   obtain⟨rfl,rfl⟩:=h
   obtain⟨y,ys,pO,h1,h2⟩:=fX.1 hv
   simp only[aW]at h2;subst h2
   refine fin y ?_ h1 rfl
   rw[pO];rfl
  |nS=>
   simp only[hl]at h
   split at h
   ·rename_i u hu
    simp only[au,bj]at h
    obtain⟨rfl,rfl⟩:=h
    exact fin _ (nZ _ hu).1 (nZ _ hu).2 rfl
   ·cases h
  |nT=>
   simp only[hl]at h
   split at h
   ·rename_i u hu
    simp only[au,bj]at h
    obtain⟨rfl,rfl⟩:=h
    exact fin _ (nZ _ hu).1 (nZ _ hu).2 rfl
   ·cases h
  |cy=>
   simp only[hl]at h
   split at h
   ·rename_i u hu
    simp only[au,bj]at h
    obtain⟨rfl,rfl⟩:=h
    exact fin _ (nZ _ hu).1 (nZ _ hu).2 rfl
   ·cases h
  |lH=>simp[hl,B9]at h
  |pH=>
   simp only[hl]at h
   split at h
   ·rename_i u hu
    simp only[au,bj]at h
    obtain⟨rfl,rfl⟩:=h
    exact fin _ (nZ _ hu).1 (nZ _ hu).2 rfl
   ·cases h
  |pJ=>
   simp only[hl]at h
   split at h
   ·rename_i u hu
    simp only[au,bj]at h
    obtain⟨rfl,rfl⟩:=h
    exact fin _ (nZ _ hu).1 (nZ _ hu).2 rfl
   ·cases h
def Zk7(hh:bk P μ w st){size:Nat}{u:V}{X:Value}(hx:VR μ u X){m:Nat}{xs:List V}(h:gp st size u=some (m,xs)):
  (Builtin.lenOf X).run P w=.ok m w/\xs.length=m*size/\∃ys,aW μ xs ys/\(∀y∈ys,y.oneCell'=true)/\
   ∀w':World,w'.heap=w.heap->∀k,k<=m->(Builtin.firstCells size k X).run P w'=.ok ⟨ys.take (k*size)⟩ w':=by
 unfold gp at h
 split at h
 ·simp only[au,bj]at h
  obtain⟨rfl,rfl⟩:=h
  simp only[VR]at hx;subst hx
  exact⟨by simp[Builtin.lenOf],by simp,[],by simp[aW],by simp,fun w' _ k hk=>by simp[Builtin.firstCells]⟩
 ·simp only[au,bj]at h
  obtain⟨rfl,rfl⟩:=h
  obtain⟨b,c,rfl⟩:=hx
  refine⟨by simp[Builtin.lenOf],by simp,[],by simp[aW],by simp,fun w' _ k hk=>?_⟩
  have Bj:k=0:=by omega
  subst Bj
  have:=run_firstCells_some (P:=P) w' size 0 b 0 c [] (by simp) (by simp)
  simpa using this
 ·rename_i j p m' _ sz
  obtain⟨l,c,hl,rfl,_⟩:=hx
  split at h
  ·split at h
   ·rename_i cs _ _ aM
    split at h
    ·rename_i zm mH
     simp only[au,bj]at h
     obtain⟨rfl,rfl⟩:=h
     obtain⟨ys,g1,g2,g3,g4,g5⟩:=(hh.row hl aM).zm mH
     refine⟨by simp[Builtin.lenOf],by rw[<-g1.length,g2],ys,g1,g5,fun w' vt k hk=>?_⟩
     have hkm:k*size<=m'*size:=ky _ hk
     refine run_firstCells_some (P:=P) w' size k _ m' c (ys.take (k*size)) (by rw[lW,g2];exact pA hkm) fun i y hy=>?_
     rw[wJ]
     rw[lX]at hy
     split at hy
     ·have:=g4 i y hy
      simpa[World.cell?,vt]using this
     ·cases hy
    ·cases h
   ·cases h
  ·cases h
 ·rename_i s
  split at h
  ·rename_i uT
   subst uT
   simp only[au,bj]at h
   obtain⟨rfl,rfl⟩:=h
   simp only[VR]at hx;subst hx
   have jJ:(⟨s.toArray⟩:ByteArray).size=s.length:=rfl
   refine⟨by simp[Builtin.lenOf,jJ, -ByteArray.size_data],by simp,s.map (fun b=>.int .u8 b.toNat),?_,by simp;intro y _;rfl,fun w' _ k hk=>?_⟩
   ·refine aW.qN (by simp) fun i y hy=>?_
    simp only[mL,ig]at hy
    obtain⟨b,hb,rfl⟩:=hy
    exact⟨_,by simp[hb];rfl,by simp[VR]⟩
   ·simp only[Builtin.firstCells,Sem.run_pure,tE]
    congr 1
    apply zz
    simp
  ·cases h
 ·cases h
def Zfa(a:Addr)(i:Nat):(storeCells a [] i).run P w=.ok () w:=by simp[storeCells]
def Yk6(hh:bk P μ w st)(hr:RR μ r n a.tmps){ts:Array TypeId}{t ty e:TypeId}{size:Nat}{x y:Operand}{sd ss:Src}(oW:ts[0]?=some t)(ht:P.underlying t=some (.slice e))(hs:ff P e=some size)
  (hx:bo P x=some sd) (hy:bo P y=some ss) (h:DU size sd ss call r st=some (v,aB)):
  a_ P μ w st (do pure (.value (<-Builtin.copy_ ts ty #[a.eval x,a.eval y]))) v aB:=by
 unfold DU at h
 split at h
 ·rename_i d s hd D8
  have h1:=cO hh hr hx hd
  have h2:=cO hh hr hy D8
  split at h
  ·rename_i m xs hsc
   obtain⟨g1,g2,ys,g3,g4,g5⟩:=Zk7 hh h2 hsc
   have OL:=g3.length
   split at h
   ·simp only[au,bj]at h
    obtain⟨rfl,rfl⟩:=h
    simp only[VR]at h1
    refine a_.value hh (x:=.int .i64 0) ?_ (by simp[VR])
    have hf:=g5 w rfl 0 (xW _)
    simp[Builtin.copy_,oW,h1,run_underlying ht,g1,xI hs,hf,Result.andThen,goInt]
   ·rename_i i o len cap sz
    obtain⟨l,c,hl,h1,Bk,zU,_⟩:=h1
    split at h
    ·cases h
    ·rename_i jJ
     have hf:=g5 w rfl (min m len) (Nat.min_le_left _ _)
     simp only at h
     split at h
     ·rename_i hk
      simp only[au,bj]at h
      obtain⟨rfl,rfl⟩:=h
      refine a_.value hh (x:=.int .i64 0) ?_ (by simp[VR])
      have uF:Nat.min m len=0:=hk
      rw[hk]at hf
      simp[Builtin.copy_,oW,h1,run_underlying ht,g1,xI hs,hf,Result.andThen,goInt,uF,Zfa]
     ·rename_i hk
      split at h
      ·rename_i cs e' aM
       split at h
       ·rename_i hle
        simp only[au,bj]at h
        obtain⟨rfl,rfl⟩:=h
        have hkm:min m len*size<=m*size:=ky _ (Nat.min_le_left _ _)
        obtain⟨w',hw,fk⟩:=Tg (o:=o) hh hl aM (g3.take (min m len*size)) (fun q hq=>g4 q (B0 hq)) (by rw[lW,g2,pA hkm];exact hle)
        refine⟨.value (.int .i64 (min m len:Nat)),_,w',μ,[i],?_,.inl rfl,by simp[VR],fk⟩
        have uF:Nat.min m len=min m len:=rfl
        simp only[Builtin.copy_,oW,h1,Sem.run_bind,run_underlying ht,g1,xI hs,Result.andThen_ok,uF,hf,hw,goInt,Sem.run_pure,List.getElem?_toArray,A5,DI]
       ·cases h
      ·cases h
   ·cases h
  ·cases h
 ·cases h
def Zh9(z:Array Value)(k:Nat):Builtin.zeroCells z k=madeCells z (k*z.size):=rfl
def Ygv(hh:bk P μ w st)(hr:RR μ r n a.tmps){t ty e:TypeId}{size:Nat}{z:V}{x:Operand}{s:Src}(ht:P.underlying t=some (.slice e))(hz:oT P e=some z)(cI:z.cells.all V.one=true)
  (hx:bo P x=some s) (h:LU size z.cells s call r st=some (v,aB)):
  a_ P μ w st (do pure (.value (<-Builtin.clear_ #[t] ty #[a.eval x]))) v aB:=by
 unfold LU at h
 split at h
 ·rename_i hm
  simp only[au,bj]at h
  obtain⟨rfl,rfl⟩:=h
  have h1:=cO hh hr hx hm
  simp only[VR]at h1
  exact a_.value hh (x:=.tuple #[]) (by simp[Builtin.clear_,h1,run_underlying ht]) ⟨[],rfl,by simp[aW]⟩
 ·rename_i hm
  simp only[au,bj]at h
  obtain⟨rfl,rfl⟩:=h
  obtain⟨b,c,h1⟩:=cO hh hr hx hm
  exact a_.value hh (x:=.tuple #[]) (by simp[Builtin.clear_,h1,run_underlying ht]) ⟨[],rfl,by simp[aW]⟩
 ·rename_i i o len cap sz hm
  obtain⟨l,c,hl,h1,_⟩:=cO hh hr hx hm
  split at h
  ·rename_i h0
   subst h0
   simp only[au,bj]at h
   obtain⟨rfl,rfl⟩:=h
   exact a_.value hh (x:=.tuple #[]) (by simp[Builtin.clear_,h1,run_underlying ht]) ⟨[],rfl,by simp[aW]⟩
  ·rename_i h0
   split at h
   ·cases h
   ·rename_i cW
    simp only[not_or,Decidable.not_not]at cW
    split at h
    ·rename_i cs e' aM
     split at h
     ·rename_i hle
      simp only[au,bj]at h
      obtain⟨rfl,rfl⟩:=h
      obtain⟨inf,zx,hi,pR,yx⟩:=Jv hz
      have n_:=Th (yx μ).cells len
      have hlen:z.cells.length=zx.cells.size:=by rw[<-(yx μ).cells.length];simp
      obtain⟨w',hw,fk⟩:=Tg (o:=o) hh hl aM n_ (Zo7 cI len n_) (by rw[Zl5,cW.2.2];exact hle)
      refine⟨.value (.tuple #[]),_,w',μ,[i],?_,.inl rfl,⟨[],rfl,by simp[aW]⟩,fk⟩
      have hzc:Builtin.zeroCells zx.cells len=madeCells ⟨zx.cells.toList⟩ (len*z.cells.length):=by rw[Zh9,hlen]
      have hrz:(zeroValue e).run P w=.ok zx w:=by simp[zeroValue,typeInfo,hi,pR]
      obtain⟨ze4,rfl⟩:∃q,len=q+1:=⟨len-1,by omega⟩
      simp[Builtin.clear_,h1,run_underlying ht,hrz,hzc,hw,Result.andThen]
     ·cases h
    ·cases h
 ·cases h
def Ti{ts:Array TypeId}{t u ty e:TypeId}{d:TypeDesc}{size m sLen sCap:Nat}{base:Option Addr}{X:Value}{ys:List Value}(oW:ts[0]?=some t)(ht:P.underlying t=some (.slice e))(mU:ts[1]?=some u)(hu:P.underlying u=some d)
  (hd:∀k,d≠.int k) (hs:ff P e=some size) (hlen:(Builtin.lenOf X).run P w=.ok m w) (hf:(Builtin.firstCells size m X).run P w=.ok ⟨ys⟩ w) (hle:sLen+m<=sCap)
  {w':World} (fk:(match base with|some a=>storeCells (a.add (sLen*size)) ys|none=>pure ():Sem Unit).run P w=.ok () w'):
  (Builtin.append_ ts ty #[.slice base sLen sCap,X]).run P w=.ok (.slice base (sLen+m) sCap) w':=by
 cases base with
 |none=>
  simp only[Sem.run_pure,Result.ok.injEq,true_and]at fk
  subst fk
  cases d<;>first|exact absurd rfl (hd _)|simp[Builtin.append_,oW,run_underlying ht,mU,run_underlying hu,xI hs,Result.andThen,hlen,hf,hle]
 |some b=>
  simp only at fk
  cases d<;>first|exact absurd rfl (hd _)|simp[Builtin.append_,oW,run_underlying ht,mU,run_underlying hu,xI hs,Result.andThen,hlen,hf,hle,fk]
def Zli{ts:Array TypeId}{t u ty e:TypeId}{d:TypeDesc}{inf:TypeInfo}{zx:Value}{m sLen sCap:Nat}{base:Option Addr}{X:Value}{os ys:List Value}(oW:ts[0]?=some t)(ht:P.underlying t=some (.slice e))(mU:ts[1]?=some u)(hu:P.underlying u=some d)
  (hd:∀k,d≠.int k) (hi:P.info? e=some inf) (hz:inf.zero=some zx) (hlen:(Builtin.lenOf X).run P w=.ok m w) (hf:(Builtin.firstCells inf.size m X).run P w.drew=.ok ⟨ys⟩ w.drew)
  (ON:(Builtin.firstCells inf.size sLen (.slice base sLen sCap)).run P w.drew=.ok ⟨os⟩ w.drew) (hle:¬sLen+m<=sCap) (hb:inf.bytes≠0) (zV:2*(sLen+m)*inf.bytes<=2^48):
  (Builtin.append_ ts ty #[.slice base sLen sCap,X]).run P w=.ok (.slice (some ⟨w.heap.size,0,none⟩) (sLen+m) (grownCap w (sLen+m) sCap e))
   (w.drew.alloc (.cells ⟨os++ys++(Builtin.zeroCells zx.cells (grownCap w (sLen+m) sCap e-(sLen+m))).toList⟩ e)):=by
 have hgr:Builtin.nextslicecap (sLen+m) sCap*inf.bytes<=2^48:=by
  have h1:Builtin.nextslicecap (sLen+m) sCap*inf.bytes<=2*(sLen+m)*inf.bytes:=ky _ (nextslicecap_le (by omega))
  omega
 have zdV:¬(281474976710656<Builtin.nextslicecap (sLen+m) sCap*inf.bytes):=by omega
 cases d<;>first|exact absurd rfl (hd _)|simp[Builtin.append_,oW,run_underlying ht,mU,run_underlying hu,sizeOf,typeInfo,zeroValue,hi,hz,Result.andThen,hlen,hf,ON,hle,hb,zdV,Question.forced,newRow,grownCap]<;>(congr 2;apply zz;simp)
def Zo3(hh:bk P μ w st){ts:Array TypeId}{t u ty e:TypeId}{d:TypeDesc}{size b m sLen sCap:Nat}{z:V}{base:Option Addr}{X:Value}{os ys:List Value}{co cx:List V}
  (oW:ts[0]?=some t) (ht:P.underlying t=some (.slice e)) (mU:ts[1]?=some u) (hu:P.underlying u=some d) (hd:∀k,d≠.int k)
  (hs:ff P e=some size) (hb:AY P e=some b) (hz:oT P e=some z) (OO:z.cells.length=size) (cI:z.cells.all V.one=true) (wk:size≠0)
  (hlen:(Builtin.lenOf X).run P w=.ok m w) (hf:(Builtin.firstCells size m X).run P w.drew=.ok ⟨ys⟩ w.drew)
  (ON:(Builtin.firstCells size sLen (.slice base sLen sCap)).run P w.drew=.ok ⟨os⟩ w.drew) (hle:¬sLen+m<=sCap) (nO:b≠0) (zV:2*(sLen+m)*b<=2^48)
  (ho:aW μ co os) (hx:aW μ cx ys) (A1:∀y∈os,y.oneCell'=true) (zn:∀y∈ys,y.oneCell'=true) (uC:co.length=sLen*size) (BV:cx.length=m*size):
  ∃μ' w' c,(Builtin.append_ ts ty #[.slice base sLen sCap,X]).run P w=.ok (.slice (some ⟨w.heap.size,0,none⟩) (sLen+m) c) w'/\VR μ' (.slice st.n 0 (sLen+m) none size) (.slice (some ⟨w.heap.size,0,none⟩) (sLen+m) c)/\
   bD P μ w st μ' w' (st.alloc (.cells (co++cx) e true)) []:=by
 obtain⟨inf,zx,hi,pR,yx⟩:=Jv hz
 have jJ:inf.size=size:=by unfold ff at hs;simpa[hi]using hs
 have hbz:inf.bytes=b:=by unfold AY at hb;simpa[hi]using hb
 have OP:zx.cells.size=size:=by rw[<-OO,<-(yx μ).cells.length];simp
 subst jJ hbz
 have bL:=Zli (P:=P) (w:=w) (ty:=ty) oW ht mU hu hd hi pR hlen hf ON hle nO zV
 have Cr:=grownCap_ge w (sLen+m) sCap e
 generalize grownCap w (sLen+m) sCap e=cap at bL Cr
 have hzc:(Builtin.zeroCells zx.cells (cap-(sLen+m))).toList.length=(cap-(sLen+m))*inf.size:=by simp[Builtin.zeroCells,OP]
 have n_:aW μ (dw z.cells (cap-(sLen+m))) (Builtin.zeroCells zx.cells (cap-(sLen+m))).toList:=by
  have:=Th (yx μ).cells (cap-(sLen+m))
  rw[Zh9]
  have e1:zx.cells.size=z.cells.length:=by rw[OP,OO]
  rw[e1]
  simpa using this
 have OQ:=ho.length
 have OR:=hx.length
 have zU:(os++ys++(Builtin.zeroCells zx.cells (cap-(sLen+m))).toList).length=cap*inf.size:=by
  rw[jb,jb,hzc,OQ,OR,uC,BV,<-jg,<-jg]
  congr 1;omega
 refine⟨_,_,cap,bL,?_,(bD.newRow hh.D9 (cs:=co++cx) (xs:=os++ys++(Builtin.zeroCells zx.cells (cap-(sLen+m))).toList) (lo:=0) (hi:=0) ?_ ?_ ?_ ?_).zW⟩
 ·simp only[VR]
  refine⟨⟨w.heap.size,0,(os++ys++(Builtin.zeroCells zx.cells (cap-(sLen+m))).toList).length⟩,cap,by exact aQ trivial,by simp,Cr,?_,by simp,fun _=>?_⟩
  ·show 0+cap*inf.size<=(os++ys++(Builtin.zeroCells zx.cells (cap-(sLen+m))).toList).length
   omega
  ·show 0+cap*inf.size=(os++ys++(Builtin.zeroCells zx.cells (cap-(sLen+m))).toList).length
   omega
 ·rw[jb,jb,jb,OQ,OR];omega
 ·intro j u' og
  obtain⟨y,h1,h2⟩:=(ho.append hx).get og
  exact⟨y,by rw[rR (A3.1 h1).1];exact h1,h2⟩
 ·intro y hy
  simp only[l7]at hy
  rcases hy with(hy|hy)|hy
  ·exact A1 y hy
  ·exact zn y hy
  ·exact Zo7 cI _ n_ y hy
 ·exact .inr (aZ _)
def bD.Jw{w':World}(h:bk P μ w st){i:Nat}{l l':L}{o o':O}(hi:μ i=some l)(ho:st.h.get i=some o)(hw:o.wr=true)
  (zi:w'.os=w.os) (htp:w'.tape=w.tape) (hou:w'.output=w.output) (jJ:w'.heap.size=w.heap.size) (qQ:∀b,b≠l.b->w'.heap[b]?=w.heap[b]?) (tU:l'.b=l.b)
  (wA:OM P (fun j=>if j=st.n then some l' else μ j) w' o' l'):
  bD P μ w st (fun j=>if j=st.n then some l' else μ j) w' ((st.write i .dead).alloc o') [i]:=by
 have wB:o.live=true:=by cases o<;>simp_all [O.wr,O.live]
 have DE:=(h.dc i l hi).1
 have pk:=(h.dc i l hi).2
 have dJ:∀j lj,μ j=some lj->(fun j=>if j=st.n then some l' else μ j) j=some lj:=fun j lj hj=>by
  have:=(h.dc j lj hj).1
  show (if j=st.n then some l' else μ j)=some lj
  rw[aA (by omega)];exact hj
 have cU:∀j,((st.write i .dead).alloc o').h.get j=if j=st.n then some o' else if j=i then some .dead else st.h.get j:=fun j=>by
  simp only[St.alloc,St.write,T.aj]
 refine⟨⟨fun j lj hj=>?_,fun j lj hj=>?_,fun j k lj lk oj ok hj hk bF h1 h2 LF fY=>?_,fun g hg=>let ⟨t,ht⟩:=h.ij g hg;⟨t,dJ g _ ht⟩⟩,fun j hj=>?_,by simp[St.alloc,St.write],rfl,⟨zi,htp,hou,by omega,fun b _ dH=>qQ b ?_⟩,
  fun j lj hn hj=>?_,fun j hj dH=>?_,fun j oj hn hj=>?_,fun j h1 h2=>⟨l',by simp only[St.alloc,St.write]at h2;show (if j=st.n then some l' else μ j)=some l';rw[aQ (by omega)]⟩,fun j hj _=>by simp only[xZ]at hj;subst hj;exact⟨o,ho,hw⟩⟩
 ·replace hj:(if j=st.n then some l' else μ j)=some lj:=hj
  split at hj
  ·rename_i e
   simp only[au]at hj;subst hj
   simp[St.alloc,St.write];omega
  ·have:=h.dc j lj hj
   simp[St.alloc,St.write];omega
 ·replace hj:(if j=st.n then some l' else μ j)=some lj:=hj
  split at hj
  ·rename_i e
   simp only[au]at hj;subst hj
   exact⟨o',by rw[cU,aQ e],wA⟩
  ·rename_i e
   by_cases e2:j=i
   ·exact⟨.dead,by rw[cU,aA e,aQ e2],trivial⟩
   ·obtain⟨oj,h1,h2⟩:=h.obj j lj hj
    refine⟨oj,by rw[cU,aA e,aA e2];exact h1,?_⟩
    cases hl:oj.live
    ·cases oj<;>simp[O.live]at hl
     trivial
    ·exact(h2.mono dJ).congr (qQ lj.b (Ne.symm (h.inj i j l lj o oj hi hj (Ne.symm e2) ho h1 hw hl)))
 ·rw[cU]at h1 h2
  replace hj:(if j=st.n then some l' else μ j)=some lj:=hj
  replace hk:(if k=st.n then some l' else μ k)=some lk:=hk
  by_cases e1:j=st.n
  ·rw[aQ e1]at hj h1
   simp only[au]at hj h1
   subst hj h1
   by_cases e2:k=st.n
   ·exact absurd (e1.trans e2.symm) bF
   ·rw[aA e2]at hk h2
    by_cases e3:k=i
    ·rw[aQ e3,au]at h2;subst h2;simp[O.live]at fY
    ·rw[aA e3]at h2
     rw[tU]
     exact h.inj i k l lk o ok hi hk (Ne.symm e3) ho h2 hw fY
  ·rw[aA e1]at hj h1
   by_cases e3:j=i
   ·rw[aQ e3,au]at h1;subst h1;simp[O.wr]at LF
   ·rw[aA e3]at h1
    by_cases e2:k=st.n
    ·rw[aQ e2]at hk h2
     simp only[au]at hk h2
     subst hk h2
     rw[tU]
     exact h.inj j i lj l oj o hj hi e3 h1 ho LF wB
    ·rw[aA e2]at hk h2
     by_cases e4:k=i
     ·rw[aQ e4,au]at h2;subst h2;simp[O.live]at fY
     ·rw[aA e4]at h2
      exact h.inj j k lj lk oj ok hj hk bF h1 h2 LF fY
 ·show (if j=st.n then some l' else μ j)=μ j
  rw[aA (by omega)]
 ·exact Ne.symm (dH i (by simp) l hi)
 ·replace hj:(if j=st.n then some l' else μ j)=some lj:=hj
  split at hj
  ·simp only[au]at hj;subst hj
   exact .inr ⟨i,by simp,DE,l,o,hi,tU.symm,ho,hw⟩
  ·exact absurd (h.dc j lj hj).1 (by omega)
 ·simp only[xZ]at dH
  rw[cU,aA (by omega),aA dH]
 ·rw[cU,aA (by omega)]at hj
  split at hj
  ·rename_i e
   subst e
   simp only[au]at hj;subst hj
   exact⟨o,ho,by simp[O.wr],by simp[O.live]⟩
  ·exact⟨oj,hj,id,id⟩
def bD.kill(h:bk P μ w st){i:Nat}{l:L}{o:O}(hi:μ i=some l)(ho:st.h.get i=some o)(hw:o.wr=true):bD P μ w st μ w (st.write i .dead) [i]:=
 bD.write h hi ho hw rfl rfl rfl rfl (fun _ _=>rfl) trivial
def Ydq(hh:bk P μ w st)(hr:RR μ r n a.tmps){ts:Array TypeId}{t u ty e:TypeId}{d:TypeDesc}{size b:Nat}{z:V}{x y:Operand}{s sx:Src}
  (oW:ts[0]?=some t) (ht:P.underlying t=some (.slice e)) (mU:ts[1]?=some u) (hu:P.underlying u=some d) (hd:∀k,d≠.int k)
  (hs:ff P e=some size) (hb:AY P e=some b) (hz:oT P e=some z) (OO:z.cells.length=size) (cI:z.cells.all V.one=true) (nO:b≠0)
  (hx:bo P x=some s) (hy:bo P y=some sx) (h:Cd size b e z.cells s sx call r st=some (v,aB)):
  a_ P μ w st (do pure (.value (<-Builtin.append_ ts ty #[a.eval x,a.eval y]))) v aB:=by
 unfold Cd at h
 split at h
 ·rename_i sv xv hsv AX
  have h1:=cO hh hr hx hsv
  have h2:=cO hh hr hy AX
  unfold l8 at h
  split at h
  ·cases h
  ·rename_i m xs hsc
   obtain⟨g1,g2,ys,g3,g4,g5⟩:=Zk7 hh h2 hsc
   have OL:=g3.length
   have hyt:ys.take (m*size)=ys:=iP (by omega)
   have gf:∀w':World,w'.heap=w.heap->(Builtin.firstCells size m (a.eval y)).run P w'=.ok ⟨ys⟩ w':=fun w' vt=>by rw[g5 w' vt m (aZ _),hyt]
   split at h
   ·-- a nil slice
    simp only[VR]at h1
    split at h
    ·rename_i uV
     subst uV
     simp only[au,bj]at h
     obtain⟨rfl,rfl⟩:=h
     refine a_.value hh (x:=.slice none 0 0) ?_ (by simp[VR])
     rw[h1]
     exact Ti (base:=none) oW ht mU hu hd hs g1 (gf w rfl) (aZ _) (by simp)
    ·rename_i uV
     split at h
     ·rename_i hc
      simp only[au,bj]at h
      obtain⟨rfl,rfl⟩:=h
      obtain⟨μ',w',c,k1,k2,k3⟩:=Zo3 (P:=P) (w:=w) (ty:=ty) (sLen:=0) (sCap:=0) (base:=none) (X:=a.eval y) (os:=[]) (co:=[]) hh oW ht mU hu hd hs hb hz OO cI hc.2 g1 (gf w.drew rfl) (by simp[Builtin.firstCells]) (by omega) nO
       (by have:=hc.1;unfold yW at this;simpa using this) (by simp[aW]) g3 (by simp) g4 (by simp) g2
      refine⟨.value (.slice (some ⟨w.heap.size,0,none⟩) (0+m) c),_,w',μ',[],?_,.inl rfl,?_,?_⟩
      ·rw[h1];simp only[Sem.run_bind,k1,Result.andThen_ok,Sem.run_pure]
      ·simpa using k2
      ·simpa using k3
     ·cases h
   ·-- a slice
    rename_i i o len cap sz
    have iW:=h1
    obtain⟨l,c,hl,h1,Bk,zU,hk,Cs⟩:=h1
    split at h
    ·rename_i uV
     subst uV
     split at h
     ·simp only[au,bj]at h
      obtain⟨rfl,rfl⟩:=h
      refine a_.value hh (x:=a.eval x) ?_ iW
      have hys:ys=[]:=by
       apply kJ
       omega
      rw[h1]
      have:=Ti (P:=P) (w:=w) (w':=w) (ty:=ty) (base:=some ⟨l.b,l.d+o,none⟩) (sLen:=len) (sCap:=c) oW ht mU hu hd hs g1 (gf w rfl) (by omega) (by simp only[hys];exact Zfa _ _)
      simpa using this
     ·cases h
    ·rename_i uV
     split at h
     ·cases h
     ·rename_i cW
      simp only[not_or,Decidable.not_not,xC]at cW
      obtain⟨jJ,wk,zV⟩:=cW
      subst jJ
      unfold yW at zV
      have inPlace:∀(cs:List V) (e':TypeId),st.row i=some (cs,e',true)->o+(len+m)*sz<=cs.length->len+m<=c->(∀k,cap=some k->c=k)->
        a_ P μ w st (do pure (.value (<-Builtin.append_ ts ty #[a.eval x,a.eval y]))) (.slice i o (len+m) cap sz) (st.write i (.cells (ag cs (o+len*sz) xs) e' true)):=by
       intro cs e' aM hle Ct _
       have zdW:(len+m)*sz=len*sz+m*sz:=jg ..
       obtain⟨w',hw,fk⟩:=Tg (o:=o+len*sz) hh hl aM g3 g4 (by rw[g2];omega)
       have bL:=Ti (P:=P) (w:=w) (w':=w') (ty:=ty) (base:=some ⟨l.b,l.d+o,none⟩) (sLen:=len) (sCap:=c) oW ht mU hu hd hs g1 (gf w rfl) Ct (by
        simp only[wJ];rw[qS];exact hw)
       refine⟨.value (.slice (some ⟨l.b,l.d+o,none⟩) (len+m) c),_,w',μ,[i],?_,.inl rfl,?_,fk⟩
       ·rw[h1];simp only[Sem.run_bind,bL,Result.andThen_ok,Sem.run_pure]
       ·simp only[VR];exact⟨l,c,hl,rfl,Ct,zU,hk,Cs⟩
      have fresh:∀(cr:St) (ws:List Nat) (cs old:List V) (e':TypeId) (BW:Bool),bD P μ w st μ w cr ws->cr.n=st.n->st.row i=some (cs,e',BW)->aE cs o (len*sz)=some old->¬len+m<=c->
        a_ P μ w st (do pure (.value (<-Builtin.append_ ts ty #[a.eval x,a.eval y]))) (.slice st.n 0 (len+m) none sz) (cr.alloc (.cells (old++xs) e true)):=by
       intro cr ws cs old e' BW jE mF aM hold dH
       have yi:=hh.row hl aM
       obtain⟨os,q1,q2,q3,q4,q5⟩:=yi.zm hold
       have ON:(Builtin.firstCells sz len (.slice (some ⟨l.b,l.d+o,none⟩) len c)).run P w.drew=.ok ⟨os⟩ w.drew:=by
        refine run_firstCells_some (P:=P) w.drew sz len _ len c os q2 fun j y hy=>?_
        rw[wJ]
        exact q4 j y hy
       obtain⟨μ',w',c',k1,k2,k3⟩:=Zo3 (P:=P) (w:=w) (ty:=ty) (base:=some ⟨l.b,l.d+o,none⟩) (sLen:=len) (sCap:=c) jE.hr oW ht mU hu hd hs hb hz OO cI wk g1 (gf w.drew rfl) ON dH nO zV q1 g3 q5 g4 (by rw[<-q1.length,q2]) g2
       refine⟨.value (.slice (some ⟨w.heap.size,0,none⟩) (len+m) c'),_,w',μ',[]++ws,?_,.inl rfl,?_,jE.trans k3⟩
       ·rw[h1];simp only[Sem.run_bind,k1,Result.andThen_ok,Sem.run_pure]
       ·rw[<-mF];exact k2
      split at h
      ·cases h
      ·rename_i cs e' BW aM
       split at h
       ·rename_i k
        have hck:=hk k rfl
        split at h
        ·rename_i hle
         split at h
         ·rename_i hc
          simp only[au,bj]at h
          obtain⟨rfl,rfl⟩:=h
          obtain⟨rfl,BH⟩:=hc
          exact inPlace cs e' aM BH (by omega) hk
         ·cases h
        ·rename_i hle
         split at h
         ·rename_i old hold
          simp only[au,bj]at h
          obtain⟨rfl,rfl⟩:=h
          exact fresh st [] cs old e' BW (bD.refl hh) rfl aM hold (by omega)
         ·cases h
       ·split at h
        ·rename_i OS
         subst OS
         have yi:=hh.row hl aM
         have hct:cs.length<=l.qM:=by obtain⟨_,_,_,_,_,h3,_⟩:=yi;exact h3
         have zeL:=Cs rfl
         have zdW:(len+m)*sz=len*sz+m*sz:=jg ..
         split at h
         ·rename_i hle
          simp only[au,bj]at h
          obtain⟨rfl,rfl⟩:=h
          refine inPlace cs e' aM hle ?_ hk
          have:(len+m)*sz<=c*sz:=by omega
          exact Nat.le_of_mul_le_mul_right this (by omega)
         ·split at h
          ·rename_i hle hc
           obtain⟨OT,rfl,ho0⟩:=hc
           simp only[au,bj]at h
           obtain⟨rfl,rfl⟩:=h
           have hold:aE cs o (len*sz)=some (cs.drop o):=by
            unfold aE
            rw[aQ (by omega),iP (by simp;omega)]
           by_cases Ct:len+m<=c
           ·-- in place,above what is known
            obtain⟨c',lo,hi,q1,q2,q3,q4,q5,q6⟩:=yi
            obtain⟨cur⟩:=c'
            simp only[List.size_toArray]at q2
            have zX:(len+m)*sz<=c*sz:=ky _ Ct
            have hrs:=Zdj (P:=P) l.b (l.d+(o+len*sz)) e' lo hi ys 0 cur w q1 (by omega) g4 (fun j DZ nM=>by
             have:=(q6 rfl).2 (j-l.d) (by omega)
             rw[show l.d+(j-l.d)=j by omega]at this
             exact this)
            have bL:=Ti (P:=P) (w:=w) (ty:=ty) (base:=some ⟨l.b,l.d+o,none⟩) (sLen:=len) (sCap:=c) oW ht mU hu hd hs g1 (gf w rfl) Ct (by
             simp only[wJ];rw[qS];exact hrs)
            have qQ:=setRow_heap w l.b _ (⟨ag cur (l.d+(o+len*sz)+0) ys⟩:Array Value) e' _ q1
            have dJ:∀j lj,μ j=some lj->(fun j=>if j=st.n then some (⟨l.b,l.d+o,l.qM-o⟩:L) else μ j) j=some lj:=fun j lj hj=>by
             have:=(hh.dc j lj hj).1
             simp only
             rw[aA (by omega)];exact hj
            refine⟨.value (.slice (some ⟨l.b,l.d+o,none⟩) (len+m) c),_,w.setRow l.b ⟨ag cur (l.d+(o+len*sz)+0) ys⟩,fun j=>if j=st.n then some ⟨l.b,l.d+o,l.qM-o⟩ else μ j,[i],?_,.inl rfl,?_,bD.Jw hh hl (OJ aM) rfl rfl rfl rfl (by simp) (fun b hb=>setRow_other w l.b b _ hb) rfl ⟨_,lo,hi,qQ,?_,?_,?_,?_,?_⟩⟩
            ·rw[h1];simp only[Sem.run_bind,bL,Result.andThen_ok,Sem.run_pure]
            ·simp only[VR]
             refine⟨⟨l.b,l.d+o,l.qM-o⟩,c,by simp,by simp,Ct,?_,by simp,fun _=>?_⟩
             ·show 0+c*sz<=l.qM-o
              omega
             ·show 0+c*sz=l.qM-o
              omega
            ·simp only[List.size_toArray]
             rw[Ia (by omega)];omega
            ·simp only[jb,A4];omega
            ·intro j u' og
             have e1:∀k:Nat,(⟨ag cur (l.d+(o+len*sz)+0) ys⟩:Array Value)[k]?=(ag cur (l.d+(o+len*sz)+0) ys)[k]?:=fun k=>by simp
             simp only
             rw[e1,Mc (by omega)]
             rw[List.getElem?_append]at og
             split at og
             ·rename_i hj
              simp only[A4]at hj
              rw[ix]at og
              obtain⟨y',p1,p2⟩:=q4 (o+j) u' og
              rw[aA (by omega)]
              refine⟨y',?_,VR.mono dJ u' y' p2⟩
              rw[show l.d+o+j=l.d+(o+j) by omega]
              simpa using p1
             ·rename_i hj
              simp only[A4]at hj og
              obtain⟨y',p1,p2⟩:=g3.get og
              have aP:=(A3.1 p1).1
              rw[aQ (by omega)]
              refine⟨y',?_,VR.mono dJ u' y' p2⟩
              rw[show l.d+o+j-(l.d+(o+len*sz)+0)=j-(cs.length-o) by omega]
              exact p1
            ·intro j y' dE uU
             simp only at dE uU
             have e1:(⟨ag cur (l.d+(o+len*sz)+0) ys⟩:Array Value)[l.d+o+j]?=(ag cur (l.d+(o+len*sz)+0) ys)[l.d+o+j]?:=by simp
             rw[e1,Mc (by omega)]at uU
             split at uU
             ·exact g4 y' (eZ uU)
             ·exact q5 (o+j) y' (by omega) (by rw[show l.d+(o+j)=l.d+o+j by omega];simpa using uU)
            ·intro _
             refine⟨by have:=(q6 rfl).1;show l.d+o=0;omega,?_⟩
             intro j hj
             have:=(q6 rfl).2 (o+j) (by simp only at hj;omega)
             rw[show l.d+(o+j)=l.d+o+j by omega]at this
             exact this
           ·have OU:=bD.kill hh hl (OJ aM) rfl
            exact fresh (st.write i .dead) [i] cs (cs.drop o) e' true OU rfl aM hold Ct
          ·cases h
        ·cases h
   ·cases h
 ·cases h
end
section
variable {P:Program} {μ:Mu} {w:World} {st aB:St} {r:T V} {n:Nat} {a:Act} {call:cM} {v:V}
def Zil{b:Nat}{c:Array Value}{e:TypeId}{f:Nat×Nat}(h:w.heap[b]?=some (.cells c e f)):w.shape? b=some (e,c.size):=by
 simp[World.shape?,h]
def Zki{t:TypeId}{z:Nat}(h:ff P t=some z):P.cellsOf t=z:=by
 unfold ff at h
 simp[Program.cellsOf,h]
def Zox{t:TypeId}{z:Nat}(h:ff P t=some z):∃j,P.info? t=some j/\j.size=z:=by
 unfold ff at h
 simp only[ig]at h
 exact h
def Zt0{u:TypeId}{z:Nat}(hc:P.cellsOf u=z+1)(count:Nat)(hn:1<=count):liesAt P P.depth u count 0 u 1=true:=by
 have hd:P.depth=(2*(P.types.size+Made.depth)+1)+1:=rfl
 rw[hd]
 simp only[liesAt,IV]
 left
 rw[hd]
 simp[rowAt,hc,sameLayout]
 left;omega
def Zzn(hh:bk P μ w st)(hr:RR μ r n a.tmps){src dst t:TypeId}{x:Operand}{s:Src}{z:Nat}(hs:P.underlying src=some (.pointer t))(hd:P.underlying dst=some .unsafePointer)(hz:ff P t=some (z+1))
  (hx:bo P x=some s) (h:Ce none s call r st=some (v,aB)):a_ P μ w st (do pure (.value (<-convert src dst (a.eval x)))) v aB:=by
 unfold Ce at h
 split at h
 ·rename_i i hm
  obtain⟨l,hl,h1⟩:=cO hh hr hx hm
  split at h
  ·rename_i c e' aM
   simp only[]at h
   split at h
   ·rename_i aP
    simp only[au,bj]at h
    obtain⟨rfl,rfl⟩:=h
    obtain⟨c',lo,hi,g1,g2,g3,_,_,g6⟩:=hh.row hl aM
    have kv:=(g6 rfl).1
    obtain⟨j,hj,hjs⟩:=Zox hz
    refine a_.value hh (x:=.pointer (some ⟨l.b,l.d+0,none⟩)) ?_ ⟨l,hl,rfl⟩
    rw[h1]
    exact Go.Lib.run_to_unsafe w ⟨l.b,l.d+0,none⟩ hs hd hj (by omega) (Zil g1) (by show l.d+0<c'.size;omega)
   ·cases h
  ·cases h
 ·cases h
def Zsl(hh:bk P μ w st)(hr:RR μ r n a.tmps){src dst u:TypeId}{x:Operand}{s:Src}{z:Nat}(hs:P.underlying src=some .unsafePointer)(hd:P.underlying dst=some (.pointer u))(hz:ff P u=some (z+1))
  (hx:bo P x=some s) (h:Ce (some (u,z+1)) s call r st=some (v,aB)):a_ P μ w st (do pure (.value (<-convert src dst (a.eval x)))) v aB:=by
 unfold Ce at h
 split at h
 ·rename_i i hm
  obtain⟨l,hl,h1⟩:=cO hh hr hx hm
  split at h
  ·rename_i c e' aM
   simp only[]at h
   split at h
   ·rename_i aP
    obtain⟨rfl,_,hle⟩:=aP
    simp only[au,bj]at h
    obtain⟨rfl,rfl⟩:=h
    obtain⟨c',lo,hi,g1,g2,g3,_,_,g6⟩:=hh.row hl aM
    have kv:=(g6 rfl).1
    obtain⟨j,hj,hjs⟩:=Zox hz
    have hco:=Zki hz
    refine a_.value hh (x:=.pointer (some ⟨l.b,l.d+0,none⟩)) ?_ ⟨l,hl,rfl⟩
    rw[h1]
    refine Go.Lib.run_from_unsafe w ⟨l.b,l.d+0,none⟩ hs hd hj (Zil g1) ?_
    show liesAt P P.depth e' (c'.size/P.cellsOf e') (l.d+0) e' 1=true
    rw[kv]
    refine Zt0 hco _ ?_
    rw[hco]
    exact Nat.div_pos (by omega) (by omega)
   ·cases h
  ·cases h
 ·cases h
def Yes(hh:bk P μ w st)(hr:RR μ r n a.tmps){ts:Array TypeId}{ty:TypeId}{x:Operand}{s:Src}
  (hx:bo P x=some s) (h:LV s call r st=some (v,aB)):a_ P μ w st (do pure (.value (<-Builtin.unsafeSliceData_ ts ty #[a.eval x]))) v aB:=by
 unfold LV at h
 split at h
 ·rename_i i o len cap sz hm
  obtain⟨l,c,hl,h1,Bk,_⟩:=cO hh hr hx hm
  split at h
  ·rename_i aP
   simp only[au,bj]at h
   obtain⟨rfl,rfl⟩:=h
   refine a_.value hh (x:=.pointer (some ⟨l.b,l.d+o,none⟩)) ?_ ⟨l,hl,rfl⟩
   rw[h1]
   exact Go.Lib.run_unsafeSliceData_row w ts ty _ _ _ (by omega)
  ·cases h
 ·cases h
def Znp:∀{vs:List V} {s:List UInt8},Ji vs=some s->vs.length=s.length/\∀(j:Nat) (b:UInt8),s[j]?=some b->vs[j]?=some (.int .u8 b.toNat)
 |[],s,h=>by
  simp only[Ji,au]at h;subst h
  exact⟨rfl,fun j b hb=>by simp at hb⟩
 |v::vs,s,h=>by
  simp only[Ji]at h
  split at h
  ·rename_i b s' hb hs
   simp only[au]at h;subst h
   obtain⟨h1,h2⟩:=Znp hs
   refine⟨by simp[h1],fun j c hc=>?_⟩
   cases j with
   |zero=>
    simp only[A5,au]at hc;subst hc
    cases v<;>simp only[SO,reduceCtorEq]at hb
    rename_i k m
    cases k<;>simp only[reduceCtorEq]at hb
    split at hb
    ·rename_i hm
     simp only[au]at hb;subst hb
     simp only[A5,au,V.int.injEq,true_and]
     have:m.toNat<256:=by omega
     simp[Nat.toUInt8]
     omega
    ·cases hb
   |succ j=>
    simp only[DI]at hc ⊢
    exact h2 j c hc
  ·cases h
def Yim(hh:bk P μ w st)(hr:RR μ r n a.tmps){pt it ty e:TypeId}{x y:Operand}{s q:Src}(hp:P.underlying pt=some (.pointer e))(hz:ff P e=some 1)(hx:bo P x=some s)(hy:bo P y=some q)
  (h:LW e s q call r st=some (v,aB)):a_ P μ w st (do pure (.value (<-Builtin.unsafeString_ #[pt,it] ty #[a.eval x,a.eval y]))) v aB:=by
 unfold LW at h
 split at h
 ·rename_i i k hm hq
  obtain⟨l,hl,h1⟩:=cO hh hr hx hm
  have h2:=cO hh hr hy hq
  simp only[VR]at h2
  split at h
  ·rename_i hk
   split at h
   ·rename_i c e' aM
    split at h
    ·rename_i he
     subst he
     split at h
     ·rename_i zm mH
      split at h
      ·rename_i str zdX
       simp only[au,bj]at h
       obtain⟨rfl,rfl⟩:=h
       obtain⟨c',lo,hi,g1,g2,g3,g4,g5,g6⟩:=hh.row hl aM
       have kv:=(g6 rfl).1
       obtain⟨b1,b2⟩:=Znp zdX
       obtain⟨xs,pO,BV,yZ,gl,_⟩:=(hh.row hl aM).zm mH
       have cZ:str.length=k.toNat:=by have:=pO.length;omega
       have hle:k.toNat<=c.length:=by
        unfold aE at mH
        split at mH
        ·omega
        ·cases mH
       have hkn:k=(str.length:Int):=by omega
       have bF:str≠[]:=by intro h0;rw[h0]at cZ;simp at cZ;omega
       have iA:∀(j:Nat) (b:UInt8),str[j]?=some b->w.cell? ((⟨l.b,0,none⟩:Addr).add j)=some (.int .u8 b.toNat):=by
        intro j b hb
        have hv:=b2 j b hb
        obtain⟨y,rV,wj⟩:=pO.get hv
        simp only[VR]at wj
        subst wj
        have:=gl j _ rV
        rw[wJ]
        rw[kv,tF]at this
        exact this
       have h63:str.length<=9223372036854775807:=by omega
       have bL:=Go.Lib.run_unsafeString_row (P:=P) w pt it ty e' hp (Zki hz) l.b c'.size (Zil g1) str bF (by omega) h63 iA
       have hw:bD P μ w st μ (w.freeze ⟨l.b,0,none⟩ str.length) (st.write i (.cells c e' false)) [i]:=by
        have wL:str.length≠0:=by simpa using bF
        have yn:(w.freeze ⟨l.b,0,none⟩ str.length).heap[l.b]?=some (.cells c' e' (if lo==hi then (0,0+str.length) else (min lo 0,max hi (0+str.length)))):=by
         simp[World.freeze,wL,Array.getElem?_modify,g1]
        obtain⟨lo',jx,OV⟩:∃p q,(if lo==hi then (0,0+str.length) else (min lo 0,max hi (0+str.length)))=(p,q):=⟨_,_,rfl⟩
        rw[OV]at yn
        refine bD.write hh hl (OJ aM) rfl ?_ ?_ ?_ ?_ ?_ ⟨c',lo',jx,yn,g2,g3,g4,g5,fun hc=>by cases hc⟩
        ·simp[World.freeze,wL]
        ·simp[World.freeze,wL]
        ·simp[World.freeze,wL]
        ·simp[World.freeze,wL]
        ·intro b hb
         simp only[World.freeze,wL,if_false,Array.getElem?_modify]
         rw[aA (fun h=>hb h.symm)]
       refine⟨.value (.string ⟨str.toArray⟩),_,_,μ,[i],?_,.inl rfl,rfl,hw⟩
       rw[h1,h2,kv,hkn]
       simp[bL,Result.andThen]
      ·cases h
     ·cases h
    ·cases h
   ·cases h
  ·cases h
 ·cases h
end
end Go.Mx
