/-The operations of M stand for the Go mod-/
import Derived.Test.YtjjmkflbfpeagaaGreatDoorMxOp9
set_option linter.all false
namespace Go.Mx
open Go
set_option maxHeartbeats 2000000
def Eg:Ext->Array Value->Sem Value
 |.mB=>add64Entry
 |.mC=>Go.Proofs.sub64Entry
 |.same=>Extern.AbiNoEscape.same
 |.bV=>Extern.BytealgIndexByte.indexByte
 |.jY=>fun _=>stuck "not taken"
 |.uj=>Extern.MathFloatBits.float64bits
 |.uk=>Extern.MathFloatBits.float64frombits
def rn(P:Program):Prop:=∀(g:FuncId) (fn:Func) (e:Ext),P.funcs[g]?=some fn->fn.body.isSome=false->wu fn.name=some e->
 (fn.name== "runtime.NumGoroutine")=false/\Extern.findNext fn=none/\Extern.find fn=some (Eg e)
def Zz(c:UInt8):∀(l:List UInt8),Go.Lib.indexByte l c= -1\/0<=Go.Lib.indexByte l c
 |[]=>.inl rfl
 |b::l=>by
  rcases Zz c l with h|h<;>simp only[Go.Lib.indexByte]<;>split<;>first|omega|(split<;>omega)
def ZA(c:UInt8):∀(l:List UInt8) (i:Nat),Dx c l i=if Go.Lib.indexByte l c= -1 then -1 else Go.Lib.indexByte l c+i
 |[],i=>by simp[Dx,Go.Lib.indexByte]
 |b::l,i=>by
  have h:=Zz c l
  simp only[Dx,Go.Lib.indexByte]
  split
  ·simp
  ·rw[ZA c l (i+1)]
   by_cases e:Go.Lib.indexByte l c= -1
   ·simp[e]
   ·have e':(Go.Lib.indexByte l c== -1)=false:=by simpa using e
    rw[aq e,e']
    simp only[fY,if_false]
    rw[aq (by omega)]
    omega
section
variable {P:Program} {μ:Mu} {w:World} {st ax:St} {r:T V} {n:Nat} {a:Act} {call:cH} {v:V}
def Yn1(hh:a_ P μ w st)(hr:RR μ r n a.tmps)(hE:rn P){g:Nat}{fn:Func}{e:Ext}{xs:List Operand}{ss:List Src}(hg:P.funcs[g]?=some fn)(hb:fn.body.isSome=false)(he:wu fn.name=some e)
  (hx:sH P xs=some ss) (h:DQ e ss call r st=some (v,ax)):aS P μ w st (callFunc g ⟨xs.map a.eval⟩) v ax:=by
 obtain⟨e1,e2,e3⟩:=hE g fn e hg hb he
 have bH:=run_callFunc_extern hg e1 (by simpa using hb) e2 e3 ⟨xs.map a.eval⟩ w
 have fin:∀x,(Eg e ⟨xs.map a.eval⟩).run P w=.ok x w->VR μ v x->ax=st->aS P μ w st (callFunc g ⟨xs.map a.eval⟩) v ax:=by
  intro x hx hv hs
  subst hs
  exact⟨.value x,x,w,μ,[],by rw[bH,hx];rfl,.inl rfl,hv,bA.refl hh⟩
 unfold DQ at h
 cases hl:rA r ss with
 |none=>cases e<;>simp[hl]at h
 |some l=>
  have hv:=Ef hh hr hx hl
  have mO:∀u,At e l=some u->(Eg e ⟨xs.map a.eval⟩).run P w=.ok (match u with|.aY [.int .u64 p,.int .u64 q]=>.tuple #[.int .u64 p,.int .u64 q]|.int k m=>.int k m|.jM k m=>.float k m|_=>undef) w/\
    VR μ u (match u with|.aY [.int .u64 p,.int .u64 q]=>.tuple #[.int .u64 p,.int .u64 q]|.int k m=>.int k m|.jM k m=>.float k m|_=>undef):=by
   intro u hu
   unfold At at hu
   split at hu
   ·rename_i x y c
    split at hu
    ·cases hu
    ·rename_i hc
     simp only[ak]at hu;subst hu
     simp only[aP,VR]at hv
     obtain⟨_,_,h1,rfl,_,_,rfl,rfl,_,_,rfl,rfl,rfl⟩:=hv
     rw[h1]
     refine⟨?_,by simp[VR,aP]⟩
     have D9:c=0\/c=1:=Decidable.not_not.1 hc
     rcases D9 with rfl|rfl<;>rfl
   ·rename_i x y c
    split at hu
    ·cases hu
    ·rename_i hc
     simp only[ak]at hu;subst hu
     simp only[aP,VR]at hv
     obtain⟨_,_,h1,rfl,_,_,rfl,rfl,_,_,rfl,rfl,rfl⟩:=hv
     rw[h1]
     refine⟨?_,by simp[VR,aP]⟩
     have D9:c=0\/c=1:=Decidable.not_not.1 hc
     have hi:∀(p:Prop) [Decidable p],((if p then 1 else 0:Int))=Int.ofNat (if p then 1 else 0):=fun p _=>by split<;>rfl
     rcases D9 with rfl|rfl<;>rw[hi]<;>rfl
   ·rename_i s c
    simp only[ak]at hu;subst hu
    simp only[aP,VR]at hv
    obtain⟨_,_,h1,rfl,_,_,rfl,rfl,rfl⟩:=hv
    rw[h1]
    refine⟨?_,by simp[VR]⟩
    have:=Go.Lib.run_indexByteString (P:=P) ⟨s.toArray⟩ c w
    show (Extern.BytealgIndexByte.indexByte #[.string ⟨s.toArray⟩,.int .u8 c]).run P w=_
    rw[this,ZA]
    simp only[]
    congr 2
    split
    ·rename_i e;exact e
    ·simp
   all_goals try cases hu
   ·rename_i b
    simp only[aP,VR]at hv
    obtain⟨_,_,h1,rfl,rfl⟩:=hv
    rw[h1]
    exact⟨rfl,by simp[VR]⟩
   ·rename_i b
    simp only[aP,VR]at hv
    obtain⟨_,_,h1,rfl,rfl⟩:=hv
    rw[h1]
    exact⟨rfl,by simp[VR]⟩
  cases e with
  |same=>
   rcases l with _|⟨u,_|⟨u',l⟩⟩<;>simp[hl,At]at h
   obtain⟨rfl,rfl⟩:=h
   obtain⟨y,ys,oB,h1,h2⟩:=fM.1 hv
   simp only[aP]at h2;subst h2
   refine fin y ?_ h1 rfl
   rw[oB];rfl
  |mB=>
   simp only[hl]at h
   split at h
   ·rename_i u hu
    simp only[ak,bh]at h
    obtain⟨rfl,rfl⟩:=h
    exact fin _ (mO _ hu).1 (mO _ hu).2 rfl
   ·cases h
  |mC=>
   simp only[hl]at h
   split at h
   ·rename_i u hu
    simp only[ak,bh]at h
    obtain⟨rfl,rfl⟩:=h
    exact fin _ (mO _ hu).1 (mO _ hu).2 rfl
   ·cases h
  |bV=>
   simp only[hl]at h
   split at h
   ·rename_i u hu
    simp only[ak,bh]at h
    obtain⟨rfl,rfl⟩:=h
    exact fin _ (mO _ hu).1 (mO _ hu).2 rfl
   ·cases h
  |jY=>simp[hl,At]at h
  |uj=>
   simp only[hl]at h
   split at h
   ·rename_i u hu
    simp only[ak,bh]at h
    obtain⟨rfl,rfl⟩:=h
    exact fin _ (mO _ hu).1 (mO _ hu).2 rfl
   ·cases h
  |uk=>
   simp only[hl]at h
   split at h
   ·rename_i u hu
    simp only[ak,bh]at h
    obtain⟨rfl,rfl⟩:=h
    exact fin _ (mO _ hu).1 (mO _ hu).2 rfl
   ·cases h
def ZB(hh:a_ P μ w st){size:Nat}{u:V}{X:Value}(hx:VR μ u X){m:Nat}{xs:List V}(h:iQ st size u=some (m,xs)):
  (Builtin.lenOf X).run P w=.ok m w/\xs.length=m*size/\∃ys,aP μ xs ys/\(∀y∈ys,y.oneCell'=true)/\
   ∀w':World,w'.heap=w.heap->∀k,k<=m->(Builtin.firstCells size k X).run P w'=.ok ⟨ys.take (k*size)⟩ w':=by
 unfold iQ at h
 split at h
 ·simp only[ak,bh]at h
  obtain⟨rfl,rfl⟩:=h
  simp only[VR]at hx;subst hx
  exact⟨by simp[Builtin.lenOf],by simp,[],by simp[aP],by simp,fun w' _ k hk=>by simp[Builtin.firstCells]⟩
 ·simp only[ak,bh]at h
  obtain⟨rfl,rfl⟩:=h
  obtain⟨b,c,rfl⟩:=hx
  refine⟨by simp[Builtin.lenOf],by simp,[],by simp[aP],by simp,fun w' _ k hk=>?_⟩
  have rb:k=0:=by omega
  subst rb
  have:=run_firstCells_some (P:=P) w' size 0 b 0 c [] (by simp) (by simp)
  simpa using this
 ·rename_i j p m' _ sz
  obtain⟨l,c,hl,rfl,_⟩:=hx
  split at h
  ·split at h
   ·rename_i cs _ _ aE
    split at h
    ·rename_i xH qI
     simp only[ak,bh]at h
     obtain⟨rfl,rfl⟩:=h
     obtain⟨ys,g1,g2,g3,g4,g5⟩:=(hh.row hl aE).xH qI
     refine⟨by simp[Builtin.lenOf],by rw[<-g1.length,g2],ys,g1,g5,fun w' s_ k hk=>?_⟩
     have SY:k*size<=m'*size:=kp _ hk
     refine run_firstCells_some (P:=P) w' size k _ m' c (ys.take (k*size)) (by rw[jH,g2];exact nU SY) fun i y hy=>?_
     rw[uJ]
     rw[kg]at hy
     split at hy
     ·have:=g4 i y hy
      simpa[World.cell?,s_]using this
     ·cases hy
    ·cases h
   ·cases h
  ·cases h
 ·rename_i s
  split at h
  ·rename_i sY
   subst sY
   simp only[ak,bh]at h
   obtain⟨rfl,rfl⟩:=h
   simp only[VR]at hx;subst hx
   have jc:(⟨s.toArray⟩:ByteArray).size=s.length:=rfl
   refine⟨by simp[Builtin.lenOf,jc, -ByteArray.size_data],by simp,s.map (fun b=>.int .u8 b.toNat),?_,by simp;intro y _;rfl,fun w' _ k hk=>?_⟩
   ·refine aP.pd (by simp) fun i y hy=>?_
    simp only[ko,fZ]at hy
    obtain⟨b,hb,rfl⟩:=hy
    exact⟨_,by simp[hb];rfl,by simp[VR]⟩
   ·simp only[Builtin.firstCells,Sem.run_pure,se]
    congr 1
    apply xD
    simp
  ·cases h
 ·cases h
def ZC(a:Addr)(i:Nat):(storeCells a [] i).run P w=.ok () w:=by simp[storeCells]
def Ylr(hh:a_ P μ w st)(hr:RR μ r n a.tmps){ts:Array TypeId}{t ty e:TypeId}{size:Nat}{x y:Operand}{sd ss:Src}(nA:ts[0]?=some t)(ht:P.underlying t=some (.slice e))(hs:eD P e=some size)
  (hx:bk P x=some sd) (hy:bk P y=some ss) (h:BY size sd ss call r st=some (v,ax)):
  aS P μ w st (do pure (.value (<-Builtin.copy_ ts ty #[a.eval x,a.eval y]))) v ax:=by
 unfold BY at h
 split at h
 ·rename_i d s hd Cf
  have h1:=cE hh hr hx hd
  have h2:=cE hh hr hy Cf
  split at h
  ·rename_i m xs SZ
   obtain⟨g1,g2,ys,g3,g4,g5⟩:=ZB hh h2 SZ
   have Ji:=g3.length
   split at h
   ·simp only[ak,bh]at h
    obtain⟨rfl,rfl⟩:=h
    simp only[VR]at h1
    refine aS.value hh (x:=.int .i64 0) ?_ (by simp[VR])
    have hf:=g5 w rfl 0 (tN _)
    simp[Builtin.copy_,nA,h1,run_underlying ht,g1,vL hs,hf,Result.andThen,goInt]
   ·rename_i i o len cap sz
    obtain⟨l,c,hl,h1,zD,xZ,_⟩:=h1
    split at h
    ·cases h
    ·rename_i jc
     have hf:=g5 w rfl (min m len) (Nat.min_le_left _ _)
     simp only at h
     split at h
     ·rename_i hk
      simp only[ak,bh]at h
      obtain⟨rfl,rfl⟩:=h
      refine aS.value hh (x:=.int .i64 0) ?_ (by simp[VR])
      have qJ:Nat.min m len=0:=hk
      rw[hk]at hf
      simp[Builtin.copy_,nA,h1,run_underlying ht,g1,vL hs,hf,Result.andThen,goInt,qJ,ZC]
     ·rename_i hk
      split at h
      ·rename_i cs e' aE
       split at h
       ·rename_i hle
        simp only[ak,bh]at h
        obtain⟨rfl,rfl⟩:=h
        have SY:min m len*size<=m*size:=kp _ (Nat.min_le_left _ _)
        obtain⟨w',hw,ff⟩:=NG (o:=o) hh hl aE (g3.take (min m len*size)) (fun q hq=>g4 q (Ae hq)) (by rw[jH,g2,nU SY];exact hle)
        refine⟨.value (.int .i64 (min m len:Nat)),_,w',μ,[i],?_,.inl rfl,by simp[VR],ff⟩
        have qJ:Nat.min m len=min m len:=rfl
        simp only[Builtin.copy_,nA,h1,Sem.run_bind,run_underlying ht,g1,vL hs,Result.andThen_ok,qJ,hf,hw,goInt,Sem.run_pure,List.getElem?_toArray,zq,BP]
       ·cases h
      ·cases h
   ·cases h
  ·cases h
 ·cases h
def ZD(z:Array Value)(k:Nat):Builtin.zeroCells z k=madeCells z (k*z.size):=rfl
def Yg5(hh:a_ P μ w st)(hr:RR μ r n a.tmps){t ty e:TypeId}{size:Nat}{z:V}{x:Operand}{s:Src}(ht:P.underlying t=some (.slice e))(hz:nv P e=some z)(cy:z.cells.all V.one=true)
  (hx:bk P x=some s) (h:GL size z.cells s call r st=some (v,ax)):
  aS P μ w st (do pure (.value (<-Builtin.clear_ #[t] ty #[a.eval x]))) v ax:=by
 unfold GL at h
 split at h
 ·rename_i hm
  simp only[ak,bh]at h
  obtain⟨rfl,rfl⟩:=h
  have h1:=cE hh hr hx hm
  simp only[VR]at h1
  exact aS.value hh (x:=.tuple #[]) (by simp[Builtin.clear_,h1,run_underlying ht]) ⟨[],rfl,by simp[aP]⟩
 ·rename_i hm
  simp only[ak,bh]at h
  obtain⟨rfl,rfl⟩:=h
  obtain⟨b,c,h1⟩:=cE hh hr hx hm
  exact aS.value hh (x:=.tuple #[]) (by simp[Builtin.clear_,h1,run_underlying ht]) ⟨[],rfl,by simp[aP]⟩
 ·rename_i i o len cap sz hm
  obtain⟨l,c,hl,h1,_⟩:=cE hh hr hx hm
  split at h
  ·rename_i h0
   subst h0
   simp only[ak,bh]at h
   obtain⟨rfl,rfl⟩:=h
   exact aS.value hh (x:=.tuple #[]) (by simp[Builtin.clear_,h1,run_underlying ht]) ⟨[],rfl,by simp[aP]⟩
  ·rename_i h0
   split at h
   ·cases h
   ·rename_i cL
    simp only[not_or,Decidable.not_not]at cL
    split at h
    ·rename_i cs e' aE
     split at h
     ·rename_i hle
      simp only[ak,bh]at h
      obtain⟨rfl,rfl⟩:=h
      obtain⟨inf,zx,hi,oF,wO⟩:=Eh hz
      have mS:=NH (wO μ).cells len
      have hlen:z.cells.length=zx.cells.size:=by rw[<-(wO μ).cells.length];simp
      obtain⟨w',hw,ff⟩:=NG (o:=o) hh hl aE mS (S0 cy len mS) (by rw[ZE,cL.2.2];exact hle)
      refine⟨.value (.tuple #[]),_,w',μ,[i],?_,.inl rfl,⟨[],rfl,by simp[aP]⟩,ff⟩
      have S3:Builtin.zeroCells zx.cells len=madeCells ⟨zx.cells.toList⟩ (len*z.cells.length):=by rw[ZD,hlen]
      have hrz:(zeroValue e).run P w=.ok zx w:=by simp[zeroValue,typeInfo,hi,oF]
      obtain⟨zar,rfl⟩:∃q,len=q+1:=⟨len-1,by omega⟩
      simp[Builtin.clear_,h1,run_underlying ht,hrz,S3,hw,Result.andThen]
     ·cases h
    ·cases h
 ·cases h
def NI{ts:Array TypeId}{t u ty e:TypeId}{d:TypeDesc}{size m sLen sCap:Nat}{base:Option Addr}{X:Value}{ys:List Value}(nA:ts[0]?=some t)(ht:P.underlying t=some (.slice e))(lf:ts[1]?=some u)(hu:P.underlying u=some d)
  (hd:∀k,d≠.int k) (hs:eD P e=some size) (hlen:(Builtin.lenOf X).run P w=.ok m w) (hf:(Builtin.firstCells size m X).run P w=.ok ⟨ys⟩ w) (hle:sLen+m<=sCap)
  {w':World} (ff:(match base with|some a=>storeCells (a.add (sLen*size)) ys|none=>pure ():Sem Unit).run P w=.ok () w'):
  (Builtin.append_ ts ty #[.slice base sLen sCap,X]).run P w=.ok (.slice base (sLen+m) sCap) w':=by
 cases base with
 |none=>
  simp only[Sem.run_pure,Result.ok.injEq,true_and]at ff
  subst ff
  cases d<;>first|exact absurd rfl (hd _)|simp[Builtin.append_,nA,run_underlying ht,lf,run_underlying hu,vL hs,Result.andThen,hlen,hf,hle]
 |some b=>
  simp only at ff
  cases d<;>first|exact absurd rfl (hd _)|simp[Builtin.append_,nA,run_underlying ht,lf,run_underlying hu,vL hs,Result.andThen,hlen,hf,hle,ff]
def Zlt{ts:Array TypeId}{t u ty e:TypeId}{d:TypeDesc}{inf:TypeInfo}{zx:Value}{m sLen sCap:Nat}{base:Option Addr}{X:Value}{os ys:List Value}(nA:ts[0]?=some t)(ht:P.underlying t=some (.slice e))(lf:ts[1]?=some u)(hu:P.underlying u=some d)
  (hd:∀k,d≠.int k) (hi:P.info? e=some inf) (hz:inf.zero=some zx) (hlen:(Builtin.lenOf X).run P w=.ok m w) (hf:(Builtin.firstCells inf.size m X).run P w.drew=.ok ⟨ys⟩ w.drew)
  (Jj:(Builtin.firstCells inf.size sLen (.slice base sLen sCap)).run P w.drew=.ok ⟨os⟩ w.drew) (hle:¬sLen+m<=sCap) (hb:inf.bytes≠0) (x6:2*(sLen+m)*inf.bytes<=2^48):
  (Builtin.append_ ts ty #[.slice base sLen sCap,X]).run P w=.ok (.slice (some ⟨w.heap.size,0,none⟩) (sLen+m) (grownCap w (sLen+m) sCap e))
   (w.drew.alloc (.cells ⟨os++ys++(Builtin.zeroCells zx.cells (grownCap w (sLen+m) sCap e-(sLen+m))).toList⟩ e)):=by
 have hgr:Builtin.nextslicecap (sLen+m) sCap*inf.bytes<=2^48:=by
  have h1:Builtin.nextslicecap (sLen+m) sCap*inf.bytes<=2*(sLen+m)*inf.bytes:=kp _ (nextslicecap_le (by omega))
  omega
 have S4:¬(281474976710656<Builtin.nextslicecap (sLen+m) sCap*inf.bytes):=by omega
 cases d<;>first|exact absurd rfl (hd _)|simp[Builtin.append_,nA,run_underlying ht,lf,run_underlying hu,sizeOf,typeInfo,zeroValue,hi,hz,Result.andThen,hlen,hf,Jj,hle,hb,S4,Question.forced,newRow,grownCap]<;>(congr 2;apply xD;simp)
def ZF(hh:a_ P μ w st){ts:Array TypeId}{t u ty e:TypeId}{d:TypeDesc}{size b m sLen sCap:Nat}{z:V}{base:Option Addr}{X:Value}{os ys:List Value}{co cx:List V}
  (nA:ts[0]?=some t) (ht:P.underlying t=some (.slice e)) (lf:ts[1]?=some u) (hu:P.underlying u=some d) (hd:∀k,d≠.int k)
  (hs:eD P e=some size) (hb:zl P e=some b) (hz:nv P e=some z) (Jk:z.cells.length=size) (cy:z.cells.all V.one=true) (uI:size≠0)
  (hlen:(Builtin.lenOf X).run P w=.ok m w) (hf:(Builtin.firstCells size m X).run P w.drew=.ok ⟨ys⟩ w.drew)
  (Jj:(Builtin.firstCells size sLen (.slice base sLen sCap)).run P w.drew=.ok ⟨os⟩ w.drew) (hle:¬sLen+m<=sCap) (py:b≠0) (x6:2*(sLen+m)*b<=2^48)
  (ho:aP μ co os) (hx:aP μ cx ys) (zn:∀y∈os,y.oneCell'=true) (xW:∀y∈ys,y.oneCell'=true) (rM:co.length=sLen*size) (AL:cx.length=m*size):
  ∃μ' w' c,(Builtin.append_ ts ty #[.slice base sLen sCap,X]).run P w=.ok (.slice (some ⟨w.heap.size,0,none⟩) (sLen+m) c) w'/\VR μ' (.slice st.n 0 (sLen+m) none size) (.slice (some ⟨w.heap.size,0,none⟩) (sLen+m) c)/\
   bA P μ w st μ' w' (st.alloc (.cells (co++cx) e true)) []:=by
 obtain⟨inf,zx,hi,oF,wO⟩:=Eh hz
 have jc:inf.size=size:=by unfold eD at hs;simpa[hi]using hs
 have hbz:inf.bytes=b:=by unfold zl at hb;simpa[hi]using hb
 have Jl:zx.cells.size=size:=by rw[<-Jk,<-(wO μ).cells.length];simp
 subst jc hbz
 have bH:=Zlt (P:=P) (w:=w) (ty:=ty) nA ht lf hu hd hi oF hlen hf Jj hle py x6
 have AM:=grownCap_ge w (sLen+m) sCap e
 generalize grownCap w (sLen+m) sCap e=cap at bH AM
 have S3:(Builtin.zeroCells zx.cells (cap-(sLen+m))).toList.length=(cap-(sLen+m))*inf.size:=by simp[Builtin.zeroCells,Jl]
 have mS:aP μ (df z.cells (cap-(sLen+m))) (Builtin.zeroCells zx.cells (cap-(sLen+m))).toList:=by
  have:=NH (wO μ).cells (cap-(sLen+m))
  rw[ZD]
  have e1:zx.cells.size=z.cells.length:=by rw[Jl,Jk]
  rw[e1]
  simpa using this
 have Jm:=ho.length
 have Jn:=hx.length
 have xZ:(os++ys++(Builtin.zeroCells zx.cells (cap-(sLen+m))).toList).length=cap*inf.size:=by
  rw[iy,iy,S3,Jm,Jn,rM,AL,<-jF,<-jF]
  congr 1;omega
 refine⟨_,_,cap,bH,?_,(bA.newRow hh.Cg (cs:=co++cx) (xs:=os++ys++(Builtin.zeroCells zx.cells (cap-(sLen+m))).toList) (lo:=0) (hi:=0) ?_ ?_ ?_ ?_).x9⟩
 ·simp only[VR]
  refine⟨⟨w.heap.size,0,(os++ys++(Builtin.zeroCells zx.cells (cap-(sLen+m))).toList).length⟩,cap,by exact aJ trivial,by simp,AM,?_,by simp,fun _=>?_⟩
  ·show 0+cap*inf.size<=(os++ys++(Builtin.zeroCells zx.cells (cap-(sLen+m))).toList).length
   omega
  ·show 0+cap*inf.size=(os++ys++(Builtin.zeroCells zx.cells (cap-(sLen+m))).toList).length
   omega
 ·rw[iy,iy,iy,Jm,Jn];omega
 ·intro j u' mR
  obtain⟨y,h1,h2⟩:=(ho.append hx).get mR
  exact⟨y,by rw[nj (zo.1 h1).1];exact h1,h2⟩
 ·intro y hy
  simp only[kl]at hy
  rcases hy with(hy|hy)|hy
  ·exact zn y hy
  ·exact xW y hy
  ·exact S0 cy _ mS y hy
 ·exact .inr (aR _)
def bA.Ei{w':World}(h:a_ P μ w st){i:Nat}{l l':L}{o o':O}(hi:μ i=some l)(ho:st.h.get i=some o)(hw:o.wr=true)
  (xo:w'.os=w.os) (RZ:w'.tape=w.tape) (R4:w'.output=w.output) (jc:w'.heap.size=w.heap.size) (pj:∀b,b≠l.b->w'.heap[b]?=w.heap[b]?) (uw:l'.b=l.b)
  (ux:OM P (fun j=>if j=st.n then some l' else μ j) w' o' l'):
  bA P μ w st (fun j=>if j=st.n then some l' else μ j) w' ((st.write i .dead).alloc o') [i]:=by
 have uy:o.live=true:=by cases o<;>simp_all [O.wr,O.live]
 have BN:=(h.cU i l hi).1
 have nL:=(h.cU i l hi).2
 have dr:∀j lj,μ j=some lj->(fun j=>if j=st.n then some l' else μ j) j=some lj:=fun j lj hj=>by
  have:=(h.cU j lj hj).1
  show (if j=st.n then some l' else μ j)=some lj
  rw[aq (by omega)];exact hj
 have cK:∀j,((st.write i .dead).alloc o').h.get j=if j=st.n then some o' else if j=i then some .dead else st.h.get j:=fun j=>by
  simp only[St.alloc,St.write,T.ai]
 refine⟨⟨fun j lj hj=>?_,fun j lj hj=>?_,fun j k lj lk oj ok hj hk bK h1 h2 Gx fz=>?_,fun g hg=>let ⟨t,ht⟩:=h.gj g hg;⟨t,dr g _ ht⟩⟩,fun j hj=>?_,by simp[St.alloc,St.write],rfl,⟨xo,RZ,R4,by omega,fun b _ dq=>pj b ?_⟩,
  fun j lj hn hj=>?_,fun j hj dq=>?_,fun j oj hn hj=>?_,fun j h1 h2=>⟨l',by simp only[St.alloc,St.write]at h2;show (if j=st.n then some l' else μ j)=some l';rw[aJ (by omega)]⟩,fun j hj _=>by simp only[tX]at hj;subst hj;exact⟨o,ho,hw⟩⟩
 ·replace hj:(if j=st.n then some l' else μ j)=some lj:=hj
  split at hj
  ·rename_i e
   simp only[ak]at hj;subst hj
   simp[St.alloc,St.write];omega
  ·have:=h.cU j lj hj
   simp[St.alloc,St.write];omega
 ·replace hj:(if j=st.n then some l' else μ j)=some lj:=hj
  split at hj
  ·rename_i e
   simp only[ak]at hj;subst hj
   exact⟨o',by rw[cK,aJ e],ux⟩
  ·rename_i e
   by_cases e2:j=i
   ·exact⟨.dead,by rw[cK,aq e,aJ e2],trivial⟩
   ·obtain⟨oj,h1,h2⟩:=h.obj j lj hj
    refine⟨oj,by rw[cK,aq e,aq e2];exact h1,?_⟩
    cases hl:oj.live
    ·cases oj<;>simp[O.live]at hl
     trivial
    ·exact(h2.mono dr).congr (pj lj.b (Ne.symm (h.inj i j l lj o oj hi hj (Ne.symm e2) ho h1 hw hl)))
 ·rw[cK]at h1 h2
  replace hj:(if j=st.n then some l' else μ j)=some lj:=hj
  replace hk:(if k=st.n then some l' else μ k)=some lk:=hk
  by_cases e1:j=st.n
  ·rw[aJ e1]at hj h1
   simp only[ak]at hj h1
   subst hj h1
   by_cases e2:k=st.n
   ·exact absurd (e1.trans e2.symm) bK
   ·rw[aq e2]at hk h2
    by_cases e3:k=i
    ·rw[aJ e3,ak]at h2;subst h2;simp[O.live]at fz
    ·rw[aq e3]at h2
     rw[uw]
     exact h.inj i k l lk o ok hi hk (Ne.symm e3) ho h2 hw fz
  ·rw[aq e1]at hj h1
   by_cases e3:j=i
   ·rw[aJ e3,ak]at h1;subst h1;simp[O.wr]at Gx
   ·rw[aq e3]at h1
    by_cases e2:k=st.n
    ·rw[aJ e2]at hk h2
     simp only[ak]at hk h2
     subst hk h2
     rw[uw]
     exact h.inj j i lj l oj o hj hi e3 h1 ho Gx uy
    ·rw[aq e2]at hk h2
     by_cases e4:k=i
     ·rw[aJ e4,ak]at h2;subst h2;simp[O.live]at fz
     ·rw[aq e4]at h2
      exact h.inj j k lj lk oj ok hj hk bK h1 h2 Gx fz
 ·show (if j=st.n then some l' else μ j)=μ j
  rw[aq (by omega)]
 ·exact Ne.symm (dq i (by simp) l hi)
 ·replace hj:(if j=st.n then some l' else μ j)=some lj:=hj
  split at hj
  ·simp only[ak]at hj;subst hj
   exact .inr ⟨i,by simp,BN,l,o,hi,uw.symm,ho,hw⟩
  ·exact absurd (h.cU j lj hj).1 (by omega)
 ·simp only[tX]at dq
  rw[cK,aq (by omega),aq dq]
 ·rw[cK,aq (by omega)]at hj
  split at hj
  ·rename_i e
   subst e
   simp only[ak]at hj;subst hj
   exact⟨o,ho,by simp[O.wr],by simp[O.live]⟩
  ·exact⟨oj,hj,id,id⟩
def bA.kill(h:a_ P μ w st){i:Nat}{l:L}{o:O}(hi:μ i=some l)(ho:st.h.get i=some o)(hw:o.wr=true):bA P μ w st μ w (st.write i .dead) [i]:=
 bA.write h hi ho hw rfl rfl rfl rfl (fun _ _=>rfl) trivial
def Yd2(hh:a_ P μ w st)(hr:RR μ r n a.tmps){ts:Array TypeId}{t u ty e:TypeId}{d:TypeDesc}{size b:Nat}{z:V}{x y:Operand}{s sx:Src}
  (nA:ts[0]?=some t) (ht:P.underlying t=some (.slice e)) (lf:ts[1]?=some u) (hu:P.underlying u=some d) (hd:∀k,d≠.int k)
  (hs:eD P e=some size) (hb:zl P e=some b) (hz:nv P e=some z) (Jk:z.cells.length=size) (cy:z.cells.all V.one=true) (py:b≠0)
  (hx:bk P x=some s) (hy:bk P y=some sx) (h:Ax size b e z.cells s sx call r st=some (v,ax)):
  aS P μ w st (do pure (.value (<-Builtin.append_ ts ty #[a.eval x,a.eval y]))) v ax:=by
 unfold Ax at h
 split at h
 ·rename_i sv xv SN zB
  have h1:=cE hh hr hx SN
  have h2:=cE hh hr hy zB
  unfold nI at h
  split at h
  ·cases h
  ·rename_i m xs SZ
   obtain⟨g1,g2,ys,g3,g4,g5⟩:=ZB hh h2 SZ
   have Ji:=g3.length
   have hyt:ys.take (m*size)=ys:=gI (by omega)
   have gf:∀w':World,w'.heap=w.heap->(Builtin.firstCells size m (a.eval y)).run P w'=.ok ⟨ys⟩ w':=fun w' s_=>by rw[g5 w' s_ m (aR _),hyt]
   split at h
   ·-- a nil slice
    simp only[VR]at h1
    split at h
    ·rename_i sS
     subst sS
     simp only[ak,bh]at h
     obtain⟨rfl,rfl⟩:=h
     refine aS.value hh (x:=.slice none 0 0) ?_ (by simp[VR])
     rw[h1]
     exact NI (base:=none) nA ht lf hu hd hs g1 (gf w rfl) (aR _) (by simp)
    ·rename_i sS
     split at h
     ·rename_i hc
      simp only[ak,bh]at h
      obtain⟨rfl,rfl⟩:=h
      obtain⟨μ',w',c,k1,k2,k3⟩:=ZF (P:=P) (w:=w) (ty:=ty) (sLen:=0) (sCap:=0) (base:=none) (X:=a.eval y) (os:=[]) (co:=[]) hh nA ht lf hu hd hs hb hz Jk cy hc.2 g1 (gf w.drew rfl) (by simp[Builtin.firstCells]) (by omega) py
       (by have:=hc.1;unfold zv at this;simpa using this) (by simp[aP]) g3 (by simp) g4 (by simp) g2
      refine⟨.value (.slice (some ⟨w.heap.size,0,none⟩) (0+m) c),_,w',μ',[],?_,.inl rfl,?_,?_⟩
      ·rw[h1];simp only[Sem.run_bind,k1,Result.andThen_ok,Sem.run_pure]
      ·simpa using k2
      ·simpa using k3
     ·cases h
   ·-- a slice
    rename_i i o len cap sz
    have h_:=h1
    obtain⟨l,c,hl,h1,zD,xZ,hk,AN⟩:=h1
    split at h
    ·rename_i sS
     subst sS
     split at h
     ·simp only[ak,bh]at h
      obtain⟨rfl,rfl⟩:=h
      refine aS.value hh (x:=a.eval x) ?_ h_
      have SX:ys=[]:=by
       apply pV
       omega
      rw[h1]
      have:=NI (P:=P) (w:=w) (w':=w) (ty:=ty) (base:=some ⟨l.b,l.d+o,none⟩) (sLen:=len) (sCap:=c) nA ht lf hu hd hs g1 (gf w rfl) (by omega) (by simp only[SX];exact ZC _ _)
      simpa using this
     ·cases h
    ·rename_i sS
     split at h
     ·cases h
     ·rename_i cL
      simp only[not_or,Decidable.not_not,vz]at cL
      obtain⟨jc,uI,x6⟩:=cL
      subst jc
      unfold zv at x6
      have inPlace:∀(cs:List V) (e':TypeId),st.row i=some (cs,e',true)->o+(len+m)*sz<=cs.length->len+m<=c->(∀k,cap=some k->c=k)->
        aS P μ w st (do pure (.value (<-Builtin.append_ ts ty #[a.eval x,a.eval y]))) (.slice i o (len+m) cap sz) (st.write i (.cells (ag cs (o+len*sz) xs) e' true)):=by
       intro cs e' aE hle AO _
       have S5:(len+m)*sz=len*sz+m*sz:=jF ..
       obtain⟨w',hw,ff⟩:=NG (o:=o+len*sz) hh hl aE g3 g4 (by rw[g2];omega)
       have bH:=NI (P:=P) (w:=w) (w':=w') (ty:=ty) (base:=some ⟨l.b,l.d+o,none⟩) (sLen:=len) (sCap:=c) nA ht lf hu hd hs g1 (gf w rfl) AO (by
        simp only[uJ];rw[pk];exact hw)
       refine⟨.value (.slice (some ⟨l.b,l.d+o,none⟩) (len+m) c),_,w',μ,[i],?_,.inl rfl,?_,ff⟩
       ·rw[h1];simp only[Sem.run_bind,bH,Result.andThen_ok,Sem.run_pure]
       ·simp only[VR];exact⟨l,c,hl,rfl,AO,xZ,hk,AN⟩
      have fresh:∀(bU:St) (ws:List Nat) (cs old:List V) (e':TypeId) (AA:Bool),bA P μ w st μ w bU ws->bU.n=st.n->st.row i=some (cs,e',AA)->aM cs o (len*sz)=some old->¬len+m<=c->
        aS P μ w st (do pure (.value (<-Builtin.append_ ts ty #[a.eval x,a.eval y]))) (.slice st.n 0 (len+m) none sz) (bU.alloc (.cells (old++xs) e true)):=by
       intro bU ws cs old e' AA jf oT aE hold dq
       have wM:=hh.row hl aE
       obtain⟨os,q1,q2,q3,q4,q5⟩:=wM.xH hold
       have Jj:(Builtin.firstCells sz len (.slice (some ⟨l.b,l.d+o,none⟩) len c)).run P w.drew=.ok ⟨os⟩ w.drew:=by
        refine run_firstCells_some (P:=P) w.drew sz len _ len c os q2 fun j y hy=>?_
        rw[uJ]
        exact q4 j y hy
       obtain⟨μ',w',c',k1,k2,k3⟩:=ZF (P:=P) (w:=w) (ty:=ty) (base:=some ⟨l.b,l.d+o,none⟩) (sLen:=len) (sCap:=c) jf.hr nA ht lf hu hd hs hb hz Jk cy uI g1 (gf w.drew rfl) Jj dq py x6 q1 g3 q5 g4 (by rw[<-q1.length,q2]) g2
       refine⟨.value (.slice (some ⟨w.heap.size,0,none⟩) (len+m) c'),_,w',μ',[]++ws,?_,.inl rfl,?_,jf.trans k3⟩
       ·rw[h1];simp only[Sem.run_bind,k1,Result.andThen_ok,Sem.run_pure]
       ·rw[<-oT];exact k2
      split at h
      ·cases h
      ·rename_i cs e' AA aE
       split at h
       ·rename_i k
        have hck:=hk k rfl
        split at h
        ·rename_i hle
         split at h
         ·rename_i hc
          simp only[ak,bh]at h
          obtain⟨rfl,rfl⟩:=h
          obtain⟨rfl,wi⟩:=hc
          exact inPlace cs e' aE wi (by omega) hk
         ·cases h
        ·rename_i hle
         split at h
         ·rename_i old hold
          simp only[ak,bh]at h
          obtain⟨rfl,rfl⟩:=h
          exact fresh st [] cs old e' AA (bA.refl hh) rfl aE hold (by omega)
         ·cases h
       ·split at h
        ·rename_i Jo
         subst Jo
         have wM:=hh.row hl aE
         have ZG:cs.length<=l.pc:=by obtain⟨_,_,_,_,_,h3,_⟩:=wM;exact h3
         have ZH:=AN rfl
         have S5:(len+m)*sz=len*sz+m*sz:=jF ..
         split at h
         ·rename_i hle
          simp only[ak,bh]at h
          obtain⟨rfl,rfl⟩:=h
          refine inPlace cs e' aE hle ?_ hk
          have:(len+m)*sz<=c*sz:=by omega
          exact Nat.le_of_mul_le_mul_right this (by omega)
         ·split at h
          ·rename_i hle hc
           obtain⟨Jp,rfl,ho0⟩:=hc
           simp only[ak,bh]at h
           obtain⟨rfl,rfl⟩:=h
           have hold:aM cs o (len*sz)=some (cs.drop o):=by
            unfold aM
            rw[aJ (by omega),gI (by simp;omega)]
           by_cases AO:len+m<=c
           ·-- in place,above what is known
            obtain⟨c',lo,hi,q1,q2,q3,q4,q5,q6⟩:=wM
            obtain⟨cur⟩:=c'
            simp only[List.size_toArray]at q2
            have x_:(len+m)*sz<=c*sz:=kp _ AO
            have SE:=S6 (P:=P) l.b (l.d+(o+len*sz)) e' lo hi ys 0 cur w q1 (by omega) g4 (fun j B5 nH=>by
             have:=(q6 rfl).2 (j-l.d) (by omega)
             rw[show l.d+(j-l.d)=j by omega]at this
             exact this)
            have bH:=NI (P:=P) (w:=w) (ty:=ty) (base:=some ⟨l.b,l.d+o,none⟩) (sLen:=len) (sCap:=c) nA ht lf hu hd hs g1 (gf w rfl) AO (by
             simp only[uJ];rw[pk];exact SE)
            have pj:=setRow_heap w l.b _ (⟨ag cur (l.d+(o+len*sz)+0) ys⟩:Array Value) e' _ q1
            have dr:∀j lj,μ j=some lj->(fun j=>if j=st.n then some (⟨l.b,l.d+o,l.pc-o⟩:L) else μ j) j=some lj:=fun j lj hj=>by
             have:=(hh.cU j lj hj).1
             simp only
             rw[aq (by omega)];exact hj
            refine⟨.value (.slice (some ⟨l.b,l.d+o,none⟩) (len+m) c),_,w.setRow l.b ⟨ag cur (l.d+(o+len*sz)+0) ys⟩,fun j=>if j=st.n then some ⟨l.b,l.d+o,l.pc-o⟩ else μ j,[i],?_,.inl rfl,?_,bA.Ei hh hl (Jg aE) rfl rfl rfl rfl (by simp) (fun b hb=>setRow_other w l.b b _ hb) rfl ⟨_,lo,hi,pj,?_,?_,?_,?_,?_⟩⟩
            ·rw[h1];simp only[Sem.run_bind,bH,Result.andThen_ok,Sem.run_pure]
            ·simp only[VR]
             refine⟨⟨l.b,l.d+o,l.pc-o⟩,c,by simp,by simp,AO,?_,by simp,fun _=>?_⟩
             ·show 0+c*sz<=l.pc-o
              omega
             ·show 0+c*sz=l.pc-o
              omega
            ·simp only[List.size_toArray]
             rw[CZ (by omega)];omega
            ·simp only[iy,zp];omega
            ·intro j u' mR
             have e1:∀k:Nat,(⟨ag cur (l.d+(o+len*sz)+0) ys⟩:Array Value)[k]?=(ag cur (l.d+(o+len*sz)+0) ys)[k]?:=fun k=>by simp
             simp only
             rw[e1,GW (by omega)]
             rw[List.getElem?_append]at mR
             split at mR
             ·rename_i hj
              simp only[zp]at hj
              rw[gk]at mR
              obtain⟨y',p1,p2⟩:=q4 (o+j) u' mR
              rw[aq (by omega)]
              refine⟨y',?_,VR.mono dr u' y' p2⟩
              rw[show l.d+o+j=l.d+(o+j) by omega]
              simpa using p1
             ·rename_i hj
              simp only[zp]at hj mR
              obtain⟨y',p1,p2⟩:=g3.get mR
              have aO:=(zo.1 p1).1
              rw[aJ (by omega)]
              refine⟨y',?_,VR.mono dr u' y' p2⟩
              rw[show l.d+o+j-(l.d+(o+len*sz)+0)=j-(cs.length-o) by omega]
              exact p1
            ·intro j y' dB sZ
             simp only at dB sZ
             have e1:(⟨ag cur (l.d+(o+len*sz)+0) ys⟩:Array Value)[l.d+o+j]?=(ag cur (l.d+(o+len*sz)+0) ys)[l.d+o+j]?:=by simp
             rw[e1,GW (by omega)]at sZ
             split at sZ
             ·exact g4 y' (fW sZ)
             ·exact q5 (o+j) y' (by omega) (by rw[show l.d+(o+j)=l.d+o+j by omega];simpa using sZ)
            ·intro _
             refine⟨by have:=(q6 rfl).1;show l.d+o=0;omega,?_⟩
             intro j hj
             have:=(q6 rfl).2 (o+j) (by simp only at hj;omega)
             rw[show l.d+(o+j)=l.d+o+j by omega]at this
             exact this
           ·have Jq:=bA.kill hh hl (Jg aE) rfl
            exact fresh (st.write i .dead) [i] cs (cs.drop o) e' true Jq rfl aE hold AO
          ·cases h
        ·cases h
   ·cases h
 ·cases h
end
end Go.Mx
