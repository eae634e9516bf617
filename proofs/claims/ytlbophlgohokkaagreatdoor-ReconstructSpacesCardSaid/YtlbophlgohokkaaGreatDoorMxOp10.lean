/-
  The operations of M stand for the Go model's: externs, copy, clear, append.
-/
import Derived.Test.YtlbophlgohokkaaGreatDoorMxOp8
import Derived.Lib.Builder
import Derived.Lib.UnsafeStr
set_option linter.all false
namespace Go.Mx
open Go
set_option maxHeartbeats 2000000
def AX:Ext->Array Value->Sem Value
 |.eB=>add64Entry
 |.gG=>Go.Proofs.sub64Entry
 |.same=>Extern.AbiNoEscape.same
 |.bF=>Extern.BytealgIndexByte.indexByte
 |.js=>fun _=>stuck "not taken"
def pr(P:Program):Prop:=∀(g:FuncId) (fn:Func) (e:Ext),P.funcs[g]?=some fn->fn.body.isSome=false->tf fn.name=some e->
 (fn.name== "runtime.NumGoroutine")=false/\Extern.findNext fn=none/\Extern.find fn=some (AX e)
theorem U0(c:UInt8):∀(l:List UInt8),Go.Lib.indexByte l c= -1\/0<=Go.Lib.indexByte l c
 |[]=>.inl rfl
 |b::l=>by
  rcases U0 c l with h|h<;>simp only[Go.Lib.indexByte]<;>split<;>first|omega|(split<;>omega)
theorem U6(c:UInt8):∀(l:List UInt8) (i:Nat),Bu c l i=if Go.Lib.indexByte l c= -1 then -1 else Go.Lib.indexByte l c+i
 |[],i=>by simp[Bu,Go.Lib.indexByte]
 |b::l,i=>by
  have h:=U0 c l
  simp only[Bu,Go.Lib.indexByte]
  split
  ·simp
  ·rw[U6 c l (i+1)]
   by_cases e:Go.Lib.indexByte l c= -1
   ·simp[e]
   ·have e':(Go.Lib.indexByte l c== -1)=false:=by simpa using e
    rw[ar e,e']
    simp only[eL,if_false]
    rw[ar (by omega)]
    omega
section
variable {P:Program} {μ:Mu} {w:World} {st av:St} {r:T V} {n:Nat} {a:Act} {call:cA} {v:V}
theorem Yox(hh:bm P μ w st)(hr:RR μ r n a.tmps)(hE:pr P){g:Nat}{fn:Func}{e:Ext}{xs:List Operand}{ss:List Src}(hg:P.funcs[g]?=some fn)(hb:fn.body.isSome=false)(he:tf fn.name=some e)
  (hx:qg P xs=some ss) (h:BL e ss call r st=some (v,av)):bf P μ w st (callFunc g ⟨xs.map a.eval⟩) v av:=by
 obtain⟨e1,e2,e3⟩:=hE g fn e hg hb he
 have bI:=run_callFunc_extern hg e1 (by simpa using hb) e2 e3 ⟨xs.map a.eval⟩ w
 have fin:∀x,(AX e ⟨xs.map a.eval⟩).run P w=.ok x w->VR μ v x->av=st->bf P μ w st (callFunc g ⟨xs.map a.eval⟩) v av:=by
  intro x hx hv hs
  subst hs
  exact⟨.value x,x,w,μ,[],by rw[bI,hx];rfl,.inl rfl,hv,bB.refl hh⟩
 unfold BL at h
 cases hl:pJ r ss with
 |none=>cases e<;>simp[hl]at h
 |some l=>
  have hv:=B7 hh hr hx hl
  have qC:∀u,yc e l=some u->(AX e ⟨xs.map a.eval⟩).run P w=.ok (match u with|.bb [.int .u64 p,.int .u64 q]=>.tuple #[.int .u64 p,.int .u64 q]|.int k m=>.int k m|_=>undef) w/\
    VR μ u (match u with|.bb [.int .u64 p,.int .u64 q]=>.tuple #[.int .u64 p,.int .u64 q]|.int k m=>.int k m|_=>undef):=by
   intro u hu
   unfold yc at hu
   split at hu
   ·rename_i x y c
    split at hu
    ·cases hu
    ·rename_i hc
     simp only[ai]at hu;subst hu
     simp only[aW,VR]at hv
     obtain⟨_,_,h1,rfl,_,_,rfl,rfl,_,_,rfl,rfl,rfl⟩:=hv
     rw[h1]
     refine⟨?_,by simp[VR,aW]⟩
     have lV:c=0\/c=1:=Decidable.not_not.1 hc
     rcases lV with rfl|rfl<;>rfl
   ·rename_i x y c
    split at hu
    ·cases hu
    ·rename_i hc
     simp only[ai]at hu;subst hu
     simp only[aW,VR]at hv
     obtain⟨_,_,h1,rfl,_,_,rfl,rfl,_,_,rfl,rfl,rfl⟩:=hv
     rw[h1]
     refine⟨?_,by simp[VR,aW]⟩
     have lV:c=0\/c=1:=Decidable.not_not.1 hc
     have hi:∀(p:Prop) [Decidable p],((if p then 1 else 0:Int))=Int.ofNat (if p then 1 else 0):=fun p _=>by split<;>rfl
     rcases lV with rfl|rfl<;>rw[hi]<;>rfl
   ·rename_i s c
    simp only[ai]at hu;subst hu
    simp only[aW,VR]at hv
    obtain⟨_,_,h1,rfl,_,_,rfl,rfl,rfl⟩:=hv
    rw[h1]
    refine⟨?_,by simp[VR]⟩
    have:=Go.Lib.run_indexByteString (P:=P) ⟨s.toArray⟩ c w
    show (Extern.BytealgIndexByte.indexByte #[.string ⟨s.toArray⟩,.int .u8 c]).run P w=_
    rw[this,U6]
    simp only[]
    congr 2
    split
    ·rename_i e;exact e
    ·simp
   ·cases hu
  cases e with
  |same=>
   rcases l with _|⟨u,_|⟨u',l⟩⟩<;>simp[hl,yc]at h
   obtain⟨rfl,rfl⟩:=h
   obtain⟨y,ys,mE,h1,h2⟩:=gg.1 hv
   simp only[aW]at h2;subst h2
   refine fin y ?_ h1 rfl
   rw[mE];rfl
  |eB=>
   simp only[hl]at h
   split at h
   ·rename_i u hu
    simp only[ai,bo]at h
    obtain⟨rfl,rfl⟩:=h
    exact fin _ (qC _ hu).1 (qC _ hu).2 rfl
   ·cases h
  |gG=>
   simp only[hl]at h
   split at h
   ·rename_i u hu
    simp only[ai,bo]at h
    obtain⟨rfl,rfl⟩:=h
    exact fin _ (qC _ hu).1 (qC _ hu).2 rfl
   ·cases h
  |bF=>
   simp only[hl]at h
   split at h
   ·rename_i u hu
    simp only[ai,bo]at h
    obtain⟨rfl,rfl⟩:=h
    exact fin _ (qC _ hu).1 (qC _ hu).2 rfl
   ·cases h
  |js=>simp[hl,yc]at h
theorem U7(hh:bm P μ w st){size:Nat}{u:V}{X:Value}(hx:VR μ u X){m:Nat}{xs:List V}(h:ft st size u=some (m,xs)):
  (Builtin.lenOf X).run P w=.ok m w/\xs.length=m*size/\∃ys,aW μ xs ys/\(∀y∈ys,y.oneCell'=true)/\
   ∀w':World,w'.heap=w.heap->∀k,k<=m->(Builtin.firstCells size k X).run P w'=.ok ⟨ys.take (k*size)⟩ w':=by
 unfold ft at h
 split at h
 ·simp only[ai,bo]at h
  obtain⟨rfl,rfl⟩:=h
  simp only[VR]at hx;subst hx
  exact⟨by simp[Builtin.lenOf],by simp,[],by simp[aW],by simp,fun w' _ k hk=>by simp[Builtin.firstCells]⟩
 ·simp only[ai,bo]at h
  obtain⟨rfl,rfl⟩:=h
  obtain⟨b,c,rfl⟩:=hx
  refine⟨by simp[Builtin.lenOf],by simp,[],by simp[aW],by simp,fun w' _ k hk=>?_⟩
  have oV:k=0:=by omega
  subst oV
  have:=run_firstCells_some (P:=P) w' size 0 b 0 c [] (by simp) (by simp)
  simpa using this
 ·rename_i j p m' _ sz
  obtain⟨l,c,hl,rfl,_⟩:=hx
  split at h
  ·split at h
   ·rename_i cs _ _ aj
    split at h
    ·rename_i uR oW
     simp only[ai,bo]at h
     obtain⟨rfl,rfl⟩:=h
     obtain⟨ys,g1,g2,g3,g4,g5⟩:=(hh.row hl aj).uR oW
     refine⟨by simp[Builtin.lenOf],by rw[<-g1.length,g2],ys,g1,g5,fun w' qI k hk=>?_⟩
     have Pq:k*size<=m'*size:=kl _ hk
     refine run_firstCells_some (P:=P) w' size k _ m' c (ys.take (k*size)) (by rw[gK,g2];exact mw Pq) fun i y hy=>?_
     rw[rL]
     rw[gU]at hy
     split at hy
     ·have:=g4 i y hy
      simpa[World.cell?,qI]using this
     ·cases hy
    ·cases h
   ·cases h
  ·cases h
 ·rename_i s
  split at h
  ·rename_i qE
   subst qE
   simp only[ai,bo]at h
   obtain⟨rfl,rfl⟩:=h
   simp only[VR]at hx;subst hx
   have iz:(⟨s.toArray⟩:ByteArray).size=s.length:=rfl
   refine⟨by simp[Builtin.lenOf,iz, -ByteArray.size_data],by simp,s.map (fun b=>.int .u8 b.toNat),?_,by simp;intro y _;rfl,fun w' _ k hk=>?_⟩
   ·refine aW.kj (by simp) fun i y hy=>?_
    simp only[iX,iA]at hy
    obtain⟨b,hb,rfl⟩:=hy
    exact⟨_,by simp[hb];rfl,by simp[VR]⟩
   ·simp only[Builtin.firstCells,Sem.run_pure,tk]
    congr 1
    apply uM
    simp
  ·cases h
 ·cases h
theorem U8(a:Addr)(i:Nat):(storeCells a [] i).run P w=.ok () w:=by simp[storeCells]
theorem Ymq(hh:bm P μ w st)(hr:RR μ r n a.tmps){ts:Array TypeId}{t ty e:TypeId}{size:Nat}{x y:Operand}{sd ss:Src}(lF:ts[0]?=some t)(ht:P.underlying t=some (.slice e))(hs:d_ P e=some size)
  (hx:bu P x=some sd) (hy:bu P y=some ss) (h:wV size sd ss call r st=some (v,av)):
  bf P μ w st (do pure (.value (<-Builtin.copy_ ts ty #[a.eval x,a.eval y]))) v av:=by
 unfold wV at h
 split at h
 ·rename_i d s hd An
  have h1:=cJ hh hr hx hd
  have h2:=cJ hh hr hy An
  split at h
  ·rename_i m xs wy
   obtain⟨g1,g2,ys,g3,g4,g5⟩:=U7 hh h2 wy
   have Gw:=g3.length
   split at h
   ·simp only[ai,bo]at h
    obtain⟨rfl,rfl⟩:=h
    simp only[VR]at h1
    refine bf.value hh (x:=.int .i64 0) ?_ (by simp[VR])
    have hf:=g5 w rfl 0 (pC _)
    simp[Builtin.copy_,lF,h1,run_underlying ht,g1,sX hs,hf,Result.andThen,goInt]
   ·rename_i i o len cap sz
    obtain⟨l,c,hl,h1,xj,vD,_⟩:=h1
    split at h
    ·cases h
    ·rename_i iz
     have hf:=g5 w rfl (min m len) (Nat.min_le_left _ _)
     simp only at h
     split at h
     ·rename_i hk
      simp only[ai,bo]at h
      obtain⟨rfl,rfl⟩:=h
      refine bf.value hh (x:=.int .i64 0) ?_ (by simp[VR])
      have oX:Nat.min m len=0:=hk
      rw[hk]at hf
      simp[Builtin.copy_,lF,h1,run_underlying ht,g1,sX hs,hf,Result.andThen,goInt,oX,U8]
     ·rename_i hk
      split at h
      ·rename_i cs e' aj
       split at h
       ·rename_i hle
        simp only[ai,bo]at h
        obtain⟨rfl,rfl⟩:=h
        have Pq:min m len*size<=m*size:=kl _ (Nat.min_le_left _ _)
        obtain⟨w',hw,dH⟩:=Kj (o:=o) hh hl aj (g3.take (min m len*size)) (fun q hq=>g4 q (uC hq)) (by rw[gK,g2,mw Pq];exact hle)
        refine⟨.value (.int .i64 (min m len:Nat)),_,w',μ,[i],?_,.inl rfl,by simp[VR],dH⟩
        have oX:Nat.min m len=min m len:=rfl
        simp only[Builtin.copy_,lF,h1,Sem.run_bind,run_underlying ht,g1,sX hs,Result.andThen_ok,oX,hf,hw,goInt,Sem.run_pure,List.getElem?_toArray,wM,zE]
       ·cases h
      ·cases h
   ·cases h
  ·cases h
 ·cases h
theorem U9(z:Array Value)(k:Nat):Builtin.zeroCells z k=madeCells z (k*z.size):=rfl
theorem Yhz(hh:bm P μ w st)(hr:RR μ r n a.tmps){t ty e:TypeId}{size:Nat}{z:V}{x:Operand}{s:Src}(ht:P.underlying t=some (.slice e))(hz:lD P e=some z)(eX:z.cells.all V.one=true)
  (hx:bu P x=some s) (h:D3 size z.cells s call r st=some (v,av)):
  bf P μ w st (do pure (.value (<-Builtin.clear_ #[t] ty #[a.eval x]))) v av:=by
 unfold D3 at h
 split at h
 ·rename_i hm
  simp only[ai,bo]at h
  obtain⟨rfl,rfl⟩:=h
  have h1:=cJ hh hr hx hm
  simp only[VR]at h1
  exact bf.value hh (x:=.tuple #[]) (by simp[Builtin.clear_,h1,run_underlying ht]) ⟨[],rfl,by simp[aW]⟩
 ·rename_i hm
  simp only[ai,bo]at h
  obtain⟨rfl,rfl⟩:=h
  obtain⟨b,c,h1⟩:=cJ hh hr hx hm
  exact bf.value hh (x:=.tuple #[]) (by simp[Builtin.clear_,h1,run_underlying ht]) ⟨[],rfl,by simp[aW]⟩
 ·rename_i i o len cap sz hm
  obtain⟨l,c,hl,h1,_⟩:=cJ hh hr hx hm
  split at h
  ·rename_i h0
   subst h0
   simp only[ai,bo]at h
   obtain⟨rfl,rfl⟩:=h
   exact bf.value hh (x:=.tuple #[]) (by simp[Builtin.clear_,h1,run_underlying ht]) ⟨[],rfl,by simp[aW]⟩
  ·rename_i h0
   split at h
   ·cases h
   ·rename_i cG
    simp only[not_or,Decidable.not_not]at cG
    split at h
    ·rename_i cs e' aj
     split at h
     ·rename_i hle
      simp only[ai,bo]at h
      obtain⟨rfl,rfl⟩:=h
      obtain⟨inf,zx,hi,mI,tP⟩:=B8 hz
      have kL:=Kk (tP μ).cells len
      have hlen:z.cells.length=zx.cells.size:=by rw[<-(tP μ).cells.length];simp
      obtain⟨w',hw,dH⟩:=Kj (o:=o) hh hl aj kL (Pr eX len kL) (by rw[Va,cG.2.2];exact hle)
      refine⟨.value (.tuple #[]),_,w',μ,[i],?_,.inl rfl,⟨[],rfl,by simp[aW]⟩,dH⟩
      have xF:Builtin.zeroCells zx.cells len=madeCells ⟨zx.cells.toList⟩ (len*z.cells.length):=by rw[U9,hlen]
      have hrz:(zeroValue e).run P w=.ok zx w:=by simp[zeroValue,typeInfo,hi,mI]
      obtain⟨zaf,rfl⟩:∃q,len=q+1:=⟨len-1,by omega⟩
      simp[Builtin.clear_,h1,run_underlying ht,hrz,xF,hw,Result.andThen]
     ·cases h
    ·cases h
 ·cases h
theorem Kl{ts:Array TypeId}{t u ty e:TypeId}{d:TypeDesc}{size m sLen sCap:Nat}{base:Option Addr}{X:Value}{ys:List Value}(lF:ts[0]?=some t)(ht:P.underlying t=some (.slice e))(jZ:ts[1]?=some u)(hu:P.underlying u=some d)
  (hd:∀k,d≠.int k) (hs:d_ P e=some size) (hlen:(Builtin.lenOf X).run P w=.ok m w) (hf:(Builtin.firstCells size m X).run P w=.ok ⟨ys⟩ w) (hle:sLen+m<=sCap)
  {w':World} (dH:(match base with|some a=>storeCells (a.add (sLen*size)) ys|none=>pure ():Sem Unit).run P w=.ok () w'):
  (Builtin.append_ ts ty #[.slice base sLen sCap,X]).run P w=.ok (.slice base (sLen+m) sCap) w':=by
 cases base with
 |none=>
  simp only[Sem.run_pure,Result.ok.injEq,true_and]at dH
  subst dH
  cases d<;>first|exact absurd rfl (hd _)|simp[Builtin.append_,lF,run_underlying ht,jZ,run_underlying hu,sX hs,Result.andThen,hlen,hf,hle]
 |some b=>
  simp only at dH
  cases d<;>first|exact absurd rfl (hd _)|simp[Builtin.append_,lF,run_underlying ht,jZ,run_underlying hu,sX hs,Result.andThen,hlen,hf,hle,dH]
theorem Zlu{ts:Array TypeId}{t u ty e:TypeId}{d:TypeDesc}{inf:TypeInfo}{zx:Value}{m sLen sCap:Nat}{base:Option Addr}{X:Value}{os ys:List Value}(lF:ts[0]?=some t)(ht:P.underlying t=some (.slice e))(jZ:ts[1]?=some u)(hu:P.underlying u=some d)
  (hd:∀k,d≠.int k) (hi:P.info? e=some inf) (hz:inf.zero=some zx) (hlen:(Builtin.lenOf X).run P w=.ok m w) (hf:(Builtin.firstCells inf.size m X).run P w.drew=.ok ⟨ys⟩ w.drew)
  (Gx:(Builtin.firstCells inf.size sLen (.slice base sLen sCap)).run P w.drew=.ok ⟨os⟩ w.drew) (hle:¬sLen+m<=sCap) (hb:inf.bytes≠0) (vE:(2*(sLen+m)+1000)*inf.bytes<=2^48):
  (Builtin.append_ ts ty #[.slice base sLen sCap,X]).run P w=.ok (.slice (some ⟨w.heap.size,0,none⟩) (sLen+m) (grownCap w (sLen+m) sCap e))
   (w.drew.alloc (.cells ⟨os++ys++(Builtin.zeroCells zx.cells (grownCap w (sLen+m) sCap e-(sLen+m))).toList⟩ e)):=by
 have hgr:Builtin.nextslicecap (sLen+m) sCap*inf.bytes<=2^48:=by
  have h1:Builtin.nextslicecap (sLen+m) sCap*inf.bytes<=2*(sLen+m)*inf.bytes:=kl _ (nextslicecap_le (by omega))
  have h2:2*(sLen+m)*inf.bytes<=(2*(sLen+m)+1000)*inf.bytes:=kl _ (by omega)
  omega
 have Ps:¬(281474976710656<Builtin.nextslicecap (sLen+m) sCap*inf.bytes):=by omega
 cases d<;>first|exact absurd rfl (hd _)|simp[Builtin.append_,lF,run_underlying ht,jZ,run_underlying hu,sizeOf,typeInfo,zeroValue,hi,hz,Result.andThen,hlen,hf,Gx,hle,hb,Ps,Question.forced,newRow,grownCap]<;>(congr 2;apply uM;simp)
theorem Vb(hh:bm P μ w st){ts:Array TypeId}{t u ty e:TypeId}{d:TypeDesc}{size b m sLen sCap:Nat}{z:V}{base:Option Addr}{X:Value}{os ys:List Value}{co cx:List V}
  (lF:ts[0]?=some t) (ht:P.underlying t=some (.slice e)) (jZ:ts[1]?=some u) (hu:P.underlying u=some d) (hd:∀k,d≠.int k)
  (hs:d_ P e=some size) (hb:Zip P e=some b) (hz:lD P e=some z) (Gy:z.cells.length=size) (eX:z.cells.all V.one=true) (rK:size≠0)
  (hlen:(Builtin.lenOf X).run P w=.ok m w) (hf:(Builtin.firstCells size m X).run P w.drew=.ok ⟨ys⟩ w.drew)
  (Gx:(Builtin.firstCells size sLen (.slice base sLen sCap)).run P w.drew=.ok ⟨os⟩ w.drew) (hle:¬sLen+m<=sCap) (iR:b≠0) (vE:(2*(sLen+m)+1000)*b<=2^48)
  (ho:aW μ co os) (hx:aW μ cx ys) (wL:∀y∈os,y.oneCell'=true) (vw:∀y∈ys,y.oneCell'=true) (kb:co.length=sLen*size) (yB:cx.length=m*size):
  ∃μ' w' c,(Builtin.append_ ts ty #[.slice base sLen sCap,X]).run P w=.ok (.slice (some ⟨w.heap.size,0,none⟩) (sLen+m) c) w'/\VR μ' (.slice st.n 0 (sLen+m) none size) (.slice (some ⟨w.heap.size,0,none⟩) (sLen+m) c)/\
   bB P μ w st μ' w' (st.alloc (.cells (co++cx) e true)) []:=by
 obtain⟨inf,zx,hi,mI,tP⟩:=B8 hz
 have iz:inf.size=size:=by unfold d_ at hs;simpa[hi]using hs
 have hbz:inf.bytes=b:=by unfold Zip at hb;simpa[hi]using hb
 have Gz:zx.cells.size=size:=by rw[<-Gy,<-(tP μ).cells.length];simp
 subst iz hbz
 have bI:=Zlu (P:=P) (w:=w) (ty:=ty) lF ht jZ hu hd hi mI hlen hf Gx hle iR vE
 have yF:=grownCap_ge w (sLen+m) sCap e
 generalize grownCap w (sLen+m) sCap e=cap at bI yF
 have xF:(Builtin.zeroCells zx.cells (cap-(sLen+m))).toList.length=(cap-(sLen+m))*inf.size:=by simp[Builtin.zeroCells,Gz]
 have kL:aW μ (cj z.cells (cap-(sLen+m))) (Builtin.zeroCells zx.cells (cap-(sLen+m))).toList:=by
  have:=Kk (tP μ).cells (cap-(sLen+m))
  rw[U9]
  have e1:zx.cells.size=z.cells.length:=by rw[Gz,Gy]
  rw[e1]
  simpa using this
 have GA:=ho.length
 have GB:=hx.length
 have vD:(os++ys++(Builtin.zeroCells zx.cells (cap-(sLen+m))).toList).length=cap*inf.size:=by
  rw[fK,fK,xF,GA,GB,kb,yB,<-jG,<-jG]
  congr 1;omega
 refine⟨_,_,cap,bI,?_,(bB.newRow hh.Ao (cs:=co++cx) (xs:=os++ys++(Builtin.zeroCells zx.cells (cap-(sLen+m))).toList) (lo:=0) (hi:=0) ?_ ?_ ?_ ?_).vF⟩
 ·simp only[VR]
  refine⟨⟨w.heap.size,0,(os++ys++(Builtin.zeroCells zx.cells (cap-(sLen+m))).toList).length⟩,cap,by exact aF trivial,by simp,yF,?_,by simp,fun _=>?_⟩
  ·show 0+cap*inf.size<=(os++ys++(Builtin.zeroCells zx.cells (cap-(sLen+m))).toList).length
   omega
  ·show 0+cap*inf.size=(os++ys++(Builtin.zeroCells zx.cells (cap-(sLen+m))).toList).length
   omega
 ·rw[fK,fK,fK,GA,GB];omega
 ·intro j u' kJ
  obtain⟨y,h1,h2⟩:=(ho.append hx).get kJ
  exact⟨y,by rw[jO (tn.1 h1).1];exact h1,h2⟩
 ·intro y hy
  simp only[pw]at hy
  rcases hy with(hy|hy)|hy
  ·exact wL y hy
  ·exact vw y hy
  ·exact Pr eX _ kL y hy
 ·exact .inr (aV _)
theorem bB.B9{w':World}(h:bm P μ w st){i:Nat}{l l':L}{o o':O}(hi:μ i=some l)(ho:st.h.get i=some o)(hw:o.wr=true)
  (uG:w'.os=w.os) (NY:w'.tape=w.tape) (NZ:w'.output=w.output) (iz:w'.heap.size=w.heap.size) (nf:∀b,b≠l.b->w'.heap[b]?=w.heap[b]?) (nd:l'.b=l.b)
  (rl:OM P (fun j=>if j=st.n then some l' else μ j) w' o' l'):
  bB P μ w st (fun j=>if j=st.n then some l' else μ j) w' ((st.write i .dead).alloc o') [i]:=by
 have rm:o.live=true:=by cases o<;>simp_all [O.wr,O.live]
 have zz:=(h.cK i l hi).1
 have kM:=(h.cK i l hi).2
 have dc:∀j lj,μ j=some lj->(fun j=>if j=st.n then some l' else μ j) j=some lj:=fun j lj hj=>by
  have:=(h.cK j lj hj).1
  show (if j=st.n then some l' else μ j)=some lj
  rw[ar (by omega)];exact hj
 have cF:∀j,((st.write i .dead).alloc o').h.get j=if j=st.n then some o' else if j=i then some .dead else st.h.get j:=fun j=>by
  simp only[St.alloc,St.write,T.ah]
 refine⟨⟨fun j lj hj=>?_,fun j lj hj=>?_,fun j k lj lk oj ok hj hk bA h1 h2 DN mm=>?_,fun g hg=>let ⟨t,ht⟩:=h.fE g hg;⟨t,dc g _ ht⟩⟩,fun j hj=>?_,by simp[St.alloc,St.write],rfl,⟨uG,NY,NZ,by omega,fun b _ cM=>nf b ?_⟩,
  fun j lj hn hj=>?_,fun j hj cM=>?_,fun j oj hn hj=>?_,fun j h1 h2=>⟨l',by simp only[St.alloc,St.write]at h2;show (if j=st.n then some l' else μ j)=some l';rw[aF (by omega)]⟩,fun j hj _=>by simp only[uf]at hj;subst hj;exact⟨o,ho,hw⟩⟩
 ·replace hj:(if j=st.n then some l' else μ j)=some lj:=hj
  split at hj
  ·rename_i e
   simp only[ai]at hj;subst hj
   simp[St.alloc,St.write];omega
  ·have:=h.cK j lj hj
   simp[St.alloc,St.write];omega
 ·replace hj:(if j=st.n then some l' else μ j)=some lj:=hj
  split at hj
  ·rename_i e
   simp only[ai]at hj;subst hj
   exact⟨o',by rw[cF,aF e],rl⟩
  ·rename_i e
   by_cases e2:j=i
   ·exact⟨.dead,by rw[cF,ar e,aF e2],trivial⟩
   ·obtain⟨oj,h1,h2⟩:=h.obj j lj hj
    refine⟨oj,by rw[cF,ar e,ar e2];exact h1,?_⟩
    cases hl:oj.live
    ·cases oj<;>simp[O.live]at hl
     trivial
    ·exact(h2.mono dc).congr (nf lj.b (Ne.symm (h.inj i j l lj o oj hi hj (Ne.symm e2) ho h1 hw hl)))
 ·rw[cF]at h1 h2
  replace hj:(if j=st.n then some l' else μ j)=some lj:=hj
  replace hk:(if k=st.n then some l' else μ k)=some lk:=hk
  by_cases e1:j=st.n
  ·rw[aF e1]at hj h1
   simp only[ai]at hj h1
   subst hj h1
   by_cases e2:k=st.n
   ·exact absurd (e1.trans e2.symm) bA
   ·rw[ar e2]at hk h2
    by_cases e3:k=i
    ·rw[aF e3,ai]at h2;subst h2;simp[O.live]at mm
    ·rw[ar e3]at h2
     rw[nd]
     exact h.inj i k l lk o ok hi hk (Ne.symm e3) ho h2 hw mm
  ·rw[ar e1]at hj h1
   by_cases e3:j=i
   ·rw[aF e3,ai]at h1;subst h1;simp[O.wr]at DN
   ·rw[ar e3]at h1
    by_cases e2:k=st.n
    ·rw[aF e2]at hk h2
     simp only[ai]at hk h2
     subst hk h2
     rw[nd]
     exact h.inj j i lj l oj o hj hi e3 h1 ho DN rm
    ·rw[ar e2]at hk h2
     by_cases e4:k=i
     ·rw[aF e4,ai]at h2;subst h2;simp[O.live]at mm
     ·rw[ar e4]at h2
      exact h.inj j k lj lk oj ok hj hk bA h1 h2 DN mm
 ·show (if j=st.n then some l' else μ j)=μ j
  rw[ar (by omega)]
 ·exact Ne.symm (cM i (by simp) l hi)
 ·replace hj:(if j=st.n then some l' else μ j)=some lj:=hj
  split at hj
  ·simp only[ai]at hj;subst hj
   exact .inr ⟨i,by simp,zz,l,o,hi,nd.symm,ho,hw⟩
  ·exact absurd (h.cK j lj hj).1 (by omega)
 ·simp only[uf]at cM
  rw[cF,ar (by omega),ar cM]
 ·rw[cF,ar (by omega)]at hj
  split at hj
  ·rename_i e
   subst e
   simp only[ai]at hj;subst hj
   exact⟨o,ho,by simp[O.wr],by simp[O.live]⟩
  ·exact⟨oj,hj,id,id⟩
theorem bB.kill(h:bm P μ w st){i:Nat}{l:L}{o:O}(hi:μ i=some l)(ho:st.h.get i=some o)(hw:o.wr=true):bB P μ w st μ w (st.write i .dead) [i]:=
 bB.write h hi ho hw rfl rfl rfl rfl (fun _ _=>rfl) trivial
theorem Yeg(hh:bm P μ w st)(hr:RR μ r n a.tmps){ts:Array TypeId}{t u ty e:TypeId}{d:TypeDesc}{size b:Nat}{z:V}{x y:Operand}{s sx:Src}
  (lF:ts[0]?=some t) (ht:P.underlying t=some (.slice e)) (jZ:ts[1]?=some u) (hu:P.underlying u=some d) (hd:∀k,d≠.int k)
  (hs:d_ P e=some size) (hb:Zip P e=some b) (hz:lD P e=some z) (Gy:z.cells.length=size) (eX:z.cells.all V.one=true) (iR:b≠0)
  (hx:bu P x=some s) (hy:bu P y=some sx) (h:yg size b e z.cells s sx call r st=some (v,av)):
  bf P μ w st (do pure (.value (<-Builtin.append_ ts ty #[a.eval x,a.eval y]))) v av:=by
 unfold yg at h
 split at h
 ·rename_i sv xv O9 xe
  have h1:=cJ hh hr hx O9
  have h2:=cJ hh hr hy xe
  unfold jQ at h
  split at h
  ·cases h
  ·rename_i m xs wy
   obtain⟨g1,g2,ys,g3,g4,g5⟩:=U7 hh h2 wy
   have Gw:=g3.length
   have hyt:ys.take (m*size)=ys:=fN (by omega)
   have gf:∀w':World,w'.heap=w.heap->(Builtin.firstCells size m (a.eval y)).run P w'=.ok ⟨ys⟩ w':=fun w' qI=>by rw[g5 w' qI m (aV _),hyt]
   split at h
   ·-- a nil slice
    simp only[VR]at h1
    split at h
    ·rename_i fA
     subst fA
     simp only[ai,bo]at h
     obtain⟨rfl,rfl⟩:=h
     refine bf.value hh (x:=.slice none 0 0) ?_ (by simp[VR])
     rw[h1]
     exact Kl (base:=none) lF ht jZ hu hd hs g1 (gf w rfl) (aV _) (by simp)
    ·rename_i fA
     split at h
     ·rename_i hc
      simp only[ai,bo]at h
      obtain⟨rfl,rfl⟩:=h
      obtain⟨μ',w',c,k1,k2,k3⟩:=Vb (P:=P) (w:=w) (ty:=ty) (sLen:=0) (sCap:=0) (base:=none) (X:=a.eval y) (os:=[]) (co:=[]) hh lF ht jZ hu hd hs hb hz Gy eX hc.2 g1 (gf w.drew rfl) (by simp[Builtin.firstCells]) (by omega) iR
       (by have:=hc.1;unfold uP at this;simpa using this) (by simp[aW]) g3 (by simp) g4 (by simp) g2
      refine⟨.value (.slice (some ⟨w.heap.size,0,none⟩) (0+m) c),_,w',μ',[],?_,.inl rfl,?_,?_⟩
      ·rw[h1];simp only[Sem.run_bind,k1,Result.andThen_ok,Sem.run_pure]
      ·simpa using k2
      ·simpa using k3
     ·cases h
   ·-- a slice
    rename_i i o len cap sz
    have fB:=h1
    obtain⟨l,c,hl,h1,xj,vD,hk,qJ⟩:=h1
    split at h
    ·rename_i fA
     subst fA
     split at h
     ·simp only[ai,bo]at h
      obtain⟨rfl,rfl⟩:=h
      refine bf.value hh (x:=a.eval x) ?_ fB
      have Gt:ys=[]:=by
       apply nU
       omega
      rw[h1]
      have:=Kl (P:=P) (w:=w) (w':=w) (ty:=ty) (base:=some ⟨l.b,l.d+o,none⟩) (sLen:=len) (sCap:=c) lF ht jZ hu hd hs g1 (gf w rfl) (by omega) (by simp only[Gt];exact U8 _ _)
      simpa using this
     ·cases h
    ·rename_i fA
     split at h
     ·cases h
     ·rename_i cG
      simp only[not_or,Decidable.not_not,oo]at cG
      obtain⟨iz,rK,vE⟩:=cG
      subst iz
      unfold uP at vE
      have inPlace:∀(cs:List V) (e':TypeId),st.row i=some (cs,e',true)->o+(len+m)*sz<=cs.length->len+m<=c->(∀k,cap=some k->c=k)->
        bf P μ w st (do pure (.value (<-Builtin.append_ ts ty #[a.eval x,a.eval y]))) (.slice i o (len+m) cap sz) (st.write i (.cells (ag cs (o+len*sz) xs) e' true)):=by
       intro cs e' aj hle vG _
       have Pt:(len+m)*sz=len*sz+m*sz:=jG ..
       obtain⟨w',hw,dH⟩:=Kj (o:=o+len*sz) hh hl aj g3 g4 (by rw[g2];omega)
       have bI:=Kl (P:=P) (w:=w) (w':=w') (ty:=ty) (base:=some ⟨l.b,l.d+o,none⟩) (sLen:=len) (sCap:=c) lF ht jZ hu hd hs g1 (gf w rfl) vG (by
        simp only[rL];rw[nj];exact hw)
       refine⟨.value (.slice (some ⟨l.b,l.d+o,none⟩) (len+m) c),_,w',μ,[i],?_,.inl rfl,?_,dH⟩
       ·rw[h1];simp only[Sem.run_bind,bI,Result.andThen_ok,Sem.run_pure]
       ·simp only[VR];exact⟨l,c,hl,rfl,vG,vD,hk,qJ⟩
      have fresh:∀(bR:St) (ws:List Nat) (cs old:List V) (e':TypeId) (oD:Bool),bB P μ w st μ w bR ws->bR.n=st.n->st.row i=some (cs,e',oD)->aM cs o (len*sz)=some old->¬len+m<=c->
        bf P μ w st (do pure (.value (<-Builtin.append_ ts ty #[a.eval x,a.eval y]))) (.slice st.n 0 (len+m) none sz) (bR.alloc (.cells (old++xs) e true)):=by
       intro bR ws cs old e' oD gn xl aj hold cM
       have tM:=hh.row hl aj
       obtain⟨os,q1,q2,q3,q4,q5⟩:=tM.uR hold
       have Gx:(Builtin.firstCells sz len (.slice (some ⟨l.b,l.d+o,none⟩) len c)).run P w.drew=.ok ⟨os⟩ w.drew:=by
        refine run_firstCells_some (P:=P) w.drew sz len _ len c os q2 fun j y hy=>?_
        rw[rL]
        exact q4 j y hy
       obtain⟨μ',w',c',k1,k2,k3⟩:=Vb (P:=P) (w:=w) (ty:=ty) (base:=some ⟨l.b,l.d+o,none⟩) (sLen:=len) (sCap:=c) gn.hr lF ht jZ hu hd hs hb hz Gy eX rK g1 (gf w.drew rfl) Gx cM iR vE q1 g3 q5 g4 (by rw[<-q1.length,q2]) g2
       refine⟨.value (.slice (some ⟨w.heap.size,0,none⟩) (len+m) c'),_,w',μ',[]++ws,?_,.inl rfl,?_,gn.trans k3⟩
       ·rw[h1];simp only[Sem.run_bind,k1,Result.andThen_ok,Sem.run_pure]
       ·rw[<-xl];exact k2
      split at h
      ·cases h
      ·rename_i cs e' oD aj
       split at h
       ·rename_i k
        have hck:=hk k rfl
        split at h
        ·rename_i hle
         split at h
         ·rename_i hc
          simp only[ai,bo]at h
          obtain⟨rfl,rfl⟩:=h
          obtain⟨rfl,Ep⟩:=hc
          exact inPlace cs e' aj Ep (by omega) hk
         ·cases h
        ·rename_i hle
         split at h
         ·rename_i old hold
          simp only[ai,bo]at h
          obtain⟨rfl,rfl⟩:=h
          exact fresh st [] cs old e' oD (bB.refl hh) rfl aj hold (by omega)
         ·cases h
       ·split at h
        ·rename_i Er
         subst Er
         have tM:=hh.row hl aj
         have Vc:cs.length<=l.nb:=by obtain⟨_,_,_,_,_,h3,_⟩:=tM;exact h3
         have Vd:=qJ rfl
         have Pt:(len+m)*sz=len*sz+m*sz:=jG ..
         split at h
         ·rename_i hle
          simp only[ai,bo]at h
          obtain⟨rfl,rfl⟩:=h
          refine inPlace cs e' aj hle ?_ hk
          have:(len+m)*sz<=c*sz:=by omega
          exact Nat.le_of_mul_le_mul_right this (by omega)
         ·split at h
          ·rename_i hle hc
           obtain⟨GC,rfl,ho0⟩:=hc
           simp only[ai,bo]at h
           obtain⟨rfl,rfl⟩:=h
           have hold:aM cs o (len*sz)=some (cs.drop o):=by
            unfold aM
            rw[aF (by omega),fN (by simp;omega)]
           by_cases vG:len+m<=c
           ·-- in place,above what is known
            obtain⟨c',lo,hi,q1,q2,q3,q4,q5,q6⟩:=tM
            obtain⟨cur⟩:=c'
            simp only[List.size_toArray]at q2
            have vH:(len+m)*sz<=c*sz:=kl _ vG
            have OX:=Pv (P:=P) l.b (l.d+(o+len*sz)) e' lo hi ys 0 cur w q1 (by omega) g4 (fun j xG ku=>by
             have:=(q6 rfl).2 (j-l.d) (by omega)
             rw[show l.d+(j-l.d)=j by omega]at this
             exact this)
            have bI:=Kl (P:=P) (w:=w) (ty:=ty) (base:=some ⟨l.b,l.d+o,none⟩) (sLen:=len) (sCap:=c) lF ht jZ hu hd hs g1 (gf w rfl) vG (by
             simp only[rL];rw[nj];exact OX)
            have nf:=setRow_heap w l.b _ (⟨ag cur (l.d+(o+len*sz)+0) ys⟩:Array Value) e' _ q1
            have dc:∀j lj,μ j=some lj->(fun j=>if j=st.n then some (⟨l.b,l.d+o,l.nb-o⟩:L) else μ j) j=some lj:=fun j lj hj=>by
             have:=(hh.cK j lj hj).1
             simp only
             rw[ar (by omega)];exact hj
            refine⟨.value (.slice (some ⟨l.b,l.d+o,none⟩) (len+m) c),_,w.setRow l.b ⟨ag cur (l.d+(o+len*sz)+0) ys⟩,fun j=>if j=st.n then some ⟨l.b,l.d+o,l.nb-o⟩ else μ j,[i],?_,.inl rfl,?_,bB.B9 hh hl (Gs aj) rfl rfl rfl rfl (by simp) (fun b hb=>setRow_other w l.b b _ hb) rfl ⟨_,lo,hi,nf,?_,?_,?_,?_,?_⟩⟩
            ·rw[h1];simp only[Sem.run_bind,bI,Result.andThen_ok,Sem.run_pure]
            ·simp only[VR]
             refine⟨⟨l.b,l.d+o,l.nb-o⟩,c,by simp,by simp,vG,?_,by simp,fun _=>?_⟩
             ·show 0+c*sz<=l.nb-o
              omega
             ·show 0+c*sz=l.nb-o
              omega
            ·simp only[List.size_toArray]
             rw[Km (by omega)];omega
            ·simp only[fK,tr];omega
            ·intro j u' kJ
             have e1:∀k:Nat,(⟨ag cur (l.d+(o+len*sz)+0) ys⟩:Array Value)[k]?=(ag cur (l.d+(o+len*sz)+0) ys)[k]?:=fun k=>by simp
             simp only
             rw[e1,Es (by omega)]
             rw[List.getElem?_append]at kJ
             split at kJ
             ·rename_i hj
              simp only[tr]at hj
              rw[fe]at kJ
              obtain⟨y',p1,p2⟩:=q4 (o+j) u' kJ
              rw[ar (by omega)]
              refine⟨y',?_,VR.mono dc u' y' p2⟩
              rw[show l.d+o+j=l.d+(o+j) by omega]
              simpa using p1
             ·rename_i hj
              simp only[tr]at hj kJ
              obtain⟨y',p1,p2⟩:=g3.get kJ
              have aB:=(tn.1 p1).1
              rw[aF (by omega)]
              refine⟨y',?_,VR.mono dc u' y' p2⟩
              rw[show l.d+o+j-(l.d+(o+len*sz)+0)=j-(cs.length-o) by omega]
              exact p1
            ·intro j y' bj qF
             simp only at bj qF
             have e1:(⟨ag cur (l.d+(o+len*sz)+0) ys⟩:Array Value)[l.d+o+j]?=(ag cur (l.d+(o+len*sz)+0) ys)[l.d+o+j]?:=by simp
             rw[e1,Es (by omega)]at qF
             split at qF
             ·exact g4 y' (cm qF)
             ·exact q5 (o+j) y' (by omega) (by rw[show l.d+(o+j)=l.d+o+j by omega];simpa using qF)
            ·intro _
             refine⟨by have:=(q6 rfl).1;show l.d+o=0;omega,?_⟩
             intro j hj
             have:=(q6 rfl).2 (o+j) (by simp only at hj;omega)
             rw[show l.d+(o+j)=l.d+o+j by omega]at this
             exact this
           ·have GD:=bB.kill hh hl (Gs aj) rfl
            exact fresh (st.write i .dead) [i] cs (cs.drop o) e' true GD rfl aj hold vG
          ·cases h
        ·cases h
   ·cases h
 ·cases h
end
section
variable {P:Program} {μ:Mu} {w:World} {st av:St} {r:T V} {n:Nat} {a:Act} {call:cA} {v:V}
theorem Pw{b:Nat}{c:Array Value}{e:TypeId}{f:Nat×Nat}(h:w.heap[b]?=some (.cells c e f)):w.shape? b=some (e,c.size):=by
 simp[World.shape?,h]
theorem Ve{t:TypeId}{z:Nat}(h:d_ P t=some z):P.cellsOf t=z:=by
 unfold d_ at h
 simp[Program.cellsOf,h]
theorem Vg{t:TypeId}{z:Nat}(h:d_ P t=some z):∃j,P.info? t=some j/\j.size=z:=by
 unfold d_ at h
 simp only[iA]at h
 exact h
theorem Zuk{u:TypeId}{z:Nat}(hc:P.cellsOf u=z+1)(count:Nat)(hn:1<=count):liesAt P P.depth u count 0 u 1=true:=by
 have hd:P.depth=(2*(P.types.size+Made.depth)+1)+1:=rfl
 rw[hd]
 simp only[liesAt,Bq]
 left
 rw[hd]
 simp[rowAt,hc,sameLayout]
 left;omega
theorem Zz8(hh:bm P μ w st)(hr:RR μ r n a.tmps){src dst t:TypeId}{x:Operand}{s:Src}{z:Nat}(hs:P.underlying src=some (.pointer t))(hd:P.underlying dst=some .unsafePointer)(hz:d_ P t=some (z+1))
  (hx:bu P x=some s) (h:zT none s call r st=some (v,av)):bf P μ w st (do pure (.value (<-convert src dst (a.eval x)))) v av:=by
 unfold zT at h
 split at h
 ·rename_i i hm
  obtain⟨l,hl,h1⟩:=cJ hh hr hx hm
  split at h
  ·rename_i c e' aj
   simp only[]at h
   split at h
   ·rename_i aB
    simp only[ai,bo]at h
    obtain⟨rfl,rfl⟩:=h
    obtain⟨c',lo,hi,g1,g2,g3,_,_,g6⟩:=hh.row hl aj
    have nv:=(g6 rfl).1
    obtain⟨j,hj,hjs⟩:=Vg hz
    refine bf.value hh (x:=.pointer (some ⟨l.b,l.d+0,none⟩)) ?_ ⟨l,hl,rfl⟩
    rw[h1]
    exact Go.Lib.run_to_unsafe w ⟨l.b,l.d+0,none⟩ hs hd hj (by omega) (Pw g1) (by show l.d+0<c'.size;omega)
   ·cases h
  ·cases h
 ·cases h
theorem Zs7(hh:bm P μ w st)(hr:RR μ r n a.tmps){src dst u:TypeId}{x:Operand}{s:Src}{z:Nat}(hs:P.underlying src=some .unsafePointer)(hd:P.underlying dst=some (.pointer u))(hz:d_ P u=some (z+1))
  (hx:bu P x=some s) (h:zT (some (u,z+1)) s call r st=some (v,av)):bf P μ w st (do pure (.value (<-convert src dst (a.eval x)))) v av:=by
 unfold zT at h
 split at h
 ·rename_i i hm
  obtain⟨l,hl,h1⟩:=cJ hh hr hx hm
  split at h
  ·rename_i c e' aj
   simp only[]at h
   split at h
   ·rename_i aB
    obtain⟨rfl,_,hle⟩:=aB
    simp only[ai,bo]at h
    obtain⟨rfl,rfl⟩:=h
    obtain⟨c',lo,hi,g1,g2,g3,_,_,g6⟩:=hh.row hl aj
    have nv:=(g6 rfl).1
    obtain⟨j,hj,hjs⟩:=Vg hz
    have Vh:=Ve hz
    refine bf.value hh (x:=.pointer (some ⟨l.b,l.d+0,none⟩)) ?_ ⟨l,hl,rfl⟩
    rw[h1]
    refine Go.Lib.run_from_unsafe w ⟨l.b,l.d+0,none⟩ hs hd hj (Pw g1) ?_
    show liesAt P P.depth e' (c'.size/P.cellsOf e') (l.d+0) e' 1=true
    rw[nv]
    refine Zuk Vh _ ?_
    rw[Vh]
    exact Nat.div_pos (by omega) (by omega)
   ·cases h
  ·cases h
 ·cases h
theorem Yfi(hh:bm P μ w st)(hr:RR μ r n a.tmps){ts:Array TypeId}{ty:TypeId}{x:Operand}{s:Src}
  (hx:bu P x=some s) (h:D4 s call r st=some (v,av)):bf P μ w st (do pure (.value (<-Builtin.unsafeSliceData_ ts ty #[a.eval x]))) v av:=by
 unfold D4 at h
 split at h
 ·rename_i i o len cap sz hm
  obtain⟨l,c,hl,h1,xj,_⟩:=cJ hh hr hx hm
  split at h
  ·rename_i aB
   simp only[ai,bo]at h
   obtain⟨rfl,rfl⟩:=h
   refine bf.value hh (x:=.pointer (some ⟨l.b,l.d+o,none⟩)) ?_ ⟨l,hl,rfl⟩
   rw[h1]
   exact Go.Lib.run_unsafeSliceData_row w ts ty _ _ _ (by omega)
  ·cases h
 ·cases h
theorem Vi:∀{vs:List V} {s:List UInt8},BM vs=some s->vs.length=s.length/\∀(j:Nat) (b:UInt8),s[j]?=some b->vs[j]?=some (.int .u8 b.toNat)
 |[],s,h=>by
  simp only[BM,ai]at h;subst h
  exact⟨rfl,fun j b hb=>by simp at hb⟩
 |v::vs,s,h=>by
  simp only[BM]at h
  split at h
  ·rename_i b s' hb hs
   simp only[ai]at h;subst h
   obtain⟨h1,h2⟩:=Vi hs
   refine⟨by simp[h1],fun j c hc=>?_⟩
   cases j with
   |zero=>
    simp only[wM,ai]at hc;subst hc
    cases v<;>simp only[JM,reduceCtorEq]at hb
    rename_i k m
    cases k<;>simp only[reduceCtorEq]at hb
    split at hb
    ·rename_i hm
     simp only[ai]at hb;subst hb
     simp only[wM,ai,V.int.injEq,true_and]
     have:m.toNat<256:=by omega
     simp[Nat.toUInt8]
     omega
    ·cases hb
   |succ j=>
    simp only[zE]at hc ⊢
    exact h2 j c hc
  ·cases h
theorem Yjt(hh:bm P μ w st)(hr:RR μ r n a.tmps){pt it ty e:TypeId}{x y:Operand}{s q:Src}(hp:P.underlying pt=some (.pointer e))(hz:d_ P e=some 1)(hx:bu P x=some s)(hy:bu P y=some q)
  (h:D5 e s q call r st=some (v,av)):bf P μ w st (do pure (.value (<-Builtin.unsafeString_ #[pt,it] ty #[a.eval x,a.eval y]))) v av:=by
 unfold D5 at h
 split at h
 ·rename_i i k hm hq
  obtain⟨l,hl,h1⟩:=cJ hh hr hx hm
  have h2:=cJ hh hr hy hq
  simp only[VR]at h2
  split at h
  ·rename_i hk
   split at h
   ·rename_i c e' aj
    split at h
    ·rename_i he
     subst he
     split at h
     ·rename_i uR oW
      split at h
      ·rename_i str Px
       simp only[ai,bo]at h
       obtain⟨rfl,rfl⟩:=h
       obtain⟨c',lo,hi,g1,g2,g3,g4,g5,g6⟩:=hh.row hl aj
       have nv:=(g6 rfl).1
       obtain⟨b1,b2⟩:=Vi Px
       obtain⟨xs,mE,yB,rI,fx,_⟩:=(hh.row hl aj).uR oW
       have cC:str.length=k.toNat:=by have:=mE.length;omega
       have hle:k.toNat<=c.length:=by
        unfold aM at oW
        split at oW
        ·omega
        ·cases oW
       have tq:k=(str.length:Int):=by omega
       have bA:str≠[]:=by intro h0;rw[h0]at cC;simp at cC;omega
       have fZ:∀(j:Nat) (b:UInt8),str[j]?=some b->w.cell? ((⟨l.b,0,none⟩:Addr).add j)=some (.int .u8 b.toNat):=by
        intro j b hb
        have hv:=b2 j b hb
        obtain⟨y,nX,rJ⟩:=mE.get hv
        simp only[VR]at rJ
        subst rJ
        have:=fx j _ nX
        rw[rL]
        rw[nv,jR]at this
        exact this
       have h63:str.length<=9223372036854775807:=by omega
       have bI:=Go.Lib.run_unsafeString_row (P:=P) w pt it ty e' hp (Ve hz) l.b c'.size (Pw g1) str bA (by omega) h63 fZ
       have hw:bB P μ w st μ (w.freeze ⟨l.b,0,none⟩ str.length) (st.write i (.cells c e' false)) [i]:=by
        have pN:str.length≠0:=by simpa using bA
        have tL:(w.freeze ⟨l.b,0,none⟩ str.length).heap[l.b]?=some (.cells c' e' (if lo==hi then (0,0+str.length) else (min lo 0,max hi (0+str.length)))):=by
         simp[World.freeze,pN,Array.getElem?_modify,g1]
        obtain⟨lo',gZ,GF⟩:∃p q,(if lo==hi then (0,0+str.length) else (min lo 0,max hi (0+str.length)))=(p,q):=⟨_,_,rfl⟩
        rw[GF]at tL
        refine bB.write hh hl (Gs aj) rfl ?_ ?_ ?_ ?_ ?_ ⟨c',lo',gZ,tL,g2,g3,g4,g5,fun hc=>by cases hc⟩
        ·simp[World.freeze,pN]
        ·simp[World.freeze,pN]
        ·simp[World.freeze,pN]
        ·simp[World.freeze,pN]
        ·intro b hb
         simp only[World.freeze,pN,if_false,Array.getElem?_modify]
         rw[ar (fun h=>hb h.symm)]
       refine⟨.value (.string ⟨str.toArray⟩),_,_,μ,[i],?_,.inl rfl,rfl,hw⟩
       rw[h1,h2,nv,tq]
       simp[bI,Result.andThen]
      ·cases h
     ·cases h
    ·cases h
   ·cases h
  ·cases h
 ·cases h
end
end Go.Mx
