/-The operations of M stand for the Go mod-/
import Derived.Test.YtlfdeoomaccciaaGreatDoorMxOp7
import Derived.Lib.Builder
import Derived.Lib.UnsafeStr
set_option linter.all false
namespace Go.Mx
open Go
set_option maxHeartbeats 2000000
def FB:Ext->Array Value->Sem Value
 |.gI=>add64Entry
 |.jB=>Go.Proofs.sub64Entry
 |.same=>Extern.AbiNoEscape.same
 |.bW=>Extern.BytealgIndexByte.indexByte
 |.lJ=>fun _=>stuck "not taken"
def ue(P:Program):Prop:=∀(g:FuncId) (fn:Func) (e:Ext),P.funcs[g]?=some fn->fn.body.isSome=false->yC fn.name=some e->
 (fn.name== "runtime.NumGoroutine")=false/\Extern.findNext fn=none/\Extern.find fn=some (FB e)
def Zkp(c:UInt8):∀(l:List UInt8),Go.Lib.indexByte l c= -1\/0<=Go.Lib.indexByte l c
 |[]=>.inl rfl
 |b::l=>by
  rcases Zkp c l with h|h<;>simp only[Go.Lib.indexByte]<;>split<;>first|omega|(split<;>omega)
def Zn8(c:UInt8):∀(l:List UInt8) (i:Nat),Gp c l i=if Go.Lib.indexByte l c= -1 then -1 else Go.Lib.indexByte l c+i
 |[],i=>by simp[Gp,Go.Lib.indexByte]
 |b::l,i=>by
  have h:=Zkp c l
  simp only[Gp,Go.Lib.indexByte]
  split
  ·simp
  ·rw[Zn8 c l (i+1)]
   by_cases e:Go.Lib.indexByte l c= -1
   ·simp[e]
   ·have e':(Go.Lib.indexByte l c== -1)=false:=by simpa using e
    rw[ak e,e']
    simp only[fI,if_false]
    rw[ak (by omega)]
    omega
section
variable {P:Program} {μ:Mu} {w:World} {st az:St} {r:T V} {n:Nat} {a:Act} {call:cD} {v:V}
def Yr3(hh:bm P μ w st)(hr:RR μ r n a.tmps)(hE:ue P){g:Nat}{fn:Func}{e:Ext}{xs:List Operand}{ss:List Src}(hg:P.funcs[g]?=some fn)(hb:fn.body.isSome=false)(he:yC fn.name=some e)
  (hx:vj P xs=some ss) (h:GJ e ss call r st=some (v,az)):ba P μ w st (callFunc g ⟨xs.map a.eval⟩) v az:=by
 obtain⟨e1,e2,e3⟩:=hE g fn e hg hb he
 have bM:=run_callFunc_extern hg e1 (by simpa using hb) e2 e3 ⟨xs.map a.eval⟩ w
 have fin:∀x,(FB e ⟨xs.map a.eval⟩).run P w=.ok x w->VR μ v x->az=st->ba P μ w st (callFunc g ⟨xs.map a.eval⟩) v az:=by
  intro x hx hv hs
  subst hs
  exact⟨.value x,x,w,μ,[],by rw[bM,hx];rfl,.inl rfl,hv,bH.refl hh⟩
 unfold GJ at h
 cases hl:uF r ss with
 |none=>cases e<;>simp[hl]at h
 |some l=>
  have hv:=Hb hh hr hx hl
  have vQ:∀u,Ct e l=some u->(FB e ⟨xs.map a.eval⟩).run P w=.ok (match u with|.aV [.int .u64 p,.int .u64 q]=>.tuple #[.int .u64 p,.int .u64 q]|.int k m=>.int k m|_=>undef) w/\
    VR μ u (match u with|.aV [.int .u64 p,.int .u64 q]=>.tuple #[.int .u64 p,.int .u64 q]|.int k m=>.int k m|_=>undef):=by
   intro u hu
   unfold Ct at hu
   split at hu
   ·rename_i x y c
    split at hu
    ·cases hu
    ·rename_i hc
     simp only[aq]at hu;subst hu
     simp only[aS,VR]at hv
     obtain⟨_,_,h1,rfl,_,_,rfl,rfl,_,_,rfl,rfl,rfl⟩:=hv
     rw[h1]
     refine⟨?_,by simp[VR,aS]⟩
     have pF:c=0\/c=1:=Decidable.not_not.1 hc
     rcases pF with rfl|rfl<;>rfl
   ·rename_i x y c
    split at hu
    ·cases hu
    ·rename_i hc
     simp only[aq]at hu;subst hu
     simp only[aS,VR]at hv
     obtain⟨_,_,h1,rfl,_,_,rfl,rfl,_,_,rfl,rfl,rfl⟩:=hv
     rw[h1]
     refine⟨?_,by simp[VR,aS]⟩
     have pF:c=0\/c=1:=Decidable.not_not.1 hc
     have hi:∀(p:Prop) [Decidable p],((if p then 1 else 0:Int))=Int.ofNat (if p then 1 else 0):=fun p _=>by split<;>rfl
     rcases pF with rfl|rfl<;>rw[hi]<;>rfl
   ·rename_i s c
    simp only[aq]at hu;subst hu
    simp only[aS,VR]at hv
    obtain⟨_,_,h1,rfl,_,_,rfl,rfl,rfl⟩:=hv
    rw[h1]
    refine⟨?_,by simp[VR]⟩
    have:=Go.Lib.run_indexByteString (P:=P) ⟨s.toArray⟩ c w
    show (Extern.BytealgIndexByte.indexByte #[.string ⟨s.toArray⟩,.int .u8 c]).run P w=_
    rw[this,Zn8]
    simp only[]
    congr 2
    split
    ·rename_i e;exact e
    ·simp
   ·cases hu
  cases e with
  |same=>
   rcases l with _|⟨u,_|⟨u',l⟩⟩<;>simp[hl,Ct]at h
   obtain⟨rfl,rfl⟩:=h
   obtain⟨y,ys,qi,h1,h2⟩:=kW.1 hv
   simp only[aS]at h2;subst h2
   refine fin y ?_ h1 rfl
   rw[qi];rfl
  |gI=>
   simp only[hl]at h
   split at h
   ·rename_i u hu
    simp only[aq,bs]at h
    obtain⟨rfl,rfl⟩:=h
    exact fin _ (vQ _ hu).1 (vQ _ hu).2 rfl
   ·cases h
  |jB=>
   simp only[hl]at h
   split at h
   ·rename_i u hu
    simp only[aq,bs]at h
    obtain⟨rfl,rfl⟩:=h
    exact fin _ (vQ _ hu).1 (vQ _ hu).2 rfl
   ·cases h
  |bW=>
   simp only[hl]at h
   split at h
   ·rename_i u hu
    simp only[aq,bs]at h
    obtain⟨rfl,rfl⟩:=h
    exact fin _ (vQ _ hu).1 (vQ _ hu).2 rfl
   ·cases h
  |lJ=>simp[hl,Ct]at h
def Zlx(hh:bm P μ w st){size:Nat}{u:V}{X:Value}(hx:VR μ u X){m:Nat}{xs:List V}(h:eA st size u=some (m,xs)):
  (Builtin.lenOf X).run P w=.ok m w/\xs.length=m*size/\∃ys,aS μ xs ys/\(∀y∈ys,y.oneCell'=true)/\
   ∀w':World,w'.heap=w.heap->∀k,k<=m->(Builtin.firstCells size k X).run P w'=.ok ⟨ys.take (k*size)⟩ w':=by
 unfold eA at h
 split at h
 ·simp only[aq,bs]at h
  obtain⟨rfl,rfl⟩:=h
  simp only[VR]at hx;subst hx
  exact⟨by simp[Builtin.lenOf],by simp,[],by simp[aS],by simp,fun w' _ k hk=>by simp[Builtin.firstCells]⟩
 ·simp only[aq,bs]at h
  obtain⟨rfl,rfl⟩:=h
  obtain⟨b,c,rfl⟩:=hx
  refine⟨by simp[Builtin.lenOf],by simp,[],by simp[aS],by simp,fun w' _ k hk=>?_⟩
  have qH:k=0:=by omega
  subst qH
  have:=run_firstCells_some (P:=P) w' size 0 b 0 c [] (by simp) (by simp)
  simpa using this
 ·rename_i j p m' _ sz
  obtain⟨l,c,hl,rfl,_⟩:=hx
  split at h
  ·split at h
   ·rename_i cs _ _ al
    split at h
    ·rename_i Aa tI
     simp only[aq,bs]at h
     obtain⟨rfl,rfl⟩:=h
     obtain⟨ys,g1,g2,g3,g4,g5⟩:=(hh.row hl al).Aa tI
     refine⟨by simp[Builtin.lenOf],by rw[<-g1.length,g2],ys,g1,g5,fun w' vU k hk=>?_⟩
     have Xc:k*size<=m'*size:=mr _ hk
     refine run_firstCells_some (P:=P) w' size k _ m' c (ys.take (k*size)) (by rw[gG,g2];exact pZ Xc) fun i y hy=>?_
     rw[xx]
     rw[iM]at hy
     split at hy
     ·have:=g4 i y hy
      simpa[World.cell?,vU]using this
     ·cases hy
    ·cases h
   ·cases h
  ·cases h
 ·rename_i s
  split at h
  ·rename_i At
   subst At
   simp only[aq,bs]at h
   obtain⟨rfl,rfl⟩:=h
   simp only[VR]at hx;subst hx
   have kX:(⟨s.toArray⟩:ByteArray).size=s.length:=rfl
   refine⟨by simp[Builtin.lenOf,kX, -ByteArray.size_data],by simp,s.map (fun b=>.int .u8 b.toNat),?_,by simp;intro y _;rfl,fun w' _ k hk=>?_⟩
   ·refine aS.qY (by simp) fun i y hy=>?_
    simp only[fV,kj]at hy
    obtain⟨b,hb,rfl⟩:=hy
    exact⟨_,by simp[hb];rfl,by simp[VR]⟩
   ·simp only[Builtin.firstCells,Sem.run_pure,yZ]
    congr 1
    apply Array.ext'
    simp
  ·cases h
 ·cases h
def Zfv(a:Addr)(i:Nat):(storeCells a [] i).run P w=.ok () w:=by simp[storeCells]
def Ypg(hh:bm P μ w st)(hr:RR μ r n a.tmps){ts:Array TypeId}{t ty e:TypeId}{size:Nat}{x y:Operand}{sd ss:Src}(pq:ts[0]?=some t)(ht:P.underlying t=some (.slice e))(hs:eR P e=some size)
  (hx:bB P x=some sd) (hy:bB P y=some ss) (h:Cz size sd ss call r st=some (v,az)):
  ba P μ w st (do pure (.value (<-Builtin.copy_ ts ty #[a.eval x,a.eval y]))) v az:=by
 unfold Cz at h
 split at h
 ·rename_i d s hd EG
  have h1:=cQ hh hr hx hd
  have h2:=cQ hh hr hy EG
  split at h
  ·rename_i m xs F7
   obtain⟨g1,g2,ys,g3,g4,g5⟩:=Zlx hh h2 F7
   have LB:=g3.length
   split at h
   ·simp only[aq,bs]at h
    obtain⟨rfl,rfl⟩:=h
    simp only[VR]at h1
    refine ba.value hh (x:=.int .i64 0) ?_ (by simp[VR])
    have hf:=g5 w rfl 0 (uw _)
    simp[Builtin.copy_,pq,h1,run_underlying ht,g1,yu hs,hf,Result.andThen,goInt]
   ·rename_i i o len cap sz
    obtain⟨l,c,hl,h1,BE,Aw,_⟩:=h1
    split at h
    ·cases h
    ·rename_i kX
     have hf:=g5 w rfl (min m len) (Nat.min_le_left _ _)
     simp only at h
     split at h
     ·rename_i hk
      simp only[aq,bs]at h
      obtain⟨rfl,rfl⟩:=h
      refine ba.value hh (x:=.int .i64 0) ?_ (by simp[VR])
      have tJ:Nat.min m len=0:=hk
      rw[hk]at hf
      simp[Builtin.copy_,pq,h1,run_underlying ht,g1,yu hs,hf,Result.andThen,goInt,tJ,Zfv]
     ·rename_i hk
      split at h
      ·rename_i cs e' al
       split at h
       ·rename_i hle
        simp only[aq,bs]at h
        obtain⟨rfl,rfl⟩:=h
        have Xc:min m len*size<=m*size:=mr _ (Nat.min_le_left _ _)
        obtain⟨w',hw,dJ⟩:=QH (o:=o) hh hl al (g3.take (min m len*size)) (fun q hq=>g4 q (yL hq)) (by rw[gG,g2,pZ Xc];exact hle)
        refine⟨.value (.int .i64 (min m len:Nat)),_,w',μ,[i],?_,.inl rfl,by simp[VR],dJ⟩
        have tJ:Nat.min m len=min m len:=rfl
        simp only[Builtin.copy_,pq,h1,Sem.run_bind,run_underlying ht,g1,yu hs,Result.andThen_ok,tJ,hf,hw,goInt,Sem.run_pure,List.getElem?_toArray,Bm,DZ]
       ·cases h
      ·cases h
   ·cases h
  ·cases h
 ·cases h
def Ziw(z:Array Value)(k:Nat):Builtin.zeroCells z k=madeCells z (k*z.size):=rfl
def Ys6(hh:bm P μ w st)(hr:RR μ r n a.tmps){t ty e:TypeId}{size:Nat}{z:V}{x:Operand}{s:Src}(ht:P.underlying t=some (.slice e))(hz:qU P e=some z)(gp:z.cells.all V.one=true)
  (hx:bB P x=some s) (h:Jq size z.cells s call r st=some (v,az)):
  ba P μ w st (do pure (.value (<-Builtin.clear_ #[t] ty #[a.eval x]))) v az:=by
 unfold Jq at h
 split at h
 ·rename_i hm
  simp only[aq,bs]at h
  obtain⟨rfl,rfl⟩:=h
  have h1:=cQ hh hr hx hm
  simp only[VR]at h1
  exact ba.value hh (x:=.tuple #[]) (by simp[Builtin.clear_,h1,run_underlying ht]) ⟨[],rfl,by simp[aS]⟩
 ·rename_i hm
  simp only[aq,bs]at h
  obtain⟨rfl,rfl⟩:=h
  obtain⟨b,c,h1⟩:=cQ hh hr hx hm
  exact ba.value hh (x:=.tuple #[]) (by simp[Builtin.clear_,h1,run_underlying ht]) ⟨[],rfl,by simp[aS]⟩
 ·rename_i i o len cap sz hm
  obtain⟨l,c,hl,h1,_⟩:=cQ hh hr hx hm
  split at h
  ·rename_i h0
   subst h0
   simp only[aq,bs]at h
   obtain⟨rfl,rfl⟩:=h
   exact ba.value hh (x:=.tuple #[]) (by simp[Builtin.clear_,h1,run_underlying ht]) ⟨[],rfl,by simp[aS]⟩
  ·rename_i h0
   split at h
   ·cases h
   ·rename_i cL
    simp only[not_or,Decidable.not_not]at cL
    split at h
    ·rename_i cs e' al
     split at h
     ·rename_i hle
      simp only[aq,bs]at h
      obtain⟨rfl,rfl⟩:=h
      obtain⟨inf,zx,hi,qk,BF⟩:=Hc hz
      have oJ:=QI (BF μ).cells len
      have hlen:z.cells.length=zx.cells.size:=by rw[<-(BF μ).cells.length];simp
      obtain⟨w',hw,dJ⟩:=QH (o:=o) hh hl al oJ (Xd gp len oJ) (by rw[Zm0,cL.2.2];exact hle)
      refine⟨.value (.tuple #[]),_,w',μ,[i],?_,.inl rfl,⟨[],rfl,by simp[aS]⟩,dJ⟩
      have yN:Builtin.zeroCells zx.cells len=madeCells ⟨zx.cells.toList⟩ (len*z.cells.length):=by rw[Ziw,hlen]
      have hrz:(zeroValue e).run P w=.ok zx w:=by simp[zeroValue,typeInfo,hi,qk]
      obtain⟨zat,rfl⟩:∃q,len=q+1:=⟨len-1,by omega⟩
      simp[Builtin.clear_,h1,run_underlying ht,hrz,yN,hw,Result.andThen]
     ·cases h
    ·cases h
 ·cases h
def QJ{ts:Array TypeId}{t u ty e:TypeId}{d:TypeDesc}{size m sLen sCap:Nat}{base:Option Addr}{X:Value}{ys:List Value}(pq:ts[0]?=some t)(ht:P.underlying t=some (.slice e))(lO:ts[1]?=some u)(hu:P.underlying u=some d)
  (hd:∀k,d≠.int k) (hs:eR P e=some size) (hlen:(Builtin.lenOf X).run P w=.ok m w) (hf:(Builtin.firstCells size m X).run P w=.ok ⟨ys⟩ w) (hle:sLen+m<=sCap)
  {w':World} (dJ:(match base with|some a=>storeCells (a.add (sLen*size)) ys|none=>pure ():Sem Unit).run P w=.ok () w'):
  (Builtin.append_ ts ty #[.slice base sLen sCap,X]).run P w=.ok (.slice base (sLen+m) sCap) w':=by
 cases base with
 |none=>
  simp only[Sem.run_pure,Result.ok.injEq,true_and]at dJ
  subst dJ
  cases d<;>first|exact absurd rfl (hd _)|simp[Builtin.append_,pq,run_underlying ht,lO,run_underlying hu,yu hs,Result.andThen,hlen,hf,hle]
 |some b=>
  simp only at dJ
  cases d<;>first|exact absurd rfl (hd _)|simp[Builtin.append_,pq,run_underlying ht,lO,run_underlying hu,yu hs,Result.andThen,hlen,hf,hle,dJ]
def Zl7{ts:Array TypeId}{t u ty e:TypeId}{d:TypeDesc}{inf:TypeInfo}{zx:Value}{m sLen sCap:Nat}{base:Option Addr}{X:Value}{os ys:List Value}(pq:ts[0]?=some t)(ht:P.underlying t=some (.slice e))(lO:ts[1]?=some u)(hu:P.underlying u=some d)
  (hd:∀k,d≠.int k) (hi:P.info? e=some inf) (hz:inf.zero=some zx) (hlen:(Builtin.lenOf X).run P w=.ok m w) (hf:(Builtin.firstCells inf.size m X).run P w.drew=.ok ⟨ys⟩ w.drew)
  (LC:(Builtin.firstCells inf.size sLen (.slice base sLen sCap)).run P w.drew=.ok ⟨os⟩ w.drew) (hle:¬sLen+m<=sCap) (hb:inf.bytes≠0) (Ax:2*(sLen+m)*inf.bytes<=2^48):
  (Builtin.append_ ts ty #[.slice base sLen sCap,X]).run P w=.ok (.slice (some ⟨w.heap.size,0,none⟩) (sLen+m) (grownCap w (sLen+m) sCap e))
   (w.drew.alloc (.cells ⟨os++ys++(Builtin.zeroCells zx.cells (grownCap w (sLen+m) sCap e-(sLen+m))).toList⟩ e)):=by
 have hgr:Builtin.nextslicecap (sLen+m) sCap*inf.bytes<=2^48:=by
  have h1:Builtin.nextslicecap (sLen+m) sCap*inf.bytes<=2*(sLen+m)*inf.bytes:=mr _ (nextslicecap_le (by omega))
  omega
 have Xe:¬(281474976710656<Builtin.nextslicecap (sLen+m) sCap*inf.bytes):=by omega
 cases d<;>first|exact absurd rfl (hd _)|simp[Builtin.append_,pq,run_underlying ht,lO,run_underlying hu,sizeOf,typeInfo,zeroValue,hi,hz,Result.andThen,hlen,hf,LC,hle,hb,Xe,Question.forced,newRow,grownCap]<;>(congr 2;apply Array.ext';simp)
def Zqe(hh:bm P μ w st){ts:Array TypeId}{t u ty e:TypeId}{d:TypeDesc}{size b m sLen sCap:Nat}{z:V}{base:Option Addr}{X:Value}{os ys:List Value}{co cx:List V}
  (pq:ts[0]?=some t) (ht:P.underlying t=some (.slice e)) (lO:ts[1]?=some u) (hu:P.underlying u=some d) (hd:∀k,d≠.int k)
  (hs:eR P e=some size) (hb:Ci P e=some b) (hz:qU P e=some z) (LD:z.cells.length=size) (gp:z.cells.all V.one=true) (tl:size≠0)
  (hlen:(Builtin.lenOf X).run P w=.ok m w) (hf:(Builtin.firstCells size m X).run P w.drew=.ok ⟨ys⟩ w.drew)
  (LC:(Builtin.firstCells size sLen (.slice base sLen sCap)).run P w.drew=.ok ⟨os⟩ w.drew) (hle:¬sLen+m<=sCap) (lS:b≠0) (Ax:2*(sLen+m)*b<=2^48)
  (ho:aS μ co os) (hx:aS μ cx ys) (Bk:∀y∈os,y.oneCell'=true) (xY:∀y∈ys,y.oneCell'=true) (fy:co.length=sLen*size) (uf:cx.length=m*size):
  ∃μ' w' c,(Builtin.append_ ts ty #[.slice base sLen sCap,X]).run P w=.ok (.slice (some ⟨w.heap.size,0,none⟩) (sLen+m) c) w'/\VR μ' (.slice st.n 0 (sLen+m) none size) (.slice (some ⟨w.heap.size,0,none⟩) (sLen+m) c)/\
   bH P μ w st μ' w' (st.alloc (.cells (co++cx) e true)) []:=by
 obtain⟨inf,zx,hi,qk,BF⟩:=Hc hz
 have kX:inf.size=size:=by unfold eR at hs;simpa[hi]using hs
 have hbz:inf.bytes=b:=by unfold Ci at hb;simpa[hi]using hb
 have LF:zx.cells.size=size:=by rw[<-LD,<-(BF μ).cells.length];simp
 subst kX hbz
 have bM:=Zl7 (P:=P) (w:=w) (ty:=ty) pq ht lO hu hd hi qk hlen hf LC hle lS Ax
 have CS:=grownCap_ge w (sLen+m) sCap e
 generalize grownCap w (sLen+m) sCap e=cap at bM CS
 have yN:(Builtin.zeroCells zx.cells (cap-(sLen+m))).toList.length=(cap-(sLen+m))*inf.size:=by simp[Builtin.zeroCells,LF]
 have oJ:aS μ (dp z.cells (cap-(sLen+m))) (Builtin.zeroCells zx.cells (cap-(sLen+m))).toList:=by
  have:=QI (BF μ).cells (cap-(sLen+m))
  rw[Ziw]
  have e1:zx.cells.size=z.cells.length:=by rw[LF,LD]
  rw[e1]
  simpa using this
 have LG:=ho.length
 have LH:=hx.length
 have Aw:(os++ys++(Builtin.zeroCells zx.cells (cap-(sLen+m))).toList).length=cap*inf.size:=by
  rw[i_,i_,yN,LG,LH,fy,uf,<-iU,<-iU]
  congr 1;omega
 refine⟨_,_,cap,bM,?_,(bH.newRow hh.EH (cs:=co++cx) (xs:=os++ys++(Builtin.zeroCells zx.cells (cap-(sLen+m))).toList) (lo:=0) (hi:=0) ?_ ?_ ?_ ?_).Ay⟩
 ·simp only[VR]
  refine⟨⟨w.heap.size,0,(os++ys++(Builtin.zeroCells zx.cells (cap-(sLen+m))).toList).length⟩,cap,by exact ay trivial,by simp,CS,?_,by simp,fun _=>?_⟩
  ·show 0+cap*inf.size<=(os++ys++(Builtin.zeroCells zx.cells (cap-(sLen+m))).toList).length
   omega
  ·show 0+cap*inf.size=(os++ys++(Builtin.zeroCells zx.cells (cap-(sLen+m))).toList).length
   omega
 ·rw[i_,i_,i_,LG,LH];omega
 ·intro j u' mU
  obtain⟨y,h1,h2⟩:=(ho.append hx).get mU
  exact⟨y,by rw[kJ (zH.1 h1).1];exact h1,h2⟩
 ·intro y hy
  simp only[kh]at hy
  rcases hy with(hy|hy)|hy
  ·exact Bk y hy
  ·exact xY y hy
  ·exact Xd gp _ oJ y hy
 ·exact .inr (aQ _)
def bH.Hd{w':World}(h:bm P μ w st){i:Nat}{l l':L}{o o':O}(hi:μ i=some l)(ho:st.h.get i=some o)(hw:o.wr=true)
  (zT:w'.os=w.os) (VV:w'.tape=w.tape) (VW:w'.output=w.output) (kX:w'.heap.size=w.heap.size) (qZ:∀b,b≠l.b->w'.heap[b]?=w.heap[b]?) (ta:l'.b=l.b)
  (wY:OM P (fun j=>if j=st.n then some l' else μ j) w' o' l'):
  bH P μ w st (fun j=>if j=st.n then some l' else μ j) w' ((st.write i .dead).alloc o') [i]:=by
 have xf:o.live=true:=by cases o<;>simp_all [O.wr,O.live]
 have DM:=(h.c_ i l hi).1
 have jz:=(h.c_ i l hi).2
 have dr:∀j lj,μ j=some lj->(fun j=>if j=st.n then some l' else μ j) j=some lj:=fun j lj hj=>by
  have:=(h.c_ j lj hj).1
  show (if j=st.n then some l' else μ j)=some lj
  rw[ak (by omega)];exact hj
 have cK:∀j,((st.write i .dead).alloc o').h.get j=if j=st.n then some o' else if j=i then some .dead else st.h.get j:=fun j=>by
  simp only[St.alloc,St.write,T.ag]
 refine⟨⟨fun j lj hj=>?_,fun j lj hj=>?_,fun j k lj lk oj ok hj hk aW h1 h2 Jc fJ=>?_,fun g hg=>let ⟨t,ht⟩:=h.gU g hg;⟨t,dr g _ ht⟩⟩,fun j hj=>?_,by simp[St.alloc,St.write],rfl,⟨zT,VV,VW,by omega,fun b _ du=>qZ b ?_⟩,
  fun j lj hn hj=>?_,fun j hj du=>?_,fun j oj hn hj=>?_,fun j h1 h2=>⟨l',by simp only[St.alloc,St.write]at h2;show (if j=st.n then some l' else μ j)=some l';rw[ay (by omega)]⟩,fun j hj _=>by simp only[uz]at hj;subst hj;exact⟨o,ho,hw⟩⟩
 ·replace hj:(if j=st.n then some l' else μ j)=some lj:=hj
  split at hj
  ·rename_i e
   simp only[aq]at hj;subst hj
   simp[St.alloc,St.write];omega
  ·have:=h.c_ j lj hj
   simp[St.alloc,St.write];omega
 ·replace hj:(if j=st.n then some l' else μ j)=some lj:=hj
  split at hj
  ·rename_i e
   simp only[aq]at hj;subst hj
   exact⟨o',by rw[cK,ay e],wY⟩
  ·rename_i e
   by_cases e2:j=i
   ·exact⟨.dead,by rw[cK,ak e,ay e2],trivial⟩
   ·obtain⟨oj,h1,h2⟩:=h.obj j lj hj
    refine⟨oj,by rw[cK,ak e,ak e2];exact h1,?_⟩
    cases hl:oj.live
    ·cases oj<;>simp[O.live]at hl
     trivial
    ·exact(h2.mono dr).congr (qZ lj.b (Ne.symm (h.inj i j l lj o oj hi hj (Ne.symm e2) ho h1 hw hl)))
 ·rw[cK]at h1 h2
  replace hj:(if j=st.n then some l' else μ j)=some lj:=hj
  replace hk:(if k=st.n then some l' else μ k)=some lk:=hk
  by_cases e1:j=st.n
  ·rw[ay e1]at hj h1
   simp only[aq]at hj h1
   subst hj h1
   by_cases e2:k=st.n
   ·exact absurd (e1.trans e2.symm) aW
   ·rw[ak e2]at hk h2
    by_cases e3:k=i
    ·rw[ay e3,aq]at h2;subst h2;simp[O.live]at fJ
    ·rw[ak e3]at h2
     rw[ta]
     exact h.inj i k l lk o ok hi hk (Ne.symm e3) ho h2 hw fJ
  ·rw[ak e1]at hj h1
   by_cases e3:j=i
   ·rw[ay e3,aq]at h1;subst h1;simp[O.wr]at Jc
   ·rw[ak e3]at h1
    by_cases e2:k=st.n
    ·rw[ay e2]at hk h2
     simp only[aq]at hk h2
     subst hk h2
     rw[ta]
     exact h.inj j i lj l oj o hj hi e3 h1 ho Jc xf
    ·rw[ak e2]at hk h2
     by_cases e4:k=i
     ·rw[ay e4,aq]at h2;subst h2;simp[O.live]at fJ
     ·rw[ak e4]at h2
      exact h.inj j k lj lk oj ok hj hk aW h1 h2 Jc fJ
 ·show (if j=st.n then some l' else μ j)=μ j
  rw[ak (by omega)]
 ·exact Ne.symm (du i (by simp) l hi)
 ·replace hj:(if j=st.n then some l' else μ j)=some lj:=hj
  split at hj
  ·simp only[aq]at hj;subst hj
   exact .inr ⟨i,by simp,DM,l,o,hi,ta.symm,ho,hw⟩
  ·exact absurd (h.c_ j lj hj).1 (by omega)
 ·simp only[uz]at du
  rw[cK,ak (by omega),ak du]
 ·rw[cK,ak (by omega)]at hj
  split at hj
  ·rename_i e
   subst e
   simp only[aq]at hj;subst hj
   exact⟨o,ho,by simp[O.wr],by simp[O.live]⟩
  ·exact⟨oj,hj,id,id⟩
def bH.kill(h:bm P μ w st){i:Nat}{l:L}{o:O}(hi:μ i=some l)(ho:st.h.get i=some o)(hw:o.wr=true):bH P μ w st μ w (st.write i .dead) [i]:=
 bH.write h hi ho hw rfl rfl rfl rfl (fun _ _=>rfl) trivial
def Yfr(hh:bm P μ w st)(hr:RR μ r n a.tmps){ts:Array TypeId}{t u ty e:TypeId}{d:TypeDesc}{size b:Nat}{z:V}{x y:Operand}{s sx:Src}
  (pq:ts[0]?=some t) (ht:P.underlying t=some (.slice e)) (lO:ts[1]?=some u) (hu:P.underlying u=some d) (hd:∀k,d≠.int k)
  (hs:eR P e=some size) (hb:Ci P e=some b) (hz:qU P e=some z) (LD:z.cells.length=size) (gp:z.cells.all V.one=true) (lS:b≠0)
  (hx:bB P x=some s) (hy:bB P y=some sx) (h:Cy size b e z.cells s sx call r st=some (v,az)):
  ba P μ w st (do pure (.value (<-Builtin.append_ ts ty #[a.eval x,a.eval y]))) v az:=by
 unfold Cy at h
 split at h
 ·rename_i sv xv hsv BC
  have h1:=cQ hh hr hx hsv
  have h2:=cQ hh hr hy BC
  unfold gJ at h
  split at h
  ·cases h
  ·rename_i m xs F7
   obtain⟨g1,g2,ys,g3,g4,g5⟩:=Zlx hh h2 F7
   have LB:=g3.length
   have hyt:ys.take (m*size)=ys:=eZ (by omega)
   have gf:∀w':World,w'.heap=w.heap->(Builtin.firstCells size m (a.eval y)).run P w'=.ok ⟨ys⟩ w':=fun w' vU=>by rw[g5 w' vU m (aQ _),hyt]
   split at h
   ·-- a nil slice
    simp only[VR]at h1
    split at h
    ·rename_i gV
     subst gV
     simp only[aq,bs]at h
     obtain⟨rfl,rfl⟩:=h
     refine ba.value hh (x:=.slice none 0 0) ?_ (by simp[VR])
     rw[h1]
     exact QJ (base:=none) pq ht lO hu hd hs g1 (gf w rfl) (aQ _) (by simp)
    ·rename_i gV
     split at h
     ·rename_i hc
      simp only[aq,bs]at h
      obtain⟨rfl,rfl⟩:=h
      obtain⟨μ',w',c,k1,k2,k3⟩:=Zqe (P:=P) (w:=w) (ty:=ty) (sLen:=0) (sCap:=0) (base:=none) (X:=a.eval y) (os:=[]) (co:=[]) hh pq ht lO hu hd hs hb hz LD gp hc.2 g1 (gf w.drew rfl) (by simp[Builtin.firstCells]) (by omega) lS
       (by have:=hc.1;unfold uk at this;simpa using this) (by simp[aS]) g3 (by simp) g4 (by simp) g2
      refine⟨.value (.slice (some ⟨w.heap.size,0,none⟩) (0+m) c),_,w',μ',[],?_,.inl rfl,?_,?_⟩
      ·rw[h1];simp only[Sem.run_bind,k1,Result.andThen_ok,Sem.run_pure]
      ·simpa using k2
      ·simpa using k3
     ·cases h
   ·-- a slice
    rename_i i o len cap sz
    have fL:=h1
    obtain⟨l,c,hl,h1,BE,Aw,hk,CT⟩:=h1
    split at h
    ·rename_i gV
     subst gV
     split at h
     ·simp only[aq,bs]at h
      obtain⟨rfl,rfl⟩:=h
      refine ba.value hh (x:=a.eval x) ?_ fL
      have LA:ys=[]:=by
       apply q8
       omega
      rw[h1]
      have:=QJ (P:=P) (w:=w) (w':=w) (ty:=ty) (base:=some ⟨l.b,l.d+o,none⟩) (sLen:=len) (sCap:=c) pq ht lO hu hd hs g1 (gf w rfl) (by omega) (by simp only[LA];exact Zfv _ _)
      simpa using this
     ·cases h
    ·rename_i gV
     split at h
     ·cases h
     ·rename_i cL
      simp only[not_or,Decidable.not_not,tr]at cL
      obtain⟨kX,tl,Ax⟩:=cL
      subst kX
      unfold uk at Ax
      have inPlace:∀(cs:List V) (e':TypeId),st.row i=some (cs,e',true)->o+(len+m)*sz<=cs.length->len+m<=c->(∀k,cap=some k->c=k)->
        ba P μ w st (do pure (.value (<-Builtin.append_ ts ty #[a.eval x,a.eval y]))) (.slice i o (len+m) cap sz) (st.write i (.cells (ad cs (o+len*sz) xs) e' true)):=by
       intro cs e' al hle CU _
       have Xf:(len+m)*sz=len*sz+m*sz:=iU ..
       obtain⟨w',hw,dJ⟩:=QH (o:=o+len*sz) hh hl al g3 g4 (by rw[g2];omega)
       have bM:=QJ (P:=P) (w:=w) (w':=w') (ty:=ty) (base:=some ⟨l.b,l.d+o,none⟩) (sLen:=len) (sCap:=c) pq ht lO hu hd hs g1 (gf w rfl) CU (by
        simp only[xx];rw[pe];exact hw)
       refine⟨.value (.slice (some ⟨l.b,l.d+o,none⟩) (len+m) c),_,w',μ,[i],?_,.inl rfl,?_,dJ⟩
       ·rw[h1];simp only[Sem.run_bind,bM,Result.andThen_ok,Sem.run_pure]
       ·simp only[VR];exact⟨l,c,hl,rfl,CU,Aw,hk,CT⟩
      have fresh:∀(bS:St) (ws:List Nat) (cs old:List V) (e':TypeId) (pn:Bool),bH P μ w st μ w bS ws->bS.n=st.n->st.row i=some (cs,e',pn)->aD cs o (len*sz)=some old->¬len+m<=c->
        ba P μ w st (do pure (.value (<-Builtin.append_ ts ty #[a.eval x,a.eval y]))) (.slice st.n 0 (len+m) none sz) (bS.alloc (.cells (old++xs) e true)):=by
       intro bS ws cs old e' pn iL xy al hold du
       have zf:=hh.row hl al
       obtain⟨os,q1,q2,q3,q4,q5⟩:=zf.Aa hold
       have LC:(Builtin.firstCells sz len (.slice (some ⟨l.b,l.d+o,none⟩) len c)).run P w.drew=.ok ⟨os⟩ w.drew:=by
        refine run_firstCells_some (P:=P) w.drew sz len _ len c os q2 fun j y hy=>?_
        rw[xx]
        exact q4 j y hy
       obtain⟨μ',w',c',k1,k2,k3⟩:=Zqe (P:=P) (w:=w) (ty:=ty) (base:=some ⟨l.b,l.d+o,none⟩) (sLen:=len) (sCap:=c) iL.hr pq ht lO hu hd hs hb hz LD gp tl g1 (gf w.drew rfl) LC du lS Ax q1 g3 q5 g4 (by rw[<-q1.length,q2]) g2
       refine⟨.value (.slice (some ⟨w.heap.size,0,none⟩) (len+m) c'),_,w',μ',[]++ws,?_,.inl rfl,?_,iL.trans k3⟩
       ·rw[h1];simp only[Sem.run_bind,k1,Result.andThen_ok,Sem.run_pure]
       ·rw[<-xy];exact k2
      split at h
      ·cases h
      ·rename_i cs e' pn al
       split at h
       ·rename_i k
        have hck:=hk k rfl
        split at h
        ·rename_i hle
         split at h
         ·rename_i hc
          simp only[aq,bs]at h
          obtain⟨rfl,rfl⟩:=h
          obtain⟨rfl,CV⟩:=hc
          exact inPlace cs e' al CV (by omega) hk
         ·cases h
        ·rename_i hle
         split at h
         ·rename_i old hold
          simp only[aq,bs]at h
          obtain⟨rfl,rfl⟩:=h
          exact fresh st [] cs old e' pn (bH.refl hh) rfl al hold (by omega)
         ·cases h
       ·split at h
        ·rename_i LI
         subst LI
         have zf:=hh.row hl al
         have hct:cs.length<=l.qX:=by obtain⟨_,_,_,_,_,h3,_⟩:=zf;exact h3
         have zag:=CT rfl
         have Xf:(len+m)*sz=len*sz+m*sz:=iU ..
         split at h
         ·rename_i hle
          simp only[aq,bs]at h
          obtain⟨rfl,rfl⟩:=h
          refine inPlace cs e' al hle ?_ hk
          have:(len+m)*sz<=c*sz:=by omega
          exact Nat.le_of_mul_le_mul_right this (by omega)
         ·split at h
          ·rename_i hle hc
           obtain⟨LJ,rfl,ho0⟩:=hc
           simp only[aq,bs]at h
           obtain⟨rfl,rfl⟩:=h
           have hold:aD cs o (len*sz)=some (cs.drop o):=by
            unfold aD
            rw[ay (by omega),eZ (by simp;omega)]
           by_cases CU:len+m<=c
           ·-- in place,above what is known
            obtain⟨c',lo,hi,q1,q2,q3,q4,q5,q6⟩:=zf
            obtain⟨cur⟩:=c'
            simp only[List.size_toArray]at q2
            have Az:(len+m)*sz<=c*sz:=mr _ CU
            have WN:=Xg (P:=P) l.b (l.d+(o+len*sz)) e' lo hi ys 0 cur w q1 (by omega) g4 (fun j yr n_=>by
             have:=(q6 rfl).2 (j-l.d) (by omega)
             rw[show l.d+(j-l.d)=j by omega]at this
             exact this)
            have bM:=QJ (P:=P) (w:=w) (ty:=ty) (base:=some ⟨l.b,l.d+o,none⟩) (sLen:=len) (sCap:=c) pq ht lO hu hd hs g1 (gf w rfl) CU (by
             simp only[xx];rw[pe];exact WN)
            have qZ:=setRow_heap w l.b _ (⟨ad cur (l.d+(o+len*sz)+0) ys⟩:Array Value) e' _ q1
            have dr:∀j lj,μ j=some lj->(fun j=>if j=st.n then some (⟨l.b,l.d+o,l.qX-o⟩:L) else μ j) j=some lj:=fun j lj hj=>by
             have:=(hh.c_ j lj hj).1
             simp only
             rw[ak (by omega)];exact hj
            refine⟨.value (.slice (some ⟨l.b,l.d+o,none⟩) (len+m) c),_,w.setRow l.b ⟨ad cur (l.d+(o+len*sz)+0) ys⟩,fun j=>if j=st.n then some ⟨l.b,l.d+o,l.qX-o⟩ else μ j,[i],?_,.inl rfl,?_,bH.Hd hh hl (Lz al) rfl rfl rfl rfl (by simp) (fun b hb=>setRow_other w l.b b _ hb) rfl ⟨_,lo,hi,qZ,?_,?_,?_,?_,?_⟩⟩
            ·rw[h1];simp only[Sem.run_bind,bM,Result.andThen_ok,Sem.run_pure]
            ·simp only[VR]
             refine⟨⟨l.b,l.d+o,l.qX-o⟩,c,by simp,by simp,CU,?_,by simp,fun _=>?_⟩
             ·show 0+c*sz<=l.qX-o
              omega
             ·show 0+c*sz=l.qX-o
              omega
            ·simp only[List.size_toArray]
             rw[QK (by omega)];omega
            ·simp only[i_,x_];omega
            ·intro j u' mU
             have e1:∀k:Nat,(⟨ad cur (l.d+(o+len*sz)+0) ys⟩:Array Value)[k]?=(ad cur (l.d+(o+len*sz)+0) ys)[k]?:=fun k=>by simp
             simp only
             rw[e1,JI (by omega)]
             rw[List.getElem?_append]at mU
             split at mU
             ·rename_i hj
              simp only[x_]at hj
              rw[fg]at mU
              obtain⟨y',p1,p2⟩:=q4 (o+j) u' mU
              rw[ak (by omega)]
              refine⟨y',?_,VR.mono dr u' y' p2⟩
              rw[show l.d+o+j=l.d+(o+j) by omega]
              simpa using p1
             ·rename_i hj
              simp only[x_]at hj mU
              obtain⟨y',p1,p2⟩:=g3.get mU
              have ax:=(zH.1 p1).1
              rw[ay (by omega)]
              refine⟨y',?_,VR.mono dr u' y' p2⟩
              rw[show l.d+o+j-(l.d+(o+len*sz)+0)=j-(cs.length-o) by omega]
              exact p1
            ·intro j y' a_ vS
             simp only at a_ vS
             have e1:(⟨ad cur (l.d+(o+len*sz)+0) ys⟩:Array Value)[l.d+o+j]?=(ad cur (l.d+(o+len*sz)+0) ys)[l.d+o+j]?:=by simp
             rw[e1,JI (by omega)]at vS
             split at vS
             ·exact g4 y' (bU vS)
             ·exact q5 (o+j) y' (by omega) (by rw[show l.d+(o+j)=l.d+o+j by omega];simpa using vS)
            ·intro _
             refine⟨by have:=(q6 rfl).1;show l.d+o=0;omega,?_⟩
             intro j hj
             have:=(q6 rfl).2 (o+j) (by simp only at hj;omega)
             rw[show l.d+(o+j)=l.d+o+j by omega]at this
             exact this
           ·have LK:=bH.kill hh hl (Lz al) rfl
            exact fresh (st.write i .dead) [i] cs (cs.drop o) e' true LK rfl al hold CU
          ·cases h
        ·cases h
   ·cases h
 ·cases h
end
section
variable {P:Program} {μ:Mu} {w:World} {st az:St} {r:T V} {n:Nat} {a:Act} {call:cD} {v:V}
def Xh{b:Nat}{c:Array Value}{e:TypeId}{f:Nat×Nat}(h:w.heap[b]?=some (.cells c e f)):w.shape? b=some (e,c.size):=by
 simp[World.shape?,h]
def Zkz{t:TypeId}{z:Nat}(h:eR P t=some z):P.cellsOf t=z:=by
 unfold eR at h
 simp[Program.cellsOf,h]
def Zp7{t:TypeId}{z:Nat}(h:eR P t=some z):∃j,P.info? t=some j/\j.size=z:=by
 unfold eR at h
 simp only[kj]at h
 exact h
def Zvq{u:TypeId}{z:Nat}(hc:P.cellsOf u=z+1)(count:Nat)(hn:1<=count):liesAt P P.depth u count 0 u 1=true:=by
 have hd:P.depth=(2*(P.types.size+Made.depth)+1)+1:=rfl
 rw[hd]
 simp only[liesAt,Gj]
 left
 rw[hd]
 simp[rowAt,hc,sameLayout]
 left;omega
def Ybk(hh:bm P μ w st)(hr:RR μ r n a.tmps){src dst t:TypeId}{x:Operand}{s:Src}{z:Nat}(hs:P.underlying src=some (.pointer t))(hd:P.underlying dst=some .unsafePointer)(hz:eR P t=some (z+1))
  (hx:bB P x=some s) (h:CA none s call r st=some (v,az)):ba P μ w st (do pure (.value (<-convert src dst (a.eval x)))) v az:=by
 unfold CA at h
 split at h
 ·rename_i i hm
  obtain⟨l,hl,h1⟩:=cQ hh hr hx hm
  split at h
  ·rename_i c e' al
   simp only[]at h
   split at h
   ·rename_i ax
    simp only[aq,bs]at h
    obtain⟨rfl,rfl⟩:=h
    obtain⟨c',lo,hi,g1,g2,g3,_,_,g6⟩:=hh.row hl al
    have nT:=(g6 rfl).1
    obtain⟨j,hj,hjs⟩:=Zp7 hz
    refine ba.value hh (x:=.pointer (some ⟨l.b,l.d+0,none⟩)) ?_ ⟨l,hl,rfl⟩
    rw[h1]
    exact Go.Lib.run_to_unsafe w ⟨l.b,l.d+0,none⟩ hs hd hj (by omega) (Xh g1) (by show l.d+0<c'.size;omega)
   ·cases h
  ·cases h
 ·cases h
def Zug(hh:bm P μ w st)(hr:RR μ r n a.tmps){src dst u:TypeId}{x:Operand}{s:Src}{z:Nat}(hs:P.underlying src=some .unsafePointer)(hd:P.underlying dst=some (.pointer u))(hz:eR P u=some (z+1))
  (hx:bB P x=some s) (h:CA (some (u,z+1)) s call r st=some (v,az)):ba P μ w st (do pure (.value (<-convert src dst (a.eval x)))) v az:=by
 unfold CA at h
 split at h
 ·rename_i i hm
  obtain⟨l,hl,h1⟩:=cQ hh hr hx hm
  split at h
  ·rename_i c e' al
   simp only[]at h
   split at h
   ·rename_i ax
    obtain⟨rfl,_,hle⟩:=ax
    simp only[aq,bs]at h
    obtain⟨rfl,rfl⟩:=h
    obtain⟨c',lo,hi,g1,g2,g3,_,_,g6⟩:=hh.row hl al
    have nT:=(g6 rfl).1
    obtain⟨j,hj,hjs⟩:=Zp7 hz
    have hco:=Zkz hz
    refine ba.value hh (x:=.pointer (some ⟨l.b,l.d+0,none⟩)) ?_ ⟨l,hl,rfl⟩
    rw[h1]
    refine Go.Lib.run_from_unsafe w ⟨l.b,l.d+0,none⟩ hs hd hj (Xh g1) ?_
    show liesAt P P.depth e' (c'.size/P.cellsOf e') (l.d+0) e' 1=true
    rw[nT]
    refine Zvq hco _ ?_
    rw[hco]
    exact Nat.div_pos (by omega) (by omega)
   ·cases h
  ·cases h
 ·cases h
def Ygz(hh:bm P μ w st)(hr:RR μ r n a.tmps){ts:Array TypeId}{ty:TypeId}{x:Operand}{s:Src}
  (hx:bB P x=some s) (h:Jr s call r st=some (v,az)):ba P μ w st (do pure (.value (<-Builtin.unsafeSliceData_ ts ty #[a.eval x]))) v az:=by
 unfold Jr at h
 split at h
 ·rename_i i o len cap sz hm
  obtain⟨l,c,hl,h1,BE,_⟩:=cQ hh hr hx hm
  split at h
  ·rename_i ax
   simp only[aq,bs]at h
   obtain⟨rfl,rfl⟩:=h
   refine ba.value hh (x:=.pointer (some ⟨l.b,l.d+o,none⟩)) ?_ ⟨l,hl,rfl⟩
   rw[h1]
   exact Go.Lib.run_unsafeSliceData_row w ts ty _ _ _ (by omega)
  ·cases h
 ·cases h
def Zor:∀{vs:List V} {s:List UInt8},GK vs=some s->vs.length=s.length/\∀(j:Nat) (b:UInt8),s[j]?=some b->vs[j]?=some (.int .u8 b.toNat)
 |[],s,h=>by
  simp only[GK,aq]at h;subst h
  exact⟨rfl,fun j b hb=>by simp at hb⟩
 |v::vs,s,h=>by
  simp only[GK]at h
  split at h
  ·rename_i b s' hb hs
   simp only[aq]at h;subst h
   obtain⟨h1,h2⟩:=Zor hs
   refine⟨by simp[h1],fun j c hc=>?_⟩
   cases j with
   |zero=>
    simp only[Bm,aq]at hc;subst hc
    cases v<;>simp only[Qe,reduceCtorEq]at hb
    rename_i k m
    cases k<;>simp only[reduceCtorEq]at hb
    split at hb
    ·rename_i hm
     simp only[aq]at hb;subst hb
     simp only[Bm,aq,V.int.injEq,true_and]
     have:m.toNat<256:=by omega
     simp[Nat.toUInt8]
     omega
    ·cases hb
   |succ j=>
    simp only[DZ]at hc ⊢
    exact h2 j c hc
  ·cases h
def Yl0(hh:bm P μ w st)(hr:RR μ r n a.tmps){pt it ty e:TypeId}{x y:Operand}{s q:Src}(hp:P.underlying pt=some (.pointer e))(hz:eR P e=some 1)(hx:bB P x=some s)(hy:bB P y=some q)
  (h:Js e s q call r st=some (v,az)):ba P μ w st (do pure (.value (<-Builtin.unsafeString_ #[pt,it] ty #[a.eval x,a.eval y]))) v az:=by
 unfold Js at h
 split at h
 ·rename_i i k hm hq
  obtain⟨l,hl,h1⟩:=cQ hh hr hx hm
  have h2:=cQ hh hr hy hq
  simp only[VR]at h2
  split at h
  ·rename_i hk
   split at h
   ·rename_i c e' al
    split at h
    ·rename_i he
     subst he
     split at h
     ·rename_i Aa tI
      split at h
      ·rename_i str Xi
       simp only[aq,bs]at h
       obtain⟨rfl,rfl⟩:=h
       obtain⟨c',lo,hi,g1,g2,g3,g4,g5,g6⟩:=hh.row hl al
       have nT:=(g6 rfl).1
       obtain⟨b1,b2⟩:=Zor Xi
       obtain⟨xs,qi,uf,xw,fX,_⟩:=(hh.row hl al).Aa tI
       have cy:str.length=k.toNat:=by have:=qi.length;omega
       have hle:k.toNat<=c.length:=by
        unfold aD at tI
        split at tI
        ·omega
        ·cases tI
       have hkn:k=(str.length:Int):=by omega
       have aW:str≠[]:=by intro h0;rw[h0]at cy;simp at cy;omega
       have ik:∀(j:Nat) (b:UInt8),str[j]?=some b->w.cell? ((⟨l.b,0,none⟩:Addr).add j)=some (.int .u8 b.toNat):=by
        intro j b hb
        have hv:=b2 j b hb
        obtain⟨y,ph,sW⟩:=qi.get hv
        simp only[VR]at sW
        subst sW
        have:=fX j _ ph
        rw[xx]
        rw[nT,mP]at this
        exact this
       have h63:str.length<=9223372036854775807:=by omega
       have bM:=Go.Lib.run_unsafeString_row (P:=P) w pt it ty e' hp (Zkz hz) l.b c'.size (Xh g1) str aW (by omega) h63 ik
       have hw:bH P μ w st μ (w.freeze ⟨l.b,0,none⟩ str.length) (st.write i (.cells c e' false)) [i]:=by
        have pS:str.length≠0:=by simpa using aW
        have sV:(w.freeze ⟨l.b,0,none⟩ str.length).heap[l.b]?=some (.cells c' e' (if lo==hi then (0,0+str.length) else (min lo 0,max hi (0+str.length)))):=by
         simp[World.freeze,pS,Array.getElem?_modify,g1]
        obtain⟨lo',iK,LL⟩:∃p q,(if lo==hi then (0,0+str.length) else (min lo 0,max hi (0+str.length)))=(p,q):=⟨_,_,rfl⟩
        rw[LL]at sV
        refine bH.write hh hl (Lz al) rfl ?_ ?_ ?_ ?_ ?_ ⟨c',lo',iK,sV,g2,g3,g4,g5,fun hc=>by cases hc⟩
        ·simp[World.freeze,pS]
        ·simp[World.freeze,pS]
        ·simp[World.freeze,pS]
        ·simp[World.freeze,pS]
        ·intro b hb
         simp only[World.freeze,pS,if_false,Array.getElem?_modify]
         rw[ak (fun h=>hb h.symm)]
       refine⟨.value (.string ⟨str.toArray⟩),_,_,μ,[i],?_,.inl rfl,rfl,hw⟩
       rw[h1,h2,nT,hkn]
       simp[bM,Result.andThen]
      ·cases h
     ·cases h
    ·cases h
   ·cases h
  ·cases h
 ·cases h
end
end Go.Mx
