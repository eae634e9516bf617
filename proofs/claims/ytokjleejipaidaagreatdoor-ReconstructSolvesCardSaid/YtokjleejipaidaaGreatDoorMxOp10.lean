/-The operations of M stand for the Go mod-/
import Derived.Test.YtokjleejipaidaaGreatDoorMxOp8
import Derived.Lib.Builder
import Derived.Lib.UnsafeStr
set_option linter.all false
namespace Go.Mx
open Go
set_option maxHeartbeats 2000000
def Gk:Ext->Array Value->Sem Value
 |.gW=>add64Entry
 |.jy=>Go.Proofs.sub64Entry
 |.same=>Extern.AbiNoEscape.same
 |.bX=>Extern.BytealgIndexByte.indexByte
 |.lY=>fun _=>stuck "not taken"
def uJ(P:Program):Prop:=∀(g:FuncId) (fn:Func) (e:Ext),P.funcs[g]?=some fn->fn.body.isSome=false->zh fn.name=some e->
 (fn.name== "runtime.NumGoroutine")=false/\Extern.findNext fn=none/\Extern.find fn=some (Gk e)
def Zk4(c:UInt8):∀(l:List UInt8),Go.Lib.indexByte l c= -1\/0<=Go.Lib.indexByte l c
 |[]=>.inl rfl
 |b::l=>by
  rcases Zk4 c l with h|h<;>simp only[Go.Lib.indexByte]<;>split<;>first|omega|(split<;>omega)
def Zov(c:UInt8):∀(l:List UInt8) (i:Nat),Hb c l i=if Go.Lib.indexByte l c= -1 then -1 else Go.Lib.indexByte l c+i
 |[],i=>by simp[Hb,Go.Lib.indexByte]
 |b::l,i=>by
  have h:=Zk4 c l
  simp only[Hb,Go.Lib.indexByte]
  split
  ·simp
  ·rw[Zov c l (i+1)]
   by_cases e:Go.Lib.indexByte l c= -1
   ·simp[e]
   ·have e':(Go.Lib.indexByte l c== -1)=false:=by simpa using e
    rw[ak e,e']
    simp only[fL,if_false]
    rw[ak (by omega)]
    omega
section
variable {P:Program} {μ:Mu} {w:World} {st aA:St} {r:T V} {n:Nat} {a:Act} {call:cH} {v:V}
def Ytq(hh:bm P μ w st)(hr:RR μ r n a.tmps)(hE:uJ P){g:Nat}{fn:Func}{e:Ext}{xs:List Operand}{ss:List Src}(hg:P.funcs[g]?=some fn)(hb:fn.body.isSome=false)(he:zh fn.name=some e)
  (hx:vO P xs=some ss) (h:Ht e ss call r st=some (v,aA)):ba P μ w st (callFunc g ⟨xs.map a.eval⟩) v aA:=by
 obtain⟨e1,e2,e3⟩:=hE g fn e hg hb he
 have bQ:=run_callFunc_extern hg e1 (by simpa using hb) e2 e3 ⟨xs.map a.eval⟩ w
 have fin:∀x,(Gk e ⟨xs.map a.eval⟩).run P w=.ok x w->VR μ v x->aA=st->ba P μ w st (callFunc g ⟨xs.map a.eval⟩) v aA:=by
  intro x hx hv hs
  subst hs
  exact⟨.value x,x,w,μ,[],by rw[bQ,hx];rfl,.inl rfl,hv,bH.refl hh⟩
 unfold Ht at h
 cases hl:uX r ss with
 |none=>cases e<;>simp[hl]at h
 |some l=>
  have hv:=GX hh hr hx hl
  have wx:∀u,CY e l=some u->(Gk e ⟨xs.map a.eval⟩).run P w=.ok (match u with|.aV [.int .u64 p,.int .u64 q]=>.tuple #[.int .u64 p,.int .u64 q]|.int k m=>.int k m|_=>undef) w/\
    VR μ u (match u with|.aV [.int .u64 p,.int .u64 q]=>.tuple #[.int .u64 p,.int .u64 q]|.int k m=>.int k m|_=>undef):=by
   intro u hu
   unfold CY at hu
   split at hu
   ·rename_i x y c
    split at hu
    ·cases hu
    ·rename_i hc
     simp only[an]at hu;subst hu
     simp only[aU,VR]at hv
     obtain⟨_,_,h1,rfl,_,_,rfl,rfl,_,_,rfl,rfl,rfl⟩:=hv
     rw[h1]
     refine⟨?_,by simp[VR,aU]⟩
     have pW:c=0\/c=1:=Decidable.not_not.1 hc
     rcases pW with rfl|rfl<;>rfl
   ·rename_i x y c
    split at hu
    ·cases hu
    ·rename_i hc
     simp only[an]at hu;subst hu
     simp only[aU,VR]at hv
     obtain⟨_,_,h1,rfl,_,_,rfl,rfl,_,_,rfl,rfl,rfl⟩:=hv
     rw[h1]
     refine⟨?_,by simp[VR,aU]⟩
     have pW:c=0\/c=1:=Decidable.not_not.1 hc
     have hi:∀(p:Prop) [Decidable p],((if p then 1 else 0:Int))=Int.ofNat (if p then 1 else 0):=fun p _=>by split<;>rfl
     rcases pW with rfl|rfl<;>rw[hi]<;>rfl
   ·rename_i s c
    simp only[an]at hu;subst hu
    simp only[aU,VR]at hv
    obtain⟨_,_,h1,rfl,_,_,rfl,rfl,rfl⟩:=hv
    rw[h1]
    refine⟨?_,by simp[VR]⟩
    have:=Go.Lib.run_indexByteString (P:=P) ⟨s.toArray⟩ c w
    show (Extern.BytealgIndexByte.indexByte #[.string ⟨s.toArray⟩,.int .u8 c]).run P w=_
    rw[this,Zov]
    simp only[]
    congr 2
    split
    ·rename_i e;exact e
    ·simp
   ·cases hu
  cases e with
  |same=>
   rcases l with _|⟨u,_|⟨u',l⟩⟩<;>simp[hl,CY]at h
   obtain⟨rfl,rfl⟩:=h
   obtain⟨y,ys,qq,h1,h2⟩:=kL.1 hv
   simp only[aU]at h2;subst h2
   refine fin y ?_ h1 rfl
   rw[qq];rfl
  |gW=>
   simp only[hl]at h
   split at h
   ·rename_i u hu
    simp only[an,bs]at h
    obtain⟨rfl,rfl⟩:=h
    exact fin _ (wx _ hu).1 (wx _ hu).2 rfl
   ·cases h
  |jy=>
   simp only[hl]at h
   split at h
   ·rename_i u hu
    simp only[an,bs]at h
    obtain⟨rfl,rfl⟩:=h
    exact fin _ (wx _ hu).1 (wx _ hu).2 rfl
   ·cases h
  |bX=>
   simp only[hl]at h
   split at h
   ·rename_i u hu
    simp only[an,bs]at h
    obtain⟨rfl,rfl⟩:=h
    exact fin _ (wx _ hu).1 (wx _ hu).2 rfl
   ·cases h
  |lY=>simp[hl,CY]at h
def Zme(hh:bm P μ w st){size:Nat}{u:V}{X:Value}(hx:VR μ u X){m:Nat}{xs:List V}(h:ef st size u=some (m,xs)):
  (Builtin.lenOf X).run P w=.ok m w/\xs.length=m*size/\∃ys,aU μ xs ys/\(∀y∈ys,y.oneCell'=true)/\
   ∀w':World,w'.heap=w.heap->∀k,k<=m->(Builtin.firstCells size k X).run P w'=.ok ⟨ys.take (k*size)⟩ w':=by
 unfold ef at h
 split at h
 ·simp only[an,bs]at h
  obtain⟨rfl,rfl⟩:=h
  simp only[VR]at hx;subst hx
  exact⟨by simp[Builtin.lenOf],by simp,[],by simp[aU],by simp,fun w' _ k hk=>by simp[Builtin.firstCells]⟩
 ·simp only[an,bs]at h
  obtain⟨rfl,rfl⟩:=h
  obtain⟨b,c,rfl⟩:=hx
  refine⟨by simp[Builtin.lenOf],by simp,[],by simp[aU],by simp,fun w' _ k hk=>?_⟩
  have kg:k=0:=by omega
  subst kg
  have:=run_firstCells_some (P:=P) w' size 0 b 0 c [] (by simp) (by simp)
  simpa using this
 ·rename_i j p m' _ sz
  obtain⟨l,c,hl,rfl,_⟩:=hx
  split at h
  ·split at h
   ·rename_i cs _ _ al
    split at h
    ·rename_i Av ui
     simp only[an,bs]at h
     obtain⟨rfl,rfl⟩:=h
     obtain⟨ys,g1,g2,g3,g4,g5⟩:=(hh.row hl al).Av ui
     refine⟨by simp[Builtin.lenOf],by rw[<-g1.length,g2],ys,g1,g5,fun w' wB k hk=>?_⟩
     have XM:k*size<=m'*size:=ki _ hk
     refine run_firstCells_some (P:=P) w' size k _ m' c (ys.take (k*size)) (by rw[gO,g2];exact qt XM) fun i y hy=>?_
     rw[xN]
     rw[iI]at hy
     split at hy
     ·have:=g4 i y hy
      simpa[World.cell?,wB]using this
     ·cases hy
    ·cases h
   ·cases h
  ·cases h
 ·rename_i s
  split at h
  ·rename_i AV
   subst AV
   simp only[an,bs]at h
   obtain⟨rfl,rfl⟩:=h
   simp only[VR]at hx;subst hx
   have kM:(⟨s.toArray⟩:ByteArray).size=s.length:=rfl
   refine⟨by simp[Builtin.lenOf,kM, -ByteArray.size_data],by simp,s.map (fun b=>.int .u8 b.toNat),?_,by simp;intro y _;rfl,fun w' _ k hk=>?_⟩
   ·refine aU.rG (by simp) fun i y hy=>?_
    simp only[fm,kh]at hy
    obtain⟨b,hb,rfl⟩:=hy
    exact⟨_,by simp[hb];rfl,by simp[VR]⟩
   ·simp only[Builtin.firstCells,Sem.run_pure,zp]
    congr 1
    apply Array.ext'
    simp
  ·cases h
 ·cases h
def Zf3(a:Addr)(i:Nat):(storeCells a [] i).run P w=.ok () w:=by simp[storeCells]
def Yqz(hh:bm P μ w st)(hr:RR μ r n a.tmps){ts:Array TypeId}{t ty e:TypeId}{size:Nat}{x y:Operand}{sd ss:Src}(pJ:ts[0]?=some t)(ht:P.underlying t=some (.slice e))(hs:eX P e=some size)
  (hx:bC P x=some sd) (hy:bC P y=some ss) (h:C3 size sd ss call r st=some (v,aA)):
  ba P μ w st (do pure (.value (<-Builtin.copy_ ts ty #[a.eval x,a.eval y]))) v aA:=by
 unfold C3 at h
 split at h
 ·rename_i d s hd FA
  have h1:=cU hh hr hx hd
  have h2:=cU hh hr hy FA
  split at h
  ·rename_i m xs Gt
   obtain⟨g1,g2,ys,g3,g4,g5⟩:=Zme hh h2 Gt
   have Mw:=g3.length
   split at h
   ·simp only[an,bs]at h
    obtain⟨rfl,rfl⟩:=h
    simp only[VR]at h1
    refine ba.value hh (x:=.int .i64 0) ?_ (by simp[VR])
    have hf:=g5 w rfl 0 (uN _)
    simp[Builtin.copy_,pJ,h1,run_underlying ht,g1,yP hs,hf,Result.andThen,goInt]
   ·rename_i i o len cap sz
    obtain⟨l,c,hl,h1,zv,AY,_⟩:=h1
    split at h
    ·cases h
    ·rename_i kM
     have hf:=g5 w rfl (min m len) (Nat.min_le_left _ _)
     simp only at h
     split at h
     ·rename_i hk
      simp only[an,bs]at h
      obtain⟨rfl,rfl⟩:=h
      refine ba.value hh (x:=.int .i64 0) ?_ (by simp[VR])
      have uj:Nat.min m len=0:=hk
      rw[hk]at hf
      simp[Builtin.copy_,pJ,h1,run_underlying ht,g1,yP hs,hf,Result.andThen,goInt,uj,Zf3]
     ·rename_i hk
      split at h
      ·rename_i cs e' al
       split at h
       ·rename_i hle
        simp only[an,bs]at h
        obtain⟨rfl,rfl⟩:=h
        have XM:min m len*size<=m*size:=ki _ (Nat.min_le_left _ _)
        obtain⟨w',hw,dK⟩:=Rq (o:=o) hh hl al (g3.take (min m len*size)) (fun q hq=>g4 q (yJ hq)) (by rw[gO,g2,qt XM];exact hle)
        refine⟨.value (.int .i64 (min m len:Nat)),_,w',μ,[i],?_,.inl rfl,by simp[VR],dK⟩
        have uj:Nat.min m len=min m len:=rfl
        simp only[Builtin.copy_,pJ,h1,Sem.run_bind,run_underlying ht,g1,yP hs,Result.andThen_ok,uj,hf,hw,goInt,Sem.run_pure,List.getElem?_toArray,BS,EJ]
       ·cases h
      ·cases h
   ·cases h
  ·cases h
 ·cases h
def Zi9(z:Array Value)(k:Nat):Builtin.zeroCells z k=madeCells z (k*z.size):=rfl
def Yus(hh:bm P μ w st)(hr:RR μ r n a.tmps){t ty e:TypeId}{size:Nat}{z:V}{x:Operand}{s:Src}(ht:P.underlying t=some (.slice e))(hz:rC P e=some z)(gG:z.cells.all V.one=true)
  (hx:bC P x=some s) (h:J0 size z.cells s call r st=some (v,aA)):
  ba P μ w st (do pure (.value (<-Builtin.clear_ #[t] ty #[a.eval x]))) v aA:=by
 unfold J0 at h
 split at h
 ·rename_i hm
  simp only[an,bs]at h
  obtain⟨rfl,rfl⟩:=h
  have h1:=cU hh hr hx hm
  simp only[VR]at h1
  exact ba.value hh (x:=.tuple #[]) (by simp[Builtin.clear_,h1,run_underlying ht]) ⟨[],rfl,by simp[aU]⟩
 ·rename_i hm
  simp only[an,bs]at h
  obtain⟨rfl,rfl⟩:=h
  obtain⟨b,c,h1⟩:=cU hh hr hx hm
  exact ba.value hh (x:=.tuple #[]) (by simp[Builtin.clear_,h1,run_underlying ht]) ⟨[],rfl,by simp[aU]⟩
 ·rename_i i o len cap sz hm
  obtain⟨l,c,hl,h1,_⟩:=cU hh hr hx hm
  split at h
  ·rename_i h0
   subst h0
   simp only[an,bs]at h
   obtain⟨rfl,rfl⟩:=h
   exact ba.value hh (x:=.tuple #[]) (by simp[Builtin.clear_,h1,run_underlying ht]) ⟨[],rfl,by simp[aU]⟩
  ·rename_i h0
   split at h
   ·cases h
   ·rename_i cM
    simp only[not_or,Decidable.not_not]at cM
    split at h
    ·rename_i cs e' al
     split at h
     ·rename_i hle
      simp only[an,bs]at h
      obtain⟨rfl,rfl⟩:=h
      obtain⟨inf,zx,hi,qF,Cc⟩:=HN hz
      have oW:=Rr (Cc μ).cells len
      have hlen:z.cells.length=zx.cells.size:=by rw[<-(Cc μ).cells.length];simp
      obtain⟨w',hw,dK⟩:=Rq (o:=o) hh hl al oW (XN gG len oW) (by rw[Znm,cM.2.2];exact hle)
      refine⟨.value (.tuple #[]),_,w',μ,[i],?_,.inl rfl,⟨[],rfl,by simp[aU]⟩,dK⟩
      have CF:Builtin.zeroCells zx.cells len=madeCells ⟨zx.cells.toList⟩ (len*z.cells.length):=by rw[Zi9,hlen]
      have hrz:(zeroValue e).run P w=.ok zx w:=by simp[zeroValue,typeInfo,hi,qF]
      obtain⟨zaN,rfl⟩:∃q,len=q+1:=⟨len-1,by omega⟩
      simp[Builtin.clear_,h1,run_underlying ht,hrz,CF,hw,Result.andThen]
     ·cases h
    ·cases h
 ·cases h
def Rt{ts:Array TypeId}{t u ty e:TypeId}{d:TypeDesc}{size m sLen sCap:Nat}{base:Option Addr}{X:Value}{ys:List Value}(pJ:ts[0]?=some t)(ht:P.underlying t=some (.slice e))(lV:ts[1]?=some u)(hu:P.underlying u=some d)
  (hd:∀k,d≠.int k) (hs:eX P e=some size) (hlen:(Builtin.lenOf X).run P w=.ok m w) (hf:(Builtin.firstCells size m X).run P w=.ok ⟨ys⟩ w) (hle:sLen+m<=sCap)
  {w':World} (dK:(match base with|some a=>storeCells (a.add (sLen*size)) ys|none=>pure ():Sem Unit).run P w=.ok () w'):
  (Builtin.append_ ts ty #[.slice base sLen sCap,X]).run P w=.ok (.slice base (sLen+m) sCap) w':=by
 cases base with
 |none=>
  simp only[Sem.run_pure,Result.ok.injEq,true_and]at dK
  subst dK
  cases d<;>first|exact absurd rfl (hd _)|simp[Builtin.append_,pJ,run_underlying ht,lV,run_underlying hu,yP hs,Result.andThen,hlen,hf,hle]
 |some b=>
  simp only at dK
  cases d<;>first|exact absurd rfl (hd _)|simp[Builtin.append_,pJ,run_underlying ht,lV,run_underlying hu,yP hs,Result.andThen,hlen,hf,hle,dK]
def Zmt{ts:Array TypeId}{t u ty e:TypeId}{d:TypeDesc}{inf:TypeInfo}{zx:Value}{m sLen sCap:Nat}{base:Option Addr}{X:Value}{os ys:List Value}(pJ:ts[0]?=some t)(ht:P.underlying t=some (.slice e))(lV:ts[1]?=some u)(hu:P.underlying u=some d)
  (hd:∀k,d≠.int k) (hi:P.info? e=some inf) (hz:inf.zero=some zx) (hlen:(Builtin.lenOf X).run P w=.ok m w) (hf:(Builtin.firstCells inf.size m X).run P w.drew=.ok ⟨ys⟩ w.drew)
  (My:(Builtin.firstCells inf.size sLen (.slice base sLen sCap)).run P w.drew=.ok ⟨os⟩ w.drew) (hle:¬sLen+m<=sCap) (hb:inf.bytes≠0) (AZ:2*(sLen+m)*inf.bytes<=2^48):
  (Builtin.append_ ts ty #[.slice base sLen sCap,X]).run P w=.ok (.slice (some ⟨w.heap.size,0,none⟩) (sLen+m) (grownCap w (sLen+m) sCap e))
   (w.drew.alloc (.cells ⟨os++ys++(Builtin.zeroCells zx.cells (grownCap w (sLen+m) sCap e-(sLen+m))).toList⟩ e)):=by
 have hgr:Builtin.nextslicecap (sLen+m) sCap*inf.bytes<=2^48:=by
  have h1:Builtin.nextslicecap (sLen+m) sCap*inf.bytes<=2*(sLen+m)*inf.bytes:=ki _ (nextslicecap_le (by omega))
  omega
 have XO:¬(281474976710656<Builtin.nextslicecap (sLen+m) sCap*inf.bytes):=by omega
 cases d<;>first|exact absurd rfl (hd _)|simp[Builtin.append_,pJ,run_underlying ht,lV,run_underlying hu,sizeOf,typeInfo,zeroValue,hi,hz,Result.andThen,hlen,hf,My,hle,hb,XO,Question.forced,newRow,grownCap]<;>(congr 2;apply Array.ext';simp)
def Zq0(hh:bm P μ w st){ts:Array TypeId}{t u ty e:TypeId}{d:TypeDesc}{size b m sLen sCap:Nat}{z:V}{base:Option Addr}{X:Value}{os ys:List Value}{co cx:List V}
  (pJ:ts[0]?=some t) (ht:P.underlying t=some (.slice e)) (lV:ts[1]?=some u) (hu:P.underlying u=some d) (hd:∀k,d≠.int k)
  (hs:eX P e=some size) (hb:CN P e=some b) (hz:rC P e=some z) (Mz:z.cells.length=size) (gG:z.cells.all V.one=true) (fh:size≠0)
  (hlen:(Builtin.lenOf X).run P w=.ok m w) (hf:(Builtin.firstCells size m X).run P w.drew=.ok ⟨ys⟩ w.drew)
  (My:(Builtin.firstCells size sLen (.slice base sLen sCap)).run P w.drew=.ok ⟨os⟩ w.drew) (hle:¬sLen+m<=sCap) (jj:b≠0) (AZ:2*(sLen+m)*b<=2^48)
  (ho:aU μ co os) (hx:aU μ cx ys) (BQ:∀y∈os,y.oneCell'=true) (tS:∀y∈ys,y.oneCell'=true) (gZ:co.length=sLen*size) (zL:cx.length=m*size):
  ∃μ' w' c,(Builtin.append_ ts ty #[.slice base sLen sCap,X]).run P w=.ok (.slice (some ⟨w.heap.size,0,none⟩) (sLen+m) c) w'/\VR μ' (.slice st.n 0 (sLen+m) none size) (.slice (some ⟨w.heap.size,0,none⟩) (sLen+m) c)/\
   bH P μ w st μ' w' (st.alloc (.cells (co++cx) e true)) []:=by
 obtain⟨inf,zx,hi,qF,Cc⟩:=HN hz
 have kM:inf.size=size:=by unfold eX at hs;simpa[hi]using hs
 have hbz:inf.bytes=b:=by unfold CN at hb;simpa[hi]using hb
 have MA:zx.cells.size=size:=by rw[<-Mz,<-(Cc μ).cells.length];simp
 subst kM hbz
 have bQ:=Zmt (P:=P) (w:=w) (ty:=ty) pJ ht lV hu hd hi qF hlen hf My hle jj AZ
 have Dm:=grownCap_ge w (sLen+m) sCap e
 generalize grownCap w (sLen+m) sCap e=cap at bQ Dm
 have CF:(Builtin.zeroCells zx.cells (cap-(sLen+m))).toList.length=(cap-(sLen+m))*inf.size:=by simp[Builtin.zeroCells,MA]
 have oW:aU μ (cW z.cells (cap-(sLen+m))) (Builtin.zeroCells zx.cells (cap-(sLen+m))).toList:=by
  have:=Rr (Cc μ).cells (cap-(sLen+m))
  rw[Zi9]
  have e1:zx.cells.size=z.cells.length:=by rw[MA,Mz]
  rw[e1]
  simpa using this
 have MB:=ho.length
 have MC:=hx.length
 have AY:(os++ys++(Builtin.zeroCells zx.cells (cap-(sLen+m))).toList).length=cap*inf.size:=by
  rw[iN,iN,CF,MB,MC,gZ,zL,<-iY,<-iY]
  congr 1;omega
 refine⟨_,_,cap,bQ,?_,(bH.newRow hh.FB (cs:=co++cx) (xs:=os++ys++(Builtin.zeroCells zx.cells (cap-(sLen+m))).toList) (lo:=0) (hi:=0) ?_ ?_ ?_ ?_).A1⟩
 ·simp only[VR]
  refine⟨⟨w.heap.size,0,(os++ys++(Builtin.zeroCells zx.cells (cap-(sLen+m))).toList).length⟩,cap,by exact ax trivial,by simp,Dm,?_,by simp,fun _=>?_⟩
  ·show 0+cap*inf.size<=(os++ys++(Builtin.zeroCells zx.cells (cap-(sLen+m))).toList).length
   omega
  ·show 0+cap*inf.size=(os++ys++(Builtin.zeroCells zx.cells (cap-(sLen+m))).toList).length
   omega
 ·rw[iN,iN,iN,MB,MC];omega
 ·intro j u' mS
  obtain⟨y,h1,h2⟩:=(ho.append hx).get mS
  exact⟨y,by rw[iS (xB.1 h1).1];exact h1,h2⟩
 ·intro y hy
  simp only[lI]at hy
  rcases hy with(hy|hy)|hy
  ·exact BQ y hy
  ·exact tS y hy
  ·exact XN gG _ oW y hy
 ·exact .inr (aO _)
def bH.HO{w':World}(h:bm P μ w st){i:Nat}{l l':L}{o o':O}(hi:μ i=some l)(ho:st.h.get i=some o)(hw:o.wr=true)
  (Au:w'.os=w.os) (WC:w'.tape=w.tape) (WD:w'.output=w.output) (kM:w'.heap.size=w.heap.size) (rH:∀b,b≠l.b->w'.heap[b]?=w.heap[b]?) (pC:l'.b=l.b)
  (xL:OM P (fun j=>if j=st.n then some l' else μ j) w' o' l'):
  bH P μ w st (fun j=>if j=st.n then some l' else μ j) w' ((st.write i .dead).alloc o') [i]:=by
 have xM:o.live=true:=by cases o<;>simp_all [O.wr,O.live]
 have BJ:=(h.c_ i l hi).1
 have jw:=(h.c_ i l hi).2
 have dw:∀j lj,μ j=some lj->(fun j=>if j=st.n then some l' else μ j) j=some lj:=fun j lj hj=>by
  have:=(h.c_ j lj hj).1
  show (if j=st.n then some l' else μ j)=some lj
  rw[ak (by omega)];exact hj
 have cL:∀j,((st.write i .dead).alloc o').h.get j=if j=st.n then some o' else if j=i then some .dead else st.h.get j:=fun j=>by
  simp only[St.alloc,St.write,T.ag]
 refine⟨⟨fun j lj hj=>?_,fun j lj hj=>?_,fun j k lj lk oj ok hj hk aW h1 h2 JJ fR=>?_,fun g hg=>let ⟨t,ht⟩:=h.ic g hg;⟨t,dw g _ ht⟩⟩,fun j hj=>?_,by simp[St.alloc,St.write],rfl,⟨Au,WC,WD,by omega,fun b _ dv=>rH b ?_⟩,
  fun j lj hn hj=>?_,fun j hj dv=>?_,fun j oj hn hj=>?_,fun j h1 h2=>⟨l',by simp only[St.alloc,St.write]at h2;show (if j=st.n then some l' else μ j)=some l';rw[ax (by omega)]⟩,fun j hj _=>by simp only[xC]at hj;subst hj;exact⟨o,ho,hw⟩⟩
 ·replace hj:(if j=st.n then some l' else μ j)=some lj:=hj
  split at hj
  ·rename_i e
   simp only[an]at hj;subst hj
   simp[St.alloc,St.write];omega
  ·have:=h.c_ j lj hj
   simp[St.alloc,St.write];omega
 ·replace hj:(if j=st.n then some l' else μ j)=some lj:=hj
  split at hj
  ·rename_i e
   simp only[an]at hj;subst hj
   exact⟨o',by rw[cL,ax e],xL⟩
  ·rename_i e
   by_cases e2:j=i
   ·exact⟨.dead,by rw[cL,ak e,ax e2],trivial⟩
   ·obtain⟨oj,h1,h2⟩:=h.obj j lj hj
    refine⟨oj,by rw[cL,ak e,ak e2];exact h1,?_⟩
    cases hl:oj.live
    ·cases oj<;>simp[O.live]at hl
     trivial
    ·exact(h2.mono dw).congr (rH lj.b (Ne.symm (h.inj i j l lj o oj hi hj (Ne.symm e2) ho h1 hw hl)))
 ·rw[cL]at h1 h2
  replace hj:(if j=st.n then some l' else μ j)=some lj:=hj
  replace hk:(if k=st.n then some l' else μ k)=some lk:=hk
  by_cases e1:j=st.n
  ·rw[ax e1]at hj h1
   simp only[an]at hj h1
   subst hj h1
   by_cases e2:k=st.n
   ·exact absurd (e1.trans e2.symm) aW
   ·rw[ak e2]at hk h2
    by_cases e3:k=i
    ·rw[ax e3,an]at h2;subst h2;simp[O.live]at fR
    ·rw[ak e3]at h2
     rw[pC]
     exact h.inj i k l lk o ok hi hk (Ne.symm e3) ho h2 hw fR
  ·rw[ak e1]at hj h1
   by_cases e3:j=i
   ·rw[ax e3,an]at h1;subst h1;simp[O.wr]at JJ
   ·rw[ak e3]at h1
    by_cases e2:k=st.n
    ·rw[ax e2]at hk h2
     simp only[an]at hk h2
     subst hk h2
     rw[pC]
     exact h.inj j i lj l oj o hj hi e3 h1 ho JJ xM
    ·rw[ak e2]at hk h2
     by_cases e4:k=i
     ·rw[ax e4,an]at h2;subst h2;simp[O.live]at fR
     ·rw[ak e4]at h2
      exact h.inj j k lj lk oj ok hj hk aW h1 h2 JJ fR
 ·show (if j=st.n then some l' else μ j)=μ j
  rw[ak (by omega)]
 ·exact Ne.symm (dv i (by simp) l hi)
 ·replace hj:(if j=st.n then some l' else μ j)=some lj:=hj
  split at hj
  ·simp only[an]at hj;subst hj
   exact .inr ⟨i,by simp,BJ,l,o,hi,pC.symm,ho,hw⟩
  ·exact absurd (h.c_ j lj hj).1 (by omega)
 ·simp only[xC]at dv
  rw[cL,ak (by omega),ak dv]
 ·rw[cL,ak (by omega)]at hj
  split at hj
  ·rename_i e
   subst e
   simp only[an]at hj;subst hj
   exact⟨o,ho,by simp[O.wr],by simp[O.live]⟩
  ·exact⟨oj,hj,id,id⟩
def bH.kill(h:bm P μ w st){i:Nat}{l:L}{o:O}(hi:μ i=some l)(ho:st.h.get i=some o)(hw:o.wr=true):bH P μ w st μ w (st.write i .dead) [i]:=
 bH.write h hi ho hw rfl rfl rfl rfl (fun _ _=>rfl) trivial
def Yg3(hh:bm P μ w st)(hr:RR μ r n a.tmps){ts:Array TypeId}{t u ty e:TypeId}{d:TypeDesc}{size b:Nat}{z:V}{x y:Operand}{s sx:Src}
  (pJ:ts[0]?=some t) (ht:P.underlying t=some (.slice e)) (lV:ts[1]?=some u) (hu:P.underlying u=some d) (hd:∀k,d≠.int k)
  (hs:eX P e=some size) (hb:CN P e=some b) (hz:rC P e=some z) (Mz:z.cells.length=size) (gG:z.cells.all V.one=true) (jj:b≠0)
  (hx:bC P x=some s) (hy:bC P y=some sx) (h:C2 size b e z.cells s sx call r st=some (v,aA)):
  ba P μ w st (do pure (.value (<-Builtin.append_ ts ty #[a.eval x,a.eval y]))) v aA:=by
 unfold C2 at h
 split at h
 ·rename_i sv xv hsv B9
  have h1:=cU hh hr hx hsv
  have h2:=cU hh hr hy B9
  unfold gX at h
  split at h
  ·cases h
  ·rename_i m xs Gt
   obtain⟨g1,g2,ys,g3,g4,g5⟩:=Zme hh h2 Gt
   have Mw:=g3.length
   have hyt:ys.take (m*size)=ys:=fb (by omega)
   have gf:∀w':World,w'.heap=w.heap->(Builtin.firstCells size m (a.eval y)).run P w'=.ok ⟨ys⟩ w':=fun w' wB=>by rw[g5 w' wB m (aO _),hyt]
   split at h
   ·-- a nil slice
    simp only[VR]at h1
    split at h
    ·rename_i gg
     subst gg
     simp only[an,bs]at h
     obtain⟨rfl,rfl⟩:=h
     refine ba.value hh (x:=.slice none 0 0) ?_ (by simp[VR])
     rw[h1]
     exact Rt (base:=none) pJ ht lV hu hd hs g1 (gf w rfl) (aO _) (by simp)
    ·rename_i gg
     split at h
     ·rename_i hc
      simp only[an,bs]at h
      obtain⟨rfl,rfl⟩:=h
      obtain⟨μ',w',c,k1,k2,k3⟩:=Zq0 (P:=P) (w:=w) (ty:=ty) (sLen:=0) (sCap:=0) (base:=none) (X:=a.eval y) (os:=[]) (co:=[]) hh pJ ht lV hu hd hs hb hz Mz gG hc.2 g1 (gf w.drew rfl) (by simp[Builtin.firstCells]) (by omega) jj
       (by have:=hc.1;unfold uS at this;simpa using this) (by simp[aU]) g3 (by simp) g4 (by simp) g2
      refine⟨.value (.slice (some ⟨w.heap.size,0,none⟩) (0+m) c),_,w',μ',[],?_,.inl rfl,?_,?_⟩
      ·rw[h1];simp only[Sem.run_bind,k1,Result.andThen_ok,Sem.run_pure]
      ·simpa using k2
      ·simpa using k3
     ·cases h
   ·-- a slice
    rename_i i o len cap sz
    have fO:=h1
    obtain⟨l,c,hl,h1,zv,AY,hk,Dp⟩:=h1
    split at h
    ·rename_i gg
     subst gg
     split at h
     ·simp only[an,bs]at h
      obtain⟨rfl,rfl⟩:=h
      refine ba.value hh (x:=a.eval x) ?_ fO
      have MD:ys=[]:=by
       apply rm
       omega
      rw[h1]
      have:=Rt (P:=P) (w:=w) (w':=w) (ty:=ty) (base:=some ⟨l.b,l.d+o,none⟩) (sLen:=len) (sCap:=c) pJ ht lV hu hd hs g1 (gf w rfl) (by omega) (by simp only[MD];exact Zf3 _ _)
      simpa using this
     ·cases h
    ·rename_i gg
     split at h
     ·cases h
     ·rename_i cM
      simp only[not_or,Decidable.not_not,tK]at cM
      obtain⟨kM,fh,AZ⟩:=cM
      subst kM
      unfold uS at AZ
      have inPlace:∀(cs:List V) (e':TypeId),st.row i=some (cs,e',true)->o+(len+m)*sz<=cs.length->len+m<=c->(∀k,cap=some k->c=k)->
        ba P μ w st (do pure (.value (<-Builtin.append_ ts ty #[a.eval x,a.eval y]))) (.slice i o (len+m) cap sz) (st.write i (.cells (ae cs (o+len*sz) xs) e' true)):=by
       intro cs e' al hle Dq _
       have XP:(len+m)*sz=len*sz+m*sz:=iY ..
       obtain⟨w',hw,dK⟩:=Rq (o:=o+len*sz) hh hl al g3 g4 (by rw[g2];omega)
       have bQ:=Rt (P:=P) (w:=w) (w':=w') (ty:=ty) (base:=some ⟨l.b,l.d+o,none⟩) (sLen:=len) (sCap:=c) pJ ht lV hu hd hs g1 (gf w rfl) Dq (by
        simp only[xN];rw[pF];exact hw)
       refine⟨.value (.slice (some ⟨l.b,l.d+o,none⟩) (len+m) c),_,w',μ,[i],?_,.inl rfl,?_,dK⟩
       ·rw[h1];simp only[Sem.run_bind,bQ,Result.andThen_ok,Sem.run_pure]
       ·simp only[VR];exact⟨l,c,hl,rfl,Dq,AY,hk,Dp⟩
      have fresh:∀(bV:St) (ws:List Nat) (cs old:List V) (e':TypeId) (mP:Bool),bH P μ w st μ w bV ws->bV.n=st.n->st.row i=some (cs,e',mP)->aC cs o (len*sz)=some old->¬len+m<=c->
        ba P μ w st (do pure (.value (<-Builtin.append_ ts ty #[a.eval x,a.eval y]))) (.slice st.n 0 (len+m) none sz) (bV.alloc (.cells (old++xs) e true)):=by
       intro bV ws cs old e' mP iJ xG al hold dv
       have zM:=hh.row hl al
       obtain⟨os,q1,q2,q3,q4,q5⟩:=zM.Av hold
       have My:(Builtin.firstCells sz len (.slice (some ⟨l.b,l.d+o,none⟩) len c)).run P w.drew=.ok ⟨os⟩ w.drew:=by
        refine run_firstCells_some (P:=P) w.drew sz len _ len c os q2 fun j y hy=>?_
        rw[xN]
        exact q4 j y hy
       obtain⟨μ',w',c',k1,k2,k3⟩:=Zq0 (P:=P) (w:=w) (ty:=ty) (base:=some ⟨l.b,l.d+o,none⟩) (sLen:=len) (sCap:=c) iJ.hr pJ ht lV hu hd hs hb hz Mz gG fh g1 (gf w.drew rfl) My dv jj AZ q1 g3 q5 g4 (by rw[<-q1.length,q2]) g2
       refine⟨.value (.slice (some ⟨w.heap.size,0,none⟩) (len+m) c'),_,w',μ',[]++ws,?_,.inl rfl,?_,iJ.trans k3⟩
       ·rw[h1];simp only[Sem.run_bind,k1,Result.andThen_ok,Sem.run_pure]
       ·rw[<-xG];exact k2
      split at h
      ·cases h
      ·rename_i cs e' mP al
       split at h
       ·rename_i k
        have hck:=hk k rfl
        split at h
        ·rename_i hle
         split at h
         ·rename_i hc
          simp only[an,bs]at h
          obtain⟨rfl,rfl⟩:=h
          obtain⟨rfl,Dr⟩:=hc
          exact inPlace cs e' al Dr (by omega) hk
         ·cases h
        ·rename_i hle
         split at h
         ·rename_i old hold
          simp only[an,bs]at h
          obtain⟨rfl,rfl⟩:=h
          exact fresh st [] cs old e' mP (bH.refl hh) rfl al hold (by omega)
         ·cases h
       ·split at h
        ·rename_i ME
         subst ME
         have zM:=hh.row hl al
         have hct:cs.length<=l.rF:=by obtain⟨_,_,_,_,_,h3,_⟩:=zM;exact h3
         have zaz:=Dp rfl
         have XP:(len+m)*sz=len*sz+m*sz:=iY ..
         split at h
         ·rename_i hle
          simp only[an,bs]at h
          obtain⟨rfl,rfl⟩:=h
          refine inPlace cs e' al hle ?_ hk
          have:(len+m)*sz<=c*sz:=by omega
          exact Nat.le_of_mul_le_mul_right this (by omega)
         ·split at h
          ·rename_i hle hc
           obtain⟨MF,rfl,ho0⟩:=hc
           simp only[an,bs]at h
           obtain⟨rfl,rfl⟩:=h
           have hold:aC cs o (len*sz)=some (cs.drop o):=by
            unfold aC
            rw[ax (by omega),fb (by simp;omega)]
           by_cases Dq:len+m<=c
           ·-- in place,above what is known
            obtain⟨c',lo,hi,q1,q2,q3,q4,q5,q6⟩:=zM
            obtain⟨cur⟩:=c'
            simp only[List.size_toArray]at q2
            have y8:(len+m)*sz<=c*sz:=ki _ Dq
            have Xx:=XQ (P:=P) l.b (l.d+(o+len*sz)) e' lo hi ys 0 cur w q1 (by omega) g4 (fun j qk oR=>by
             have:=(q6 rfl).2 (j-l.d) (by omega)
             rw[show l.d+(j-l.d)=j by omega]at this
             exact this)
            have bQ:=Rt (P:=P) (w:=w) (ty:=ty) (base:=some ⟨l.b,l.d+o,none⟩) (sLen:=len) (sCap:=c) pJ ht lV hu hd hs g1 (gf w rfl) Dq (by
             simp only[xN];rw[pF];exact Xx)
            have rH:=setRow_heap w l.b _ (⟨ae cur (l.d+(o+len*sz)+0) ys⟩:Array Value) e' _ q1
            have dw:∀j lj,μ j=some lj->(fun j=>if j=st.n then some (⟨l.b,l.d+o,l.rF-o⟩:L) else μ j) j=some lj:=fun j lj hj=>by
             have:=(hh.c_ j lj hj).1
             simp only
             rw[ak (by omega)];exact hj
            refine⟨.value (.slice (some ⟨l.b,l.d+o,none⟩) (len+m) c),_,w.setRow l.b ⟨ae cur (l.d+(o+len*sz)+0) ys⟩,fun j=>if j=st.n then some ⟨l.b,l.d+o,l.rF-o⟩ else μ j,[i],?_,.inl rfl,?_,bH.HO hh hl (MG al) rfl rfl rfl rfl (by simp) (fun b hb=>setRow_other w l.b b _ hb) rfl ⟨_,lo,hi,rH,?_,?_,?_,?_,?_⟩⟩
            ·rw[h1];simp only[Sem.run_bind,bQ,Result.andThen_ok,Sem.run_pure]
            ·simp only[VR]
             refine⟨⟨l.b,l.d+o,l.rF-o⟩,c,by simp,by simp,Dq,?_,by simp,fun _=>?_⟩
             ·show 0+c*sz<=l.rF-o
              omega
             ·show 0+c*sz=l.rF-o
              omega
            ·simp only[List.size_toArray]
             rw[Ru (by omega)];omega
            ·simp only[iN,xF];omega
            ·intro j u' mS
             have e1:∀k:Nat,(⟨ae cur (l.d+(o+len*sz)+0) ys⟩:Array Value)[k]?=(ae cur (l.d+(o+len*sz)+0) ys)[k]?:=fun k=>by simp
             simp only
             rw[e1,Kj (by omega)]
             rw[List.getElem?_append]at mS
             split at mS
             ·rename_i hj
              simp only[xF]at hj
              rw[ff]at mS
              obtain⟨y',p1,p2⟩:=q4 (o+j) u' mS
              rw[ak (by omega)]
              refine⟨y',?_,VR.mono dw u' y' p2⟩
              rw[show l.d+o+j=l.d+(o+j) by omega]
              simpa using p1
             ·rename_i hj
              simp only[xF]at hj mS
              obtain⟨y',p1,p2⟩:=g3.get mS
              have au:=(xB.1 p1).1
              rw[ax (by omega)]
              refine⟨y',?_,VR.mono dw u' y' p2⟩
              rw[show l.d+o+j-(l.d+(o+len*sz)+0)=j-(cs.length-o) by omega]
              exact p1
            ·intro j y' aS wz
             simp only at aS wz
             have e1:(⟨ae cur (l.d+(o+len*sz)+0) ys⟩:Array Value)[l.d+o+j]?=(ae cur (l.d+(o+len*sz)+0) ys)[l.d+o+j]?:=by simp
             rw[e1,Kj (by omega)]at wz
             split at wz
             ·exact g4 y' (bM wz)
             ·exact q5 (o+j) y' (by omega) (by rw[show l.d+(o+j)=l.d+o+j by omega];simpa using wz)
            ·intro _
             refine⟨by have:=(q6 rfl).1;show l.d+o=0;omega,?_⟩
             intro j hj
             have:=(q6 rfl).2 (o+j) (by simp only at hj;omega)
             rw[show l.d+(o+j)=l.d+o+j by omega]at this
             exact this
           ·have MH:=bH.kill hh hl (MG al) rfl
            exact fresh (st.write i .dead) [i] cs (cs.drop o) e' true MH rfl al hold Dq
          ·cases h
        ·cases h
   ·cases h
 ·cases h
end
section
variable {P:Program} {μ:Mu} {w:World} {st aA:St} {r:T V} {n:Nat} {a:Act} {call:cH} {v:V}
def XR{b:Nat}{c:Array Value}{e:TypeId}{f:Nat×Nat}(h:w.heap[b]?=some (.cells c e f)):w.shape? b=some (e,c.size):=by
 simp[World.shape?,h]
def Zlg{t:TypeId}{z:Nat}(h:eX P t=some z):P.cellsOf t=z:=by
 unfold eX at h
 simp[Program.cellsOf,h]
def Zqt{t:TypeId}{z:Nat}(h:eX P t=some z):∃j,P.info? t=some j/\j.size=z:=by
 unfold eX at h
 simp only[kh]at h
 exact h
def Zwn{u:TypeId}{z:Nat}(hc:P.cellsOf u=z+1)(count:Nat)(hn:1<=count):liesAt P P.depth u count 0 u 1=true:=by
 have hd:P.depth=(2*(P.types.size+Made.depth)+1)+1:=rfl
 rw[hd]
 simp only[liesAt,G8]
 left
 rw[hd]
 simp[rowAt,hc,sameLayout]
 left;omega
def Yci(hh:bm P μ w st)(hr:RR μ r n a.tmps){src dst t:TypeId}{x:Operand}{s:Src}{z:Nat}(hs:P.underlying src=some (.pointer t))(hd:P.underlying dst=some .unsafePointer)(hz:eX P t=some (z+1))
  (hx:bC P x=some s) (h:EZ none s call r st=some (v,aA)):ba P μ w st (do pure (.value (<-convert src dst (a.eval x)))) v aA:=by
 unfold EZ at h
 split at h
 ·rename_i i hm
  obtain⟨l,hl,h1⟩:=cU hh hr hx hm
  split at h
  ·rename_i c e' al
   simp only[]at h
   split at h
   ·rename_i au
    simp only[an,bs]at h
    obtain⟨rfl,rfl⟩:=h
    obtain⟨c',lo,hi,g1,g2,g3,_,_,g6⟩:=hh.row hl al
    have oO:=(g6 rfl).1
    obtain⟨j,hj,hjs⟩:=Zqt hz
    refine ba.value hh (x:=.pointer (some ⟨l.b,l.d+0,none⟩)) ?_ ⟨l,hl,rfl⟩
    rw[h1]
    exact Go.Lib.run_to_unsafe w ⟨l.b,l.d+0,none⟩ hs hd hj (by omega) (XR g1) (by show l.d+0<c'.size;omega)
   ·cases h
  ·cases h
 ·cases h
def Zva(hh:bm P μ w st)(hr:RR μ r n a.tmps){src dst u:TypeId}{x:Operand}{s:Src}{z:Nat}(hs:P.underlying src=some .unsafePointer)(hd:P.underlying dst=some (.pointer u))(hz:eX P u=some (z+1))
  (hx:bC P x=some s) (h:EZ (some (u,z+1)) s call r st=some (v,aA)):ba P μ w st (do pure (.value (<-convert src dst (a.eval x)))) v aA:=by
 unfold EZ at h
 split at h
 ·rename_i i hm
  obtain⟨l,hl,h1⟩:=cU hh hr hx hm
  split at h
  ·rename_i c e' al
   simp only[]at h
   split at h
   ·rename_i au
    obtain⟨rfl,_,hle⟩:=au
    simp only[an,bs]at h
    obtain⟨rfl,rfl⟩:=h
    obtain⟨c',lo,hi,g1,g2,g3,_,_,g6⟩:=hh.row hl al
    have oO:=(g6 rfl).1
    obtain⟨j,hj,hjs⟩:=Zqt hz
    have hco:=Zlg hz
    refine ba.value hh (x:=.pointer (some ⟨l.b,l.d+0,none⟩)) ?_ ⟨l,hl,rfl⟩
    rw[h1]
    refine Go.Lib.run_from_unsafe w ⟨l.b,l.d+0,none⟩ hs hd hj (XR g1) ?_
    show liesAt P P.depth e' (c'.size/P.cellsOf e') (l.d+0) e' 1=true
    rw[oO]
    refine Zwn hco _ ?_
    rw[hco]
    exact Nat.div_pos (by omega) (by omega)
   ·cases h
  ·cases h
 ·cases h
def Yid(hh:bm P μ w st)(hr:RR μ r n a.tmps){ts:Array TypeId}{ty:TypeId}{x:Operand}{s:Src}
  (hx:bC P x=some s) (h:J1 s call r st=some (v,aA)):ba P μ w st (do pure (.value (<-Builtin.unsafeSliceData_ ts ty #[a.eval x]))) v aA:=by
 unfold J1 at h
 split at h
 ·rename_i i o len cap sz hm
  obtain⟨l,c,hl,h1,zv,_⟩:=cU hh hr hx hm
  split at h
  ·rename_i au
   simp only[an,bs]at h
   obtain⟨rfl,rfl⟩:=h
   refine ba.value hh (x:=.pointer (some ⟨l.b,l.d+o,none⟩)) ?_ ⟨l,hl,rfl⟩
   rw[h1]
   exact Go.Lib.run_unsafeSliceData_row w ts ty _ _ _ (by omega)
  ·cases h
 ·cases h
def Zpe:∀{vs:List V} {s:List UInt8},Hu vs=some s->vs.length=s.length/\∀(j:Nat) (b:UInt8),s[j]?=some b->vs[j]?=some (.int .u8 b.toNat)
 |[],s,h=>by
  simp only[Hu,an]at h;subst h
  exact⟨rfl,fun j b hb=>by simp at hb⟩
 |v::vs,s,h=>by
  simp only[Hu]at h
  split at h
  ·rename_i b s' hb hs
   simp only[an]at h;subst h
   obtain⟨h1,h2⟩:=Zpe hs
   refine⟨by simp[h1],fun j c hc=>?_⟩
   cases j with
   |zero=>
    simp only[BS,an]at hc;subst hc
    cases v<;>simp only[Q2,reduceCtorEq]at hb
    rename_i k m
    cases k<;>simp only[reduceCtorEq]at hb
    split at hb
    ·rename_i hm
     simp only[an]at hb;subst hb
     simp only[BS,an,V.int.injEq,true_and]
     have:m.toNat<256:=by omega
     simp[Nat.toUInt8]
     omega
    ·cases hb
   |succ j=>
    simp only[EJ]at hc ⊢
    exact h2 j c hc
  ·cases h
def Yng(hh:bm P μ w st)(hr:RR μ r n a.tmps){pt it ty e:TypeId}{x y:Operand}{s q:Src}(hp:P.underlying pt=some (.pointer e))(hz:eX P e=some 1)(hx:bC P x=some s)(hy:bC P y=some q)
  (h:J3 e s q call r st=some (v,aA)):ba P μ w st (do pure (.value (<-Builtin.unsafeString_ #[pt,it] ty #[a.eval x,a.eval y]))) v aA:=by
 unfold J3 at h
 split at h
 ·rename_i i k hm hq
  obtain⟨l,hl,h1⟩:=cU hh hr hx hm
  have h2:=cU hh hr hy hq
  simp only[VR]at h2
  split at h
  ·rename_i hk
   split at h
   ·rename_i c e' al
    split at h
    ·rename_i he
     subst he
     split at h
     ·rename_i Av ui
      split at h
      ·rename_i str XT
       simp only[an,bs]at h
       obtain⟨rfl,rfl⟩:=h
       obtain⟨c',lo,hi,g1,g2,g3,g4,g5,g6⟩:=hh.row hl al
       have oO:=(g6 rfl).1
       obtain⟨b1,b2⟩:=Zpe XT
       obtain⟨xs,qq,zL,xZ,fX,_⟩:=(hh.row hl al).Av ui
       have cD:str.length=k.toNat:=by have:=qq.length;omega
       have hle:k.toNat<=c.length:=by
        unfold aC at ui
        split at ui
        ·omega
        ·cases ui
       have QD:k=(str.length:Int):=by omega
       have aW:str≠[]:=by intro h0;rw[h0]at cD;simp at cD;omega
       have il:∀(j:Nat) (b:UInt8),str[j]?=some b->w.cell? ((⟨l.b,0,none⟩:Addr).add j)=some (.int .u8 b.toNat):=by
        intro j b hb
        have hv:=b2 j b hb
        obtain⟨y,tD,x_⟩:=qq.get hv
        simp only[VR]at x_
        subst x_
        have:=fX j _ tD
        rw[xN]
        rw[oO,iX]at this
        exact this
       have h63:str.length<=9223372036854775807:=by omega
       have bQ:=Go.Lib.run_unsafeString_row (P:=P) w pt it ty e' hp (Zlg hz) l.b c'.size (XR g1) str aW (by omega) h63 il
       have hw:bH P μ w st μ (w.freeze ⟨l.b,0,none⟩ str.length) (st.write i (.cells c e' false)) [i]:=by
        have jE:str.length≠0:=by simpa using aW
        have wu:(w.freeze ⟨l.b,0,none⟩ str.length).heap[l.b]?=some (.cells c' e' (if lo==hi then (0,0+str.length) else (min lo 0,max hi (0+str.length)))):=by
         simp[World.freeze,jE,Array.getElem?_modify,g1]
        obtain⟨lo',iP,MI⟩:∃p q,(if lo==hi then (0,0+str.length) else (min lo 0,max hi (0+str.length)))=(p,q):=⟨_,_,rfl⟩
        rw[MI]at wu
        refine bH.write hh hl (MG al) rfl ?_ ?_ ?_ ?_ ?_ ⟨c',lo',iP,wu,g2,g3,g4,g5,fun hc=>by cases hc⟩
        ·simp[World.freeze,jE]
        ·simp[World.freeze,jE]
        ·simp[World.freeze,jE]
        ·simp[World.freeze,jE]
        ·intro b hb
         simp only[World.freeze,jE,if_false,Array.getElem?_modify]
         rw[ak (fun h=>hb h.symm)]
       refine⟨.value (.string ⟨str.toArray⟩),_,_,μ,[i],?_,.inl rfl,rfl,hw⟩
       rw[h1,h2,oO,QD]
       simp[bQ,Result.andThen]
      ·cases h
     ·cases h
    ·cases h
   ·cases h
  ·cases h
 ·cases h
end
end Go.Mx
