/-
  The operations of M stand for the Go model's: externs, copy, clear, append.
-/
import Derived.Test.YtlbophlgohokkaaGreatDoorMxOp8
import Derived.Lib.Builder
import Derived.Lib.UnsafeStr
set_option linter.all false
namespace Go.Mx
open Go
set_option maxHeartbeats 2000000
def DP:Ext->Array Value->Sem Value
 |.eJ=>add64Entry
 |.gQ=>Go.Proofs.sub64Entry
 |.same=>Extern.AbiNoEscape.same
 |.bE=>Extern.BytealgIndexByte.indexByte
 |.jI=>fun _=>stuck "not taken"
def rm(P:Program):Prop:=∀(g:FuncId) (fn:Func) (e:Ext),P.funcs[g]?=some fn->fn.body.isSome=false->vL fn.name=some e->
 (fn.name== "runtime.NumGoroutine")=false/\Extern.findNext fn=none/\Extern.find fn=some (DP e)
theorem X7(c:UInt8):∀(l:List UInt8),Go.Lib.indexByte l c= -1\/0<=Go.Lib.indexByte l c
 |[]=>.inl rfl
 |b::l=>by
  rcases X7 c l with h|h<;>simp only[Go.Lib.indexByte]<;>split<;>first|omega|(split<;>omega)
theorem X8(c:UInt8):∀(l:List UInt8) (i:Nat),C4 c l i=if Go.Lib.indexByte l c= -1 then -1 else Go.Lib.indexByte l c+i
 |[],i=>by simp[C4,Go.Lib.indexByte]
 |b::l,i=>by
  have h:=X7 c l
  simp only[C4,Go.Lib.indexByte]
  split
  ·simp
  ·rw[X8 c l (i+1)]
   by_cases e:Go.Lib.indexByte l c= -1
   ·simp[e]
   ·have e':(Go.Lib.indexByte l c== -1)=false:=by simpa using e
    rw[au e,e']
    simp only[fx,if_false]
    rw[au (by omega)]
    omega
section
variable {P:Program} {μ:Mu} {w:World} {st av:St} {r:T V} {n:Nat} {a:Act} {call:cm} {v:V}
theorem Yol(hh:bo P μ w st)(hr:RR μ r n a.tmps)(hE:rm P){g:Nat}{fn:Func}{e:Ext}{xs:List Operand}{ss:List Src}(hg:P.funcs[g]?=some fn)(hb:fn.body.isSome=false)(he:vL fn.name=some e)
  (hx:rN P xs=some ss) (h:Dp e ss call r st=some (v,av)):bg P μ w st (callFunc g ⟨xs.map a.eval⟩) v av:=by
 obtain⟨e1,e2,e3⟩:=hE g fn e hg hb he
 have bI:=run_callFunc_extern hg e1 (by simpa using hb) e2 e3 ⟨xs.map a.eval⟩ w
 have fin:∀x,(DP e ⟨xs.map a.eval⟩).run P w=.ok x w->VR μ v x->av=st->bg P μ w st (callFunc g ⟨xs.map a.eval⟩) v av:=by
  intro x hx hv hs
  subst hs
  exact⟨.value x,x,w,μ,[],by rw[bI,hx];rfl,.inl rfl,hv,bB.refl hh⟩
 unfold Dp at h
 cases hl:rj r ss with
 |none=>cases e<;>simp[hl]at h
 |some l=>
  have hv:=DO hh hr hx hl
  have si:∀u,zL e l=some u->(DP e ⟨xs.map a.eval⟩).run P w=.ok (match u with|.aZ [.int .u64 p,.int .u64 q]=>.tuple #[.int .u64 p,.int .u64 q]|.int k m=>.int k m|_=>undef) w/\
    VR μ u (match u with|.aZ [.int .u64 p,.int .u64 q]=>.tuple #[.int .u64 p,.int .u64 q]|.int k m=>.int k m|_=>undef):=by
   intro u hu
   unfold zL at hu
   split at hu
   ·rename_i x y c
    split at hu
    ·cases hu
    ·rename_i hc
     simp only[aj]at hu;subst hu
     simp only[aX,VR]at hv
     obtain⟨_,_,h1,rfl,_,_,rfl,rfl,_,_,rfl,rfl,rfl⟩:=hv
     rw[h1]
     refine⟨?_,by simp[VR,aX]⟩
     have mb:c=0\/c=1:=Decidable.not_not.1 hc
     rcases mb with rfl|rfl<;>rfl
   ·rename_i x y c
    split at hu
    ·cases hu
    ·rename_i hc
     simp only[aj]at hu;subst hu
     simp only[aX,VR]at hv
     obtain⟨_,_,h1,rfl,_,_,rfl,rfl,_,_,rfl,rfl,rfl⟩:=hv
     rw[h1]
     refine⟨?_,by simp[VR,aX]⟩
     have mb:c=0\/c=1:=Decidable.not_not.1 hc
     have hi:∀(p:Prop) [Decidable p],((if p then 1 else 0:Int))=Int.ofNat (if p then 1 else 0):=fun p _=>by split<;>rfl
     rcases mb with rfl|rfl<;>rw[hi]<;>rfl
   ·rename_i s c
    simp only[aj]at hu;subst hu
    simp only[aX,VR]at hv
    obtain⟨_,_,h1,rfl,_,_,rfl,rfl,rfl⟩:=hv
    rw[h1]
    refine⟨?_,by simp[VR]⟩
    have:=Go.Lib.run_indexByteString (P:=P) ⟨s.toArray⟩ c w
    show (Extern.BytealgIndexByte.indexByte #[.string ⟨s.toArray⟩,.int .u8 c]).run P w=_
    rw[this,X8]
    simp only[]
    congr 2
    split
    ·rename_i e;exact e
    ·simp
   ·cases hu
  cases e with
  |same=>
   rcases l with _|⟨u,_|⟨u',l⟩⟩<;>simp[hl,zL]at h
   obtain⟨rfl,rfl⟩:=h
   obtain⟨y,ys,nJ,h1,h2⟩:=fO.1 hv
   simp only[aX]at h2;subst h2
   refine fin y ?_ h1 rfl
   rw[nJ];rfl
  |eJ=>
   simp only[hl]at h
   split at h
   ·rename_i u hu
    simp only[aj,bq]at h
    obtain⟨rfl,rfl⟩:=h
    exact fin _ (si _ hu).1 (si _ hu).2 rfl
   ·cases h
  |gQ=>
   simp only[hl]at h
   split at h
   ·rename_i u hu
    simp only[aj,bq]at h
    obtain⟨rfl,rfl⟩:=h
    exact fin _ (si _ hu).1 (si _ hu).2 rfl
   ·cases h
  |bE=>
   simp only[hl]at h
   split at h
   ·rename_i u hu
    simp only[aj,bq]at h
    obtain⟨rfl,rfl⟩:=h
    exact fin _ (si _ hu).1 (si _ hu).2 rfl
   ·cases h
  |jI=>simp[hl,zL]at h
theorem X9(hh:bo P μ w st){size:Nat}{u:V}{X:Value}(hx:VR μ u X){m:Nat}{xs:List V}(h:eC st size u=some (m,xs)):
  (Builtin.lenOf X).run P w=.ok m w/\xs.length=m*size/\∃ys,aX μ xs ys/\(∀y∈ys,y.oneCell'=true)/\
   ∀w':World,w'.heap=w.heap->∀k,k<=m->(Builtin.firstCells size k X).run P w'=.ok ⟨ys.take (k*size)⟩ w':=by
 unfold eC at h
 split at h
 ·simp only[aj,bq]at h
  obtain⟨rfl,rfl⟩:=h
  simp only[VR]at hx;subst hx
  exact⟨by simp[Builtin.lenOf],by simp,[],by simp[aX],by simp,fun w' _ k hk=>by simp[Builtin.firstCells]⟩
 ·simp only[aj,bq]at h
  obtain⟨rfl,rfl⟩:=h
  obtain⟨b,c,rfl⟩:=hx
  refine⟨by simp[Builtin.lenOf],by simp,[],by simp[aX],by simp,fun w' _ k hk=>?_⟩
  have zb:k=0:=by omega
  subst zb
  have:=run_firstCells_some (P:=P) w' size 0 b 0 c [] (by simp) (by simp)
  simpa using this
 ·rename_i j p m' _ sz
  obtain⟨l,c,hl,rfl,_⟩:=hx
  split at h
  ·split at h
   ·rename_i cs _ _ ar
    split at h
    ·rename_i xc qL
     simp only[aj,bq]at h
     obtain⟨rfl,rfl⟩:=h
     obtain⟨ys,g1,g2,g3,g4,g5⟩:=(hh.row hl ar).xc qL
     refine⟨by simp[Builtin.lenOf],by rw[<-g1.length,g2],ys,g1,g5,fun w' sE k hk=>?_⟩
     have Sq:k*size<=m'*size:=jn _ hk
     refine run_firstCells_some (P:=P) w' size k _ m' c (ys.take (k*size)) (by rw[fR,g2];exact nA Sq) fun i y hy=>?_
     rw[uj]
     rw[gV]at hy
     split at hy
     ·have:=g4 i y hy
      simpa[World.cell?,sE]using this
     ·cases hy
    ·cases h
   ·cases h
  ·cases h
 ·rename_i s
  split at h
  ·rename_i sw
   subst sw
   simp only[aj,bq]at h
   obtain⟨rfl,rfl⟩:=h
   simp only[VR]at hx;subst hx
   have fz:(⟨s.toArray⟩:ByteArray).size=s.length:=rfl
   refine⟨by simp[Builtin.lenOf,fz, -ByteArray.size_data],by simp,s.map (fun b=>.int .u8 b.toNat),?_,by simp;intro y _;rfl,fun w' _ k hk=>?_⟩
   ·refine aX.l7 (by simp) fun i y hy=>?_
    simp only[jf,iF]at hy
    obtain⟨b,hb,rfl⟩:=hy
    exact⟨_,by simp[hb];rfl,by simp[VR]⟩
   ·simp only[Builtin.firstCells,Sem.run_pure,vQ]
    congr 1
    apply wZ
    simp
  ·cases h
 ·cases h
theorem Ya(a:Addr)(i:Nat):(storeCells a [] i).run P w=.ok () w:=by simp[storeCells]
theorem Yl9(hh:bo P μ w st)(hr:RR μ r n a.tmps){ts:Array TypeId}{t ty e:TypeId}{size:Nat}{x y:Operand}{sd ss:Src}(mO:ts[0]?=some t)(ht:P.underlying t=some (.slice e))(hs:eg P e=some size)
  (hx:bu P x=some sd) (hy:bu P y=some ss) (h:Bz size sd ss call r st=some (v,av)):
  bg P μ w st (do pure (.value (<-Builtin.copy_ ts ty #[a.eval x,a.eval y]))) v av:=by
 unfold Bz at h
 split at h
 ·rename_i d s hd BX
  have h1:=cF hh hr hx hd
  have h2:=cF hh hr hy BX
  split at h
  ·rename_i m xs Sr
   obtain⟨g1,g2,ys,g3,g4,g5⟩:=X9 hh h2 Sr
   have ID:=g3.length
   split at h
   ·simp only[aj,bq]at h
    obtain⟨rfl,rfl⟩:=h
    simp only[VR]at h1
    refine bg.value hh (x:=.int .i64 0) ?_ (by simp[VR])
    have hf:=g5 w rfl 0 (tQ _)
    simp[Builtin.copy_,mO,h1,run_underlying ht,g1,vi hs,hf,Result.andThen,goInt]
   ·rename_i i o len cap sz
    obtain⟨l,c,hl,h1,zc,xF,_⟩:=h1
    split at h
    ·cases h
    ·rename_i fz
     have hf:=g5 w rfl (min m len) (Nat.min_le_left _ _)
     simp only at h
     split at h
     ·rename_i hk
      simp only[aj,bq]at h
      obtain⟨rfl,rfl⟩:=h
      refine bg.value hh (x:=.int .i64 0) ?_ (by simp[VR])
      have qM:Nat.min m len=0:=hk
      rw[hk]at hf
      simp[Builtin.copy_,mO,h1,run_underlying ht,g1,vi hs,hf,Result.andThen,goInt,qM,Ya]
     ·rename_i hk
      split at h
      ·rename_i cs e' ar
       split at h
       ·rename_i hle
        simp only[aj,bq]at h
        obtain⟨rfl,rfl⟩:=h
        have Sq:min m len*size<=m*size:=jn _ (Nat.min_le_left _ _)
        obtain⟨w',hw,eP⟩:=Ms (o:=o) hh hl ar (g3.take (min m len*size)) (fun q hq=>g4 q (rQ hq)) (by rw[fR,g2,nA Sq];exact hle)
        refine⟨.value (.int .i64 (min m len:Nat)),_,w',μ,[i],?_,.inl rfl,by simp[VR],eP⟩
        have qM:Nat.min m len=min m len:=rfl
        simp only[Builtin.copy_,mO,h1,Sem.run_bind,run_underlying ht,g1,vi hs,Result.andThen_ok,qM,hf,hw,goInt,Sem.run_pure,List.getElem?_toArray,yC,Bh]
       ·cases h
      ·cases h
   ·cases h
  ·cases h
 ·cases h
theorem Yb(z:Array Value)(k:Nat):Builtin.zeroCells z k=madeCells z (k*z.size):=rfl
theorem Yhe(hh:bo P μ w st)(hr:RR μ r n a.tmps){t ty e:TypeId}{size:Nat}{z:V}{x:Operand}{s:Src}(ht:P.underlying t=some (.slice e))(hz:mK P e=some z)(ec:z.cells.all V.one=true)
  (hx:bu P x=some s) (h:F8 size z.cells s call r st=some (v,av)):
  bg P μ w st (do pure (.value (<-Builtin.clear_ #[t] ty #[a.eval x]))) v av:=by
 unfold F8 at h
 split at h
 ·rename_i hm
  simp only[aj,bq]at h
  obtain⟨rfl,rfl⟩:=h
  have h1:=cF hh hr hx hm
  simp only[VR]at h1
  exact bg.value hh (x:=.tuple #[]) (by simp[Builtin.clear_,h1,run_underlying ht]) ⟨[],rfl,by simp[aX]⟩
 ·rename_i hm
  simp only[aj,bq]at h
  obtain⟨rfl,rfl⟩:=h
  obtain⟨b,c,h1⟩:=cF hh hr hx hm
  exact bg.value hh (x:=.tuple #[]) (by simp[Builtin.clear_,h1,run_underlying ht]) ⟨[],rfl,by simp[aX]⟩
 ·rename_i i o len cap sz hm
  obtain⟨l,c,hl,h1,_⟩:=cF hh hr hx hm
  split at h
  ·rename_i h0
   subst h0
   simp only[aj,bq]at h
   obtain⟨rfl,rfl⟩:=h
   exact bg.value hh (x:=.tuple #[]) (by simp[Builtin.clear_,h1,run_underlying ht]) ⟨[],rfl,by simp[aX]⟩
  ·rename_i h0
   split at h
   ·cases h
   ·rename_i cD
    simp only[not_or,Decidable.not_not]at cD
    split at h
    ·rename_i cs e' ar
     split at h
     ·rename_i hle
      simp only[aj,bq]at h
      obtain⟨rfl,rfl⟩:=h
      obtain⟨inf,zx,hi,nP,wc⟩:=DQ hz
      have mm:=Mt (wc μ).cells len
      have hlen:z.cells.length=zx.cells.size:=by rw[<-(wc μ).cells.length];simp
      obtain⟨w',hw,eP⟩:=Ms (o:=o) hh hl ar mm (Ss ec len mm) (by rw[Yc,cD.2.2];exact hle)
      refine⟨.value (.tuple #[]),_,w',μ,[i],?_,.inl rfl,⟨[],rfl,by simp[aX]⟩,eP⟩
      have Am:Builtin.zeroCells zx.cells len=madeCells ⟨zx.cells.toList⟩ (len*z.cells.length):=by rw[Yb,hlen]
      have hrz:(zeroValue e).run P w=.ok zx w:=by simp[zeroValue,typeInfo,hi,nP]
      obtain⟨sF,rfl⟩:∃q,len=q+1:=⟨len-1,by omega⟩
      simp[Builtin.clear_,h1,run_underlying ht,hrz,Am,hw,Result.andThen]
     ·cases h
    ·cases h
 ·cases h
theorem Mv{ts:Array TypeId}{t u ty e:TypeId}{d:TypeDesc}{size m sLen sCap:Nat}{base:Option Addr}{X:Value}{ys:List Value}(mO:ts[0]?=some t)(ht:P.underlying t=some (.slice e))(kp:ts[1]?=some u)(hu:P.underlying u=some d)
  (hd:∀k,d≠.int k) (hs:eg P e=some size) (hlen:(Builtin.lenOf X).run P w=.ok m w) (hf:(Builtin.firstCells size m X).run P w=.ok ⟨ys⟩ w) (hle:sLen+m<=sCap)
  {w':World} (eP:(match base with|some a=>storeCells (a.add (sLen*size)) ys|none=>pure ():Sem Unit).run P w=.ok () w'):
  (Builtin.append_ ts ty #[.slice base sLen sCap,X]).run P w=.ok (.slice base (sLen+m) sCap) w':=by
 cases base with
 |none=>
  simp only[Sem.run_pure,Result.ok.injEq,true_and]at eP
  subst eP
  cases d<;>first|exact absurd rfl (hd _)|simp[Builtin.append_,mO,run_underlying ht,kp,run_underlying hu,vi hs,Result.andThen,hlen,hf,hle]
 |some b=>
  simp only at eP
  cases d<;>first|exact absurd rfl (hd _)|simp[Builtin.append_,mO,run_underlying ht,kp,run_underlying hu,vi hs,Result.andThen,hlen,hf,hle,eP]
theorem Zlh{ts:Array TypeId}{t u ty e:TypeId}{d:TypeDesc}{inf:TypeInfo}{zx:Value}{m sLen sCap:Nat}{base:Option Addr}{X:Value}{os ys:List Value}(mO:ts[0]?=some t)(ht:P.underlying t=some (.slice e))(kp:ts[1]?=some u)(hu:P.underlying u=some d)
  (hd:∀k,d≠.int k) (hi:P.info? e=some inf) (hz:inf.zero=some zx) (hlen:(Builtin.lenOf X).run P w=.ok m w) (hf:(Builtin.firstCells inf.size m X).run P w.drew=.ok ⟨ys⟩ w.drew)
  (IE:(Builtin.firstCells inf.size sLen (.slice base sLen sCap)).run P w.drew=.ok ⟨os⟩ w.drew) (hle:¬sLen+m<=sCap) (hb:inf.bytes≠0) (xG:2*(sLen+m)*inf.bytes<=2^48):
  (Builtin.append_ ts ty #[.slice base sLen sCap,X]).run P w=.ok (.slice (some ⟨w.heap.size,0,none⟩) (sLen+m) (grownCap w (sLen+m) sCap e))
   (w.drew.alloc (.cells ⟨os++ys++(Builtin.zeroCells zx.cells (grownCap w (sLen+m) sCap e-(sLen+m))).toList⟩ e)):=by
 have hgr:Builtin.nextslicecap (sLen+m) sCap*inf.bytes<=2^48:=by
  have h1:Builtin.nextslicecap (sLen+m) sCap*inf.bytes<=2*(sLen+m)*inf.bytes:=jn _ (nextslicecap_le (by omega))
  omega
 have Su:¬(281474976710656<Builtin.nextslicecap (sLen+m) sCap*inf.bytes):=by omega
 cases d<;>first|exact absurd rfl (hd _)|simp[Builtin.append_,mO,run_underlying ht,kp,run_underlying hu,sizeOf,typeInfo,zeroValue,hi,hz,Result.andThen,hlen,hf,IE,hle,hb,Su,Question.forced,newRow,grownCap]<;>(congr 2;apply wZ;simp)
theorem Yd(hh:bo P μ w st){ts:Array TypeId}{t u ty e:TypeId}{d:TypeDesc}{size b m sLen sCap:Nat}{z:V}{base:Option Addr}{X:Value}{os ys:List Value}{co cx:List V}
  (mO:ts[0]?=some t) (ht:P.underlying t=some (.slice e)) (kp:ts[1]?=some u) (hu:P.underlying u=some d) (hd:∀k,d≠.int k)
  (hs:eg P e=some size) (hb:dK P e=some b) (hz:mK P e=some z) (IF:z.cells.length=size) (ec:z.cells.all V.one=true) (ui:size≠0)
  (hlen:(Builtin.lenOf X).run P w=.ok m w) (hf:(Builtin.firstCells size m X).run P w.drew=.ok ⟨ys⟩ w.drew)
  (IE:(Builtin.firstCells size sLen (.slice base sLen sCap)).run P w.drew=.ok ⟨os⟩ w.drew) (hle:¬sLen+m<=sCap) (oV:b≠0) (xG:2*(sLen+m)*b<=2^48)
  (ho:aX μ co os) (hx:aX μ cx ys) (yz:∀y∈os,y.oneCell'=true) (xB:∀y∈ys,y.oneCell'=true) (iN:co.length=sLen*size) (Ah:cx.length=m*size):
  ∃μ' w' c,(Builtin.append_ ts ty #[.slice base sLen sCap,X]).run P w=.ok (.slice (some ⟨w.heap.size,0,none⟩) (sLen+m) c) w'/\VR μ' (.slice st.n 0 (sLen+m) none size) (.slice (some ⟨w.heap.size,0,none⟩) (sLen+m) c)/\
   bB P μ w st μ' w' (st.alloc (.cells (co++cx) e true)) []:=by
 obtain⟨inf,zx,hi,nP,wc⟩:=DQ hz
 have fz:inf.size=size:=by unfold eg at hs;simpa[hi]using hs
 have hbz:inf.bytes=b:=by unfold dK at hb;simpa[hi]using hb
 have IG:zx.cells.size=size:=by rw[<-IF,<-(wc μ).cells.length];simp
 subst fz hbz
 have bI:=Zlh (P:=P) (w:=w) (ty:=ty) mO ht kp hu hd hi nP hlen hf IE hle oV xG
 have An:=grownCap_ge w (sLen+m) sCap e
 generalize grownCap w (sLen+m) sCap e=cap at bI An
 have Am:(Builtin.zeroCells zx.cells (cap-(sLen+m))).toList.length=(cap-(sLen+m))*inf.size:=by simp[Builtin.zeroCells,IG]
 have mm:aX μ (cN z.cells (cap-(sLen+m))) (Builtin.zeroCells zx.cells (cap-(sLen+m))).toList:=by
  have:=Mt (wc μ).cells (cap-(sLen+m))
  rw[Yb]
  have e1:zx.cells.size=z.cells.length:=by rw[IG,IF]
  rw[e1]
  simpa using this
 have IH:=ho.length
 have II:=hx.length
 have xF:(os++ys++(Builtin.zeroCells zx.cells (cap-(sLen+m))).toList).length=cap*inf.size:=by
  rw[fQ,fQ,Am,IH,II,iN,Ah,<-iE,<-iE]
  congr 1;omega
 refine⟨_,_,cap,bI,?_,(bB.newRow hh.BY (cs:=co++cx) (xs:=os++ys++(Builtin.zeroCells zx.cells (cap-(sLen+m))).toList) (lo:=0) (hi:=0) ?_ ?_ ?_ ?_).xH⟩
 ·simp only[VR]
  refine⟨⟨w.heap.size,0,(os++ys++(Builtin.zeroCells zx.cells (cap-(sLen+m))).toList).length⟩,cap,by exact aF trivial,by simp,An,?_,by simp,fun _=>?_⟩
  ·show 0+cap*inf.size<=(os++ys++(Builtin.zeroCells zx.cells (cap-(sLen+m))).toList).length
   omega
  ·show 0+cap*inf.size=(os++ys++(Builtin.zeroCells zx.cells (cap-(sLen+m))).toList).length
   omega
 ·rw[fQ,fQ,fQ,IH,II];omega
 ·intro j u' mj
  obtain⟨y,h1,h2⟩:=(ho.append hx).get mj
  exact⟨y,by rw[lX (yB.1 h1).1];exact h1,h2⟩
 ·intro y hy
  simp only[oF]at hy
  rcases hy with(hy|hy)|hy
  ·exact yz y hy
  ·exact xB y hy
  ·exact Ss ec _ mm y hy
 ·exact .inr (aS _)
theorem bB.DR{w':World}(h:bo P μ w st){i:Nat}{l l':L}{o o':O}(hi:μ i=some l)(ho:st.h.get i=some o)(hw:o.wr=true)
  (wR:w'.os=w.os) (Q1:w'.tape=w.tape) (Q2:w'.output=w.output) (fz:w'.heap.size=w.heap.size) (oH:∀b,b≠l.b->w'.heap[b]?=w.heap[b]?) (rP:l'.b=l.b)
  (tL:OM P (fun j=>if j=st.n then some l' else μ j) w' o' l'):
  bB P μ w st (fun j=>if j=st.n then some l' else μ j) w' ((st.write i .dead).alloc o') [i]:=by
 have tN:o.live=true:=by cases o<;>simp_all [O.wr,O.live]
 have Bg:=(h.cG i l hi).1
 have jv:=(h.cG i l hi).2
 have cQ:∀j lj,μ j=some lj->(fun j=>if j=st.n then some l' else μ j) j=some lj:=fun j lj hj=>by
  have:=(h.cG j lj hj).1
  show (if j=st.n then some l' else μ j)=some lj
  rw[au (by omega)];exact hj
 have cC:∀j,((st.write i .dead).alloc o').h.get j=if j=st.n then some o' else if j=i then some .dead else st.h.get j:=fun j=>by
  simp only[St.alloc,St.write,T.ai]
 refine⟨⟨fun j lj hj=>?_,fun j lj hj=>?_,fun j k lj lk oj ok hj hk bJ h1 h2 FQ jG=>?_,fun g hg=>let ⟨t,ht⟩:=h.fF g hg;⟨t,cQ g _ ht⟩⟩,fun j hj=>?_,by simp[St.alloc,St.write],rfl,⟨wR,Q1,Q2,by omega,fun b _ cH=>oH b ?_⟩,
  fun j lj hn hj=>?_,fun j hj cH=>?_,fun j oj hn hj=>?_,fun j h1 h2=>⟨l',by simp only[St.alloc,St.write]at h2;show (if j=st.n then some l' else μ j)=some l';rw[aF (by omega)]⟩,fun j hj _=>by simp only[vM]at hj;subst hj;exact⟨o,ho,hw⟩⟩
 ·replace hj:(if j=st.n then some l' else μ j)=some lj:=hj
  split at hj
  ·rename_i e
   simp only[aj]at hj;subst hj
   simp[St.alloc,St.write];omega
  ·have:=h.cG j lj hj
   simp[St.alloc,St.write];omega
 ·replace hj:(if j=st.n then some l' else μ j)=some lj:=hj
  split at hj
  ·rename_i e
   simp only[aj]at hj;subst hj
   exact⟨o',by rw[cC,aF e],tL⟩
  ·rename_i e
   by_cases e2:j=i
   ·exact⟨.dead,by rw[cC,au e,aF e2],trivial⟩
   ·obtain⟨oj,h1,h2⟩:=h.obj j lj hj
    refine⟨oj,by rw[cC,au e,au e2];exact h1,?_⟩
    cases hl:oj.live
    ·cases oj<;>simp[O.live]at hl
     trivial
    ·exact(h2.mono cQ).congr (oH lj.b (Ne.symm (h.inj i j l lj o oj hi hj (Ne.symm e2) ho h1 hw hl)))
 ·rw[cC]at h1 h2
  replace hj:(if j=st.n then some l' else μ j)=some lj:=hj
  replace hk:(if k=st.n then some l' else μ k)=some lk:=hk
  by_cases e1:j=st.n
  ·rw[aF e1]at hj h1
   simp only[aj]at hj h1
   subst hj h1
   by_cases e2:k=st.n
   ·exact absurd (e1.trans e2.symm) bJ
   ·rw[au e2]at hk h2
    by_cases e3:k=i
    ·rw[aF e3,aj]at h2;subst h2;simp[O.live]at jG
    ·rw[au e3]at h2
     rw[rP]
     exact h.inj i k l lk o ok hi hk (Ne.symm e3) ho h2 hw jG
  ·rw[au e1]at hj h1
   by_cases e3:j=i
   ·rw[aF e3,aj]at h1;subst h1;simp[O.wr]at FQ
   ·rw[au e3]at h1
    by_cases e2:k=st.n
    ·rw[aF e2]at hk h2
     simp only[aj]at hk h2
     subst hk h2
     rw[rP]
     exact h.inj j i lj l oj o hj hi e3 h1 ho FQ tN
    ·rw[au e2]at hk h2
     by_cases e4:k=i
     ·rw[aF e4,aj]at h2;subst h2;simp[O.live]at jG
     ·rw[au e4]at h2
      exact h.inj j k lj lk oj ok hj hk bJ h1 h2 FQ jG
 ·show (if j=st.n then some l' else μ j)=μ j
  rw[au (by omega)]
 ·exact Ne.symm (cH i (by simp) l hi)
 ·replace hj:(if j=st.n then some l' else μ j)=some lj:=hj
  split at hj
  ·simp only[aj]at hj;subst hj
   exact .inr ⟨i,by simp,Bg,l,o,hi,rP.symm,ho,hw⟩
  ·exact absurd (h.cG j lj hj).1 (by omega)
 ·simp only[vM]at cH
  rw[cC,au (by omega),au cH]
 ·rw[cC,au (by omega)]at hj
  split at hj
  ·rename_i e
   subst e
   simp only[aj]at hj;subst hj
   exact⟨o,ho,by simp[O.wr],by simp[O.live]⟩
  ·exact⟨oj,hj,id,id⟩
theorem bB.kill(h:bo P μ w st){i:Nat}{l:L}{o:O}(hi:μ i=some l)(ho:st.h.get i=some o)(hw:o.wr=true):bB P μ w st μ w (st.write i .dead) [i]:=
 bB.write h hi ho hw rfl rfl rfl rfl (fun _ _=>rfl) trivial
theorem Ydw(hh:bo P μ w st)(hr:RR μ r n a.tmps){ts:Array TypeId}{t u ty e:TypeId}{d:TypeDesc}{size b:Nat}{z:V}{x y:Operand}{s sx:Src}
  (mO:ts[0]?=some t) (ht:P.underlying t=some (.slice e)) (kp:ts[1]?=some u) (hu:P.underlying u=some d) (hd:∀k,d≠.int k)
  (hs:eg P e=some size) (hb:dK P e=some b) (hz:mK P e=some z) (IF:z.cells.length=size) (ec:z.cells.all V.one=true) (oV:b≠0)
  (hx:bu P x=some s) (hy:bu P y=some sx) (h:zP size b e z.cells s sx call r st=some (v,av)):
  bg P μ w st (do pure (.value (<-Builtin.append_ ts ty #[a.eval x,a.eval y]))) v av:=by
 unfold zP at h
 split at h
 ·rename_i sv xv R7 y8
  have h1:=cF hh hr hx R7
  have h2:=cF hh hr hy y8
  unfold jQ at h
  split at h
  ·cases h
  ·rename_i m xs Sr
   obtain⟨g1,g2,ys,g3,g4,g5⟩:=X9 hh h2 Sr
   have ID:=g3.length
   have hyt:ys.take (m*size)=ys:=eF (by omega)
   have gf:∀w':World,w'.heap=w.heap->(Builtin.firstCells size m (a.eval y)).run P w'=.ok ⟨ys⟩ w':=fun w' sE=>by rw[g5 w' sE m (aS _),hyt]
   split at h
   ·-- a nil slice
    simp only[VR]at h1
    split at h
    ·rename_i kj
     subst kj
     simp only[aj,bq]at h
     obtain⟨rfl,rfl⟩:=h
     refine bg.value hh (x:=.slice none 0 0) ?_ (by simp[VR])
     rw[h1]
     exact Mv (base:=none) mO ht kp hu hd hs g1 (gf w rfl) (aS _) (by simp)
    ·rename_i kj
     split at h
     ·rename_i hc
      simp only[aj,bq]at h
      obtain⟨rfl,rfl⟩:=h
      obtain⟨μ',w',c,k1,k2,k3⟩:=Yd (P:=P) (w:=w) (ty:=ty) (sLen:=0) (sCap:=0) (base:=none) (X:=a.eval y) (os:=[]) (co:=[]) hh mO ht kp hu hd hs hb hz IF ec hc.2 g1 (gf w.drew rfl) (by simp[Builtin.firstCells]) (by omega) oV
       (by have:=hc.1;unfold yK at this;simpa using this) (by simp[aX]) g3 (by simp) g4 (by simp) g2
      refine⟨.value (.slice (some ⟨w.heap.size,0,none⟩) (0+m) c),_,w',μ',[],?_,.inl rfl,?_,?_⟩
      ·rw[h1];simp only[Sem.run_bind,k1,Result.andThen_ok,Sem.run_pure]
      ·simpa using k2
      ·simpa using k3
     ·cases h
   ·-- a slice
    rename_i i o len cap sz
    have gh:=h1
    obtain⟨l,c,hl,h1,zc,xF,hk,Ao⟩:=h1
    split at h
    ·rename_i kj
     subst kj
     split at h
     ·simp only[aj,bq]at h
      obtain⟨rfl,rfl⟩:=h
      refine bg.value hh (x:=a.eval x) ?_ gh
      have Sm:ys=[]:=by
       apply qa
       omega
      rw[h1]
      have:=Mv (P:=P) (w:=w) (w':=w) (ty:=ty) (base:=some ⟨l.b,l.d+o,none⟩) (sLen:=len) (sCap:=c) mO ht kp hu hd hs g1 (gf w rfl) (by omega) (by simp only[Sm];exact Ya _ _)
      simpa using this
     ·cases h
    ·rename_i kj
     split at h
     ·cases h
     ·rename_i cD
      simp only[not_or,Decidable.not_not,uV]at cD
      obtain⟨fz,ui,xG⟩:=cD
      subst fz
      unfold yK at xG
      have inPlace:∀(cs:List V) (e':TypeId),st.row i=some (cs,e',true)->o+(len+m)*sz<=cs.length->len+m<=c->(∀k,cap=some k->c=k)->
        bg P μ w st (do pure (.value (<-Builtin.append_ ts ty #[a.eval x,a.eval y]))) (.slice i o (len+m) cap sz) (st.write i (.cells (ag cs (o+len*sz) xs) e' true)):=by
       intro cs e' ar hle Ap _
       have Sv:(len+m)*sz=len*sz+m*sz:=iE ..
       obtain⟨w',hw,eP⟩:=Ms (o:=o+len*sz) hh hl ar g3 g4 (by rw[g2];omega)
       have bI:=Mv (P:=P) (w:=w) (w':=w') (ty:=ty) (base:=some ⟨l.b,l.d+o,none⟩) (sLen:=len) (sCap:=c) mO ht kp hu hd hs g1 (gf w rfl) Ap (by
        simp only[uj];rw[nD];exact hw)
       refine⟨.value (.slice (some ⟨l.b,l.d+o,none⟩) (len+m) c),_,w',μ,[i],?_,.inl rfl,?_,eP⟩
       ·rw[h1];simp only[Sem.run_bind,bI,Result.andThen_ok,Sem.run_pure]
       ·simp only[VR];exact⟨l,c,hl,rfl,Ap,xF,hk,Ao⟩
      have fresh:∀(bS:St) (ws:List Nat) (cs old:List V) (e':TypeId) (vf:Bool),bB P μ w st μ w bS ws->bS.n=st.n->st.row i=some (cs,e',vf)->aJ cs o (len*sz)=some old->¬len+m<=c->
        bg P μ w st (do pure (.value (<-Builtin.append_ ts ty #[a.eval x,a.eval y]))) (.slice st.n 0 (len+m) none sz) (bS.alloc (.cells (old++xs) e true)):=by
       intro bS ws cs old e' vf iK BZ ar hold cH
       have vY:=hh.row hl ar
       obtain⟨os,q1,q2,q3,q4,q5⟩:=vY.xc hold
       have IE:(Builtin.firstCells sz len (.slice (some ⟨l.b,l.d+o,none⟩) len c)).run P w.drew=.ok ⟨os⟩ w.drew:=by
        refine run_firstCells_some (P:=P) w.drew sz len _ len c os q2 fun j y hy=>?_
        rw[uj]
        exact q4 j y hy
       obtain⟨μ',w',c',k1,k2,k3⟩:=Yd (P:=P) (w:=w) (ty:=ty) (base:=some ⟨l.b,l.d+o,none⟩) (sLen:=len) (sCap:=c) iK.hr mO ht kp hu hd hs hb hz IF ec ui g1 (gf w.drew rfl) IE cH oV xG q1 g3 q5 g4 (by rw[<-q1.length,q2]) g2
       refine⟨.value (.slice (some ⟨w.heap.size,0,none⟩) (len+m) c'),_,w',μ',[]++ws,?_,.inl rfl,?_,iK.trans k3⟩
       ·rw[h1];simp only[Sem.run_bind,k1,Result.andThen_ok,Sem.run_pure]
       ·rw[<-BZ];exact k2
      split at h
      ·cases h
      ·rename_i cs e' vf ar
       split at h
       ·rename_i k
        have hck:=hk k rfl
        split at h
        ·rename_i hle
         split at h
         ·rename_i hc
          simp only[aj,bq]at h
          obtain⟨rfl,rfl⟩:=h
          obtain⟨rfl,Gz⟩:=hc
          exact inPlace cs e' ar Gz (by omega) hk
         ·cases h
        ·rename_i hle
         split at h
         ·rename_i old hold
          simp only[aj,bq]at h
          obtain⟨rfl,rfl⟩:=h
          exact fresh st [] cs old e' vf (bB.refl hh) rfl ar hold (by omega)
         ·cases h
       ·split at h
        ·rename_i IJ
         subst IJ
         have vY:=hh.row hl ar
         have Ye:cs.length<=l.oD:=by obtain⟨_,_,_,_,_,h3,_⟩:=vY;exact h3
         have Yf:=Ao rfl
         have Sv:(len+m)*sz=len*sz+m*sz:=iE ..
         split at h
         ·rename_i hle
          simp only[aj,bq]at h
          obtain⟨rfl,rfl⟩:=h
          refine inPlace cs e' ar hle ?_ hk
          have:(len+m)*sz<=c*sz:=by omega
          exact Nat.le_of_mul_le_mul_right this (by omega)
         ·split at h
          ·rename_i hle hc
           obtain⟨IK,rfl,ho0⟩:=hc
           simp only[aj,bq]at h
           obtain⟨rfl,rfl⟩:=h
           have hold:aJ cs o (len*sz)=some (cs.drop o):=by
            unfold aJ
            rw[aF (by omega),eF (by simp;omega)]
           by_cases Ap:len+m<=c
           ·-- in place,above what is known
            obtain⟨c',lo,hi,q1,q2,q3,q4,q5,q6⟩:=vY
            obtain⟨cur⟩:=c'
            simp only[List.size_toArray]at q2
            have xI:(len+m)*sz<=c*sz:=jn _ Ap
            have RS:=Sw (P:=P) l.b (l.d+(o+len*sz)) e' lo hi ys 0 cur w q1 (by omega) g4 (fun j BM ma=>by
             have:=(q6 rfl).2 (j-l.d) (by omega)
             rw[show l.d+(j-l.d)=j by omega]at this
             exact this)
            have bI:=Mv (P:=P) (w:=w) (ty:=ty) (base:=some ⟨l.b,l.d+o,none⟩) (sLen:=len) (sCap:=c) mO ht kp hu hd hs g1 (gf w rfl) Ap (by
             simp only[uj];rw[nD];exact RS)
            have oH:=setRow_heap w l.b _ (⟨ag cur (l.d+(o+len*sz)+0) ys⟩:Array Value) e' _ q1
            have cQ:∀j lj,μ j=some lj->(fun j=>if j=st.n then some (⟨l.b,l.d+o,l.oD-o⟩:L) else μ j) j=some lj:=fun j lj hj=>by
             have:=(hh.cG j lj hj).1
             simp only
             rw[au (by omega)];exact hj
            refine⟨.value (.slice (some ⟨l.b,l.d+o,none⟩) (len+m) c),_,w.setRow l.b ⟨ag cur (l.d+(o+len*sz)+0) ys⟩,fun j=>if j=st.n then some ⟨l.b,l.d+o,l.oD-o⟩ else μ j,[i],?_,.inl rfl,?_,bB.DR hh hl (IB ar) rfl rfl rfl rfl (by simp) (fun b hb=>setRow_other w l.b b _ hb) rfl ⟨_,lo,hi,oH,?_,?_,?_,?_,?_⟩⟩
            ·rw[h1];simp only[Sem.run_bind,bI,Result.andThen_ok,Sem.run_pure]
            ·simp only[VR]
             refine⟨⟨l.b,l.d+o,l.oD-o⟩,c,by simp,by simp,Ap,?_,by simp,fun _=>?_⟩
             ·show 0+c*sz<=l.oD-o
              omega
             ·show 0+c*sz=l.oD-o
              omega
            ·simp only[List.size_toArray]
             rw[Mw (by omega)];omega
            ·simp only[fQ,wX];omega
            ·intro j u' mj
             have e1:∀k:Nat,(⟨ag cur (l.d+(o+len*sz)+0) ys⟩:Array Value)[k]?=(ag cur (l.d+(o+len*sz)+0) ys)[k]?:=fun k=>by simp
             simp only
             rw[e1,GA (by omega)]
             rw[List.getElem?_append]at mj
             split at mj
             ·rename_i hj
              simp only[wX]at hj
              rw[fG]at mj
              obtain⟨y',p1,p2⟩:=q4 (o+j) u' mj
              rw[au (by omega)]
              refine⟨y',?_,VR.mono cQ u' y' p2⟩
              rw[show l.d+o+j=l.d+(o+j) by omega]
              simpa using p1
             ·rename_i hj
              simp only[wX]at hj mj
              obtain⟨y',p1,p2⟩:=g3.get mj
              have aD:=(yB.1 p1).1
              rw[aF (by omega)]
              refine⟨y',?_,VR.mono cQ u' y' p2⟩
              rw[show l.d+o+j-(l.d+(o+len*sz)+0)=j-(cs.length-o) by omega]
              exact p1
            ·intro j y' bm sC
             simp only at bm sC
             have e1:(⟨ag cur (l.d+(o+len*sz)+0) ys⟩:Array Value)[l.d+o+j]?=(ag cur (l.d+(o+len*sz)+0) ys)[l.d+o+j]?:=by simp
             rw[e1,GA (by omega)]at sC
             split at sC
             ·exact g4 y' (du sC)
             ·exact q5 (o+j) y' (by omega) (by rw[show l.d+(o+j)=l.d+o+j by omega];simpa using sC)
            ·intro _
             refine⟨by have:=(q6 rfl).1;show l.d+o=0;omega,?_⟩
             intro j hj
             have:=(q6 rfl).2 (o+j) (by simp only at hj;omega)
             rw[show l.d+(o+j)=l.d+o+j by omega]at this
             exact this
           ·have IL:=bB.kill hh hl (IB ar) rfl
            exact fresh (st.write i .dead) [i] cs (cs.drop o) e' true IL rfl ar hold Ap
          ·cases h
        ·cases h
   ·cases h
 ·cases h
end
section
variable {P:Program} {μ:Mu} {w:World} {st av:St} {r:T V} {n:Nat} {a:Act} {call:cm} {v:V}
theorem Sx{b:Nat}{c:Array Value}{e:TypeId}{f:Nat×Nat}(h:w.heap[b]?=some (.cells c e f)):w.shape? b=some (e,c.size):=by
 simp[World.shape?,h]
theorem Yg{t:TypeId}{z:Nat}(h:eg P t=some z):P.cellsOf t=z:=by
 unfold eg at h
 simp[Program.cellsOf,h]
theorem Yh{t:TypeId}{z:Nat}(h:eg P t=some z):∃j,P.info? t=some j/\j.size=z:=by
 unfold eg at h
 simp only[iF]at h
 exact h
theorem Zuc{u:TypeId}{z:Nat}(hc:P.cellsOf u=z+1)(count:Nat)(hn:1<=count):liesAt P P.depth u count 0 u 1=true:=by
 have hd:P.depth=(2*(P.types.size+Made.depth)+1)+1:=rfl
 rw[hd]
 simp only[liesAt,CZ]
 left
 rw[hd]
 simp[rowAt,hc,sameLayout]
 left;omega
theorem Zzu(hh:bo P μ w st)(hr:RR μ r n a.tmps){src dst t:TypeId}{x:Operand}{s:Src}{z:Nat}(hs:P.underlying src=some (.pointer t))(hd:P.underlying dst=some .unsafePointer)(hz:eg P t=some (z+1))
  (hx:bu P x=some s) (h:BA none s call r st=some (v,av)):bg P μ w st (do pure (.value (<-convert src dst (a.eval x)))) v av:=by
 unfold BA at h
 split at h
 ·rename_i i hm
  obtain⟨l,hl,h1⟩:=cF hh hr hx hm
  split at h
  ·rename_i c e' ar
   simp only[]at h
   split at h
   ·rename_i aD
    simp only[aj,bq]at h
    obtain⟨rfl,rfl⟩:=h
    obtain⟨c',lo,hi,g1,g2,g3,_,_,g6⟩:=hh.row hl ar
    have oO:=(g6 rfl).1
    obtain⟨j,hj,hjs⟩:=Yh hz
    refine bg.value hh (x:=.pointer (some ⟨l.b,l.d+0,none⟩)) ?_ ⟨l,hl,rfl⟩
    rw[h1]
    exact Go.Lib.run_to_unsafe w ⟨l.b,l.d+0,none⟩ hs hd hj (by omega) (Sx g1) (by show l.d+0<c'.size;omega)
   ·cases h
  ·cases h
 ·cases h
theorem Zs1(hh:bo P μ w st)(hr:RR μ r n a.tmps){src dst u:TypeId}{x:Operand}{s:Src}{z:Nat}(hs:P.underlying src=some .unsafePointer)(hd:P.underlying dst=some (.pointer u))(hz:eg P u=some (z+1))
  (hx:bu P x=some s) (h:BA (some (u,z+1)) s call r st=some (v,av)):bg P μ w st (do pure (.value (<-convert src dst (a.eval x)))) v av:=by
 unfold BA at h
 split at h
 ·rename_i i hm
  obtain⟨l,hl,h1⟩:=cF hh hr hx hm
  split at h
  ·rename_i c e' ar
   simp only[]at h
   split at h
   ·rename_i aD
    obtain⟨rfl,_,hle⟩:=aD
    simp only[aj,bq]at h
    obtain⟨rfl,rfl⟩:=h
    obtain⟨c',lo,hi,g1,g2,g3,_,_,g6⟩:=hh.row hl ar
    have oO:=(g6 rfl).1
    obtain⟨j,hj,hjs⟩:=Yh hz
    have Yi:=Yg hz
    refine bg.value hh (x:=.pointer (some ⟨l.b,l.d+0,none⟩)) ?_ ⟨l,hl,rfl⟩
    rw[h1]
    refine Go.Lib.run_from_unsafe w ⟨l.b,l.d+0,none⟩ hs hd hj (Sx g1) ?_
    show liesAt P P.depth e' (c'.size/P.cellsOf e') (l.d+0) e' 1=true
    rw[oO]
    refine Zuc Yi _ ?_
    rw[Yi]
    exact Nat.div_pos (by omega) (by omega)
   ·cases h
  ·cases h
 ·cases h
theorem Yey(hh:bo P μ w st)(hr:RR μ r n a.tmps){ts:Array TypeId}{ty:TypeId}{x:Operand}{s:Src}
  (hx:bu P x=some s) (h:F9 s call r st=some (v,av)):bg P μ w st (do pure (.value (<-Builtin.unsafeSliceData_ ts ty #[a.eval x]))) v av:=by
 unfold F9 at h
 split at h
 ·rename_i i o len cap sz hm
  obtain⟨l,c,hl,h1,zc,_⟩:=cF hh hr hx hm
  split at h
  ·rename_i aD
   simp only[aj,bq]at h
   obtain⟨rfl,rfl⟩:=h
   refine bg.value hh (x:=.pointer (some ⟨l.b,l.d+o,none⟩)) ?_ ⟨l,hl,rfl⟩
   rw[h1]
   exact Go.Lib.run_unsafeSliceData_row w ts ty _ _ _ (by omega)
  ·cases h
 ·cases h
theorem Yj:∀{vs:List V} {s:List UInt8},Dq vs=some s->vs.length=s.length/\∀(j:Nat) (b:UInt8),s[j]?=some b->vs[j]?=some (.int .u8 b.toNat)
 |[],s,h=>by
  simp only[Dq,aj]at h;subst h
  exact⟨rfl,fun j b hb=>by simp at hb⟩
 |v::vs,s,h=>by
  simp only[Dq]at h
  split at h
  ·rename_i b s' hb hs
   simp only[aj]at h;subst h
   obtain⟨h1,h2⟩:=Yj hs
   refine⟨by simp[h1],fun j c hc=>?_⟩
   cases j with
   |zero=>
    simp only[yC,aj]at hc;subst hc
    cases v<;>simp only[LM,reduceCtorEq]at hb
    rename_i k m
    cases k<;>simp only[reduceCtorEq]at hb
    split at hb
    ·rename_i hm
     simp only[aj]at hb;subst hb
     simp only[yC,aj,V.int.injEq,true_and]
     have:m.toNat<256:=by omega
     simp[Nat.toUInt8]
     omega
    ·cases hb
   |succ j=>
    simp only[Bh]at hc ⊢
    exact h2 j c hc
  ·cases h
theorem Yi9(hh:bo P μ w st)(hr:RR μ r n a.tmps){pt it ty e:TypeId}{x y:Operand}{s q:Src}(hp:P.underlying pt=some (.pointer e))(hz:eg P e=some 1)(hx:bu P x=some s)(hy:bu P y=some q)
  (h:Ga e s q call r st=some (v,av)):bg P μ w st (do pure (.value (<-Builtin.unsafeString_ #[pt,it] ty #[a.eval x,a.eval y]))) v av:=by
 unfold Ga at h
 split at h
 ·rename_i i k hm hq
  obtain⟨l,hl,h1⟩:=cF hh hr hx hm
  have h2:=cF hh hr hy hq
  simp only[VR]at h2
  split at h
  ·rename_i hk
   split at h
   ·rename_i c e' ar
    split at h
    ·rename_i he
     subst he
     split at h
     ·rename_i xc qL
      split at h
      ·rename_i str Sy
       simp only[aj,bq]at h
       obtain⟨rfl,rfl⟩:=h
       obtain⟨c',lo,hi,g1,g2,g3,g4,g5,g6⟩:=hh.row hl ar
       have oO:=(g6 rfl).1
       obtain⟨b1,b2⟩:=Yj Sy
       obtain⟨xs,nJ,Ah,ue,fB,_⟩:=(hh.row hl ar).xc qL
       have cg:str.length=k.toNat:=by have:=nJ.length;omega
       have hle:k.toNat<=c.length:=by
        unfold aJ at qL
        split at qL
        ·omega
        ·cases qL
       have WX:k=(str.length:Int):=by omega
       have bJ:str≠[]:=by intro h0;rw[h0]at cg;simp at cg;omega
       have fY:∀(j:Nat) (b:UInt8),str[j]?=some b->w.cell? ((⟨l.b,0,none⟩:Addr).add j)=some (.int .u8 b.toNat):=by
        intro j b hb
        have hv:=b2 j b hb
        obtain⟨y,qh,uf⟩:=nJ.get hv
        simp only[VR]at uf
        subst uf
        have:=fB j _ qh
        rw[uj]
        rw[oO,re]at this
        exact this
       have h63:str.length<=9223372036854775807:=by omega
       have bI:=Go.Lib.run_unsafeString_row (P:=P) w pt it ty e' hp (Yg hz) l.b c'.size (Sx g1) str bJ (by omega) h63 fY
       have hw:bB P μ w st μ (w.freeze ⟨l.b,0,none⟩ str.length) (st.write i (.cells c e' false)) [i]:=by
        have uw:str.length≠0:=by simpa using bJ
        have sh:(w.freeze ⟨l.b,0,none⟩ str.length).heap[l.b]?=some (.cells c' e' (if lo==hi then (0,0+str.length) else (min lo 0,max hi (0+str.length)))):=by
         simp[World.freeze,uw,Array.getElem?_modify,g1]
        obtain⟨lo',g_,IM⟩:∃p q,(if lo==hi then (0,0+str.length) else (min lo 0,max hi (0+str.length)))=(p,q):=⟨_,_,rfl⟩
        rw[IM]at sh
        refine bB.write hh hl (IB ar) rfl ?_ ?_ ?_ ?_ ?_ ⟨c',lo',g_,sh,g2,g3,g4,g5,fun hc=>by cases hc⟩
        ·simp[World.freeze,uw]
        ·simp[World.freeze,uw]
        ·simp[World.freeze,uw]
        ·simp[World.freeze,uw]
        ·intro b hb
         simp only[World.freeze,uw,if_false,Array.getElem?_modify]
         rw[au (fun h=>hb h.symm)]
       refine⟨.value (.string ⟨str.toArray⟩),_,_,μ,[i],?_,.inl rfl,rfl,hw⟩
       rw[h1,h2,oO,WX]
       simp[bI,Result.andThen]
      ·cases h
     ·cases h
    ·cases h
   ·cases h
  ·cases h
 ·cases h
end
end Go.Mx
