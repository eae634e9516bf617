/-The operations of M stand for the Go mod-/
import Derived.Test.YteojhfjdbpdolaaGreatDoorMxOp7
import Derived.Lib.Builder
import Derived.Lib.UnsafeStr
set_option linter.all false
namespace Go.Mx
open Go
set_option maxHeartbeats 2000000
def G7:Ext->Array Value->Sem Value
 |.gH=>add64Entry
 |.jC=>Go.Proofs.sub64Entry
 |.same=>Extern.AbiNoEscape.same
 |.bW=>Extern.BytealgIndexByte.indexByte
 |.lE=>fun _=>stuck "not taken"
def uy(P:Program):Prop:=∀(g:FuncId) (fn:Func) (e:Ext),P.funcs[g]?=some fn->fn.body.isSome=false->yU fn.name=some e->
 (fn.name== "runtime.NumGoroutine")=false/\Extern.findNext fn=none/\Extern.find fn=some (G7 e)
def Zk5(c:UInt8):∀(l:List UInt8),Go.Lib.indexByte l c= -1\/0<=Go.Lib.indexByte l c
 |[]=>.inl rfl
 |b::l=>by
  rcases Zk5 c l with h|h<;>simp only[Go.Lib.indexByte]<;>split<;>first|omega|(split<;>omega)
def Zox(c:UInt8):∀(l:List UInt8) (i:Nat),Gj c l i=if Go.Lib.indexByte l c= -1 then -1 else Go.Lib.indexByte l c+i
 |[],i=>by simp[Gj,Go.Lib.indexByte]
 |b::l,i=>by
  have h:=Zk5 c l
  simp only[Gj,Go.Lib.indexByte]
  split
  ·simp
  ·rw[Zox c l (i+1)]
   by_cases e:Go.Lib.indexByte l c= -1
   ·simp[e]
   ·have e':(Go.Lib.indexByte l c== -1)=false:=by simpa using e
    rw[ak e,e']
    simp only[fH,if_false]
    rw[ak (by omega)]
    omega
section
variable {P:Program} {μ:Mu} {w:World} {st aC:St} {r:T V} {n:Nat} {a:Act} {call:cI} {v:V}
def Ytu(hh:bm P μ w st)(hr:RR μ r n a.tmps)(hE:uy P){g:Nat}{fn:Func}{e:Ext}{xs:List Operand}{ss:List Src}(hg:P.funcs[g]?=some fn)(hb:fn.body.isSome=false)(he:yU fn.name=some e)
  (hx:vg P xs=some ss) (h:GD e ss call r st=some (v,aC)):ba P μ w st (callFunc g ⟨xs.map a.eval⟩) v aC:=by
 obtain⟨e1,e2,e3⟩:=hE g fn e hg hb he
 have bO:=run_callFunc_extern hg e1 (by simpa using hb) e2 e3 ⟨xs.map a.eval⟩ w
 have fin:∀x,(G7 e ⟨xs.map a.eval⟩).run P w=.ok x w->VR μ v x->aC=st->ba P μ w st (callFunc g ⟨xs.map a.eval⟩) v aC:=by
  intro x hx hv hs
  subst hs
  exact⟨.value x,x,w,μ,[],by rw[bO,hx];rfl,.inl rfl,hv,bH.refl hh⟩
 unfold GD at h
 cases hl:uw r ss with
 |none=>cases e<;>simp[hl]at h
 |some l=>
  have hv:=G6 hh hr hx hl
  have vL:∀u,Ct e l=some u->(G7 e ⟨xs.map a.eval⟩).run P w=.ok (match u with|.aX [.int .u64 p,.int .u64 q]=>.tuple #[.int .u64 p,.int .u64 q]|.int k m=>.int k m|_=>undef) w/\
    VR μ u (match u with|.aX [.int .u64 p,.int .u64 q]=>.tuple #[.int .u64 p,.int .u64 q]|.int k m=>.int k m|_=>undef):=by
   intro u hu
   unfold Ct at hu
   split at hu
   ·rename_i x y c
    split at hu
    ·cases hu
    ·rename_i hc
     simp only[al]at hu;subst hu
     simp only[aV,VR]at hv
     obtain⟨_,_,h1,rfl,_,_,rfl,rfl,_,_,rfl,rfl,rfl⟩:=hv
     rw[h1]
     refine⟨?_,by simp[VR,aV]⟩
     have pn:c=0\/c=1:=Decidable.not_not.1 hc
     rcases pn with rfl|rfl<;>rfl
   ·rename_i x y c
    split at hu
    ·cases hu
    ·rename_i hc
     simp only[al]at hu;subst hu
     simp only[aV,VR]at hv
     obtain⟨_,_,h1,rfl,_,_,rfl,rfl,_,_,rfl,rfl,rfl⟩:=hv
     rw[h1]
     refine⟨?_,by simp[VR,aV]⟩
     have pn:c=0\/c=1:=Decidable.not_not.1 hc
     have hi:∀(p:Prop) [Decidable p],((if p then 1 else 0:Int))=Int.ofNat (if p then 1 else 0):=fun p _=>by split<;>rfl
     rcases pn with rfl|rfl<;>rw[hi]<;>rfl
   ·rename_i s c
    simp only[al]at hu;subst hu
    simp only[aV,VR]at hv
    obtain⟨_,_,h1,rfl,_,_,rfl,rfl,rfl⟩:=hv
    rw[h1]
    refine⟨?_,by simp[VR]⟩
    have:=Go.Lib.run_indexByteString (P:=P) ⟨s.toArray⟩ c w
    show (Extern.BytealgIndexByte.indexByte #[.string ⟨s.toArray⟩,.int .u8 c]).run P w=_
    rw[this,Zox]
    simp only[]
    congr 2
    split
    ·rename_i e;exact e
    ·simp
   ·cases hu
  cases e with
  |same=>
   rcases l with _|⟨u,_|⟨u',l⟩⟩<;>simp[hl,Ct]at h
   obtain⟨rfl,rfl⟩:=h
   obtain⟨y,ys,p9,h1,h2⟩:=lD.1 hv
   simp only[aV]at h2;subst h2
   refine fin y ?_ h1 rfl
   rw[p9];rfl
  |gH=>
   simp only[hl]at h
   split at h
   ·rename_i u hu
    simp only[al,bu]at h
    obtain⟨rfl,rfl⟩:=h
    exact fin _ (vL _ hu).1 (vL _ hu).2 rfl
   ·cases h
  |jC=>
   simp only[hl]at h
   split at h
   ·rename_i u hu
    simp only[al,bu]at h
    obtain⟨rfl,rfl⟩:=h
    exact fin _ (vL _ hu).1 (vL _ hu).2 rfl
   ·cases h
  |bW=>
   simp only[hl]at h
   split at h
   ·rename_i u hu
    simp only[al,bu]at h
    obtain⟨rfl,rfl⟩:=h
    exact fin _ (vL _ hu).1 (vL _ hu).2 rfl
   ·cases h
  |lE=>simp[hl,Ct]at h
def Zmi(hh:bm P μ w st){size:Nat}{u:V}{X:Value}(hx:VR μ u X){m:Nat}{xs:List V}(h:eL st size u=some (m,xs)):
  (Builtin.lenOf X).run P w=.ok m w/\xs.length=m*size/\∃ys,aV μ xs ys/\(∀y∈ys,y.oneCell'=true)/\
   ∀w':World,w'.heap=w.heap->∀k,k<=m->(Builtin.firstCells size k X).run P w'=.ok ⟨ys.take (k*size)⟩ w':=by
 unfold eL at h
 split at h
 ·simp only[al,bu]at h
  obtain⟨rfl,rfl⟩:=h
  simp only[VR]at hx;subst hx
  exact⟨by simp[Builtin.lenOf],by simp,[],by simp[aV],by simp,fun w' _ k hk=>by simp[Builtin.firstCells]⟩
 ·simp only[al,bu]at h
  obtain⟨rfl,rfl⟩:=h
  obtain⟨b,c,rfl⟩:=hx
  refine⟨by simp[Builtin.lenOf],by simp,[],by simp[aV],by simp,fun w' _ k hk=>?_⟩
  have uX:k=0:=by omega
  subst uX
  have:=run_firstCells_some (P:=P) w' size 0 b 0 c [] (by simp) (by simp)
  simpa using this
 ·rename_i j p m' _ sz
  obtain⟨l,c,hl,rfl,_⟩:=hx
  split at h
  ·split at h
   ·rename_i cs _ _ aq
    split at h
    ·rename_i Ad tA
     simp only[al,bu]at h
     obtain⟨rfl,rfl⟩:=h
     obtain⟨ys,g1,g2,g3,g4,g5⟩:=(hh.row hl aq).Ad tA
     refine⟨by simp[Builtin.lenOf],by rw[<-g1.length,g2],ys,g1,g5,fun w' vQ k hk=>?_⟩
     have uc:k*size<=m'*size:=jB _ hk
     refine run_firstCells_some (P:=P) w' size k _ m' c (ys.take (k*size)) (by rw[gD,g2];exact pV uc) fun i y hy=>?_
     rw[xz]
     rw[iz]at hy
     split at hy
     ·have:=g4 i y hy
      simpa[World.cell?,vQ]using this
     ·cases hy
    ·cases h
   ·cases h
  ·cases h
 ·rename_i s
  split at h
  ·rename_i zi
   subst zi
   simp only[al,bu]at h
   obtain⟨rfl,rfl⟩:=h
   simp only[VR]at hx;subst hx
   have kM:(⟨s.toArray⟩:ByteArray).size=s.length:=rfl
   refine⟨by simp[Builtin.lenOf,kM, -ByteArray.size_data],by simp,s.map (fun b=>.int .u8 b.toNat),?_,by simp;intro y _;rfl,fun w' _ k hk=>?_⟩
   ·refine aV.q_ (by simp) fun i y hy=>?_
    simp only[eY,ki]at hy
    obtain⟨b,hb,rfl⟩:=hy
    exact⟨_,by simp[hb];rfl,by simp[VR]⟩
   ·simp only[Builtin.firstCells,Sem.run_pure,yZ]
    congr 1
    apply Array.ext'
    simp
  ·cases h
 ·cases h
def Zf8(a:Addr)(i:Nat):(storeCells a [] i).run P w=.ok () w:=by simp[storeCells]
def Yqz(hh:bm P μ w st)(hr:RR μ r n a.tmps){ts:Array TypeId}{t ty e:TypeId}{size:Nat}{x y:Operand}{sd ss:Src}(oZ:ts[0]?=some t)(ht:P.underlying t=some (.slice e))(hs:e_ P e=some size)
  (hx:bB P x=some sd) (hy:bB P y=some ss) (h:Cz size sd ss call r st=some (v,aC)):
  ba P μ w st (do pure (.value (<-Builtin.copy_ ts ty #[a.eval x,a.eval y]))) v aC:=by
 unfold Cz at h
 split at h
 ·rename_i d s hd EF
  have h1:=cX hh hr hx hd
  have h2:=cX hh hr hy EF
  split at h
  ·rename_i m xs A7
   obtain⟨g1,g2,ys,g3,g4,g5⟩:=Zmi hh h2 A7
   have LJ:=g3.length
   split at h
   ·simp only[al,bu]at h
    obtain⟨rfl,rfl⟩:=h
    simp only[VR]at h1
    refine ba.value hh (x:=.int .i64 0) ?_ (by simp[VR])
    have hf:=g5 w rfl 0 (tX _)
    simp[Builtin.copy_,oZ,h1,run_underlying ht,g1,yv hs,hf,Result.andThen,goInt]
   ·rename_i i o len cap sz
    obtain⟨l,c,hl,h1,zm,Ay,_⟩:=h1
    split at h
    ·cases h
    ·rename_i kM
     have hf:=g5 w rfl (min m len) (Nat.min_le_left _ _)
     simp only at h
     split at h
     ·rename_i hk
      simp only[al,bu]at h
      obtain⟨rfl,rfl⟩:=h
      refine ba.value hh (x:=.int .i64 0) ?_ (by simp[VR])
      have tB:Nat.min m len=0:=hk
      rw[hk]at hf
      simp[Builtin.copy_,oZ,h1,run_underlying ht,g1,yv hs,hf,Result.andThen,goInt,tB,Zf8]
     ·rename_i hk
      split at h
      ·rename_i cs e' aq
       split at h
       ·rename_i hle
        simp only[al,bu]at h
        obtain⟨rfl,rfl⟩:=h
        have uc:min m len*size<=m*size:=jB _ (Nat.min_le_left _ _)
        obtain⟨w',hw,dM⟩:=QU (o:=o) hh hl aq (g3.take (min m len*size)) (fun q hq=>g4 q (wW hq)) (by rw[gD,g2,pV uc];exact hle)
        refine⟨.value (.int .i64 (min m len:Nat)),_,w',μ,[i],?_,.inl rfl,by simp[VR],dM⟩
        have tB:Nat.min m len=min m len:=rfl
        simp only[Builtin.copy_,oZ,h1,Sem.run_bind,run_underlying ht,g1,yv hs,Result.andThen_ok,tB,hf,hw,goInt,Sem.run_pure,List.getElem?_toArray,Bl,D5]
       ·cases h
      ·cases h
   ·cases h
  ·cases h
 ·cases h
def Zjc(z:Array Value)(k:Nat):Builtin.zeroCells z k=madeCells z (k*z.size):=rfl
def Yuv(hh:bm P μ w st)(hr:RR μ r n a.tmps){t ty e:TypeId}{size:Nat}{z:V}{x:Operand}{s:Src}(ht:P.underlying t=some (.slice e))(hz:qX P e=some z)(gl:z.cells.all V.one=true)
  (hx:bB P x=some s) (h:Jo size z.cells s call r st=some (v,aC)):
  ba P μ w st (do pure (.value (<-Builtin.clear_ #[t] ty #[a.eval x]))) v aC:=by
 unfold Jo at h
 split at h
 ·rename_i hm
  simp only[al,bu]at h
  obtain⟨rfl,rfl⟩:=h
  have h1:=cX hh hr hx hm
  simp only[VR]at h1
  exact ba.value hh (x:=.tuple #[]) (by simp[Builtin.clear_,h1,run_underlying ht]) ⟨[],rfl,by simp[aV]⟩
 ·rename_i hm
  simp only[al,bu]at h
  obtain⟨rfl,rfl⟩:=h
  obtain⟨b,c,h1⟩:=cX hh hr hx hm
  exact ba.value hh (x:=.tuple #[]) (by simp[Builtin.clear_,h1,run_underlying ht]) ⟨[],rfl,by simp[aV]⟩
 ·rename_i i o len cap sz hm
  obtain⟨l,c,hl,h1,_⟩:=cX hh hr hx hm
  split at h
  ·rename_i h0
   subst h0
   simp only[al,bu]at h
   obtain⟨rfl,rfl⟩:=h
   exact ba.value hh (x:=.tuple #[]) (by simp[Builtin.clear_,h1,run_underlying ht]) ⟨[],rfl,by simp[aV]⟩
  ·rename_i h0
   split at h
   ·cases h
   ·rename_i cP
    simp only[not_or,Decidable.not_not]at cP
    split at h
    ·rename_i cs e' aq
     split at h
     ·rename_i hle
      simp only[al,bu]at h
      obtain⟨rfl,rfl⟩:=h
      obtain⟨inf,zx,hi,qa,BF⟩:=G8 hz
      have oo:=QV (BF μ).cells len
      have hlen:z.cells.length=zx.cells.size:=by rw[<-(BF μ).cells.length];simp
      obtain⟨w',hw,dM⟩:=QU (o:=o) hh hl aq oo (Xq gl len oo) (by rw[Zno,cP.2.2];exact hle)
      refine⟨.value (.tuple #[]),_,w',μ,[i],?_,.inl rfl,⟨[],rfl,by simp[aV]⟩,dM⟩
      have CW:Builtin.zeroCells zx.cells len=madeCells ⟨zx.cells.toList⟩ (len*z.cells.length):=by rw[Zjc,hlen]
      have hrz:(zeroValue e).run P w=.ok zx w:=by simp[zeroValue,typeInfo,hi,qa]
      obtain⟨zaD,rfl⟩:∃q,len=q+1:=⟨len-1,by omega⟩
      simp[Builtin.clear_,h1,run_underlying ht,hrz,CW,hw,Result.andThen]
     ·cases h
    ·cases h
 ·cases h
def QW{ts:Array TypeId}{t u ty e:TypeId}{d:TypeDesc}{size m sLen sCap:Nat}{base:Option Addr}{X:Value}{ys:List Value}(oZ:ts[0]?=some t)(ht:P.underlying t=some (.slice e))(lF:ts[1]?=some u)(hu:P.underlying u=some d)
  (hd:∀k,d≠.int k) (hs:e_ P e=some size) (hlen:(Builtin.lenOf X).run P w=.ok m w) (hf:(Builtin.firstCells size m X).run P w=.ok ⟨ys⟩ w) (hle:sLen+m<=sCap)
  {w':World} (dM:(match base with|some a=>storeCells (a.add (sLen*size)) ys|none=>pure ():Sem Unit).run P w=.ok () w'):
  (Builtin.append_ ts ty #[.slice base sLen sCap,X]).run P w=.ok (.slice base (sLen+m) sCap) w':=by
 cases base with
 |none=>
  simp only[Sem.run_pure,Result.ok.injEq,true_and]at dM
  subst dM
  cases d<;>first|exact absurd rfl (hd _)|simp[Builtin.append_,oZ,run_underlying ht,lF,run_underlying hu,yv hs,Result.andThen,hlen,hf,hle]
 |some b=>
  simp only at dM
  cases d<;>first|exact absurd rfl (hd _)|simp[Builtin.append_,oZ,run_underlying ht,lF,run_underlying hu,yv hs,Result.andThen,hlen,hf,hle,dM]
def Zmx{ts:Array TypeId}{t u ty e:TypeId}{d:TypeDesc}{inf:TypeInfo}{zx:Value}{m sLen sCap:Nat}{base:Option Addr}{X:Value}{os ys:List Value}(oZ:ts[0]?=some t)(ht:P.underlying t=some (.slice e))(lF:ts[1]?=some u)(hu:P.underlying u=some d)
  (hd:∀k,d≠.int k) (hi:P.info? e=some inf) (hz:inf.zero=some zx) (hlen:(Builtin.lenOf X).run P w=.ok m w) (hf:(Builtin.firstCells inf.size m X).run P w.drew=.ok ⟨ys⟩ w.drew)
  (LK:(Builtin.firstCells inf.size sLen (.slice base sLen sCap)).run P w.drew=.ok ⟨os⟩ w.drew) (hle:¬sLen+m<=sCap) (hb:inf.bytes≠0) (Az:2*(sLen+m)*inf.bytes<=2^48):
  (Builtin.append_ ts ty #[.slice base sLen sCap,X]).run P w=.ok (.slice (some ⟨w.heap.size,0,none⟩) (sLen+m) (grownCap w (sLen+m) sCap e))
   (w.drew.alloc (.cells ⟨os++ys++(Builtin.zeroCells zx.cells (grownCap w (sLen+m) sCap e-(sLen+m))).toList⟩ e)):=by
 have hgr:Builtin.nextslicecap (sLen+m) sCap*inf.bytes<=2^48:=by
  have h1:Builtin.nextslicecap (sLen+m) sCap*inf.bytes<=2*(sLen+m)*inf.bytes:=jB _ (nextslicecap_le (by omega))
  omega
 have Xr:¬(281474976710656<Builtin.nextslicecap (sLen+m) sCap*inf.bytes):=by omega
 cases d<;>first|exact absurd rfl (hd _)|simp[Builtin.append_,oZ,run_underlying ht,lF,run_underlying hu,sizeOf,typeInfo,zeroValue,hi,hz,Result.andThen,hlen,hf,LK,hle,hb,Xr,Question.forced,newRow,grownCap]<;>(congr 2;apply Array.ext';simp)
def Zq8(hh:bm P μ w st){ts:Array TypeId}{t u ty e:TypeId}{d:TypeDesc}{size b m sLen sCap:Nat}{z:V}{base:Option Addr}{X:Value}{os ys:List Value}{co cx:List V}
  (oZ:ts[0]?=some t) (ht:P.underlying t=some (.slice e)) (lF:ts[1]?=some u) (hu:P.underlying u=some d) (hd:∀k,d≠.int k)
  (hs:e_ P e=some size) (hb:Ci P e=some b) (hz:qX P e=some z) (LL:z.cells.length=size) (gl:z.cells.all V.one=true) (ui:size≠0)
  (hlen:(Builtin.lenOf X).run P w=.ok m w) (hf:(Builtin.firstCells size m X).run P w.drew=.ok ⟨ys⟩ w.drew)
  (LK:(Builtin.firstCells size sLen (.slice base sLen sCap)).run P w.drew=.ok ⟨os⟩ w.drew) (hle:¬sLen+m<=sCap) (lG:b≠0) (Az:2*(sLen+m)*b<=2^48)
  (ho:aV μ co os) (hx:aV μ cx ys) (Bk:∀y∈os,y.oneCell'=true) (Av:∀y∈ys,y.oneCell'=true) (gV:co.length=sLen*size) (yS:cx.length=m*size):
  ∃μ' w' c,(Builtin.append_ ts ty #[.slice base sLen sCap,X]).run P w=.ok (.slice (some ⟨w.heap.size,0,none⟩) (sLen+m) c) w'/\VR μ' (.slice st.n 0 (sLen+m) none size) (.slice (some ⟨w.heap.size,0,none⟩) (sLen+m) c)/\
   bH P μ w st μ' w' (st.alloc (.cells (co++cx) e true)) []:=by
 obtain⟨inf,zx,hi,qa,BF⟩:=G8 hz
 have kM:inf.size=size:=by unfold e_ at hs;simpa[hi]using hs
 have hbz:inf.bytes=b:=by unfold Ci at hb;simpa[hi]using hb
 have LM:zx.cells.size=size:=by rw[<-LL,<-(BF μ).cells.length];simp
 subst kM hbz
 have bO:=Zmx (P:=P) (w:=w) (ty:=ty) oZ ht lF hu hd hi qa hlen hf LK hle lG Az
 have CX:=grownCap_ge w (sLen+m) sCap e
 generalize grownCap w (sLen+m) sCap e=cap at bO CX
 have CW:(Builtin.zeroCells zx.cells (cap-(sLen+m))).toList.length=(cap-(sLen+m))*inf.size:=by simp[Builtin.zeroCells,LM]
 have oo:aV μ (cU z.cells (cap-(sLen+m))) (Builtin.zeroCells zx.cells (cap-(sLen+m))).toList:=by
  have:=QV (BF μ).cells (cap-(sLen+m))
  rw[Zjc]
  have e1:zx.cells.size=z.cells.length:=by rw[LM,LL]
  rw[e1]
  simpa using this
 have LN:=ho.length
 have LP:=hx.length
 have Ay:(os++ys++(Builtin.zeroCells zx.cells (cap-(sLen+m))).toList).length=cap*inf.size:=by
  rw[iI,iI,CW,LN,LP,gV,yS,<-iZ,<-iZ]
  congr 1;omega
 refine⟨_,_,cap,bO,?_,(bH.newRow hh.EG (cs:=co++cx) (xs:=os++ys++(Builtin.zeroCells zx.cells (cap-(sLen+m))).toList) (lo:=0) (hi:=0) ?_ ?_ ?_ ?_).AA⟩
 ·simp only[VR]
  refine⟨⟨w.heap.size,0,(os++ys++(Builtin.zeroCells zx.cells (cap-(sLen+m))).toList).length⟩,cap,by exact av trivial,by simp,CX,?_,by simp,fun _=>?_⟩
  ·show 0+cap*inf.size<=(os++ys++(Builtin.zeroCells zx.cells (cap-(sLen+m))).toList).length
   omega
  ·show 0+cap*inf.size=(os++ys++(Builtin.zeroCells zx.cells (cap-(sLen+m))).toList).length
   omega
 ·rw[iI,iI,iI,LN,LP];omega
 ·intro j u' mQ
  obtain⟨y,h1,h2⟩:=(ho.append hx).get mQ
  exact⟨y,by rw[iM (wP.1 h1).1];exact h1,h2⟩
 ·intro y hy
  simp only[mE]at hy
  rcases hy with(hy|hy)|hy
  ·exact Bk y hy
  ·exact Av y hy
  ·exact Xq gl _ oo y hy
 ·exact .inr (aM _)
def bH.G9{w':World}(h:bm P μ w st){i:Nat}{l l':L}{o o':O}(hi:μ i=some l)(ho:st.h.get i=some o)(hw:o.wr=true)
  (zX:w'.os=w.os) (V8:w'.tape=w.tape) (V9:w'.output=w.output) (kM:w'.heap.size=w.heap.size) (ra:∀b,b≠l.b->w'.heap[b]?=w.heap[b]?) (sK:l'.b=l.b)
  (xe:OM P (fun j=>if j=st.n then some l' else μ j) w' o' l'):
  bH P μ w st (fun j=>if j=st.n then some l' else μ j) w' ((st.write i .dead).alloc o') [i]:=by
 have xf:o.live=true:=by cases o<;>simp_all [O.wr,O.live]
 have Bj:=(h.dc i l hi).1
 have js:=(h.dc i l hi).2
 have dC:∀j lj,μ j=some lj->(fun j=>if j=st.n then some l' else μ j) j=some lj:=fun j lj hj=>by
  have:=(h.dc j lj hj).1
  show (if j=st.n then some l' else μ j)=some lj
  rw[ak (by omega)];exact hj
 have cO:∀j,((st.write i .dead).alloc o').h.get j=if j=st.n then some o' else if j=i then some .dead else st.h.get j:=fun j=>by
  simp only[St.alloc,St.write,T.ag]
 refine⟨⟨fun j lj hj=>?_,fun j lj hj=>?_,fun j k lj lk oj ok hj hk aW h1 h2 Jb fM=>?_,fun g hg=>let ⟨t,ht⟩:=h.gK g hg;⟨t,dC g _ ht⟩⟩,fun j hj=>?_,by simp[St.alloc,St.write],rfl,⟨zX,V8,V9,by omega,fun b _ dB=>ra b ?_⟩,
  fun j lj hn hj=>?_,fun j hj dB=>?_,fun j oj hn hj=>?_,fun j h1 h2=>⟨l',by simp only[St.alloc,St.write]at h2;show (if j=st.n then some l' else μ j)=some l';rw[av (by omega)]⟩,fun j hj _=>by simp only[wR]at hj;subst hj;exact⟨o,ho,hw⟩⟩
 ·replace hj:(if j=st.n then some l' else μ j)=some lj:=hj
  split at hj
  ·rename_i e
   simp only[al]at hj;subst hj
   simp[St.alloc,St.write];omega
  ·have:=h.dc j lj hj
   simp[St.alloc,St.write];omega
 ·replace hj:(if j=st.n then some l' else μ j)=some lj:=hj
  split at hj
  ·rename_i e
   simp only[al]at hj;subst hj
   exact⟨o',by rw[cO,av e],xe⟩
  ·rename_i e
   by_cases e2:j=i
   ·exact⟨.dead,by rw[cO,ak e,av e2],trivial⟩
   ·obtain⟨oj,h1,h2⟩:=h.obj j lj hj
    refine⟨oj,by rw[cO,ak e,ak e2];exact h1,?_⟩
    cases hl:oj.live
    ·cases oj<;>simp[O.live]at hl
     trivial
    ·exact(h2.mono dC).congr (ra lj.b (Ne.symm (h.inj i j l lj o oj hi hj (Ne.symm e2) ho h1 hw hl)))
 ·rw[cO]at h1 h2
  replace hj:(if j=st.n then some l' else μ j)=some lj:=hj
  replace hk:(if k=st.n then some l' else μ k)=some lk:=hk
  by_cases e1:j=st.n
  ·rw[av e1]at hj h1
   simp only[al]at hj h1
   subst hj h1
   by_cases e2:k=st.n
   ·exact absurd (e1.trans e2.symm) aW
   ·rw[ak e2]at hk h2
    by_cases e3:k=i
    ·rw[av e3,al]at h2;subst h2;simp[O.live]at fM
    ·rw[ak e3]at h2
     rw[sK]
     exact h.inj i k l lk o ok hi hk (Ne.symm e3) ho h2 hw fM
  ·rw[ak e1]at hj h1
   by_cases e3:j=i
   ·rw[av e3,al]at h1;subst h1;simp[O.wr]at Jb
   ·rw[ak e3]at h1
    by_cases e2:k=st.n
    ·rw[av e2]at hk h2
     simp only[al]at hk h2
     subst hk h2
     rw[sK]
     exact h.inj j i lj l oj o hj hi e3 h1 ho Jb xf
    ·rw[ak e2]at hk h2
     by_cases e4:k=i
     ·rw[av e4,al]at h2;subst h2;simp[O.live]at fM
     ·rw[ak e4]at h2
      exact h.inj j k lj lk oj ok hj hk aW h1 h2 Jb fM
 ·show (if j=st.n then some l' else μ j)=μ j
  rw[ak (by omega)]
 ·exact Ne.symm (dB i (by simp) l hi)
 ·replace hj:(if j=st.n then some l' else μ j)=some lj:=hj
  split at hj
  ·simp only[al]at hj;subst hj
   exact .inr ⟨i,by simp,Bj,l,o,hi,sK.symm,ho,hw⟩
  ·exact absurd (h.dc j lj hj).1 (by omega)
 ·simp only[wR]at dB
  rw[cO,ak (by omega),ak dB]
 ·rw[cO,ak (by omega)]at hj
  split at hj
  ·rename_i e
   subst e
   simp only[al]at hj;subst hj
   exact⟨o,ho,by simp[O.wr],by simp[O.live]⟩
  ·exact⟨oj,hj,id,id⟩
def bH.kill(h:bm P μ w st){i:Nat}{l:L}{o:O}(hi:μ i=some l)(ho:st.h.get i=some o)(hw:o.wr=true):bH P μ w st μ w (st.write i .dead) [i]:=
 bH.write h hi ho hw rfl rfl rfl rfl (fun _ _=>rfl) trivial
def Yhb(hh:bm P μ w st)(hr:RR μ r n a.tmps){ts:Array TypeId}{t u ty e:TypeId}{d:TypeDesc}{size b:Nat}{z:V}{x y:Operand}{s sx:Src}
  (oZ:ts[0]?=some t) (ht:P.underlying t=some (.slice e)) (lF:ts[1]?=some u) (hu:P.underlying u=some d) (hd:∀k,d≠.int k)
  (hs:e_ P e=some size) (hb:Ci P e=some b) (hz:qX P e=some z) (LL:z.cells.length=size) (gl:z.cells.all V.one=true) (lG:b≠0)
  (hx:bB P x=some s) (hy:bB P y=some sx) (h:Cy size b e z.cells s sx call r st=some (v,aC)):
  ba P μ w st (do pure (.value (<-Builtin.append_ ts ty #[a.eval x,a.eval y]))) v aC:=by
 unfold Cy at h
 split at h
 ·rename_i sv xv hsv BC
  have h1:=cX hh hr hx hsv
  have h2:=cX hh hr hy BC
  unfold fY at h
  split at h
  ·cases h
  ·rename_i m xs A7
   obtain⟨g1,g2,ys,g3,g4,g5⟩:=Zmi hh h2 A7
   have LJ:=g3.length
   have hyt:ys.take (m*size)=ys:=fe (by omega)
   have gf:∀w':World,w'.heap=w.heap->(Builtin.firstCells size m (a.eval y)).run P w'=.ok ⟨ys⟩ w':=fun w' vQ=>by rw[g5 w' vQ m (aM _),hyt]
   split at h
   ·-- a nil slice
    simp only[VR]at h1
    split at h
    ·rename_i ix
     subst ix
     simp only[al,bu]at h
     obtain⟨rfl,rfl⟩:=h
     refine ba.value hh (x:=.slice none 0 0) ?_ (by simp[VR])
     rw[h1]
     exact QW (base:=none) oZ ht lF hu hd hs g1 (gf w rfl) (aM _) (by simp)
    ·rename_i ix
     split at h
     ·rename_i hc
      simp only[al,bu]at h
      obtain⟨rfl,rfl⟩:=h
      obtain⟨μ',w',c,k1,k2,k3⟩:=Zq8 (P:=P) (w:=w) (ty:=ty) (sLen:=0) (sCap:=0) (base:=none) (X:=a.eval y) (os:=[]) (co:=[]) hh oZ ht lF hu hd hs hb hz LL gl hc.2 g1 (gf w.drew rfl) (by simp[Builtin.firstCells]) (by omega) lG
       (by have:=hc.1;unfold tZ at this;simpa using this) (by simp[aV]) g3 (by simp) g4 (by simp) g2
      refine⟨.value (.slice (some ⟨w.heap.size,0,none⟩) (0+m) c),_,w',μ',[],?_,.inl rfl,?_,?_⟩
      ·rw[h1];simp only[Sem.run_bind,k1,Result.andThen_ok,Sem.run_pure]
      ·simpa using k2
      ·simpa using k3
     ·cases h
   ·-- a slice
    rename_i i o len cap sz
    have fI:=h1
    obtain⟨l,c,hl,h1,zm,Ay,hk,CY⟩:=h1
    split at h
    ·rename_i ix
     subst ix
     split at h
     ·simp only[al,bu]at h
      obtain⟨rfl,rfl⟩:=h
      refine ba.value hh (x:=a.eval x) ?_ fI
      have LI:ys=[]:=by
       apply qE
       omega
      rw[h1]
      have:=QW (P:=P) (w:=w) (w':=w) (ty:=ty) (base:=some ⟨l.b,l.d+o,none⟩) (sLen:=len) (sCap:=c) oZ ht lF hu hd hs g1 (gf w rfl) (by omega) (by simp only[LI];exact Zf8 _ _)
      simpa using this
     ·cases h
    ·rename_i ix
     split at h
     ·cases h
     ·rename_i cP
      simp only[not_or,Decidable.not_not,s_]at cP
      obtain⟨kM,ui,Az⟩:=cP
      subst kM
      unfold tZ at Az
      have inPlace:∀(cs:List V) (e':TypeId),st.row i=some (cs,e',true)->o+(len+m)*sz<=cs.length->len+m<=c->(∀k,cap=some k->c=k)->
        ba P μ w st (do pure (.value (<-Builtin.append_ ts ty #[a.eval x,a.eval y]))) (.slice i o (len+m) cap sz) (st.write i (.cells (ad cs (o+len*sz) xs) e' true)):=by
       intro cs e' aq hle CZ _
       have Xs:(len+m)*sz=len*sz+m*sz:=iZ ..
       obtain⟨w',hw,dM⟩:=QU (o:=o+len*sz) hh hl aq g3 g4 (by rw[g2];omega)
       have bO:=QW (P:=P) (w:=w) (w':=w') (ty:=ty) (base:=some ⟨l.b,l.d+o,none⟩) (sLen:=len) (sCap:=c) oZ ht lF hu hd hs g1 (gf w rfl) CZ (by
        simp only[xz];rw[oW];exact hw)
       refine⟨.value (.slice (some ⟨l.b,l.d+o,none⟩) (len+m) c),_,w',μ,[i],?_,.inl rfl,?_,dM⟩
       ·rw[h1];simp only[Sem.run_bind,bO,Result.andThen_ok,Sem.run_pure]
       ·simp only[VR];exact⟨l,c,hl,rfl,CZ,Ay,hk,CY⟩
      have fresh:∀(bY:St) (ws:List Nat) (cs old:List V) (e':TypeId) (pO:Bool),bH P μ w st μ w bY ws->bY.n=st.n->st.row i=some (cs,e',pO)->aF cs o (len*sz)=some old->¬len+m<=c->
        ba P μ w st (do pure (.value (<-Builtin.append_ ts ty #[a.eval x,a.eval y]))) (.slice st.n 0 (len+m) none sz) (bY.alloc (.cells (old++xs) e true)):=by
       intro bY ws cs old e' pO iy vR aq hold dB
       have zh:=hh.row hl aq
       obtain⟨os,q1,q2,q3,q4,q5⟩:=zh.Ad hold
       have LK:(Builtin.firstCells sz len (.slice (some ⟨l.b,l.d+o,none⟩) len c)).run P w.drew=.ok ⟨os⟩ w.drew:=by
        refine run_firstCells_some (P:=P) w.drew sz len _ len c os q2 fun j y hy=>?_
        rw[xz]
        exact q4 j y hy
       obtain⟨μ',w',c',k1,k2,k3⟩:=Zq8 (P:=P) (w:=w) (ty:=ty) (base:=some ⟨l.b,l.d+o,none⟩) (sLen:=len) (sCap:=c) iy.hr oZ ht lF hu hd hs hb hz LL gl ui g1 (gf w.drew rfl) LK dB lG Az q1 g3 q5 g4 (by rw[<-q1.length,q2]) g2
       refine⟨.value (.slice (some ⟨w.heap.size,0,none⟩) (len+m) c'),_,w',μ',[]++ws,?_,.inl rfl,?_,iy.trans k3⟩
       ·rw[h1];simp only[Sem.run_bind,k1,Result.andThen_ok,Sem.run_pure]
       ·rw[<-vR];exact k2
      split at h
      ·cases h
      ·rename_i cs e' pO aq
       split at h
       ·rename_i k
        have hck:=hk k rfl
        split at h
        ·rename_i hle
         split at h
         ·rename_i hc
          simp only[al,bu]at h
          obtain⟨rfl,rfl⟩:=h
          obtain⟨rfl,JG⟩:=hc
          exact inPlace cs e' aq JG (by omega) hk
         ·cases h
        ·rename_i hle
         split at h
         ·rename_i old hold
          simp only[al,bu]at h
          obtain⟨rfl,rfl⟩:=h
          exact fresh st [] cs old e' pO (bH.refl hh) rfl aq hold (by omega)
         ·cases h
       ·split at h
        ·rename_i II
         subst II
         have zh:=hh.row hl aq
         have hct:cs.length<=l.q9:=by obtain⟨_,_,_,_,_,h3,_⟩:=zh;exact h3
         have zaq:=CY rfl
         have Xs:(len+m)*sz=len*sz+m*sz:=iZ ..
         split at h
         ·rename_i hle
          simp only[al,bu]at h
          obtain⟨rfl,rfl⟩:=h
          refine inPlace cs e' aq hle ?_ hk
          have:(len+m)*sz<=c*sz:=by omega
          exact Nat.le_of_mul_le_mul_right this (by omega)
         ·split at h
          ·rename_i hle hc
           obtain⟨Ha,rfl,ho0⟩:=hc
           simp only[al,bu]at h
           obtain⟨rfl,rfl⟩:=h
           have hold:aF cs o (len*sz)=some (cs.drop o):=by
            unfold aF
            rw[av (by omega),fe (by simp;omega)]
           by_cases CZ:len+m<=c
           ·-- in place,above what is known
            obtain⟨c',lo,hi,q1,q2,q3,q4,q5,q6⟩:=zh
            obtain⟨cur⟩:=c'
            simp only[List.size_toArray]at q2
            have AB:(len+m)*sz<=c*sz:=jB _ CZ
            have W8:=Xt (P:=P) l.b (l.d+(o+len*sz)) e' lo hi ys 0 cur w q1 (by omega) g4 (fun j CQ od=>by
             have:=(q6 rfl).2 (j-l.d) (by omega)
             rw[show l.d+(j-l.d)=j by omega]at this
             exact this)
            have bO:=QW (P:=P) (w:=w) (ty:=ty) (base:=some ⟨l.b,l.d+o,none⟩) (sLen:=len) (sCap:=c) oZ ht lF hu hd hs g1 (gf w rfl) CZ (by
             simp only[xz];rw[oW];exact W8)
            have ra:=setRow_heap w l.b _ (⟨ad cur (l.d+(o+len*sz)+0) ys⟩:Array Value) e' _ q1
            have dC:∀j lj,μ j=some lj->(fun j=>if j=st.n then some (⟨l.b,l.d+o,l.q9-o⟩:L) else μ j) j=some lj:=fun j lj hj=>by
             have:=(hh.dc j lj hj).1
             simp only
             rw[ak (by omega)];exact hj
            refine⟨.value (.slice (some ⟨l.b,l.d+o,none⟩) (len+m) c),_,w.setRow l.b ⟨ad cur (l.d+(o+len*sz)+0) ys⟩,fun j=>if j=st.n then some ⟨l.b,l.d+o,l.q9-o⟩ else μ j,[i],?_,.inl rfl,?_,bH.G9 hh hl (LH aq) rfl rfl rfl rfl (by simp) (fun b hb=>setRow_other w l.b b _ hb) rfl ⟨_,lo,hi,ra,?_,?_,?_,?_,?_⟩⟩
            ·rw[h1];simp only[Sem.run_bind,bO,Result.andThen_ok,Sem.run_pure]
            ·simp only[VR]
             refine⟨⟨l.b,l.d+o,l.q9-o⟩,c,by simp,by simp,CZ,?_,by simp,fun _=>?_⟩
             ·show 0+c*sz<=l.q9-o
              omega
             ·show 0+c*sz=l.q9-o
              omega
            ·simp only[List.size_toArray]
             rw[QX (by omega)];omega
            ·simp only[iI,uQ];omega
            ·intro j u' mQ
             have e1:∀k:Nat,(⟨ad cur (l.d+(o+len*sz)+0) ys⟩:Array Value)[k]?=(ad cur (l.d+(o+len*sz)+0) ys)[k]?:=fun k=>by simp
             simp only
             rw[e1,JH (by omega)]
             rw[List.getElem?_append]at mQ
             split at mQ
             ·rename_i hj
              simp only[uQ]at hj
              rw[ff]at mQ
              obtain⟨y',p1,p2⟩:=q4 (o+j) u' mQ
              rw[ak (by omega)]
              refine⟨y',?_,VR.mono dC u' y' p2⟩
              rw[show l.d+o+j=l.d+(o+j) by omega]
              simpa using p1
             ·rename_i hj
              simp only[uQ]at hj mQ
              obtain⟨y',p1,p2⟩:=g3.get mQ
              have ay:=(wP.1 p1).1
              rw[av (by omega)]
              refine⟨y',?_,VR.mono dC u' y' p2⟩
              rw[show l.d+o+j-(l.d+(o+len*sz)+0)=j-(cs.length-o) by omega]
              exact p1
            ·intro j y' bb vO
             simp only at bb vO
             have e1:(⟨ad cur (l.d+(o+len*sz)+0) ys⟩:Array Value)[l.d+o+j]?=(ad cur (l.d+(o+len*sz)+0) ys)[l.d+o+j]?:=by simp
             rw[e1,JH (by omega)]at vO
             split at vO
             ·exact g4 y' (cG vO)
             ·exact q5 (o+j) y' (by omega) (by rw[show l.d+(o+j)=l.d+o+j by omega];simpa using vO)
            ·intro _
             refine⟨by have:=(q6 rfl).1;show l.d+o=0;omega,?_⟩
             intro j hj
             have:=(q6 rfl).2 (o+j) (by simp only at hj;omega)
             rw[show l.d+(o+j)=l.d+o+j by omega]at this
             exact this
           ·have LQ:=bH.kill hh hl (LH aq) rfl
            exact fresh (st.write i .dead) [i] cs (cs.drop o) e' true LQ rfl aq hold CZ
          ·cases h
        ·cases h
   ·cases h
 ·cases h
end
section
variable {P:Program} {μ:Mu} {w:World} {st aC:St} {r:T V} {n:Nat} {a:Act} {call:cI} {v:V}
def Xu{b:Nat}{c:Array Value}{e:TypeId}{f:Nat×Nat}(h:w.heap[b]?=some (.cells c e f)):w.shape? b=some (e,c.size):=by
 simp[World.shape?,h]
def Zli{t:TypeId}{z:Nat}(h:e_ P t=some z):P.cellsOf t=z:=by
 unfold e_ at h
 simp[Program.cellsOf,h]
def Zq0{t:TypeId}{z:Nat}(h:e_ P t=some z):∃j,P.info? t=some j/\j.size=z:=by
 unfold e_ at h
 simp only[ki]at h
 exact h
def Zwg{u:TypeId}{z:Nat}(hc:P.cellsOf u=z+1)(count:Nat)(hn:1<=count):liesAt P P.depth u count 0 u 1=true:=by
 have hd:P.depth=(2*(P.types.size+Made.depth)+1)+1:=rfl
 rw[hd]
 simp only[liesAt,Gg]
 left
 rw[hd]
 simp[rowAt,hc,sameLayout]
 left;omega
def Yck(hh:bm P μ w st)(hr:RR μ r n a.tmps){src dst t:TypeId}{x:Operand}{s:Src}{z:Nat}(hs:P.underlying src=some (.pointer t))(hd:P.underlying dst=some .unsafePointer)(hz:e_ P t=some (z+1))
  (hx:bB P x=some s) (h:CA none s call r st=some (v,aC)):ba P μ w st (do pure (.value (<-convert src dst (a.eval x)))) v aC:=by
 unfold CA at h
 split at h
 ·rename_i i hm
  obtain⟨l,hl,h1⟩:=cX hh hr hx hm
  split at h
  ·rename_i c e' aq
   simp only[]at h
   split at h
   ·rename_i ay
    simp only[al,bu]at h
    obtain⟨rfl,rfl⟩:=h
    obtain⟨c',lo,hi,g1,g2,g3,_,_,g6⟩:=hh.row hl aq
    have nY:=(g6 rfl).1
    obtain⟨j,hj,hjs⟩:=Zq0 hz
    refine ba.value hh (x:=.pointer (some ⟨l.b,l.d+0,none⟩)) ?_ ⟨l,hl,rfl⟩
    rw[h1]
    exact Go.Lib.run_to_unsafe w ⟨l.b,l.d+0,none⟩ hs hd hj (by omega) (Xu g1) (by show l.d+0<c'.size;omega)
   ·cases h
  ·cases h
 ·cases h
def Zu3(hh:bm P μ w st)(hr:RR μ r n a.tmps){src dst u:TypeId}{x:Operand}{s:Src}{z:Nat}(hs:P.underlying src=some .unsafePointer)(hd:P.underlying dst=some (.pointer u))(hz:e_ P u=some (z+1))
  (hx:bB P x=some s) (h:CA (some (u,z+1)) s call r st=some (v,aC)):ba P μ w st (do pure (.value (<-convert src dst (a.eval x)))) v aC:=by
 unfold CA at h
 split at h
 ·rename_i i hm
  obtain⟨l,hl,h1⟩:=cX hh hr hx hm
  split at h
  ·rename_i c e' aq
   simp only[]at h
   split at h
   ·rename_i ay
    obtain⟨rfl,_,hle⟩:=ay
    simp only[al,bu]at h
    obtain⟨rfl,rfl⟩:=h
    obtain⟨c',lo,hi,g1,g2,g3,_,_,g6⟩:=hh.row hl aq
    have nY:=(g6 rfl).1
    obtain⟨j,hj,hjs⟩:=Zq0 hz
    have hco:=Zli hz
    refine ba.value hh (x:=.pointer (some ⟨l.b,l.d+0,none⟩)) ?_ ⟨l,hl,rfl⟩
    rw[h1]
    refine Go.Lib.run_from_unsafe w ⟨l.b,l.d+0,none⟩ hs hd hj (Xu g1) ?_
    show liesAt P P.depth e' (c'.size/P.cellsOf e') (l.d+0) e' 1=true
    rw[nY]
    refine Zwg hco _ ?_
    rw[hco]
    exact Nat.div_pos (by omega) (by omega)
   ·cases h
  ·cases h
 ·cases h
def Yil(hh:bm P μ w st)(hr:RR μ r n a.tmps){ts:Array TypeId}{ty:TypeId}{x:Operand}{s:Src}
  (hx:bB P x=some s) (h:Jp s call r st=some (v,aC)):ba P μ w st (do pure (.value (<-Builtin.unsafeSliceData_ ts ty #[a.eval x]))) v aC:=by
 unfold Jp at h
 split at h
 ·rename_i i o len cap sz hm
  obtain⟨l,c,hl,h1,zm,_⟩:=cX hh hr hx hm
  split at h
  ·rename_i ay
   simp only[al,bu]at h
   obtain⟨rfl,rfl⟩:=h
   refine ba.value hh (x:=.pointer (some ⟨l.b,l.d+o,none⟩)) ?_ ⟨l,hl,rfl⟩
   rw[h1]
   exact Go.Lib.run_unsafeSliceData_row w ts ty _ _ _ (by omega)
  ·cases h
 ·cases h
def Zpg:∀{vs:List V} {s:List UInt8},GF vs=some s->vs.length=s.length/\∀(j:Nat) (b:UInt8),s[j]?=some b->vs[j]?=some (.int .u8 b.toNat)
 |[],s,h=>by
  simp only[GF,al]at h;subst h
  exact⟨rfl,fun j b hb=>by simp at hb⟩
 |v::vs,s,h=>by
  simp only[GF]at h
  split at h
  ·rename_i b s' hb hs
   simp only[al]at h;subst h
   obtain⟨h1,h2⟩:=Zpg hs
   refine⟨by simp[h1],fun j c hc=>?_⟩
   cases j with
   |zero=>
    simp only[Bl,al]at hc;subst hc
    cases v<;>simp only[Qr,reduceCtorEq]at hb
    rename_i k m
    cases k<;>simp only[reduceCtorEq]at hb
    split at hb
    ·rename_i hm
     simp only[al]at hb;subst hb
     simp only[Bl,al,V.int.injEq,true_and]
     have:m.toNat<256:=by omega
     simp[Nat.toUInt8]
     omega
    ·cases hb
   |succ j=>
    simp only[D5]at hc ⊢
    exact h2 j c hc
  ·cases h
def Yni(hh:bm P μ w st)(hr:RR μ r n a.tmps){pt it ty e:TypeId}{x y:Operand}{s q:Src}(hp:P.underlying pt=some (.pointer e))(hz:e_ P e=some 1)(hx:bB P x=some s)(hy:bB P y=some q)
  (h:Jq e s q call r st=some (v,aC)):ba P μ w st (do pure (.value (<-Builtin.unsafeString_ #[pt,it] ty #[a.eval x,a.eval y]))) v aC:=by
 unfold Jq at h
 split at h
 ·rename_i i k hm hq
  obtain⟨l,hl,h1⟩:=cX hh hr hx hm
  have h2:=cX hh hr hy hq
  simp only[VR]at h2
  split at h
  ·rename_i hk
   split at h
   ·rename_i c e' aq
    split at h
    ·rename_i he
     subst he
     split at h
     ·rename_i Ad tA
      split at h
      ·rename_i str Xv
       simp only[al,bu]at h
       obtain⟨rfl,rfl⟩:=h
       obtain⟨c',lo,hi,g1,g2,g3,g4,g5,g6⟩:=hh.row hl aq
       have nY:=(g6 rfl).1
       obtain⟨b1,b2⟩:=Zpg Xv
       obtain⟨xs,p9,yS,xw,fW,_⟩:=(hh.row hl aq).Ad tA
       have cC:str.length=k.toNat:=by have:=p9.length;omega
       have hle:k.toNat<=c.length:=by
        unfold aF at tA
        split at tA
        ·omega
        ·cases tA
       have DQ:k=(str.length:Int):=by omega
       have aW:str≠[]:=by intro h0;rw[h0]at cC;simp at cC;omega
       have gW:∀(j:Nat) (b:UInt8),str[j]?=some b->w.cell? ((⟨l.b,0,none⟩:Addr).add j)=some (.int .u8 b.toNat):=by
        intro j b hb
        have hv:=b2 j b hb
        obtain⟨y,sU,xx⟩:=p9.get hv
        simp only[VR]at xx
        subst xx
        have:=fW j _ sU
        rw[xz]
        rw[nY,kv]at this
        exact this
       have h63:str.length<=9223372036854775807:=by omega
       have bO:=Go.Lib.run_unsafeString_row (P:=P) w pt it ty e' hp (Zli hz) l.b c'.size (Xu g1) str aW (by omega) h63 gW
       have hw:bH P μ w st μ (w.freeze ⟨l.b,0,none⟩ str.length) (st.write i (.cells c e' false)) [i]:=by
        have uz:str.length≠0:=by simpa using aW
        have zg:(w.freeze ⟨l.b,0,none⟩ str.length).heap[l.b]?=some (.cells c' e' (if lo==hi then (0,0+str.length) else (min lo 0,max hi (0+str.length)))):=by
         simp[World.freeze,uz,Array.getElem?_modify,g1]
        obtain⟨lo',iB,LR⟩:∃p q,(if lo==hi then (0,0+str.length) else (min lo 0,max hi (0+str.length)))=(p,q):=⟨_,_,rfl⟩
        rw[LR]at zg
        refine bH.write hh hl (LH aq) rfl ?_ ?_ ?_ ?_ ?_ ⟨c',lo',iB,zg,g2,g3,g4,g5,fun hc=>by cases hc⟩
        ·simp[World.freeze,uz]
        ·simp[World.freeze,uz]
        ·simp[World.freeze,uz]
        ·simp[World.freeze,uz]
        ·intro b hb
         simp only[World.freeze,uz,if_false,Array.getElem?_modify]
         rw[ak (fun h=>hb h.symm)]
       refine⟨.value (.string ⟨str.toArray⟩),_,_,μ,[i],?_,.inl rfl,rfl,hw⟩
       rw[h1,h2,nY,DQ]
       simp[bO,Result.andThen]
      ·cases h
     ·cases h
    ·cases h
   ·cases h
  ·cases h
 ·cases h
end
end Go.Mx
