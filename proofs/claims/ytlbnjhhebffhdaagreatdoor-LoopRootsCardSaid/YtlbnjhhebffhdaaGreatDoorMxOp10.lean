/-The operations of M stand for the Go mod-/
import Derived.Test.YtlbnjhhebffhdaaGreatDoorMxOp8
import Derived.Lib.Builder
import Derived.Lib.UnsafeStr
set_option linter.all false
namespace Go.Mx
open Go
set_option maxHeartbeats 2000000
def Zgx:Ext->Array Value->Sem Value
 |.nd=>add64Entry
 |.nf=>Go.Proofs.sub64Entry
 |.same=>Extern.AbiNoEscape.same
 |.zif=>Extern.BytealgIndexByte.indexByte
 |.zgr=>fun _=>stuck "not taken"
 |.o_=>Extern.MathFloatBits.float64bits
 |.pc=>Extern.MathFloatBits.float64frombits
def tE(P:Program):Prop:=∀(g:FuncId) (fn:Func) (e:Ext),P.funcs[g]?=some fn->fn.body.isSome=false->tk fn.name=some e->
 (fn.name== "runtime.NumGoroutine")=false/\Extern.findNext fn=none/\Extern.find fn=some (Zgx e)
def Zkv(c:UInt8):∀(l:List UInt8),Go.Lib.indexByte l c= -1\/0<=Go.Lib.indexByte l c
 |[]=>.inl rfl
 |b::l=>by
  rcases Zkv c l with h|h<;>simp only[Go.Lib.indexByte]<;>split<;>first|omega|(split<;>omega)
def Zn6(c:UInt8):∀(l:List UInt8) (i:Nat),II c l i=if Go.Lib.indexByte l c= -1 then -1 else Go.Lib.indexByte l c+i
 |[],i=>by simp[II,Go.Lib.indexByte]
 |b::l,i=>by
  have h:=Zkv c l
  simp only[II,Go.Lib.indexByte]
  split
  ·simp
  ·rw[Zn6 c l (i+1)]
   by_cases e:Go.Lib.indexByte l c= -1
   ·simp[e]
   ·have e':(Go.Lib.indexByte l c== -1)=false:=by simpa using e
    rw[aA e,e']
    simp only[gj,if_false]
    rw[aA (by omega)]
    omega
section
variable {P:Program} {μ:Mu} {w:World} {st st':St} {r:T V} {n:Nat} {a:Act} {call:cP} {v:V}
def Yq8(hh:Za9 P μ w st)(hr:RR μ r n a.tmps)(hE:tE P){g:Nat}{fn:Func}{e:Ext}{xs:List Operand}{ss:List Src}(hg:P.funcs[g]?=some fn)(hb:fn.body.isSome=false)(he:tk fn.name=some e)
  (hx:uj P xs=some ss) (h:I3 e ss call r st=some (v,st')):Za5 P μ w st (callFunc g ⟨xs.map a.eval⟩) v st':=by
 obtain⟨e1,e2,e3⟩:=hE g fn e hg hb he
 have bQ:=run_callFunc_extern hg e1 (by simpa using hb) e2 e3 ⟨xs.map a.eval⟩ w
 have fin:∀x,(Zgx e ⟨xs.map a.eval⟩).run P w=.ok x w->VR μ v x->st'=st->Za5 P μ w st (callFunc g ⟨xs.map a.eval⟩) v st':=by
  intro x hx hv hs
  subst hs
  exact⟨.value x,x,w,μ,[],by rw[bQ,hx];rfl,.inl rfl,hv,bK.refl hh⟩
 unfold I3 at h
 cases hl:tB r ss with
 |none=>cases e<;>simp[hl]at h
 |some l=>
  have hv:=Jj hh hr hx hl
  have zgz:∀u,BZ e l=some u->(Zgx e ⟨xs.map a.eval⟩).run P w=.ok (match u with|.aX [.int .u64 p,.int .u64 q]=>.tuple #[.int .u64 p,.int .u64 q]|.int k m=>.int k m|.jM k m=>.float k m|_=>undef) w/\
    VR μ u (match u with|.aX [.int .u64 p,.int .u64 q]=>.tuple #[.int .u64 p,.int .u64 q]|.int k m=>.int k m|.jM k m=>.float k m|_=>undef):=by
   intro u hu
   unfold BZ at hu
   split at hu
   ·rename_i x y c
    split at hu
    ·cases hu
    ·rename_i hc
     simp only[au]at hu;subst hu
     simp only[bf,VR]at hv
     obtain⟨_,_,h1,rfl,_,_,rfl,rfl,_,_,rfl,rfl,rfl⟩:=hv
     rw[h1]
     refine⟨?_,by simp[VR,bf]⟩
     have Jp:c=0\/c=1:=Decidable.not_not.1 hc
     rcases Jp with rfl|rfl<;>rfl
   ·rename_i x y c
    split at hu
    ·cases hu
    ·rename_i hc
     simp only[au]at hu;subst hu
     simp only[bf,VR]at hv
     obtain⟨_,_,h1,rfl,_,_,rfl,rfl,_,_,rfl,rfl,rfl⟩:=hv
     rw[h1]
     refine⟨?_,by simp[VR,bf]⟩
     have Jp:c=0\/c=1:=Decidable.not_not.1 hc
     have hi:∀(p:Prop) [Decidable p],((if p then 1 else 0:Int))=Int.ofNat (if p then 1 else 0):=fun p _=>by split<;>rfl
     rcases Jp with rfl|rfl<;>rw[hi]<;>rfl
   ·rename_i s c
    simp only[au]at hu;subst hu
    simp only[bf,VR]at hv
    obtain⟨_,_,h1,rfl,_,_,rfl,rfl,rfl⟩:=hv
    rw[h1]
    refine⟨?_,by simp[VR]⟩
    have:=Go.Lib.run_indexByteString (P:=P) ⟨s.toArray⟩ c w
    show (Extern.BytealgIndexByte.indexByte #[.string ⟨s.toArray⟩,.int .u8 c]).run P w=_
    rw[this,Zn6]
    simp only[]
    congr 2
    split
    ·rename_i e;exact e
    ·simp
   all_goals try cases hu
   ·rename_i b
    simp only[bf,VR]at hv
    obtain⟨_,_,h1,rfl,rfl⟩:=hv
    rw[h1]
    exact⟨rfl,by simp[VR]⟩
   ·rename_i b
    simp only[bf,VR]at hv
    obtain⟨_,_,h1,rfl,rfl⟩:=hv
    rw[h1]
    exact⟨rfl,by simp[VR]⟩
  cases e with
  |same=>
   rcases l with _|⟨u,_|⟨u',l⟩⟩<;>simp[hl,BZ]at h
   obtain⟨rfl,rfl⟩:=h
   obtain⟨y,ys,pr,h1,h2⟩:=Zau.1 hv
   simp only[bf]at h2;subst h2
   refine fin y ?_ h1 rfl
   rw[pr];rfl
  |nd=>
   simp only[hl]at h
   split at h
   ·rename_i u hu
    simp only[au,bE]at h
    obtain⟨rfl,rfl⟩:=h
    exact fin _ (zgz _ hu).1 (zgz _ hu).2 rfl
   ·cases h
  |nf=>
   simp only[hl]at h
   split at h
   ·rename_i u hu
    simp only[au,bE]at h
    obtain⟨rfl,rfl⟩:=h
    exact fin _ (zgz _ hu).1 (zgz _ hu).2 rfl
   ·cases h
  |zif=>
   simp only[hl]at h
   split at h
   ·rename_i u hu
    simp only[au,bE]at h
    obtain⟨rfl,rfl⟩:=h
    exact fin _ (zgz _ hu).1 (zgz _ hu).2 rfl
   ·cases h
  |zgr=>simp[hl,BZ]at h
  |o_=>
   simp only[hl]at h
   split at h
   ·rename_i u hu
    simp only[au,bE]at h
    obtain⟨rfl,rfl⟩:=h
    exact fin _ (zgz _ hu).1 (zgz _ hu).2 rfl
   ·cases h
  |pc=>
   simp only[hl]at h
   split at h
   ·rename_i u hu
    simp only[au,bE]at h
    obtain⟨rfl,rfl⟩:=h
    exact fin _ (zgz _ hu).1 (zgz _ hu).2 rfl
   ·cases h
def Zl7(hh:Za9 P μ w st){size:Nat}{u:V}{X:Value}(hx:VR μ u X){m:Nat}{xs:List V}(h:oL st size u=some (m,xs)):
  (Builtin.lenOf X).run P w=.ok m w/\xs.length=m*size/\∃ys,bf μ xs ys/\(∀y∈ys,y.oneCell'=true)/\
   ∀w':World,w'.heap=w.heap->∀k,k<=m->(Builtin.firstCells size k X).run P w'=.ok ⟨ys.take (k*size)⟩ w':=by
 unfold oL at h
 split at h
 ·simp only[au,bE]at h
  obtain⟨rfl,rfl⟩:=h
  simp only[VR]at hx;subst hx
  exact⟨by simp[Builtin.lenOf],by simp,[],by simp[bf],by simp,fun w' _ k hk=>by simp[Builtin.firstCells]⟩
 ·simp only[au,bE]at h
  obtain⟨rfl,rfl⟩:=h
  obtain⟨b,c,rfl⟩:=hx
  refine⟨by simp[Builtin.lenOf],by simp,[],by simp[bf],by simp,fun w' _ k hk=>?_⟩
  have sW:k=0:=by omega
  subst sW
  have:=run_firstCells_some (P:=P) w' size 0 b 0 c [] (by simp) (by simp)
  simpa using this
 ·rename_i j p m' _ sz
  obtain⟨l,c,hl,rfl,_⟩:=hx
  split at h
  ·split at h
   ·rename_i cs _ _ zgc
    split at h
    ·rename_i seg sG
     simp only[au,bE]at h
     obtain⟨rfl,rfl⟩:=h
     obtain⟨ys,g1,g2,g3,g4,g5⟩:=(hh.row hl zgc).seg sG
     refine⟨by simp[Builtin.lenOf],by rw[<-g1.length,g2],ys,g1,g5,fun w' uP k hk=>?_⟩
     have hkm:k*size<=m'*size:=ot _ hk
     refine run_firstCells_some (P:=P) w' size k _ m' c (ys.take (k*size)) (by rw[j9,g2];exact oW hkm) fun i y hy=>?_
     rw[vZ]
     rw[kW]at hy
     split at hy
     ·have:=g4 i y hy
      simpa[World.cell?,uP]using this
     ·cases hy
    ·cases h
   ·cases h
  ·cases h
 ·rename_i s
  split at h
  ·rename_i uK
   subst uK
   simp only[au,bE]at h
   obtain⟨rfl,rfl⟩:=h
   simp only[VR]at hx;subst hx
   have jm:(⟨s.toArray⟩:ByteArray).size=s.length:=rfl
   refine⟨by simp[Builtin.lenOf,jm, -ByteArray.size_data],by simp,s.map (fun b=>.int .u8 b.toNat),?_,by simp;intro y _;rfl,fun w' _ k hk=>?_⟩
   ·refine bf.ziK (by simp) fun i y hy=>?_
    simp only[jT,Ywc]at hy
    obtain⟨b,hb,rfl⟩:=hy
    exact⟨_,by simp[hb];rfl,by simp[VR]⟩
   ·simp only[Builtin.firstCells,Sem.run_pure,wP]
    congr 1
    apply zh
    simp
  ·cases h
 ·cases h
def Zfn(a:Addr)(i:Nat):(storeCells a [] i).run P w=.ok () w:=by simp[storeCells]
def Yon(hh:Za9 P μ w st)(hr:RR μ r n a.tmps){ts:Array TypeId}{t ty e:TypeId}{size:Nat}{x y:Operand}{sd ss:Src}(jS:ts[0]?=some t)(ht:P.underlying t=some (.slice e))(hs:eZ P e=some size)
  (hx:bG P x=some sd) (hy:bG P y=some ss) (h:DQ size sd ss call r st=some (v,st')):
  Za5 P μ w st (do pure (.value (<-Builtin.copy_ ts ty #[a.eval x,a.eval y]))) v st':=by
 unfold DQ at h
 split at h
 ·rename_i d s hd D8
  have h1:=cU hh hr hx hd
  have h2:=cU hh hr hy D8
  split at h
  ·rename_i m xs hsc
   obtain⟨g1,g2,ys,g3,g4,g5⟩:=Zl7 hh h2 hsc
   have OV:=g3.length
   split at h
   ·simp only[au,bE]at h
    obtain⟨rfl,rfl⟩:=h
    simp only[VR]at h1
    refine Za5.value hh (x:=.int .i64 0) ?_ (by simp[VR])
    have hf:=g5 w rfl 0 (tR _)
    simp[Builtin.copy_,jS,h1,run_underlying ht,g1,xq hs,hf,Result.andThen,goInt]
   ·rename_i i o len cap sz
    obtain⟨l,c,hl,h1,Bg,zN,_⟩:=h1
    split at h
    ·cases h
    ·rename_i jm
     have hf:=g5 w rfl (min m len) (Nat.min_le_left _ _)
     simp only at h
     split at h
     ·rename_i hk
      simp only[au,bE]at h
      obtain⟨rfl,rfl⟩:=h
      refine Za5.value hh (x:=.int .i64 0) ?_ (by simp[VR])
      have sH:Nat.min m len=0:=hk
      rw[hk]at hf
      simp[Builtin.copy_,jS,h1,run_underlying ht,g1,xq hs,hf,Result.andThen,goInt,sH,Zfn]
     ·rename_i hk
      split at h
      ·rename_i cs e' zgc
       split at h
       ·rename_i hle
        simp only[au,bE]at h
        obtain⟨rfl,rfl⟩:=h
        have hkm:min m len*size<=m*size:=ot _ (Nat.min_le_left _ _)
        obtain⟨w',hw,dM⟩:=TR (o:=o) hh hl zgc (g3.take (min m len*size)) (fun q hq=>g4 q (BR hq)) (by rw[j9,g2,oW hkm];exact hle)
        refine⟨.value (.int .i64 (min m len:Nat)),_,w',μ,[i],?_,.inl rfl,by simp[VR],dM⟩
        have sH:Nat.min m len=min m len:=rfl
        simp only[Builtin.copy_,jS,h1,Sem.run_bind,run_underlying ht,g1,xq hs,Result.andThen_ok,sH,hf,hw,goInt,Sem.run_pure,List.getElem?_toArray,AN,Yx6]
       ·cases h
      ·cases h
   ·cases h
  ·cases h
 ·cases h
def Ziz(z:Array Value)(k:Nat):Builtin.zeroCells z k=madeCells z (k*z.size):=rfl
def Yjq(hh:Za9 P μ w st)(hr:RR μ r n a.tmps){t ty e:TypeId}{size:Nat}{z:V}{x:Operand}{s:Src}(ht:P.underlying t=some (.slice e))(hz:oo P e=some z)(cK:z.cells.all V.one=true)
  (hx:bG P x=some s) (h:LM size z.cells s call r st=some (v,st')):
  Za5 P μ w st (do pure (.value (<-Builtin.clear_ #[t] ty #[a.eval x]))) v st':=by
 unfold LM at h
 split at h
 ·rename_i hm
  simp only[au,bE]at h
  obtain⟨rfl,rfl⟩:=h
  have h1:=cU hh hr hx hm
  simp only[VR]at h1
  exact Za5.value hh (x:=.tuple #[]) (by simp[Builtin.clear_,h1,run_underlying ht]) ⟨[],rfl,by simp[bf]⟩
 ·rename_i hm
  simp only[au,bE]at h
  obtain⟨rfl,rfl⟩:=h
  obtain⟨b,c,h1⟩:=cU hh hr hx hm
  exact Za5.value hh (x:=.tuple #[]) (by simp[Builtin.clear_,h1,run_underlying ht]) ⟨[],rfl,by simp[bf]⟩
 ·rename_i i o len cap sz hm
  obtain⟨l,c,hl,h1,_⟩:=cU hh hr hx hm
  split at h
  ·rename_i h0
   subst h0
   simp only[au,bE]at h
   obtain⟨rfl,rfl⟩:=h
   exact Za5.value hh (x:=.tuple #[]) (by simp[Builtin.clear_,h1,run_underlying ht]) ⟨[],rfl,by simp[bf]⟩
  ·rename_i h0
   split at h
   ·cases h
   ·rename_i cZ
    simp only[not_or,Decidable.not_not]at cZ
    split at h
    ·rename_i cs e' zgc
     split at h
     ·rename_i hle
      simp only[au,bE]at h
      obtain⟨rfl,rfl⟩:=h
      obtain⟨inf,zx,hi,py,ye⟩:=Jv hz
      have nO:=TS (ye μ).cells len
      have hlen:z.cells.length=zx.cells.size:=by rw[<-(ye μ).cells.length];simp
      obtain⟨w',hw,dM⟩:=TR (o:=o) hh hl zgc nO (Zp6 cK len nO) (by rw[Zm2,cZ.2.2];exact hle)
      refine⟨.value (.tuple #[]),_,w',μ,[i],?_,.inl rfl,⟨[],rfl,by simp[bf]⟩,dM⟩
      have hzc:Builtin.zeroCells zx.cells len=madeCells ⟨zx.cells.toList⟩ (len*z.cells.length):=by rw[Ziz,hlen]
      have hrz:(zeroValue e).run P w=.ok zx w:=by simp[zeroValue,typeInfo,hi,py]
      obtain⟨zfI,rfl⟩:∃q,len=q+1:=⟨len-1,by omega⟩
      simp[Builtin.clear_,h1,run_underlying ht,hrz,hzc,hw,Result.andThen]
     ·cases h
    ·cases h
 ·cases h
def TT{ts:Array TypeId}{t u ty e:TypeId}{d:TypeDesc}{size m sLen sCap:Nat}{base:Option Addr}{X:Value}{ys:List Value}(jS:ts[0]?=some t)(ht:P.underlying t=some (.slice e))(l_:ts[1]?=some u)(hu:P.underlying u=some d)
  (hd:∀k,d≠.int k) (hs:eZ P e=some size) (hlen:(Builtin.lenOf X).run P w=.ok m w) (hf:(Builtin.firstCells size m X).run P w=.ok ⟨ys⟩ w) (hle:sLen+m<=sCap)
  {w':World} (dM:(match base with|some a=>storeCells (a.add (sLen*size)) ys|none=>pure ():Sem Unit).run P w=.ok () w'):
  (Builtin.append_ ts ty #[.slice base sLen sCap,X]).run P w=.ok (.slice base (sLen+m) sCap) w':=by
 cases base with
 |none=>
  simp only[Sem.run_pure,Result.ok.injEq,true_and]at dM
  subst dM
  cases d<;>first|exact absurd rfl (hd _)|simp[Builtin.append_,jS,run_underlying ht,l_,run_underlying hu,xq hs,Result.andThen,hlen,hf,hle]
 |some b=>
  simp only at dM
  cases d<;>first|exact absurd rfl (hd _)|simp[Builtin.append_,jS,run_underlying ht,l_,run_underlying hu,xq hs,Result.andThen,hlen,hf,hle,dM]
def Zmi{ts:Array TypeId}{t u ty e:TypeId}{d:TypeDesc}{inf:TypeInfo}{zx:Value}{m sLen sCap:Nat}{base:Option Addr}{X:Value}{os ys:List Value}(jS:ts[0]?=some t)(ht:P.underlying t=some (.slice e))(l_:ts[1]?=some u)(hu:P.underlying u=some d)
  (hd:∀k,d≠.int k) (hi:P.info? e=some inf) (hz:inf.zero=some zx) (hlen:(Builtin.lenOf X).run P w=.ok m w) (hf:(Builtin.firstCells inf.size m X).run P w.drew=.ok ⟨ys⟩ w.drew)
  (OW:(Builtin.firstCells inf.size sLen (.slice base sLen sCap)).run P w.drew=.ok ⟨os⟩ w.drew) (hle:¬sLen+m<=sCap) (hb:inf.bytes≠0) (zO:2*(sLen+m)*inf.bytes<=2^48):
  (Builtin.append_ ts ty #[.slice base sLen sCap,X]).run P w=.ok (.slice (some ⟨w.heap.size,0,none⟩) (sLen+m) (grownCap w (sLen+m) sCap e))
   (w.drew.alloc (.cells ⟨os++ys++(Builtin.zeroCells zx.cells (grownCap w (sLen+m) sCap e-(sLen+m))).toList⟩ e)):=by
 have hgr:Builtin.nextslicecap (sLen+m) sCap*inf.bytes<=2^48:=by
  have h1:Builtin.nextslicecap (sLen+m) sCap*inf.bytes<=2*(sLen+m)*inf.bytes:=ot _ (nextslicecap_le (by omega))
  omega
 have zei:¬(281474976710656<Builtin.nextslicecap (sLen+m) sCap*inf.bytes):=by omega
 cases d<;>first|exact absurd rfl (hd _)|simp[Builtin.append_,jS,run_underlying ht,l_,run_underlying hu,sizeOf,typeInfo,zeroValue,hi,hz,Result.andThen,hlen,hf,OW,hle,hb,zei,Question.forced,newRow,grownCap]<;>(congr 2;apply zh;simp)
def Zp2(hh:Za9 P μ w st){ts:Array TypeId}{t u ty e:TypeId}{d:TypeDesc}{size b m sLen sCap:Nat}{z:V}{base:Option Addr}{X:Value}{os ys:List Value}{co cx:List V}
  (jS:ts[0]?=some t) (ht:P.underlying t=some (.slice e)) (l_:ts[1]?=some u) (hu:P.underlying u=some d) (hd:∀k,d≠.int k)
  (hs:eZ P e=some size) (hb:AI P e=some b) (hz:oo P e=some z) (OX:z.cells.length=size) (cK:z.cells.all V.one=true) (vY:size≠0)
  (hlen:(Builtin.lenOf X).run P w=.ok m w) (hf:(Builtin.firstCells size m X).run P w.drew=.ok ⟨ys⟩ w.drew)
  (OW:(Builtin.firstCells size sLen (.slice base sLen sCap)).run P w.drew=.ok ⟨os⟩ w.drew) (hle:¬sLen+m<=sCap) (qN:b≠0) (zO:2*(sLen+m)*b<=2^48)
  (ho:bf μ co os) (hx:bf μ cx ys) (ho1:∀y∈os,y.oneCell'=true) (zK:∀y∈ys,y.oneCell'=true) (uQ:co.length=sLen*size) (Cs:cx.length=m*size):
  ∃μ' w' c,(Builtin.append_ ts ty #[.slice base sLen sCap,X]).run P w=.ok (.slice (some ⟨w.heap.size,0,none⟩) (sLen+m) c) w'/\VR μ' (.slice st.n 0 (sLen+m) none size) (.slice (some ⟨w.heap.size,0,none⟩) (sLen+m) c)/\
   bK P μ w st μ' w' (st.alloc (.cells (co++cx) e true)) []:=by
 obtain⟨inf,zx,hi,py,ye⟩:=Jv hz
 have jm:inf.size=size:=by unfold eZ at hs;simpa[hi]using hs
 have hbz:inf.bytes=b:=by unfold AI at hb;simpa[hi]using hb
 have OY:zx.cells.size=size:=by rw[<-OX,<-(ye μ).cells.length];simp
 subst jm hbz
 have bQ:=Zmi (P:=P) (w:=w) (ty:=ty) jS ht l_ hu hd hi py hlen hf OW hle qN zO
 have Cy:=grownCap_ge w (sLen+m) sCap e
 generalize grownCap w (sLen+m) sCap e=cap at bQ Cy
 have hzc:(Builtin.zeroCells zx.cells (cap-(sLen+m))).toList.length=(cap-(sLen+m))*inf.size:=by simp[Builtin.zeroCells,OY]
 have nO:bf μ (dr z.cells (cap-(sLen+m))) (Builtin.zeroCells zx.cells (cap-(sLen+m))).toList:=by
  have:=TS (ye μ).cells (cap-(sLen+m))
  rw[Ziz]
  have e1:zx.cells.size=z.cells.length:=by rw[OY,OX]
  rw[e1]
  simpa using this
 have OZ:=ho.length
 have O0:=hx.length
 have zN:(os++ys++(Builtin.zeroCells zx.cells (cap-(sLen+m))).toList).length=cap*inf.size:=by
  rw[iJ,iJ,hzc,OZ,O0,uQ,Cs,<-ku,<-ku]
  congr 1;omega
 refine⟨_,_,cap,bQ,?_,(bK.newRow hh.Ef (cs:=co++cx) (xs:=os++ys++(Builtin.zeroCells zx.cells (cap-(sLen+m))).toList) (lo:=0) (hi:=0) ?_ ?_ ?_ ?_).zP⟩
 ·simp only[VR]
  refine⟨⟨w.heap.size,0,(os++ys++(Builtin.zeroCells zx.cells (cap-(sLen+m))).toList).length⟩,cap,by exact aR trivial,by simp,Cy,?_,by simp,fun _=>?_⟩
  ·show 0+cap*inf.size<=(os++ys++(Builtin.zeroCells zx.cells (cap-(sLen+m))).toList).length
   omega
  ·show 0+cap*inf.size=(os++ys++(Builtin.zeroCells zx.cells (cap-(sLen+m))).toList).length
   omega
 ·rw[iJ,iJ,iJ,OZ,O0];omega
 ·intro j u' nL
  obtain⟨y,h1,h2⟩:=(ho.append hx).get nL
  exact⟨y,by rw[xJ (AM.1 h1).1];exact h1,h2⟩
 ·intro y hy
  simp only[tg]at hy
  rcases hy with(hy|hy)|hy
  ·exact ho1 y hy
  ·exact zK y hy
  ·exact Zp6 cK _ nO y hy
 ·exact .inr (Yv5 _)
def bK.Jw{w':World}(h:Za9 P μ w st){i:Nat}{l l':L}{o o':O}(hi:μ i=some l)(ho:st.h.get i=some o)(hw:o.wr=true)
  (zc:w'.os=w.os) (htp:w'.tape=w.tape) (hou:w'.output=w.output) (jm:w'.heap.size=w.heap.size) (zgG:∀b,b≠l.b->w'.heap[b]?=w.heap[b]?) (vL:l'.b=l.b)
  (vM:OM P (fun j=>if j=st.n then some l' else μ j) w' o' l'):
  bK P μ w st (fun j=>if j=st.n then some l' else μ j) w' ((st.write i .dead).alloc o') [i]:=by
 have vN:o.live=true:=by cases o<;>simp_all [O.wr,O.live]
 have xR:=(h.dom i l hi).1
 have oR:=(h.dom i l hi).2
 have dE:∀j lj,μ j=some lj->(fun j=>if j=st.n then some l' else μ j) j=some lj:=fun j lj hj=>by
  have:=(h.dom j lj hj).1
  show (if j=st.n then some l' else μ j)=some lj
  rw[aA (by omega)];exact hj
 have cY:∀j,((st.write i .dead).alloc o').h.get j=if j=st.n then some o' else if j=i then some .dead else st.h.get j:=fun j=>by
  simp only[St.alloc,St.write,T.al]
 refine⟨⟨fun j lj hj=>?_,fun j lj hj=>?_,fun j k lj lk oj ok hj hk cv h1 h2 Lx fN=>?_,fun g hg=>let ⟨t,ht⟩:=h.zgj g hg;⟨t,dE g _ ht⟩⟩,fun j hj=>?_,by simp[St.alloc,St.write],rfl,⟨zc,htp,hou,by omega,fun b _ dC=>zgG b ?_⟩,
  fun j lj hn hj=>?_,fun j hj dC=>?_,fun j oj hn hj=>?_,fun j h1 h2=>⟨l',by simp only[St.alloc,St.write]at h2;show (if j=st.n then some l' else μ j)=some l';rw[aR (by omega)]⟩,fun j hj _=>by simp only[yW]at hj;subst hj;exact⟨o,ho,hw⟩⟩
 ·replace hj:(if j=st.n then some l' else μ j)=some lj:=hj
  split at hj
  ·rename_i e
   simp only[au]at hj;subst hj
   simp[St.alloc,St.write];omega
  ·have:=h.dom j lj hj
   simp[St.alloc,St.write];omega
 ·replace hj:(if j=st.n then some l' else μ j)=some lj:=hj
  split at hj
  ·rename_i e
   simp only[au]at hj;subst hj
   exact⟨o',by rw[cY,aR e],vM⟩
  ·rename_i e
   by_cases e2:j=i
   ·exact⟨.dead,by rw[cY,aA e,aR e2],trivial⟩
   ·obtain⟨oj,h1,h2⟩:=h.obj j lj hj
    refine⟨oj,by rw[cY,aA e,aA e2];exact h1,?_⟩
    cases hl:oj.live
    ·cases oj<;>simp[O.live]at hl
     trivial
    ·exact(h2.mono dE).congr (zgG lj.b (Ne.symm (h.inj i j l lj o oj hi hj (Ne.symm e2) ho h1 hw hl)))
 ·rw[cY]at h1 h2
  replace hj:(if j=st.n then some l' else μ j)=some lj:=hj
  replace hk:(if k=st.n then some l' else μ k)=some lk:=hk
  by_cases e1:j=st.n
  ·rw[aR e1]at hj h1
   simp only[au]at hj h1
   subst hj h1
   by_cases e2:k=st.n
   ·exact absurd (e1.trans e2.symm) cv
   ·rw[aA e2]at hk h2
    by_cases e3:k=i
    ·rw[aR e3,au]at h2;subst h2;simp[O.live]at fN
    ·rw[aA e3]at h2
     rw[vL]
     exact h.inj i k l lk o ok hi hk (Ne.symm e3) ho h2 hw fN
  ·rw[aA e1]at hj h1
   by_cases e3:j=i
   ·rw[aR e3,au]at h1;subst h1;simp[O.wr]at Lx
   ·rw[aA e3]at h1
    by_cases e2:k=st.n
    ·rw[aR e2]at hk h2
     simp only[au]at hk h2
     subst hk h2
     rw[vL]
     exact h.inj j i lj l oj o hj hi e3 h1 ho Lx vN
    ·rw[aA e2]at hk h2
     by_cases e4:k=i
     ·rw[aR e4,au]at h2;subst h2;simp[O.live]at fN
     ·rw[aA e4]at h2
      exact h.inj j k lj lk oj ok hj hk cv h1 h2 Lx fN
 ·show (if j=st.n then some l' else μ j)=μ j
  rw[aA (by omega)]
 ·exact Ne.symm (dC i (by simp) l hi)
 ·replace hj:(if j=st.n then some l' else μ j)=some lj:=hj
  split at hj
  ·simp only[au]at hj;subst hj
   exact .inr ⟨i,by simp,xR,l,o,hi,vL.symm,ho,hw⟩
  ·exact absurd (h.dom j lj hj).1 (by omega)
 ·simp only[yW]at dC
  rw[cY,aA (by omega),aA dC]
 ·rw[cY,aA (by omega)]at hj
  split at hj
  ·rename_i e
   subst e
   simp only[au]at hj;subst hj
   exact⟨o,ho,by simp[O.wr],by simp[O.live]⟩
  ·exact⟨oj,hj,id,id⟩
def bK.kill(h:Za9 P μ w st){i:Nat}{l:L}{o:O}(hi:μ i=some l)(ho:st.h.get i=some o)(hw:o.wr=true):bK P μ w st μ w (st.write i .dead) [i]:=
 bK.write h hi ho hw rfl rfl rfl rfl (fun _ _=>rfl) trivial
def Ygf(hh:Za9 P μ w st)(hr:RR μ r n a.tmps){ts:Array TypeId}{t u ty e:TypeId}{d:TypeDesc}{size b:Nat}{z:V}{x y:Operand}{s sx:Src}
  (jS:ts[0]?=some t) (ht:P.underlying t=some (.slice e)) (l_:ts[1]?=some u) (hu:P.underlying u=some d) (hd:∀k,d≠.int k)
  (hs:eZ P e=some size) (hb:AI P e=some b) (hz:oo P e=some z) (OX:z.cells.length=size) (cK:z.cells.all V.one=true) (qN:b≠0)
  (hx:bG P x=some s) (hy:bG P y=some sx) (h:B4 size b e z.cells s sx call r st=some (v,st')):
  Za5 P μ w st (do pure (.value (<-Builtin.append_ ts ty #[a.eval x,a.eval y]))) v st':=by
 unfold B4 at h
 split at h
 ·rename_i sv xv hsv Bb
  have h1:=cU hh hr hx hsv
  have h2:=cU hh hr hy Bb
  unfold tf at h
  split at h
  ·cases h
  ·rename_i m xs hsc
   obtain⟨g1,g2,ys,g3,g4,g5⟩:=Zl7 hh h2 hsc
   have OV:=g3.length
   have hyt:ys.take (m*size)=ys:=jP (by omega)
   have gf:∀w':World,w'.heap=w.heap->(Builtin.firstCells size m (a.eval y)).run P w'=.ok ⟨ys⟩ w':=fun w' uP=>by rw[g5 w' uP m (Yv5 _),hyt]
   split at h
   ·-- a nil slice
    simp only[VR]at h1
    split at h
    ·rename_i uD
     subst uD
     simp only[au,bE]at h
     obtain⟨rfl,rfl⟩:=h
     refine Za5.value hh (x:=.slice none 0 0) ?_ (by simp[VR])
     rw[h1]
     exact TT (base:=none) jS ht l_ hu hd hs g1 (gf w rfl) (Yv5 _) (by simp)
    ·rename_i uD
     split at h
     ·rename_i hc
      simp only[au,bE]at h
      obtain⟨rfl,rfl⟩:=h
      obtain⟨μ',w',c,k1,k2,k3⟩:=Zp2 (P:=P) (w:=w) (ty:=ty) (sLen:=0) (sCap:=0) (base:=none) (X:=a.eval y) (os:=[]) (co:=[]) hh jS ht l_ hu hd hs hb hz OX cK hc.2 g1 (gf w.drew rfl) (by simp[Builtin.firstCells]) (by omega) qN
       (by have:=hc.1;unfold AU at this;simpa using this) (by simp[bf]) g3 (by simp) g4 (by simp) g2
      refine⟨.value (.slice (some ⟨w.heap.size,0,none⟩) (0+m) c),_,w',μ',[],?_,.inl rfl,?_,?_⟩
      ·rw[h1];simp only[Sem.run_bind,k1,Result.andThen_ok,Sem.run_pure]
      ·simpa using k2
      ·simpa using k3
     ·cases h
   ·-- a slice
    rename_i i o len cap sz
    have iE:=h1
    obtain⟨l,c,hl,h1,Bg,zN,hk,Cz⟩:=h1
    split at h
    ·rename_i uD
     subst uD
     split at h
     ·simp only[au,bE]at h
      obtain⟨rfl,rfl⟩:=h
      refine Za5.value hh (x:=a.eval x) ?_ iE
      have hys:ys=[]:=by
       apply rz
       omega
      rw[h1]
      have:=TT (P:=P) (w:=w) (w':=w) (ty:=ty) (base:=some ⟨l.b,l.d+o,none⟩) (sLen:=len) (sCap:=c) jS ht l_ hu hd hs g1 (gf w rfl) (by omega) (by simp only[hys];exact Zfn _ _)
      simpa using this
     ·cases h
    ·rename_i uD
     split at h
     ·cases h
     ·rename_i cZ
      simp only[not_or,Decidable.not_not,w_]at cZ
      obtain⟨jm,vY,zO⟩:=cZ
      subst jm
      unfold AU at zO
      have inPlace:∀(cs:List V) (e':TypeId),st.row i=some (cs,e',true)->o+(len+m)*sz<=cs.length->len+m<=c->(∀k,cap=some k->c=k)->
        Za5 P μ w st (do pure (.value (<-Builtin.append_ ts ty #[a.eval x,a.eval y]))) (.slice i o (len+m) cap sz) (st.write i (.cells (aj cs (o+len*sz) xs) e' true)):=by
       intro cs e' zgc hle CA _
       have zej:(len+m)*sz=len*sz+m*sz:=ku ..
       obtain⟨w',hw,dM⟩:=TR (o:=o+len*sz) hh hl zgc g3 g4 (by rw[g2];omega)
       have bQ:=TT (P:=P) (w:=w) (w':=w') (ty:=ty) (base:=some ⟨l.b,l.d+o,none⟩) (sLen:=len) (sCap:=c) jS ht l_ hu hd hs g1 (gf w rfl) CA (by
        simp only[vZ];rw[oZ];exact hw)
       refine⟨.value (.slice (some ⟨l.b,l.d+o,none⟩) (len+m) c),_,w',μ,[i],?_,.inl rfl,?_,dM⟩
       ·rw[h1];simp only[Sem.run_bind,bQ,Result.andThen_ok,Sem.run_pure]
       ·simp only[VR];exact⟨l,c,hl,rfl,CA,zN,hk,Cz⟩
      have fresh:∀(cj:St) (ws:List Nat) (cs old:List V) (e':TypeId) (yL:Bool),bK P μ w st μ w cj ws->cj.n=st.n->st.row i=some (cs,e',yL)->aK cs o (len*sz)=some old->¬len+m<=c->
        Za5 P μ w st (do pure (.value (<-Builtin.append_ ts ty #[a.eval x,a.eval y]))) (.slice st.n 0 (len+m) none sz) (cj.alloc (.cells (old++xs) e true)):=by
       intro cj ws cs old e' yL jq yM zgc hold dC
       have tH:=hh.row hl zgc
       obtain⟨os,q1,q2,q3,q4,q5⟩:=tH.seg hold
       have OW:(Builtin.firstCells sz len (.slice (some ⟨l.b,l.d+o,none⟩) len c)).run P w.drew=.ok ⟨os⟩ w.drew:=by
        refine run_firstCells_some (P:=P) w.drew sz len _ len c os q2 fun j y hy=>?_
        rw[vZ]
        exact q4 j y hy
       obtain⟨μ',w',c',k1,k2,k3⟩:=Zp2 (P:=P) (w:=w) (ty:=ty) (base:=some ⟨l.b,l.d+o,none⟩) (sLen:=len) (sCap:=c) jq.hr jS ht l_ hu hd hs hb hz OX cK vY g1 (gf w.drew rfl) OW dC qN zO q1 g3 q5 g4 (by rw[<-q1.length,q2]) g2
       refine⟨.value (.slice (some ⟨w.heap.size,0,none⟩) (len+m) c'),_,w',μ',[]++ws,?_,.inl rfl,?_,jq.trans k3⟩
       ·rw[h1];simp only[Sem.run_bind,k1,Result.andThen_ok,Sem.run_pure]
       ·rw[<-yM];exact k2
      split at h
      ·cases h
      ·rename_i cs e' yL zgc
       split at h
       ·rename_i k
        have hck:=hk k rfl
        split at h
        ·rename_i hle
         split at h
         ·rename_i hc
          simp only[au,bE]at h
          obtain⟨rfl,rfl⟩:=h
          obtain⟨rfl,yX⟩:=hc
          exact inPlace cs e' zgc yX (by omega) hk
         ·cases h
        ·rename_i hle
         split at h
         ·rename_i old hold
          simp only[au,bE]at h
          obtain⟨rfl,rfl⟩:=h
          exact fresh st [] cs old e' yL (bK.refl hh) rfl zgc hold (by omega)
         ·cases h
       ·split at h
        ·rename_i O3
         subst O3
         have tH:=hh.row hl zgc
         have hct:cs.length<=l.qq:=by obtain⟨_,_,_,_,_,h3,_⟩:=tH;exact h3
         have zfq:=Cz rfl
         have zej:(len+m)*sz=len*sz+m*sz:=ku ..
         split at h
         ·rename_i hle
          simp only[au,bE]at h
          obtain⟨rfl,rfl⟩:=h
          refine inPlace cs e' zgc hle ?_ hk
          have:(len+m)*sz<=c*sz:=by omega
          exact Nat.le_of_mul_le_mul_right this (by omega)
         ·split at h
          ·rename_i hle hc
           obtain⟨O4,rfl,ho0⟩:=hc
           simp only[au,bE]at h
           obtain⟨rfl,rfl⟩:=h
           have hold:aK cs o (len*sz)=some (cs.drop o):=by
            unfold aK
            rw[aR (by omega),jP (by simp;omega)]
           by_cases CA:len+m<=c
           ·-- in place,above what is known
            obtain⟨c',lo,hi,q1,q2,q3,q4,q5,q6⟩:=tH
            obtain⟨cur⟩:=c'
            simp only[List.size_toArray]at q2
            have hcm:(len+m)*sz<=c*sz:=ot _ CA
            have hrs:=Zdq (P:=P) l.b (l.d+(o+len*sz)) e' lo hi ys 0 cur w q1 (by omega) g4 (fun j D4 qJ=>by
             have:=(q6 rfl).2 (j-l.d) (by omega)
             rw[show l.d+(j-l.d)=j by omega]at this
             exact this)
            have bQ:=TT (P:=P) (w:=w) (ty:=ty) (base:=some ⟨l.b,l.d+o,none⟩) (sLen:=len) (sCap:=c) jS ht l_ hu hd hs g1 (gf w rfl) CA (by
             simp only[vZ];rw[oZ];exact hrs)
            have zgG:=setRow_heap w l.b _ (⟨aj cur (l.d+(o+len*sz)+0) ys⟩:Array Value) e' _ q1
            have dE:∀j lj,μ j=some lj->(fun j=>if j=st.n then some (⟨l.b,l.d+o,l.qq-o⟩:L) else μ j) j=some lj:=fun j lj hj=>by
             have:=(hh.dom j lj hj).1
             simp only
             rw[aA (by omega)];exact hj
            refine⟨.value (.slice (some ⟨l.b,l.d+o,none⟩) (len+m) c),_,w.setRow l.b ⟨aj cur (l.d+(o+len*sz)+0) ys⟩,fun j=>if j=st.n then some ⟨l.b,l.d+o,l.qq-o⟩ else μ j,[i],?_,.inl rfl,?_,bK.Jw hh hl (OT zgc) rfl rfl rfl rfl (by simp) (fun b hb=>setRow_other w l.b b _ hb) rfl ⟨_,lo,hi,zgG,?_,?_,?_,?_,?_⟩⟩
            ·rw[h1];simp only[Sem.run_bind,bQ,Result.andThen_ok,Sem.run_pure]
            ·simp only[VR]
             refine⟨⟨l.b,l.d+o,l.qq-o⟩,c,by simp,by simp,CA,?_,by simp,fun _=>?_⟩
             ·show 0+c*sz<=l.qq-o
              omega
             ·show 0+c*sz=l.qq-o
              omega
            ·simp only[List.size_toArray]
             rw[Jx (by omega)];omega
            ·simp only[iJ,AQ];omega
            ·intro j u' nL
             have e1:∀k:Nat,(⟨aj cur (l.d+(o+len*sz)+0) ys⟩:Array Value)[k]?=(aj cur (l.d+(o+len*sz)+0) ys)[k]?:=fun k=>by simp
             simp only
             rw[e1,Mm (by omega)]
             rw[List.getElem?_append]at nL
             split at nL
             ·rename_i hj
              simp only[AQ]at hj
              rw[gH]at nL
              obtain⟨y',p1,p2⟩:=q4 (o+j) u' nL
              rw[aA (by omega)]
              refine⟨y',?_,VR.mono dE u' y' p2⟩
              rw[show l.d+o+j=l.d+(o+j) by omega]
              simpa using p1
             ·rename_i hj
              simp only[AQ]at hj nL
              obtain⟨y',p1,p2⟩:=g3.get nL
              have aW:=(AM.1 p1).1
              rw[aR (by omega)]
              refine⟨y',?_,VR.mono dE u' y' p2⟩
              rw[show l.d+o+j-(l.d+(o+len*sz)+0)=j-(cs.length-o) by omega]
              exact p1
            ·intro j y' zij rO
             simp only at zij rO
             have e1:(⟨aj cur (l.d+(o+len*sz)+0) ys⟩:Array Value)[l.d+o+j]?=(aj cur (l.d+(o+len*sz)+0) ys)[l.d+o+j]?:=by simp
             rw[e1,Mm (by omega)]at rO
             split at rO
             ·exact g4 y' (eI rO)
             ·exact q5 (o+j) y' (by omega) (by rw[show l.d+(o+j)=l.d+o+j by omega];simpa using rO)
            ·intro _
             refine⟨by have:=(q6 rfl).1;show l.d+o=0;omega,?_⟩
             intro j hj
             have:=(q6 rfl).2 (o+j) (by simp only at hj;omega)
             rw[show l.d+(o+j)=l.d+o+j by omega]at this
             exact this
           ·have O5:=bK.kill hh hl (OT zgc) rfl
            exact fresh (st.write i .dead) [i] cs (cs.drop o) e' true O5 rfl zgc hold CA
          ·cases h
        ·cases h
   ·cases h
 ·cases h
end
section
variable {P:Program} {μ:Mu} {w:World} {st st':St} {r:T V} {n:Nat} {a:Act} {call:cP} {v:V}
def Zjb{b:Nat}{c:Array Value}{e:TypeId}{f:Nat×Nat}(h:w.heap[b]?=some (.cells c e f)):w.shape? b=some (e,c.size):=by
 simp[World.shape?,h]
def Zlb{t:TypeId}{z:Nat}(h:eZ P t=some z):P.cellsOf t=z:=by
 unfold eZ at h
 simp[Program.cellsOf,h]
def Zpv{t:TypeId}{z:Nat}(h:eZ P t=some z):∃j,P.info? t=some j/\j.size=z:=by
 unfold eZ at h
 simp only[Ywc]at h
 exact h
def Zvi{u:TypeId}{z:Nat}(hc:P.cellsOf u=z+1)(count:Nat)(hn:1<=count):liesAt P P.depth u count 0 u 1=true:=by
 have hd:P.depth=(2*(P.types.size+Made.depth)+1)+1:=rfl
 rw[hd]
 simp only[liesAt,IF]
 left
 rw[hd]
 simp[rowAt,hc,sameLayout]
 left;omega
def Ybs(hh:Za9 P μ w st)(hr:RR μ r n a.tmps){src dst t:TypeId}{x:Operand}{s:Src}{z:Nat}(hs:P.underlying src=some (.pointer t))(hd:P.underlying dst=some .unsafePointer)(hz:eZ P t=some (z+1))
  (hx:bG P x=some s) (h:DR none s call r st=some (v,st')):Za5 P μ w st (do pure (.value (<-convert src dst (a.eval x)))) v st':=by
 unfold DR at h
 split at h
 ·rename_i i hm
  obtain⟨l,hl,h1⟩:=cU hh hr hx hm
  split at h
  ·rename_i c e' zgc
   simp only[]at h
   split at h
   ·rename_i aW
    simp only[au,bE]at h
    obtain⟨rfl,rfl⟩:=h
    obtain⟨c',lo,hi,g1,g2,g3,_,_,g6⟩:=hh.row hl zgc
    have lK:=(g6 rfl).1
    obtain⟨j,hj,hjs⟩:=Zpv hz
    refine Za5.value hh (x:=.pointer (some ⟨l.b,l.d+0,none⟩)) ?_ ⟨l,hl,rfl⟩
    rw[h1]
    exact Go.Lib.run_to_unsafe w ⟨l.b,l.d+0,none⟩ hs hd hj (by omega) (Zjb g1) (by show l.d+0<c'.size;omega)
   ·cases h
  ·cases h
 ·cases h
def Zty(hh:Za9 P μ w st)(hr:RR μ r n a.tmps){src dst u:TypeId}{x:Operand}{s:Src}{z:Nat}(hs:P.underlying src=some .unsafePointer)(hd:P.underlying dst=some (.pointer u))(hz:eZ P u=some (z+1))
  (hx:bG P x=some s) (h:DR (some (u,z+1)) s call r st=some (v,st')):Za5 P μ w st (do pure (.value (<-convert src dst (a.eval x)))) v st':=by
 unfold DR at h
 split at h
 ·rename_i i hm
  obtain⟨l,hl,h1⟩:=cU hh hr hx hm
  split at h
  ·rename_i c e' zgc
   simp only[]at h
   split at h
   ·rename_i aW
    obtain⟨rfl,_,hle⟩:=aW
    simp only[au,bE]at h
    obtain⟨rfl,rfl⟩:=h
    obtain⟨c',lo,hi,g1,g2,g3,_,_,g6⟩:=hh.row hl zgc
    have lK:=(g6 rfl).1
    obtain⟨j,hj,hjs⟩:=Zpv hz
    have hco:=Zlb hz
    refine Za5.value hh (x:=.pointer (some ⟨l.b,l.d+0,none⟩)) ?_ ⟨l,hl,rfl⟩
    rw[h1]
    refine Go.Lib.run_from_unsafe w ⟨l.b,l.d+0,none⟩ hs hd hj (Zjb g1) ?_
    show liesAt P P.depth e' (c'.size/P.cellsOf e') (l.d+0) e' 1=true
    rw[lK]
    refine Zvi hco _ ?_
    rw[hco]
    exact Nat.div_pos (by omega) (by omega)
   ·cases h
  ·cases h
 ·cases h
def Yhg(hh:Za9 P μ w st)(hr:RR μ r n a.tmps){ts:Array TypeId}{ty:TypeId}{x:Operand}{s:Src}
  (hx:bG P x=some s) (h:LN s call r st=some (v,st')):Za5 P μ w st (do pure (.value (<-Builtin.unsafeSliceData_ ts ty #[a.eval x]))) v st':=by
 unfold LN at h
 split at h
 ·rename_i i o len cap sz hm
  obtain⟨l,c,hl,h1,Bg,_⟩:=cU hh hr hx hm
  split at h
  ·rename_i aW
   simp only[au,bE]at h
   obtain⟨rfl,rfl⟩:=h
   refine Za5.value hh (x:=.pointer (some ⟨l.b,l.d+o,none⟩)) ?_ ⟨l,hl,rfl⟩
   rw[h1]
   exact Go.Lib.run_unsafeSliceData_row w ts ty _ _ _ (by omega)
  ·cases h
 ·cases h
def Zon:∀{vs:List V} {s:List UInt8},I4 vs=some s->vs.length=s.length/\∀(j:Nat) (b:UInt8),s[j]?=some b->vs[j]?=some (.int .u8 b.toNat)
 |[],s,h=>by
  simp only[I4,au]at h;subst h
  exact⟨rfl,fun j b hb=>by simp at hb⟩
 |v::vs,s,h=>by
  simp only[I4]at h
  split at h
  ·rename_i b s' hb hs
   simp only[au]at h;subst h
   obtain⟨h1,h2⟩:=Zon hs
   refine⟨by simp[h1],fun j c hc=>?_⟩
   cases j with
   |zero=>
    simp only[AN,au]at hc;subst hc
    cases v<;>simp only[Ti,reduceCtorEq]at hb
    rename_i k m
    cases k<;>simp only[reduceCtorEq]at hb
    split at hb
    ·rename_i hm
     simp only[au]at hb;subst hb
     simp only[AN,au,V.int.injEq,true_and]
     have:m.toNat<256:=by omega
     simp[Nat.toUInt8]
     omega
    ·cases hb
   |succ j=>
    simp only[Yx6]at hc ⊢
    exact h2 j c hc
  ·cases h
def Ylw(hh:Za9 P μ w st)(hr:RR μ r n a.tmps){pt it ty e:TypeId}{x y:Operand}{s q:Src}(hp:P.underlying pt=some (.pointer e))(hz:eZ P e=some 1)(hx:bG P x=some s)(hy:bG P y=some q)
  (h:LP e s q call r st=some (v,st')):Za5 P μ w st (do pure (.value (<-Builtin.unsafeString_ #[pt,it] ty #[a.eval x,a.eval y]))) v st':=by
 unfold LP at h
 split at h
 ·rename_i i k hm hq
  obtain⟨l,hl,h1⟩:=cU hh hr hx hm
  have h2:=cU hh hr hy hq
  simp only[VR]at h2
  split at h
  ·rename_i hk
   split at h
   ·rename_i c e' zgc
    split at h
    ·rename_i he
     subst he
     split at h
     ·rename_i seg sG
      split at h
      ·rename_i str zek
       simp only[au,bE]at h
       obtain⟨rfl,rfl⟩:=h
       obtain⟨c',lo,hi,g1,g2,g3,g4,g5,g6⟩:=hh.row hl zgc
       have lK:=(g6 rfl).1
       obtain⟨b1,b2⟩:=Zon zek
       obtain⟨xs,pr,Cs,vW,fX,_⟩:=(hh.row hl zgc).seg sG
       have de:str.length=k.toNat:=by have:=pr.length;omega
       have hle:k.toNat<=c.length:=by
        unfold aK at sG
        split at sG
        ·omega
        ·cases sG
       have hkn:k=(str.length:Int):=by omega
       have cv:str≠[]:=by intro h0;rw[h0]at de;simp at de;omega
       have zgk:∀(j:Nat) (b:UInt8),str[j]?=some b->w.cell? ((⟨l.b,0,none⟩:Addr).add j)=some (.int .u8 b.toNat):=by
        intro j b hb
        have hv:=b2 j b hb
        obtain⟨y,rN,vX⟩:=pr.get hv
        simp only[VR]at vX
        subst vX
        have:=fX j _ rN
        rw[vZ]
        rw[lK,mY]at this
        exact this
       have h63:str.length<=9223372036854775807:=by omega
       have bQ:=Go.Lib.run_unsafeString_row (P:=P) w pt it ty e' hp (Zlb hz) l.b c'.size (Zjb g1) str cv (by omega) h63 zgk
       have hw:bK P μ w st μ (w.freeze ⟨l.b,0,none⟩ str.length) (st.write i (.cells c e' false)) [i]:=by
        have wj:str.length≠0:=by simpa using cv
        have ya:(w.freeze ⟨l.b,0,none⟩ str.length).heap[l.b]?=some (.cells c' e' (if lo==hi then (0,0+str.length) else (min lo 0,max hi (0+str.length)))):=by
         simp[World.freeze,wj,Array.getElem?_modify,g1]
        obtain⟨lo',gZ,O6⟩:∃p q,(if lo==hi then (0,0+str.length) else (min lo 0,max hi (0+str.length)))=(p,q):=⟨_,_,rfl⟩
        rw[O6]at ya
        refine bK.write hh hl (OT zgc) rfl ?_ ?_ ?_ ?_ ?_ ⟨c',lo',gZ,ya,g2,g3,g4,g5,fun hc=>by cases hc⟩
        ·simp[World.freeze,wj]
        ·simp[World.freeze,wj]
        ·simp[World.freeze,wj]
        ·simp[World.freeze,wj]
        ·intro b hb
         simp only[World.freeze,wj,if_false,Array.getElem?_modify]
         rw[aA (fun h=>hb h.symm)]
       refine⟨.value (.string ⟨str.toArray⟩),_,_,μ,[i],?_,.inl rfl,rfl,hw⟩
       rw[h1,h2,lK,hkn]
       simp[bQ,Result.andThen]
      ·cases h
     ·cases h
    ·cases h
   ·cases h
  ·cases h
 ·cases h
end
section
variable {P:Program} {μ:Mu} {w:World} {st st':St} {r:T V} {n:Nat} {a:Act} {call:cP} {v:V}
def Yao{op:BinOp}{t:TypeId}{k:FloatKind}{p q:Nat}{z:V}(h:Ye9 op k p q=some z):∃y,(binOp op t (.float k p) (.float k q)).run P w=.ok y w/\VR μ z y:=by
 unfold Ye9 at h
 cases op<;>simp only[reduceCtorEq]at h
 case add=> 
  simp only[Ywc]at h
  obtain⟨m,hm,rfl⟩:=h
  exact⟨.float k m,by simp[binOp,Op.floatArith,hm],by simp[VR]⟩
 case sub=> 
  simp only[Ywc]at h
  obtain⟨m,hm,rfl⟩:=h
  exact⟨.float k m,by simp[binOp,Op.floatArith,hm],by simp[VR]⟩
 case mul=> 
  simp only[Ywc]at h
  obtain⟨m,hm,rfl⟩:=h
  exact⟨.float k m,by simp[binOp,Op.floatArith,hm],by simp[VR]⟩
 case quo=> 
  simp only[Ywc]at h
  obtain⟨m,hm,rfl⟩:=h
  exact⟨.float k m,by simp[binOp,Op.floatArith,hm],by simp[VR]⟩
 all_goals
  simp only[au]at h;subst h
  exact⟨_,by simp[binOp,Op.floatCmp];rfl,by simp[VR]⟩
def Yn6(hh:Za9 P μ w st)(hr:RR μ r n a.tmps){op:BinOp}{t:TypeId}{x y:Operand}{s u:Src}(hx:bG P x=some s)(hy:bG P y=some u)
  (h:Ob op s u call r st=some (v,st')):
  Za5 P μ w st (do pure (.value (<-(do eqGuard op t x y (a.eval x) (a.eval y);binOp op t (a.eval x) (a.eval y):Sem Value)))) v st':=by
 unfold Ob at h
 split at h
 ·rename_i k p k' q hs hu
  have h1:=cU hh hr hx hs
  have h2:=cU hh hr hy hu
  simp only[VR]at h1 h2
  rw[h1,h2]
  split at h
  ·rename_i e;subst e
   split at h
   ·rename_i z hz
    simp only[au,bE]at h
    obtain⟨rfl,rfl⟩:=h
    obtain⟨y',h3,h4⟩:=Yao (P:=P) (μ:=μ) (w:=w) (t:=t) hz
    exact Za5.value hh (Zgm (Ox (by intro h;cases h) (by intro _ _ h;cases h)) h3) h4
   ·cases h
  ·cases h
 ·cases h
def Yn8(hh:Za9 P μ w st)(hr:RR μ r n a.tmps){src dst:TypeId}{k:IntKind}{q:FloatKind}{x:Operand}{s:Src}(hs:P.underlying src=some (.float q))(hd:P.underlying dst=some (.int k))(hx:bG P x=some s)
  (h:Oc k s call r st=some (v,st')):Za5 P μ w st (do pure (.value (<-convert src dst (a.eval x)))) v st':=by
 unfold Oc at h
 split at h
 ·rename_i q' b hm
  have he:=cU hh hr hx hm
  simp only[VR]at he
  split at h
  ·rename_i m hmm
   split at h
   ·rename_i hb
    simp only[au,bE]at h
    obtain⟨rfl,rfl⟩:=h
    exact Za5.value hh (x:=.int k m) (by simp[convert,run_underlying hs,run_underlying hd,he,Conv.floatToInt,hmm,hb]) (by simp[VR])
   ·cases h
  ·cases h
 ·cases h
def Ysa(hh:Za9 P μ w st)(hr:RR μ r n a.tmps){ts:Array TypeId}{ty:TypeId}{x:Operand}{s:Src}
  (hx:bG P x=some s) (h:I5 false s call r st=some (v,st')):Za5 P μ w st (do pure (.value (<-Builtin.real_ ts ty #[a.eval x]))) v st':=by
 unfold I5 at h
 split at h
 ·rename_i k p q hm
  have he:=cU hh hr hx hm
  simp only[VR]at he
  simp only[au,bE]at h
  obtain⟨rfl,rfl⟩:=h
  exact Za5.value hh (x:=.float k p) (by rw[he];rfl) (by simp[VR])
 ·cases h
def Yta(hh:Za9 P μ w st)(hr:RR μ r n a.tmps){ts:Array TypeId}{ty:TypeId}{x:Operand}{s:Src}
  (hx:bG P x=some s) (h:I5 true s call r st=some (v,st')):Za5 P μ w st (do pure (.value (<-Builtin.imag_ ts ty #[a.eval x]))) v st':=by
 unfold I5 at h
 split at h
 ·rename_i k p q hm
  have he:=cU hh hr hx hm
  simp only[VR]at he
  simp only[au,bE]at h
  obtain⟨rfl,rfl⟩:=h
  exact Za5.value hh (x:=.float k q) (by rw[he];rfl) (by simp[VR])
 ·cases h
end
end Go.Mx
