/-The operations of M stand for the Go mod-/
import Derived.Test.YtgnadghjglamaaaGreatDoorMxOp7
set_option linter.all false
namespace Go.Mx
open Go
set_option maxHeartbeats 2000000
def Zgh:Ext→Array Value→Sem Value
 |.add64=>add64Entry
 |.sub64=>Go.Proofs.sub64Entry
 |.same=>Extern.AbiNoEscape.same
 |.indexByteString=>Extern.BytealgIndexByte.indexByte
 |.indexString=>fun _=>stuck "not taken"
 |.fbits=>Extern.MathFloatBits.float64bits
 |.ffrom=>Extern.MathFloatBits.float64frombits
def Zeo(P:Program):Prop:=∀(g:FuncId) (fn:Func) (e:Ext),P.funcs[g]?=some fn→fn.body.isSome=false→Zh6 fn.name=some e→
 (fn.name== "runtime.NumGoroutine")=false∧Extern.findNext fn=none∧Extern.find fn=some (Zgh e)
def Zj4(c:UInt8):∀(l:List UInt8),Go.Lib.indexByte l c= -1∨0≤Go.Lib.indexByte l c
 |[]=>.inl rfl
 |b::l=>by
  rcases Zj4 c l with h|h<;>simp only[Go.Lib.indexByte]<;>split<;>first|omega|(split<;>omega)
def Zm7(c:UInt8):∀(l:List UInt8) (i:Nat),Ziu c l i=if Go.Lib.indexByte l c= -1 then -1 else Go.Lib.indexByte l c+i
 |[],i=>by simp[Ziu,Go.Lib.indexByte]
 |b::l,i=>by
  have h:=Zj4 c l
  simp only[Ziu,Go.Lib.indexByte]
  split
  ·simp
  ·rw[Zm7 c l (i+1)]
   by_cases e:Go.Lib.indexByte l c= -1
   ·simp[e]
   ·have e':(Go.Lib.indexByte l c== -1)=false:=by simpa using e
    rw[Yrt e,e']
    simp only[Yr3,if_false]
    rw[Yrt (by omega)]
    omega
section
variable {P:Program} {μ:Mu} {w:World} {st st':St} {r:T V} {n:Nat} {a:Act} {call:Za1} {v:V}
def Yna(hh:Zba P μ w st)(hr:RR μ r n a.tmps)(hE:Zeo P){g:Nat}{fn:Func}{e:Ext}{xs:List Operand}{ss:List Src}(hg:P.funcs[g]?=some fn)(hb:fn.body.isSome=false)(he:Zh6 fn.name=some e)
  (hx:Zi2 P xs=some ss) (h:Zmv e ss call r st=some (v,st')):Za4 P μ w st (callFunc g ⟨xs.map a.eval⟩) v st':=by
 obtain⟨e1,e2,e3⟩:=hE g fn e hg hb he
 have hrun:=run_callFunc_extern hg e1 (by simpa using hb) e2 e3 ⟨xs.map a.eval⟩ w
 have fin:∀x,(Zgh e ⟨xs.map a.eval⟩).run P w=.ok x w→VR μ v x→st'=st→Za4 P μ w st (callFunc g ⟨xs.map a.eval⟩) v st':=by
  intro x hx hv hs
  subst hs
  exact⟨.value x,x,w,μ,[],by rw[hrun,hx];rfl,.inl rfl,hv,Stp.refl hh⟩
 unfold Zmv at h
 cases hl:Zhd r ss with
 |none=>cases e<;>simp[hl]at h
 |some l=>
  have hv:=Ze3 hh hr hx hl
  have hext:∀u,Ygb e l=some u→(Zgh e ⟨xs.map a.eval⟩).run P w=.ok (match u with|.tup [.int .u64 p,.int .u64 q]=>.tuple #[.int .u64 p,.int .u64 q]|.int k m=>.int k m|.flt k m=>.float k m|_=>undef) w∧
    VR μ u (match u with|.tup [.int .u64 p,.int .u64 q]=>.tuple #[.int .u64 p,.int .u64 q]|.int k m=>.int k m|.flt k m=>.float k m|_=>undef):=by
   intro u hu
   unfold Ygb at hu
   split at hu
   ·rename_i x y c
    split at hu
    ·cases hu
    ·rename_i hc
     simp only[Yrs]at hu;subst hu
     simp only[VRs,VR]at hv
     obtain⟨_,_,h1,rfl,_,_,rfl,rfl,_,_,rfl,rfl,rfl⟩:=hv
     rw[h1]
     refine⟨?_,by simp[VR,VRs]⟩
     have hc':c=0∨c=1:=Decidable.not_not.1 hc
     rcases hc' with rfl|rfl<;>rfl
   ·rename_i x y c
    split at hu
    ·cases hu
    ·rename_i hc
     simp only[Yrs]at hu;subst hu
     simp only[VRs,VR]at hv
     obtain⟨_,_,h1,rfl,_,_,rfl,rfl,_,_,rfl,rfl,rfl⟩:=hv
     rw[h1]
     refine⟨?_,by simp[VR,VRs]⟩
     have hc':c=0∨c=1:=Decidable.not_not.1 hc
     have hi:∀(p:Prop) [Decidable p],((if p then 1 else 0:Int))=Int.ofNat (if p then 1 else 0):=fun p _=>by split<;>rfl
     rcases hc' with rfl|rfl<;>rw[hi]<;>rfl
   ·rename_i s c
    simp only[Yrs]at hu;subst hu
    simp only[VRs,VR]at hv
    obtain⟨_,_,h1,rfl,_,_,rfl,rfl,rfl⟩:=hv
    rw[h1]
    refine⟨?_,by simp[VR]⟩
    have:=Go.Lib.run_indexByteString (P:=P) ⟨s.toArray⟩ c w
    show (Extern.BytealgIndexByte.indexByte #[.string ⟨s.toArray⟩,.int .u8 c]).run P w=_
    rw[this,Zm7]
    simp only[]
    congr 2
    split
    ·rename_i e;exact e
    ·simp
   all_goals try cases hu
   ·rename_i b
    simp only[VRs,VR]at hv
    obtain⟨_,_,h1,rfl,rfl⟩:=hv
    rw[h1]
    exact⟨rfl,by simp[VR]⟩
   ·rename_i b
    simp only[VRs,VR]at hv
    obtain⟨_,_,h1,rfl,rfl⟩:=hv
    rw[h1]
    exact⟨rfl,by simp[VR]⟩
  cases e with
  |same=>
   rcases l with _|⟨u,_|⟨u',l⟩⟩<;>simp[hl,Ygb]at h
   obtain⟨rfl,rfl⟩:=h
   obtain⟨y,ys,hxs,h1,h2⟩:=Zau.1 hv
   simp only[VRs]at h2;subst h2
   refine fin y ?_ h1 rfl
   rw[hxs];rfl
  |add64=>
   simp only[hl]at h
   split at h
   ·rename_i u hu
    simp only[Yrs,Yrv]at h
    obtain⟨rfl,rfl⟩:=h
    exact fin _ (hext _ hu).1 (hext _ hu).2 rfl
   ·cases h
  |sub64=>
   simp only[hl]at h
   split at h
   ·rename_i u hu
    simp only[Yrs,Yrv]at h
    obtain⟨rfl,rfl⟩:=h
    exact fin _ (hext _ hu).1 (hext _ hu).2 rfl
   ·cases h
  |indexByteString=>
   simp only[hl]at h
   split at h
   ·rename_i u hu
    simp only[Yrs,Yrv]at h
    obtain⟨rfl,rfl⟩:=h
    exact fin _ (hext _ hu).1 (hext _ hu).2 rfl
   ·cases h
  |indexString=>simp[hl,Ygb]at h
  |fbits=>
   simp only[hl]at h
   split at h
   ·rename_i u hu
    simp only[Yrs,Yrv]at h
    obtain⟨rfl,rfl⟩:=h
    exact fin _ (hext _ hu).1 (hext _ hu).2 rfl
   ·cases h
  |ffrom=>
   simp only[hl]at h
   split at h
   ·rename_i u hu
    simp only[Yrs,Yrv]at h
    obtain⟨rfl,rfl⟩:=h
    exact fin _ (hext _ hu).1 (hext _ hu).2 rfl
   ·cases h
def Zk7(hh:Zba P μ w st){size:Nat}{u:V}{X:Value}(hx:VR μ u X){m:Nat}{xs:List V}(h:Za0 st size u=some (m,xs)):
  (Builtin.lenOf X).run P w=.ok m w∧xs.length=m*size∧∃ys,VRs μ xs ys∧(∀y∈ys,y.oneCell'=true)∧
   ∀w':World,w'.heap=w.heap→∀k,k≤m→(Builtin.firstCells size k X).run P w'=.ok ⟨ys.take (k*size)⟩ w':=by
 unfold Za0 at h
 split at h
 ·simp only[Yrs,Yrv]at h
  obtain⟨rfl,rfl⟩:=h
  simp only[VR]at hx;subst hx
  exact⟨by simp[Builtin.lenOf],by simp,[],by simp[VRs],by simp,fun w' _ k hk=>by simp[Builtin.firstCells]⟩
 ·simp only[Yrs,Yrv]at h
  obtain⟨rfl,rfl⟩:=h
  obtain⟨b,c,rfl⟩:=hx
  refine⟨by simp[Builtin.lenOf],by simp,[],by simp[VRs],by simp,fun w' _ k hk=>?_⟩
  have hk0:k=0:=by omega
  subst hk0
  have:=run_firstCells_some (P:=P) w' size 0 b 0 c [] (by simp) (by simp)
  simpa using this
 ·rename_i j p m' _ sz
  obtain⟨l,c,hl,rfl,_⟩:=hx
  split at h
  ·split at h
   ·rename_i cs _ _ hrow
    split at h
    ·rename_i seg hseg
     simp only[Yrs,Yrv]at h
     obtain⟨rfl,rfl⟩:=h
     obtain⟨ys,g1,g2,g3,g4,g5⟩:=(hh.row hl hrow).seg hseg
     refine⟨by simp[Builtin.lenOf],by rw[←g1.length,g2],ys,g1,g5,fun w' hw' k hk=>?_⟩
     have hkm:k*size≤m'*size:=Ysb _ hk
     refine run_firstCells_some (P:=P) w' size k _ m' c (ys.take (k*size)) (by rw[Ysi,g2];exact Ysz hkm) fun i y hy=>?_
     rw[Zci]
     rw[Ysh]at hy
     split at hy
     ·have:=g4 i y hy
      simpa[World.cell?,hw']using this
     ·cases hy
    ·cases h
   ·cases h
  ·cases h
 ·rename_i s
  split at h
  ·rename_i hs1
   subst hs1
   simp only[Yrs,Yrv]at h
   obtain⟨rfl,rfl⟩:=h
   simp only[VR]at hx;subst hx
   have hsz:(⟨s.toArray⟩:ByteArray).size=s.length:=rfl
   refine⟨by simp[Builtin.lenOf,hsz, -ByteArray.size_data],by simp,s.map (fun b=>.int .u8 b.toNat),?_,by simp;intro y _;rfl,fun w' _ k hk=>?_⟩
   ·refine VRs.of_get (by simp) fun i y hy=>?_
    simp only[Yso,Yr0]at hy
    obtain⟨b,hb,rfl⟩:=hy
    exact⟨_,by simp[hb];rfl,by simp[VR]⟩
   ·simp only[Builtin.firstCells,Sem.run_pure,Yub]
    congr 1
    apply Yu3
    simp
  ·cases h
 ·cases h
def Zfa(a:Addr)(i:Nat):(storeCells a [] i).run P w=.ok () w:=by simp[storeCells]
def Yk6(hh:Zba P μ w st)(hr:RR μ r n a.tmps){ts:Array TypeId}{t ty e:TypeId}{size:Nat}{x y:Operand}{sd ss:Src}(ht0:ts[0]?=some t)(ht:P.underlying t=some (.slice e))(hs:Zbt P e=some size)
  (hx:Zbe P x=some sd) (hy:Zbe P y=some ss) (h:Zg1 size sd ss call r st=some (v,st')):
  Za4 P μ w st (do pure (.value (←Builtin.copy_ ts ty #[a.eval x,a.eval y]))) v st':=by
 unfold Zg1 at h
 split at h
 ·rename_i d s hd hss
  have h1:=Zar hh hr hx hd
  have h2:=Zar hh hr hy hss
  split at h
  ·rename_i m xs hsc
   obtain⟨g1,g2,ys,g3,g4,g5⟩:=Zk7 hh h2 hsc
   have hyl:=g3.length
   split at h
   ·simp only[Yrs,Yrv]at h
    obtain⟨rfl,rfl⟩:=h
    simp only[VR]at h1
    refine Za4.value hh (x:=.int .i64 0) ?_ (by simp[VR])
    have hf:=g5 w rfl 0 (Yum _)
    simp[Builtin.copy_,ht0,h1,run_underlying ht,g1,Zb2 hs,hf,Result.andThen,goInt]
   ·rename_i i o len cap sz
    obtain⟨l,c,hl,h1,hlc,htot,_⟩:=h1
    split at h
    ·cases h
    ·rename_i hsz
     have hf:=g5 w rfl (min m len) (Nat.min_le_left _ _)
     simp only at h
     split at h
     ·rename_i hk
      simp only[Yrs,Yrv]at h
      obtain⟨rfl,rfl⟩:=h
      refine Za4.value hh (x:=.int .i64 0) ?_ (by simp[VR])
      have hmin:Nat.min m len=0:=hk
      rw[hk]at hf
      simp[Builtin.copy_,ht0,h1,run_underlying ht,g1,Zb2 hs,hf,Result.andThen,goInt,hmin,Zfa]
     ·rename_i hk
      split at h
      ·rename_i cs e' hrow
       split at h
       ·rename_i hle
        simp only[Yrs,Yrv]at h
        obtain⟨rfl,rfl⟩:=h
        have hkm:min m len*size≤m*size:=Ysb _ (Nat.min_le_left _ _)
        obtain⟨w',hw,hst⟩:=Zjq (o:=o) hh hl hrow (g3.take (min m len*size)) (fun q hq=>g4 q (Ytx hq)) (by rw[Ysi,g2,Ysz hkm];exact hle)
        refine⟨.value (.int .i64 (min m len:Nat)),_,w',μ,[i],?_,.inl rfl,by simp[VR],hst⟩
        have hmin:Nat.min m len=min m len:=rfl
        simp only[Builtin.copy_,ht0,h1,Sem.run_bind,run_underlying ht,g1,Zb2 hs,Result.andThen_ok,hmin,hf,hw,goInt,Sem.run_pure,List.getElem?_toArray,Yth,Ytv]
       ·cases h
      ·cases h
   ·cases h
  ·cases h
 ·cases h
def Zh9(z:Array Value)(k:Nat):Builtin.zeroCells z k=madeCells z (k*z.size):=rfl
def Ygv(hh:Zba P μ w st)(hr:RR μ r n a.tmps){t ty e:TypeId}{size:Nat}{z:V}{x:Operand}{s:Src}(ht:P.underlying t=some (.slice e))(hz:Ze6 P e=some z)(hone:z.cells.all V.one=true)
  (hx:Zbe P x=some s) (h:Zhy size z.cells s call r st=some (v,st')):
  Za4 P μ w st (do pure (.value (←Builtin.clear_ #[t] ty #[a.eval x]))) v st':=by
 unfold Zhy at h
 split at h
 ·rename_i hm
  simp only[Yrs,Yrv]at h
  obtain⟨rfl,rfl⟩:=h
  have h1:=Zar hh hr hx hm
  simp only[VR]at h1
  exact Za4.value hh (x:=.tuple #[]) (by simp[Builtin.clear_,h1,run_underlying ht]) ⟨[],rfl,by simp[VRs]⟩
 ·rename_i hm
  simp only[Yrs,Yrv]at h
  obtain⟨rfl,rfl⟩:=h
  obtain⟨b,c,h1⟩:=Zar hh hr hx hm
  exact Za4.value hh (x:=.tuple #[]) (by simp[Builtin.clear_,h1,run_underlying ht]) ⟨[],rfl,by simp[VRs]⟩
 ·rename_i i o len cap sz hm
  obtain⟨l,c,hl,h1,_⟩:=Zar hh hr hx hm
  split at h
  ·rename_i h0
   subst h0
   simp only[Yrs,Yrv]at h
   obtain⟨rfl,rfl⟩:=h
   exact Za4.value hh (x:=.tuple #[]) (by simp[Builtin.clear_,h1,run_underlying ht]) ⟨[],rfl,by simp[VRs]⟩
  ·rename_i h0
   split at h
   ·cases h
   ·rename_i hcond
    simp only[not_or,Decidable.not_not]at hcond
    split at h
    ·rename_i cs e' hrow
     split at h
     ·rename_i hle
      simp only[Yrs,Yrv]at h
      obtain⟨rfl,rfl⟩:=h
      obtain⟨inf,zx,hi,hzx,hzv⟩:=Zdu hz
      have hsim:=Zlm (hzv μ).cells len
      have hlen:z.cells.length=zx.cells.size:=by rw[←(hzv μ).cells.length];simp
      obtain⟨w',hw,hst⟩:=Zjq (o:=o) hh hl hrow hsim (Zo7 hone len hsim) (by rw[Zl5,hcond.2.2];exact hle)
      refine⟨.value (.tuple #[]),_,w',μ,[i],?_,.inl rfl,⟨[],rfl,by simp[VRs]⟩,hst⟩
      have hzc:Builtin.zeroCells zx.cells len=madeCells ⟨zx.cells.toList⟩ (len*z.cells.length):=by rw[Zh9,hlen]
      have hrz:(zeroValue e).run P w=.ok zx w:=by simp[zeroValue,typeInfo,hi,hzx]
      obtain⟨len',rfl⟩:∃q,len=q+1:=⟨len-1,by omega⟩
      simp[Builtin.clear_,h1,run_underlying ht,hrz,hzc,hw,Result.andThen]
     ·cases h
    ·cases h
 ·cases h
def Zdk{ts:Array TypeId}{t u ty e:TypeId}{d:TypeDesc}{size m sLen sCap:Nat}{base:Option Addr}{X:Value}{ys:List Value}(ht0:ts[0]?=some t)(ht:P.underlying t=some (.slice e))(hu0:ts[1]?=some u)(hu:P.underlying u=some d)
  (hd:∀k,d≠.int k) (hs:Zbt P e=some size) (hlen:(Builtin.lenOf X).run P w=.ok m w) (hf:(Builtin.firstCells size m X).run P w=.ok ⟨ys⟩ w) (hle:sLen+m≤sCap)
  {w':World} (hst:(match base with|some a=>storeCells (a.add (sLen*size)) ys|none=>pure ():Sem Unit).run P w=.ok () w'):
  (Builtin.append_ ts ty #[.slice base sLen sCap,X]).run P w=.ok (.slice base (sLen+m) sCap) w':=by
 cases base with
 |none=>
  simp only[Sem.run_pure,Result.ok.injEq,true_and]at hst
  subst hst
  cases d<;>first|exact absurd rfl (hd _)|simp[Builtin.append_,ht0,run_underlying ht,hu0,run_underlying hu,Zb2 hs,Result.andThen,hlen,hf,hle]
 |some b=>
  simp only at hst
  cases d<;>first|exact absurd rfl (hd _)|simp[Builtin.append_,ht0,run_underlying ht,hu0,run_underlying hu,Zb2 hs,Result.andThen,hlen,hf,hle,hst]
def Zli{ts:Array TypeId}{t u ty e:TypeId}{d:TypeDesc}{inf:TypeInfo}{zx:Value}{m sLen sCap:Nat}{base:Option Addr}{X:Value}{os ys:List Value}(ht0:ts[0]?=some t)(ht:P.underlying t=some (.slice e))(hu0:ts[1]?=some u)(hu:P.underlying u=some d)
  (hd:∀k,d≠.int k) (hi:P.info? e=some inf) (hz:inf.zero=some zx) (hlen:(Builtin.lenOf X).run P w=.ok m w) (hf:(Builtin.firstCells inf.size m X).run P w.drew=.ok ⟨ys⟩ w.drew)
  (hfo:(Builtin.firstCells inf.size sLen (.slice base sLen sCap)).run P w.drew=.ok ⟨os⟩ w.drew) (hle:¬sLen+m≤sCap) (hb:inf.bytes≠0) (hfit:2*(sLen+m)*inf.bytes≤2^48):
  (Builtin.append_ ts ty #[.slice base sLen sCap,X]).run P w=.ok (.slice (some ⟨w.heap.size,0,none⟩) (sLen+m) (grownCap w (sLen+m) sCap e))
   (w.drew.alloc (.cells ⟨os++ys++(Builtin.zeroCells zx.cells (grownCap w (sLen+m) sCap e-(sLen+m))).toList⟩ e)):=by
 have hgr:Builtin.nextslicecap (sLen+m) sCap*inf.bytes≤2^48:=by
  have h1:Builtin.nextslicecap (sLen+m) sCap*inf.bytes≤2*(sLen+m)*inf.bytes:=Ysb _ (nextslicecap_le (by omega))
  omega
 have hgr':¬(281474976710656<Builtin.nextslicecap (sLen+m) sCap*inf.bytes):=by omega
 cases d<;>first|exact absurd rfl (hd _)|simp[Builtin.append_,ht0,run_underlying ht,hu0,run_underlying hu,sizeOf,typeInfo,zeroValue,hi,hz,Result.andThen,hlen,hf,hfo,hle,hb,hgr',Question.forced,newRow,grownCap]<;>(congr 2;apply Yu3;simp)
def Zo3(hh:Zba P μ w st){ts:Array TypeId}{t u ty e:TypeId}{d:TypeDesc}{size b m sLen sCap:Nat}{z:V}{base:Option Addr}{X:Value}{os ys:List Value}{co cx:List V}
  (ht0:ts[0]?=some t) (ht:P.underlying t=some (.slice e)) (hu0:ts[1]?=some u) (hu:P.underlying u=some d) (hd:∀k,d≠.int k)
  (hs:Zbt P e=some size) (hb:Zig P e=some b) (hz:Ze6 P e=some z) (hzl:z.cells.length=size) (hone:z.cells.all V.one=true) (hs0:size≠0)
  (hlen:(Builtin.lenOf X).run P w=.ok m w) (hf:(Builtin.firstCells size m X).run P w.drew=.ok ⟨ys⟩ w.drew)
  (hfo:(Builtin.firstCells size sLen (.slice base sLen sCap)).run P w.drew=.ok ⟨os⟩ w.drew) (hle:¬sLen+m≤sCap) (hb0:b≠0) (hfit:2*(sLen+m)*b≤2^48)
  (ho:VRs μ co os) (hx:VRs μ cx ys) (ho1:∀y∈os,y.oneCell'=true) (hx1:∀y∈ys,y.oneCell'=true) (hol:co.length=sLen*size) (hxl:cx.length=m*size):
  ∃μ' w' c,(Builtin.append_ ts ty #[.slice base sLen sCap,X]).run P w=.ok (.slice (some ⟨w.heap.size,0,none⟩) (sLen+m) c) w'∧VR μ' (.slice st.n 0 (sLen+m) none size) (.slice (some ⟨w.heap.size,0,none⟩) (sLen+m) c)∧
   Stp P μ w st μ' w' (st.alloc (.cells (co++cx) e true)) []:=by
 obtain⟨inf,zx,hi,hzx,hzv⟩:=Zdu hz
 have hsz:inf.size=size:=by unfold Zbt at hs;simpa[hi]using hs
 have hbz:inf.bytes=b:=by unfold Zig at hb;simpa[hi]using hb
 have hzs:zx.cells.size=size:=by rw[←hzl,←(hzv μ).cells.length];simp
 subst hsz hbz
 have hrun:=Zli (P:=P) (w:=w) (ty:=ty) ht0 ht hu0 hu hd hi hzx hlen hf hfo hle hb0 hfit
 have hcap:=grownCap_ge w (sLen+m) sCap e
 generalize grownCap w (sLen+m) sCap e=cap at hrun hcap
 have hzc:(Builtin.zeroCells zx.cells (cap-(sLen+m))).toList.length=(cap-(sLen+m))*inf.size:=by simp[Builtin.zeroCells,hzs]
 have hsim:VRs μ (Zc8 z.cells (cap-(sLen+m))) (Builtin.zeroCells zx.cells (cap-(sLen+m))).toList:=by
  have:=Zlm (hzv μ).cells (cap-(sLen+m))
  rw[Zh9]
  have e1:zx.cells.size=z.cells.length:=by rw[hzs,hzl]
  rw[e1]
  simpa using this
 have hol':=ho.length
 have hxl':=hx.length
 have htot:(os++ys++(Builtin.zeroCells zx.cells (cap-(sLen+m))).toList).length=cap*inf.size:=by
  rw[Yr8,Yr8,hzc,hol',hxl',hol,hxl,←Ysv,←Ysv]
  congr 1;omega
 refine⟨_,_,cap,hrun,?_,(Stp.newRow hh.drew' (cs:=co++cx) (xs:=os++ys++(Builtin.zeroCells zx.cells (cap-(sLen+m))).toList) (lo:=0) (hi:=0) ?_ ?_ ?_ ?_).undrew⟩
 ·simp only[VR]
  refine⟨⟨w.heap.size,0,(os++ys++(Builtin.zeroCells zx.cells (cap-(sLen+m))).toList).length⟩,cap,by exact Yrw trivial,by simp,hcap,?_,by simp,fun _=>?_⟩
  ·show 0+cap*inf.size≤(os++ys++(Builtin.zeroCells zx.cells (cap-(sLen+m))).toList).length
   omega
  ·show 0+cap*inf.size=(os++ys++(Builtin.zeroCells zx.cells (cap-(sLen+m))).toList).length
   omega
 ·rw[Yr8,Yr8,Yr8,hol',hxl'];omega
 ·intro j u' hu'
  obtain⟨y,h1,h2⟩:=(ho.append hx).get hu'
  exact⟨y,by rw[Ysc (Ys9.1 h1).1];exact h1,h2⟩
 ·intro y hy
  simp only[Ysq]at hy
  rcases hy with(hy|hy)|hy
  ·exact ho1 y hy
  ·exact hx1 y hy
  ·exact Zo7 hone _ hsim y hy
 ·exact .inr (Yru _)
def Stp.regrow{w':World}(h:Zba P μ w st){i:Nat}{l l':L}{o o':O}(hi:μ i=some l)(ho:st.h.get i=some o)(hw:o.wr=true)
  (hos:w'.os=w.os) (htp:w'.tape=w.tape) (hou:w'.output=w.output) (hsz:w'.heap.size=w.heap.size) (hblk:∀b,b≠l.b→w'.heap[b]?=w.heap[b]?) (hb':l'.b=l.b)
  (ho':OM P (fun j=>if j=st.n then some l' else μ j) w' o' l'):
  Stp P μ w st (fun j=>if j=st.n then some l' else μ j) w' ((st.write i .dead).alloc o') [i]:=by
 have hlive:o.live=true:=by cases o<;>simp_all [O.wr,O.live]
 have hin:=(h.dom i l hi).1
 have hlb:=(h.dom i l hi).2
 have hmono:∀j lj,μ j=some lj→(fun j=>if j=st.n then some l' else μ j) j=some lj:=fun j lj hj=>by
  have:=(h.dom j lj hj).1
  show (if j=st.n then some l' else μ j)=some lj
  rw[Yrt (by omega)];exact hj
 have hget:∀j,((st.write i .dead).alloc o').h.get j=if j=st.n then some o' else if j=i then some .dead else st.h.get j:=fun j=>by
  simp only[St.alloc,St.write,T.get_set]
 refine⟨⟨fun j lj hj=>?_,fun j lj hj=>?_,fun j k lj lk oj ok hj hk hne h1 h2 hwj hlk=>?_,fun g hg=>let ⟨t,ht⟩:=h.glob g hg;⟨t,hmono g _ ht⟩⟩,fun j hj=>?_,by simp[St.alloc,St.write],rfl,⟨hos,htp,hou,by omega,fun b _ hnot=>hblk b ?_⟩,
  fun j lj hn hj=>?_,fun j hj hnot=>?_,fun j oj hn hj=>?_,fun j h1 h2=>⟨l',by simp only[St.alloc,St.write]at h2;show (if j=st.n then some l' else μ j)=some l';rw[Yrw (by omega)]⟩,fun j hj _=>by simp only[Yte]at hj;subst hj;exact⟨o,ho,hw⟩⟩
 ·replace hj:(if j=st.n then some l' else μ j)=some lj:=hj
  split at hj
  ·rename_i e
   simp only[Yrs]at hj;subst hj
   simp[St.alloc,St.write];omega
  ·have:=h.dom j lj hj
   simp[St.alloc,St.write];omega
 ·replace hj:(if j=st.n then some l' else μ j)=some lj:=hj
  split at hj
  ·rename_i e
   simp only[Yrs]at hj;subst hj
   exact⟨o',by rw[hget,Yrw e],ho'⟩
  ·rename_i e
   by_cases e2:j=i
   ·exact⟨.dead,by rw[hget,Yrt e,Yrw e2],trivial⟩
   ·obtain⟨oj,h1,h2⟩:=h.obj j lj hj
    refine⟨oj,by rw[hget,Yrt e,Yrt e2];exact h1,?_⟩
    cases hl:oj.live
    ·cases oj<;>simp[O.live]at hl
     trivial
    ·exact(h2.mono hmono).congr (hblk lj.b (Ne.symm (h.inj i j l lj o oj hi hj (Ne.symm e2) ho h1 hw hl)))
 ·rw[hget]at h1 h2
  replace hj:(if j=st.n then some l' else μ j)=some lj:=hj
  replace hk:(if k=st.n then some l' else μ k)=some lk:=hk
  by_cases e1:j=st.n
  ·rw[Yrw e1]at hj h1
   simp only[Yrs]at hj h1
   subst hj h1
   by_cases e2:k=st.n
   ·exact absurd (e1.trans e2.symm) hne
   ·rw[Yrt e2]at hk h2
    by_cases e3:k=i
    ·rw[Yrw e3,Yrs]at h2;subst h2;simp[O.live]at hlk
    ·rw[Yrt e3]at h2
     rw[hb']
     exact h.inj i k l lk o ok hi hk (Ne.symm e3) ho h2 hw hlk
  ·rw[Yrt e1]at hj h1
   by_cases e3:j=i
   ·rw[Yrw e3,Yrs]at h1;subst h1;simp[O.wr]at hwj
   ·rw[Yrt e3]at h1
    by_cases e2:k=st.n
    ·rw[Yrw e2]at hk h2
     simp only[Yrs]at hk h2
     subst hk h2
     rw[hb']
     exact h.inj j i lj l oj o hj hi e3 h1 ho hwj hlive
    ·rw[Yrt e2]at hk h2
     by_cases e4:k=i
     ·rw[Yrw e4,Yrs]at h2;subst h2;simp[O.live]at hlk
     ·rw[Yrt e4]at h2
      exact h.inj j k lj lk oj ok hj hk hne h1 h2 hwj hlk
 ·show (if j=st.n then some l' else μ j)=μ j
  rw[Yrt (by omega)]
 ·exact Ne.symm (hnot i (by simp) l hi)
 ·replace hj:(if j=st.n then some l' else μ j)=some lj:=hj
  split at hj
  ·simp only[Yrs]at hj;subst hj
   exact .inr ⟨i,by simp,hin,l,o,hi,hb'.symm,ho,hw⟩
  ·exact absurd (h.dom j lj hj).1 (by omega)
 ·simp only[Yte]at hnot
  rw[hget,Yrt (by omega),Yrt hnot]
 ·rw[hget,Yrt (by omega)]at hj
  split at hj
  ·rename_i e
   subst e
   simp only[Yrs]at hj;subst hj
   exact⟨o,ho,by simp[O.wr],by simp[O.live]⟩
  ·exact⟨oj,hj,id,id⟩
def Stp.kill(h:Zba P μ w st){i:Nat}{l:L}{o:O}(hi:μ i=some l)(ho:st.h.get i=some o)(hw:o.wr=true):Stp P μ w st μ w (st.write i .dead) [i]:=
 Stp.write h hi ho hw rfl rfl rfl rfl (fun _ _=>rfl) trivial
def Ydq(hh:Zba P μ w st)(hr:RR μ r n a.tmps){ts:Array TypeId}{t u ty e:TypeId}{d:TypeDesc}{size b:Nat}{z:V}{x y:Operand}{s sx:Src}
  (ht0:ts[0]?=some t) (ht:P.underlying t=some (.slice e)) (hu0:ts[1]?=some u) (hu:P.underlying u=some d) (hd:∀k,d≠.int k)
  (hs:Zbt P e=some size) (hb:Zig P e=some b) (hz:Ze6 P e=some z) (hzl:z.cells.length=size) (hone:z.cells.all V.one=true) (hb0:b≠0)
  (hx:Zbe P x=some s) (hy:Zbe P y=some sx) (h:Zdm size b e z.cells s sx call r st=some (v,st')):
  Za4 P μ w st (do pure (.value (←Builtin.append_ ts ty #[a.eval x,a.eval y]))) v st':=by
 unfold Zdm at h
 split at h
 ·rename_i sv xv hsv hxv
  have h1:=Zar hh hr hx hsv
  have h2:=Zar hh hr hy hxv
  unfold Zbi at h
  split at h
  ·cases h
  ·rename_i m xs hsc
   obtain⟨g1,g2,ys,g3,g4,g5⟩:=Zk7 hh h2 hsc
   have hyl:=g3.length
   have hyt:ys.take (m*size)=ys:=Yr2 (by omega)
   have gf:∀w':World,w'.heap=w.heap→(Builtin.firstCells size m (a.eval y)).run P w'=.ok ⟨ys⟩ w':=fun w' hw'=>by rw[g5 w' hw' m (Yru _),hyt]
   split at h
   ·-- a nil slice
    simp only[VR]at h1
    split at h
    ·rename_i hm0
     subst hm0
     simp only[Yrs,Yrv]at h
     obtain⟨rfl,rfl⟩:=h
     refine Za4.value hh (x:=.slice none 0 0) ?_ (by simp[VR])
     rw[h1]
     exact Zdk (base:=none) ht0 ht hu0 hu hd hs g1 (gf w rfl) (Yru _) (by simp)
    ·rename_i hm0
     split at h
     ·rename_i hc
      simp only[Yrs,Yrv]at h
      obtain⟨rfl,rfl⟩:=h
      obtain⟨μ',w',c,k1,k2,k3⟩:=Zo3 (P:=P) (w:=w) (ty:=ty) (sLen:=0) (sCap:=0) (base:=none) (X:=a.eval y) (os:=[]) (co:=[]) hh ht0 ht hu0 hu hd hs hb hz hzl hone hc.2 g1 (gf w.drew rfl) (by simp[Builtin.firstCells]) (by omega) hb0
       (by have:=hc.1;unfold Zc0 at this;simpa using this) (by simp[VRs]) g3 (by simp) g4 (by simp) g2
      refine⟨.value (.slice (some ⟨w.heap.size,0,none⟩) (0+m) c),_,w',μ',[],?_,.inl rfl,?_,?_⟩
      ·rw[h1];simp only[Sem.run_bind,k1,Result.andThen_ok,Sem.run_pure]
      ·simpa using k2
      ·simpa using k3
     ·cases h
   ·-- a slice
    rename_i i o len cap sz
    have h1':=h1
    obtain⟨l,c,hl,h1,hlc,htot,hk,hcn⟩:=h1
    split at h
    ·rename_i hm0
     subst hm0
     split at h
     ·simp only[Yrs,Yrv]at h
      obtain⟨rfl,rfl⟩:=h
      refine Za4.value hh (x:=a.eval x) ?_ h1'
      have hys:ys=[]:=by
       apply Yr7
       omega
      rw[h1]
      have:=Zdk (P:=P) (w:=w) (w':=w) (ty:=ty) (base:=some ⟨l.b,l.d+o,none⟩) (sLen:=len) (sCap:=c) ht0 ht hu0 hu hd hs g1 (gf w rfl) (by omega) (by simp only[hys];exact Zfa _ _)
      simpa using this
     ·cases h
    ·rename_i hm0
     split at h
     ·cases h
     ·rename_i hcond
      simp only[not_or,Decidable.not_not,Yuw]at hcond
      obtain⟨hsz,hs0,hfit⟩:=hcond
      subst hsz
      unfold Zc0 at hfit
      have inPlace:∀(cs:List V) (e':TypeId),st.row i=some (cs,e',true)→o+(len+m)*sz≤cs.length→len+m≤c→(∀k,cap=some k→c=k)→
        Za4 P μ w st (do pure (.value (←Builtin.append_ ts ty #[a.eval x,a.eval y]))) (.slice i o (len+m) cap sz) (st.write i (.cells (splice cs (o+len*sz) xs) e' true)):=by
       intro cs e' hrow hle hlm _
       have hadd:(len+m)*sz=len*sz+m*sz:=Ysv ..
       obtain⟨w',hw,hst⟩:=Zjq (o:=o+len*sz) hh hl hrow g3 g4 (by rw[g2];omega)
       have hrun:=Zdk (P:=P) (w:=w) (w':=w') (ty:=ty) (base:=some ⟨l.b,l.d+o,none⟩) (sLen:=len) (sCap:=c) ht0 ht hu0 hu hd hs g1 (gf w rfl) hlm (by
        simp only[Zci];rw[Yta];exact hw)
       refine⟨.value (.slice (some ⟨l.b,l.d+o,none⟩) (len+m) c),_,w',μ,[i],?_,.inl rfl,?_,hst⟩
       ·rw[h1];simp only[Sem.run_bind,hrun,Result.andThen_ok,Sem.run_pure]
       ·simp only[VR];exact⟨l,c,hl,rfl,hlm,htot,hk,hcn⟩
      have fresh:∀(st1:St) (ws:List Nat) (cs old:List V) (e':TypeId) (rw':Bool),Stp P μ w st μ w st1 ws→st1.n=st.n→st.row i=some (cs,e',rw')→slc cs o (len*sz)=some old→¬len+m≤c→
        Za4 P μ w st (do pure (.value (←Builtin.append_ ts ty #[a.eval x,a.eval y]))) (.slice st.n 0 (len+m) none sz) (st1.alloc (.cells (old++xs) e true)):=by
       intro st1 ws cs old e' rw' hst1 hn1 hrow hold hnot
       have hom:=hh.row hl hrow
       obtain⟨os,q1,q2,q3,q4,q5⟩:=hom.seg hold
       have hfo:(Builtin.firstCells sz len (.slice (some ⟨l.b,l.d+o,none⟩) len c)).run P w.drew=.ok ⟨os⟩ w.drew:=by
        refine run_firstCells_some (P:=P) w.drew sz len _ len c os q2 fun j y hy=>?_
        rw[Zci]
        exact q4 j y hy
       obtain⟨μ',w',c',k1,k2,k3⟩:=Zo3 (P:=P) (w:=w) (ty:=ty) (base:=some ⟨l.b,l.d+o,none⟩) (sLen:=len) (sCap:=c) hst1.hr ht0 ht hu0 hu hd hs hb hz hzl hone hs0 g1 (gf w.drew rfl) hfo hnot hb0 hfit q1 g3 q5 g4 (by rw[←q1.length,q2]) g2
       refine⟨.value (.slice (some ⟨w.heap.size,0,none⟩) (len+m) c'),_,w',μ',[]++ws,?_,.inl rfl,?_,hst1.trans k3⟩
       ·rw[h1];simp only[Sem.run_bind,k1,Result.andThen_ok,Sem.run_pure]
       ·rw[←hn1];exact k2
      split at h
      ·cases h
      ·rename_i cs e' rw' hrow
       split at h
       ·rename_i k
        have hck:=hk k rfl
        split at h
        ·rename_i hle
         split at h
         ·rename_i hc
          simp only[Yrs,Yrv]at h
          obtain⟨rfl,rfl⟩:=h
          obtain⟨rfl,hc2⟩:=hc
          exact inPlace cs e' hrow hc2 (by omega) hk
         ·cases h
        ·rename_i hle
         split at h
         ·rename_i old hold
          simp only[Yrs,Yrv]at h
          obtain⟨rfl,rfl⟩:=h
          exact fresh st [] cs old e' rw' (Stp.refl hh) rfl hrow hold (by omega)
         ·cases h
       ·split at h
        ·rename_i hrw
         subst hrw
         have hom:=hh.row hl hrow
         have hct:cs.length≤l.tot:=by obtain⟨_,_,_,_,_,h3,_⟩:=hom;exact h3
         have htot':=hcn rfl
         have hadd:(len+m)*sz=len*sz+m*sz:=Ysv ..
         split at h
         ·rename_i hle
          simp only[Yrs,Yrv]at h
          obtain⟨rfl,rfl⟩:=h
          refine inPlace cs e' hrow hle ?_ hk
          have:(len+m)*sz≤c*sz:=by omega
          exact Nat.le_of_mul_le_mul_right this (by omega)
         ·split at h
          ·rename_i hle hc
           obtain⟨hc1,rfl,ho0⟩:=hc
           simp only[Yrs,Yrv]at h
           obtain⟨rfl,rfl⟩:=h
           have hold:slc cs o (len*sz)=some (cs.drop o):=by
            unfold slc
            rw[Yrw (by omega),Yr2 (by simp;omega)]
           by_cases hlm:len+m≤c
           ·-- in place,above what is known
            obtain⟨c',lo,hi,q1,q2,q3,q4,q5,q6⟩:=hom
            obtain⟨cur⟩:=c'
            simp only[List.size_toArray]at q2
            have hcm:(len+m)*sz≤c*sz:=Ysb _ hlm
            have hrs:=Zdj (P:=P) l.b (l.d+(o+len*sz)) e' lo hi ys 0 cur w q1 (by omega) g4 (fun j hj1 hj2=>by
             have:=(q6 rfl).2 (j-l.d) (by omega)
             rw[show l.d+(j-l.d)=j by omega]at this
             exact this)
            have hrun:=Zdk (P:=P) (w:=w) (ty:=ty) (base:=some ⟨l.b,l.d+o,none⟩) (sLen:=len) (sCap:=c) ht0 ht hu0 hu hd hs g1 (gf w rfl) hlm (by
             simp only[Zci];rw[Yta];exact hrs)
            have hblk:=setRow_heap w l.b _ (⟨splice cur (l.d+(o+len*sz)+0) ys⟩:Array Value) e' _ q1
            have hmono:∀j lj,μ j=some lj→(fun j=>if j=st.n then some (⟨l.b,l.d+o,l.tot-o⟩:L) else μ j) j=some lj:=fun j lj hj=>by
             have:=(hh.dom j lj hj).1
             simp only
             rw[Yrt (by omega)];exact hj
            refine⟨.value (.slice (some ⟨l.b,l.d+o,none⟩) (len+m) c),_,w.setRow l.b ⟨splice cur (l.d+(o+len*sz)+0) ys⟩,fun j=>if j=st.n then some ⟨l.b,l.d+o,l.tot-o⟩ else μ j,[i],?_,.inl rfl,?_,Stp.regrow hh hl (Zjr hrow) rfl rfl rfl rfl (by simp) (fun b hb=>setRow_other w l.b b _ hb) rfl ⟨_,lo,hi,hblk,?_,?_,?_,?_,?_⟩⟩
            ·rw[h1];simp only[Sem.run_bind,hrun,Result.andThen_ok,Sem.run_pure]
            ·simp only[VR]
             refine⟨⟨l.b,l.d+o,l.tot-o⟩,c,by simp,by simp,hlm,?_,by simp,fun _=>?_⟩
             ·show 0+c*sz≤l.tot-o
              omega
             ·show 0+c*sz=l.tot-o
              omega
            ·simp only[List.size_toArray]
             rw[Zb9 (by omega)];omega
            ·simp only[Yr8,Yt8];omega
            ·intro j u' hu'
             have e1:∀k:Nat,(⟨splice cur (l.d+(o+len*sz)+0) ys⟩:Array Value)[k]?=(splice cur (l.d+(o+len*sz)+0) ys)[k]?:=fun k=>by simp
             simp only
             rw[e1,Zeu (by omega)]
             rw[List.getElem?_append]at hu'
             split at hu'
             ·rename_i hj
              simp only[Yt8]at hj
              rw[Yr4]at hu'
              obtain⟨y',p1,p2⟩:=q4 (o+j) u' hu'
              rw[Yrt (by omega)]
              refine⟨y',?_,VR.mono hmono u' y' p2⟩
              rw[show l.d+o+j=l.d+(o+j) by omega]
              simpa using p1
             ·rename_i hj
              simp only[Yt8]at hj hu'
              obtain⟨y',p1,p2⟩:=g3.get hu'
              have hlt:=(Ys9.1 p1).1
              rw[Yrw (by omega)]
              refine⟨y',?_,VR.mono hmono u' y' p2⟩
              rw[show l.d+o+j-(l.d+(o+len*sz)+0)=j-(cs.length-o) by omega]
              exact p1
            ·intro j y' hlt' hy'
             simp only at hlt' hy'
             have e1:(⟨splice cur (l.d+(o+len*sz)+0) ys⟩:Array Value)[l.d+o+j]?=(splice cur (l.d+(o+len*sz)+0) ys)[l.d+o+j]?:=by simp
             rw[e1,Zeu (by omega)]at hy'
             split at hy'
             ·exact g4 y' (Yr1 hy')
             ·exact q5 (o+j) y' (by omega) (by rw[show l.d+(o+j)=l.d+o+j by omega];simpa using hy')
            ·intro _
             refine⟨by have:=(q6 rfl).1;show l.d+o=0;omega,?_⟩
             intro j hj
             have:=(q6 rfl).2 (o+j) (by simp only at hj;omega)
             rw[show l.d+(o+j)=l.d+o+j by omega]at this
             exact this
           ·have hkill:=Stp.kill hh hl (Zjr hrow) rfl
            exact fresh (st.write i .dead) [i] cs (cs.drop o) e' true hkill rfl hrow hold hlm
          ·cases h
        ·cases h
   ·cases h
 ·cases h
end
end Go.Mx
