/-The operations of M stand for the Go mod-/
import Derived.Test.YtgccnjdneojagaaGreatDoorMxOp8
import Derived.Lib.Builder
import Derived.Lib.UnsafeStr
set_option linter.all false
namespace Go.Mx
open Go
set_option maxHeartbeats 2000000
def HS:Ext->Array Value->Sem Value
 |.pD=>add64Entry
 |.pE=>Go.Proofs.sub64Entry
 |.same=>Extern.AbiNoEscape.same
 |.cr=>Extern.BytealgIndexByte.indexByte
 |.nH=>fun _=>stuck "not taken"
def wj(P:Program):Prop:=∀(g:FuncId) (fn:Func) (e:Ext),P.funcs[g]?=some fn->fn.body.isSome=false->An fn.name=some e->
 (fn.name== "runtime.NumGoroutine")=false/\Extern.findNext fn=none/\Extern.find fn=some (HS e)
def Zma(c:UInt8):∀(l:List UInt8),Go.Lib.indexByte l c= -1\/0<=Go.Lib.indexByte l c
 |[]=>.inl rfl
 |b::l=>by
  rcases Zma c l with h|h<;>simp only[Go.Lib.indexByte]<;>split<;>first|omega|(split<;>omega)
def Zp9(c:UInt8):∀(l:List UInt8) (i:Nat),I7 c l i=if Go.Lib.indexByte l c= -1 then -1 else Go.Lib.indexByte l c+i
 |[],i=>by simp[I7,Go.Lib.indexByte]
 |b::l,i=>by
  have h:=Zma c l
  simp only[I7,Go.Lib.indexByte]
  split
  ·simp
  ·rw[Zp9 c l (i+1)]
   by_cases e:Go.Lib.indexByte l c= -1
   ·simp[e]
   ·have e':(Go.Lib.indexByte l c== -1)=false:=by simpa using e
    rw[ak e,e']
    simp only[ix,if_false]
    rw[ak (by omega)]
    omega
section
variable {P:Program} {μ:Mu} {w:World} {st aB:St} {r:T V} {n:Nat} {a:Act} {call:cO} {v:V}
def Yya(hh:bp P μ w st)(hr:RR μ r n a.tmps)(hE:wj P){g:Nat}{fn:Func}{e:Ext}{xs:List Operand}{ss:List Src}(hg:P.funcs[g]?=some fn)(hb:fn.body.isSome=false)(he:An fn.name=some e)
  (hx:xz P xs=some ss) (h:Jo e ss call r st=some (v,aB)):bg P μ w st (callFunc g ⟨xs.map a.eval⟩) v aB:=by
 obtain⟨e1,e2,e3⟩:=hE g fn e hg hb he;have bU:=run_callFunc_extern hg e1 (by simpa using hb) e2 e3 ⟨xs.map a.eval⟩ w;have fin:∀x,(HS e ⟨xs.map a.eval⟩).run P w=.ok x w->VR μ v x->aB=st->bg P μ w st (callFunc g ⟨xs.map a.eval⟩) v aB:=by intro x hx hv hs;subst hs;exact⟨.value x,x,w,μ,[],by rw[bU,hx];rfl,.inl rfl,hv,bL.refl hh⟩
 unfold Jo at h;cases hl:wH r ss with
 |none=>cases e<;>simp[hl]at h
 |some l=>
  have hv:=IX hh hr hx hl;have xN:∀u,EC e l=some u->(HS e ⟨xs.map a.eval⟩).run P w=.ok (match u with|.aX [.int .u64 p,.int .u64 q]=>.tuple #[.int .u64 p,.int .u64 q]|.int k m=>.int k m|_=>undef) w/\
    VR μ u (match u with|.aX [.int .u64 p,.int .u64 q]=>.tuple #[.int .u64 p,.int .u64 q]|.int k m=>.int k m|_=>undef):=by
   intro u hu
   unfold EC at hu
   split at hu
   ·rename_i x y c
    split at hu
    ·cases hu
    ·rename_i hc
     simp only[au]at hu;subst hu
     simp only[aY,VR]at hv
     obtain⟨_,_,h1,rfl,_,_,rfl,rfl,_,_,rfl,rfl,rfl⟩:=hv
     rw[h1]
     refine⟨?_,by simp[VR,aY]⟩
     have nF:c=0\/c=1:=Decidable.not_not.1 hc
     rcases nF with rfl|rfl<;>rfl
   ·rename_i x y c
    split at hu
    ·cases hu
    ·rename_i hc
     simp only[au]at hu;subst hu
     simp only[aY,VR]at hv
     obtain⟨_,_,h1,rfl,_,_,rfl,rfl,_,_,rfl,rfl,rfl⟩:=hv
     rw[h1]
     refine⟨?_,by simp[VR,aY]⟩
     have nF:c=0\/c=1:=Decidable.not_not.1 hc
     have hi:∀(p:Prop) [Decidable p],((if p then 1 else 0:Int))=Int.ofNat (if p then 1 else 0):=fun p _=>by split<;>rfl
     rcases nF with rfl|rfl<;>rw[hi]<;>rfl
   ·rename_i s c
    simp only[au]at hu;subst hu
    simp only[aY,VR]at hv
    obtain⟨_,_,h1,rfl,_,_,rfl,rfl,rfl⟩:=hv
    rw[h1]
    refine⟨?_,by simp[VR]⟩
    have:=Go.Lib.run_indexByteString (P:=P) ⟨s.toArray⟩ c w
    show (Extern.BytealgIndexByte.indexByte #[.string ⟨s.toArray⟩,.int .u8 c]).run P w=_
    rw[this,Zp9]
    simp only[]
    congr 2
    split
    ·rename_i e;exact e
    ·simp
   ·cases hu
  cases e with
  |same=>
   rcases l with _|⟨u,_|⟨u',l⟩⟩<;>simp[hl,EC]at h
   obtain⟨rfl,rfl⟩:=h;obtain⟨y,ys,si,h1,h2⟩:=kO.1 hv;simp only[aY]at h2;subst h2;refine fin y ?_ h1 rfl;rw[si];rfl
  |pD=>
   simp only[hl]at h;split at h
   ·rename_i u hu;simp only[au,bD]at h;obtain⟨rfl,rfl⟩:=h;exact fin _ (xN _ hu).1 (xN _ hu).2 rfl
   cases h
  |pE=>
   simp only[hl]at h;split at h
   ·rename_i u hu;simp only[au,bD]at h;obtain⟨rfl,rfl⟩:=h;exact fin _ (xN _ hu).1 (xN _ hu).2 rfl
   cases h
  |cr=>
   simp only[hl]at h;split at h
   ·rename_i u hu;simp only[au,bD]at h;obtain⟨rfl,rfl⟩:=h;exact fin _ (xN _ hu).1 (xN _ hu).2 rfl
   cases h
  |nH=>simp[hl,EC]at h
def Znt(hh:bp P μ w st){size:Nat}{u:V}{X:Value}(hx:VR μ u X){m:Nat}{xs:List V}(h:fQ st size u=some (m,xs)):
  (Builtin.lenOf X).run P w=.ok m w/\xs.length=m*size/\∃ys,aY μ xs ys/\(∀y∈ys,y.oneCell'=true)/\
   ∀w':World,w'.heap=w.heap->∀k,k<=m->(Builtin.firstCells size k X).run P w'=.ok ⟨ys.take (k*size)⟩ w':=by
 unfold fQ at h;split at h
 ·simp only[au,bD]at h;obtain⟨rfl,rfl⟩:=h;simp only[VR]at hx;subst hx;exact⟨by simp[Builtin.lenOf],by simp,[],by simp[aY],by simp,fun w' _ k hk=>by simp[Builtin.firstCells]⟩
 ·simp only[au,bD]at h;obtain⟨rfl,rfl⟩:=h;obtain⟨b,c,rfl⟩:=hx;refine⟨by simp[Builtin.lenOf],by simp,[],by simp[aY],by simp,fun w' _ k hk=>?_⟩;have oh:k=0:=by omega
  subst oh;have:=run_firstCells_some (P:=P) w' size 0 b 0 c [] (by simp) (by simp);simpa using this
 ·rename_i j p m' _ sz;obtain⟨l,c,hl,rfl,_⟩:=hx;split at h
  ·split at h
   ·rename_i cs _ _ aA;split at h
    ·rename_i Bz vO;simp only[au,bD]at h;obtain⟨rfl,rfl⟩:=h;obtain⟨ys,g1,g2,g3,g4,g5⟩:=(hh.row hl aA).Bz vO;refine⟨by simp[Builtin.lenOf],by rw[<-g1.length,g2],ys,g1,g5,fun w' xS k hk=>?_⟩;have wB:k*size<=m'*size:=jz _ hk;refine run_firstCells_some (P:=P) w' size k _ m' c (ys.take (k*size)) (by rw[ik,g2];exact ry wB) fun i y hy=>?_;rw[yX];rw[jZ]at hy;split at hy
     ·have:=g4 i y hy;simpa[World.cell?,xS]using this
     cases hy
    cases h
   cases h
  cases h
 ·rename_i s;split at h
  ·rename_i AQ;subst AQ;simp only[au,bD]at h;obtain⟨rfl,rfl⟩:=h;simp only[VR]at hx;subst hx;have m7:(⟨s.toArray⟩:ByteArray).size=s.length:=rfl;refine⟨by simp[Builtin.lenOf,m7, -ByteArray.size_data],by simp,s.map (fun b=>.int .u8 b.toNat),?_,by simp;intro y _;rfl,fun w' _ k hk=>?_⟩
   ·refine aY.tv (by simp) fun i y hy=>?_;simp only[eH,mP]at hy;obtain⟨b,hb,rfl⟩:=hy;exact⟨_,by simp[hb];rfl,by simp[VR]⟩
   simp only[Builtin.firstCells,Sem.run_pure,AH];congr 1;apply Array.ext';simp
  cases h
 cases h
def Zgk(a:Addr)(i:Nat):(storeCells a [] i).run P w=.ok () w:=by simp[storeCells]
def Yu8(hh:bp P μ w st)(hr:RR μ r n a.tmps){ts:Array TypeId}{t ty e:TypeId}{size:Nat}{x y:Operand}{sd ss:Src}(q9:ts[0]?=some t)(ht:P.underlying t=some (.slice e))(hs:fE P e=some size)
  (hx:bI P x=some sd) (hy:bI P y=some ss) (h:Dp size sd ss call r st=some (v,aB)):
  bg P μ w st (do pure (.value (<-Builtin.copy_ ts ty #[a.eval x,a.eval y]))) v aB:=by
 unfold Dp at h;split at h
 ·rename_i d s hd GO;have h1:=dk hh hr hx hd;have h2:=dk hh hr hy GO;split at h
  ·rename_i m xs FW;obtain⟨g1,g2,ys,g3,g4,g5⟩:=Znt hh h2 FW;have O3:=g3.length;split at h
   ·simp only[au,bD]at h;obtain⟨rfl,rfl⟩:=h;simp only[VR]at h1;refine bg.value hh (x:=.int .i64 0) ?_ (by simp[VR]);have hf:=g5 w rfl 0 (wx _);simp[Builtin.copy_,q9,h1,run_underlying ht,g1,zY hs,hf,Result.andThen,goInt]
   ·rename_i i o len cap sz;obtain⟨l,c,hl,h1,Ay,B1,_⟩:=h1;split at h
    ·cases h
    rename_i m7;have hf:=g5 w rfl (min m len) (Nat.min_le_left _ _);simp only at h;split at h
    ·rename_i hk;simp only[au,bD]at h;obtain⟨rfl,rfl⟩:=h;refine bg.value hh (x:=.int .i64 0) ?_ (by simp[VR]);have rD:Nat.min m len=0:=hk;rw[hk]at hf;simp[Builtin.copy_,q9,h1,run_underlying ht,g1,zY hs,hf,Result.andThen,goInt,rD,Zgk]
    rename_i hk;split at h
    ·rename_i cs e' aA;split at h
     ·rename_i hle;simp only[au,bD]at h;obtain⟨rfl,rfl⟩:=h;have wB:min m len*size<=m*size:=jz _ (Nat.min_le_left _ _);obtain⟨w',hw,fj⟩:=Um (o:=o) hh hl aA (g3.take (min m len*size)) (fun q hq=>g4 q (wy hq)) (by rw[ik,g2,ry wB];exact hle);refine⟨.value (.int .i64 (min m len:Nat)),_,w',μ,[i],?_,.inl rfl,by simp[VR],fj⟩;have rD:Nat.min m len=min m len:=rfl;simp only[Builtin.copy_,q9,h1,Sem.run_bind,run_underlying ht,g1,zY hs,Result.andThen_ok,rD,hf,hw,goInt,Sem.run_pure,List.getElem?_toArray,De,Gh]
     cases h
    cases h
   cases h
  cases h
 cases h
def Zj7(z:Array Value)(k:Nat):Builtin.zeroCells z k=madeCells z (k*z.size):=rfl
def Yzf(hh:bp P μ w st)(hr:RR μ r n a.tmps){t ty e:TypeId}{size:Nat}{z:V}{x:Operand}{s:Src}(ht:P.underlying t=some (.slice e))(hz:tm P e=some z)(cP:z.cells.all V.one=true)
  (hx:bI P x=some s) (h:LX size z.cells s call r st=some (v,aB)):
  bg P μ w st (do pure (.value (<-Builtin.clear_ #[t] ty #[a.eval x]))) v aB:=by
 unfold LX at h;split at h
 ·rename_i hm;simp only[au,bD]at h;obtain⟨rfl,rfl⟩:=h;have h1:=dk hh hr hx hm;simp only[VR]at h1;exact bg.value hh (x:=.tuple #[]) (by simp[Builtin.clear_,h1,run_underlying ht]) ⟨[],rfl,by simp[aY]⟩
 ·rename_i hm;simp only[au,bD]at h;obtain⟨rfl,rfl⟩:=h;obtain⟨b,c,h1⟩:=dk hh hr hx hm;exact bg.value hh (x:=.tuple #[]) (by simp[Builtin.clear_,h1,run_underlying ht]) ⟨[],rfl,by simp[aY]⟩
 ·rename_i i o len cap sz hm;obtain⟨l,c,hl,h1,_⟩:=dk hh hr hx hm;split at h
  ·rename_i h0;subst h0;simp only[au,bD]at h;obtain⟨rfl,rfl⟩:=h;exact bg.value hh (x:=.tuple #[]) (by simp[Builtin.clear_,h1,run_underlying ht]) ⟨[],rfl,by simp[aY]⟩
  rename_i h0;split at h
  ·cases h
  rename_i c9;simp only[not_or,Decidable.not_not]at c9;split at h
  ·rename_i cs e' aA;split at h
   ·rename_i hle;simp only[au,bD]at h;obtain⟨rfl,rfl⟩:=h;obtain⟨inf,zx,hi,sH,DF⟩:=JH hz;have p_:=Un (DF μ).cells len;have hlen:z.cells.length=zx.cells.size:=by rw[<-(DF μ).cells.length];simp
    obtain⟨w',hw,fj⟩:=Um (o:=o) hh hl aA p_ (Zsp cP len p_) (by rw[Zoz,c9.2.2];exact hle);refine⟨.value (.tuple #[]),_,w',μ,[i],?_,.inl rfl,⟨[],rfl,by simp[aY]⟩,fj⟩;have DY:Builtin.zeroCells zx.cells len=madeCells ⟨zx.cells.toList⟩ (len*z.cells.length):=by rw[Zj7,hlen]
    have hrz:(zeroValue e).run P w=.ok zx w:=by simp[zeroValue,typeInfo,hi,sH]
    obtain⟨zbN,rfl⟩:∃q,len=q+1:=⟨len-1,by omega⟩;simp[Builtin.clear_,h1,run_underlying ht,hrz,DY,hw,Result.andThen]
   cases h
  cases h
 cases h
def Uo{ts:Array TypeId}{t u ty e:TypeId}{d:TypeDesc}{size m sLen sCap:Nat}{base:Option Addr}{X:Value}{ys:List Value}(q9:ts[0]?=some t)(ht:P.underlying t=some (.slice e))(nD:ts[1]?=some u)(hu:P.underlying u=some d)
  (hd:∀k,d≠.int k) (hs:fE P e=some size) (hlen:(Builtin.lenOf X).run P w=.ok m w) (hf:(Builtin.firstCells size m X).run P w=.ok ⟨ys⟩ w) (hle:sLen+m<=sCap)
  {w':World} (fj:(match base with|some a=>storeCells (a.add (sLen*size)) ys|none=>pure ():Sem Unit).run P w=.ok () w'):
  (Builtin.append_ ts ty #[.slice base sLen sCap,X]).run P w=.ok (.slice base (sLen+m) sCap) w':=by
 cases base with
 |none=> simp only[Sem.run_pure,Result.ok.injEq,true_and]at fj;subst fj;cases d<;>first|exact absurd rfl (hd _)|simp[Builtin.append_,q9,run_underlying ht,nD,run_underlying hu,zY hs,Result.andThen,hlen,hf,hle]
 |some b=> simp only at fj;cases d<;>first|exact absurd rfl (hd _)|simp[Builtin.append_,q9,run_underlying ht,nD,run_underlying hu,zY hs,Result.andThen,hlen,hf,hle,fj]
def Zn8{ts:Array TypeId}{t u ty e:TypeId}{d:TypeDesc}{inf:TypeInfo}{zx:Value}{m sLen sCap:Nat}{base:Option Addr}{X:Value}{os ys:List Value}(q9:ts[0]?=some t)(ht:P.underlying t=some (.slice e))(nD:ts[1]?=some u)(hu:P.underlying u=some d)
  (hd:∀k,d≠.int k) (hi:P.info? e=some inf) (hz:inf.zero=some zx) (hlen:(Builtin.lenOf X).run P w=.ok m w) (hf:(Builtin.firstCells inf.size m X).run P w.drew=.ok ⟨ys⟩ w.drew)
  (O4:(Builtin.firstCells inf.size sLen (.slice base sLen sCap)).run P w.drew=.ok ⟨os⟩ w.drew) (hle:¬sLen+m<=sCap) (hb:inf.bytes≠0) (B2:2*(sLen+m)*inf.bytes<=2^48):
  (Builtin.append_ ts ty #[.slice base sLen sCap,X]).run P w=.ok (.slice (some ⟨w.heap.size,0,none⟩) (sLen+m) (grownCap w (sLen+m) sCap e))
   (w.drew.alloc (.cells ⟨os++ys++(Builtin.zeroCells zx.cells (grownCap w (sLen+m) sCap e-(sLen+m))).toList⟩ e)):=by
 have hgr:Builtin.nextslicecap (sLen+m) sCap*inf.bytes<=2^48:=by have h1:Builtin.nextslicecap (sLen+m) sCap*inf.bytes<=2*(sLen+m)*inf.bytes:=jz _ (nextslicecap_le (by omega));omega
 have zal:¬(281474976710656<Builtin.nextslicecap (sLen+m) sCap*inf.bytes):=by omega
 cases d<;>first|exact absurd rfl (hd _)|simp[Builtin.append_,q9,run_underlying ht,nD,run_underlying hu,sizeOf,typeInfo,zeroValue,hi,hz,Result.andThen,hlen,hf,O4,hle,hb,zal,Question.forced,newRow,grownCap]<;>(congr 2;apply Array.ext';simp)
def Zsk(hh:bp P μ w st){ts:Array TypeId}{t u ty e:TypeId}{d:TypeDesc}{size b m sLen sCap:Nat}{z:V}{base:Option Addr}{X:Value}{os ys:List Value}{co cx:List V}
  (q9:ts[0]?=some t) (ht:P.underlying t=some (.slice e)) (nD:ts[1]?=some u) (hu:P.underlying u=some d) (hd:∀k,d≠.int k)
  (hs:fE P e=some size) (hb:Er P e=some b) (hz:tm P e=some z) (O5:z.cells.length=size) (cP:z.cells.all V.one=true) (iN:size≠0)
  (hlen:(Builtin.lenOf X).run P w=.ok m w) (hf:(Builtin.firstCells size m X).run P w.drew=.ok ⟨ys⟩ w.drew)
  (O4:(Builtin.firstCells size sLen (.slice base sLen sCap)).run P w.drew=.ok ⟨os⟩ w.drew) (hle:¬sLen+m<=sCap) (qU:b≠0) (B2:2*(sLen+m)*b<=2^48)
  (ho:aY μ co os) (hx:aY μ cx ys) (Dd:∀y∈os,y.oneCell'=true) (xe:∀y∈ys,y.oneCell'=true) (iM:co.length=sLen*size) (rM:cx.length=m*size):
  ∃μ' w' c,(Builtin.append_ ts ty #[.slice base sLen sCap,X]).run P w=.ok (.slice (some ⟨w.heap.size,0,none⟩) (sLen+m) c) w'/\VR μ' (.slice st.n 0 (sLen+m) none size) (.slice (some ⟨w.heap.size,0,none⟩) (sLen+m) c)/\
   bL P μ w st μ' w' (st.alloc (.cells (co++cx) e true)) []:=by
 obtain⟨inf,zx,hi,sH,DF⟩:=JH hz;have m7:inf.size=size:=by unfold fE at hs;simpa[hi]using hs
 have hbz:inf.bytes=b:=by unfold Er at hb;simpa[hi]using hb
 have O6:zx.cells.size=size:=by rw[<-O5,<-(DF μ).cells.length];simp
 subst m7 hbz;have bU:=Zn8 (P:=P) (w:=w) (ty:=ty) q9 ht nD hu hd hi sH hlen hf O4 hle qU B2;have EV:=grownCap_ge w (sLen+m) sCap e;generalize grownCap w (sLen+m) sCap e=cap at bU EV;have DY:(Builtin.zeroCells zx.cells (cap-(sLen+m))).toList.length=(cap-(sLen+m))*inf.size:=by simp[Builtin.zeroCells,O6]
 have p_:aY μ (cW z.cells (cap-(sLen+m))) (Builtin.zeroCells zx.cells (cap-(sLen+m))).toList:=by
  have:=Un (DF μ).cells (cap-(sLen+m));rw[Zj7];have e1:zx.cells.size=z.cells.length:=by rw[O6,O5]
  rw[e1];simpa using this
 have O7:=ho.length;have O8:=hx.length;have B1:(os++ys++(Builtin.zeroCells zx.cells (cap-(sLen+m))).toList).length=cap*inf.size:=by rw[iI,iI,DY,O7,O8,iM,rM,<-js,<-js];congr 1;omega
 refine⟨_,_,cap,bU,?_,(bL.newRow hh.GP (cs:=co++cx) (xs:=os++ys++(Builtin.zeroCells zx.cells (cap-(sLen+m))).toList) (lo:=0) (hi:=0) ?_ ?_ ?_ ?_).B3⟩
 ·simp only[VR];refine⟨⟨w.heap.size,0,(os++ys++(Builtin.zeroCells zx.cells (cap-(sLen+m))).toList).length⟩,cap,by exact av trivial,by simp,EV,?_,by simp,fun _=>?_⟩
  ·show 0+cap*inf.size<=(os++ys++(Builtin.zeroCells zx.cells (cap-(sLen+m))).toList).length;omega
  show 0+cap*inf.size=(os++ys++(Builtin.zeroCells zx.cells (cap-(sLen+m))).toList).length;omega
 ·rw[iI,iI,iI,O7,O8];omega
 ·intro j u' ot;obtain⟨y,h1,h2⟩:=(ho.append hx).get ot;exact⟨y,by rw[mH (yK.1 h1).1];exact h1,h2⟩
 ·intro y hy;simp only[jn]at hy;rcases hy with(hy|hy)|hy
  ·exact Dd y hy
  ·exact xe y hy
  exact Zsp cP _ p_ y hy
 exact .inr (aM _)
def bL.JI{w':World}(h:bp P μ w st){i:Nat}{l l':L}{o o':O}(hi:μ i=some l)(ho:st.h.get i=some o)(hw:o.wr=true)
  (By:w'.os=w.os) (htp:w'.tape=w.tape) (hou:w'.output=w.output) (m7:w'.heap.size=w.heap.size) (tA:∀b,b≠l.b->w'.heap[b]?=w.heap[b]?) (vi:l'.b=l.b)
  (yS:OM P (fun j=>if j=st.n then some l' else μ j) w' o' l'):
  bL P μ w st (fun j=>if j=st.n then some l' else μ j) w' ((st.write i .dead).alloc o') [i]:=by
 have yW:o.live=true:=by cases o<;>simp_all [O.wr,O.live]
 have CW:=(h.dq i l hi).1;have nk:=(h.dq i l hi).2;have dT:∀j lj,μ j=some lj->(fun j=>if j=st.n then some l' else μ j) j=some lj:=fun j lj hj=>by have:=(h.dq j lj hj).1;show (if j=st.n then some l' else μ j)=some lj;rw[ak (by omega)];exact hj
 have cZ:∀j,((st.write i .dead).alloc o').h.get j=if j=st.n then some o' else if j=i then some .dead else st.h.get j:=fun j=>by simp only[St.alloc,St.write,T.ag]
 refine⟨⟨fun j lj hj=>?_,fun j lj hj=>?_,fun j k lj lk oj ok hj hk aZ h1 h2 LH fO=>?_,fun g hg=>let ⟨t,ht⟩:=h.iO g hg;⟨t,dT g _ ht⟩⟩,fun j hj=>?_,by simp[St.alloc,St.write],rfl,⟨By,htp,hou,by omega,fun b _ dV=>tA b ?_⟩,
  fun j lj hn hj=>?_,fun j hj dV=>?_,fun j oj hn hj=>?_,fun j h1 h2=>⟨l',by simp only[St.alloc,St.write]at h2;show (if j=st.n then some l' else μ j)=some l';rw[av (by omega)]⟩,fun j hj _=>by simp only[u9]at hj;subst hj;exact⟨o,ho,hw⟩⟩
 ·replace hj:(if j=st.n then some l' else μ j)=some lj:=hj;split at hj
  ·rename_i e;simp only[au]at hj;subst hj;simp[St.alloc,St.write];omega
  have:=h.dq j lj hj;simp[St.alloc,St.write];omega
 ·replace hj:(if j=st.n then some l' else μ j)=some lj:=hj;split at hj
  ·rename_i e;simp only[au]at hj;subst hj;exact⟨o',by rw[cZ,av e],yS⟩
  rename_i e;by_cases e2:j=i
  ·exact⟨.dead,by rw[cZ,ak e,av e2],trivial⟩
  obtain⟨oj,h1,h2⟩:=h.obj j lj hj;refine⟨oj,by rw[cZ,ak e,ak e2];exact h1,?_⟩;cases hl:oj.live
  ·cases oj<;>simp[O.live]at hl;trivial
  exact(h2.mono dT).congr (tA lj.b (Ne.symm (h.inj i j l lj o oj hi hj (Ne.symm e2) ho h1 hw hl)))
 ·rw[cZ]at h1 h2;replace hj:(if j=st.n then some l' else μ j)=some lj:=hj;replace hk:(if k=st.n then some l' else μ k)=some lk:=hk;by_cases e1:j=st.n
  ·rw[av e1]at hj h1;simp only[au]at hj h1;subst hj h1;by_cases e2:k=st.n
   ·exact absurd (e1.trans e2.symm) aZ
   rw[ak e2]at hk h2;by_cases e3:k=i
   ·rw[av e3,au]at h2;subst h2;simp[O.live]at fO
   rw[ak e3]at h2;rw[vi];exact h.inj i k l lk o ok hi hk (Ne.symm e3) ho h2 hw fO
  rw[ak e1]at hj h1;by_cases e3:j=i
  ·rw[av e3,au]at h1;subst h1;simp[O.wr]at LH
  rw[ak e3]at h1;by_cases e2:k=st.n
  ·rw[av e2]at hk h2;simp only[au]at hk h2;subst hk h2;rw[vi];exact h.inj j i lj l oj o hj hi e3 h1 ho LH yW
  rw[ak e2]at hk h2;by_cases e4:k=i
  ·rw[av e4,au]at h2;subst h2;simp[O.live]at fO
  rw[ak e4]at h2;exact h.inj j k lj lk oj ok hj hk aZ h1 h2 LH fO
 ·show (if j=st.n then some l' else μ j)=μ j;rw[ak (by omega)]
 ·exact Ne.symm (dV i (by simp) l hi)
 ·replace hj:(if j=st.n then some l' else μ j)=some lj:=hj;split at hj
  ·simp only[au]at hj;subst hj;exact .inr ⟨i,by simp,CW,l,o,hi,vi.symm,ho,hw⟩
  exact absurd (h.dq j lj hj).1 (by omega)
 ·simp only[u9]at dV;rw[cZ,ak (by omega),ak dV]
 rw[cZ,ak (by omega)]at hj;split at hj
 ·rename_i e;subst e;simp only[au]at hj;subst hj;exact⟨o,ho,by simp[O.wr],by simp[O.live]⟩
 exact⟨oj,hj,id,id⟩
def bL.kill(h:bp P μ w st){i:Nat}{l:L}{o:O}(hi:μ i=some l)(ho:st.h.get i=some o)(hw:o.wr=true):bL P μ w st μ w (st.write i .dead) [i]:=
 bL.write h hi ho hw rfl rfl rfl rfl (fun _ _=>rfl) trivial
def Ykd(hh:bp P μ w st)(hr:RR μ r n a.tmps){ts:Array TypeId}{t u ty e:TypeId}{d:TypeDesc}{size b:Nat}{z:V}{x y:Operand}{s sx:Src}
  (q9:ts[0]?=some t) (ht:P.underlying t=some (.slice e)) (nD:ts[1]?=some u) (hu:P.underlying u=some d) (hd:∀k,d≠.int k)
  (hs:fE P e=some size) (hb:Er P e=some b) (hz:tm P e=some z) (O5:z.cells.length=size) (cP:z.cells.all V.one=true) (qU:b≠0)
  (hx:bI P x=some s) (hy:bI P y=some sx) (h:EG size b e z.cells s sx call r st=some (v,aB)):
  bg P μ w st (do pure (.value (<-Builtin.append_ ts ty #[a.eval x,a.eval y]))) v aB:=by
 unfold EG at h;split at h
 ·rename_i sv xv hsv DD;have h1:=dk hh hr hx hsv;have h2:=dk hh hr hy DD;unfold oc at h;split at h
  ·cases h
  rename_i m xs FW;obtain⟨g1,g2,ys,g3,g4,g5⟩:=Znt hh h2 FW;have O3:=g3.length;have hyt:ys.take (m*size)=ys:=fU (by omega);have gf:∀w':World,w'.heap=w.heap->(Builtin.firstCells size m (a.eval y)).run P w'=.ok ⟨ys⟩ w':=fun w' xS=>by rw[g5 w' xS m (aM _),hyt]
  split at h
  ·-- a nil slice
   simp only[VR]at h1;split at h
   ·rename_i iJ;subst iJ;simp only[au,bD]at h;obtain⟨rfl,rfl⟩:=h;refine bg.value hh (x:=.slice none 0 0) ?_ (by simp[VR]);rw[h1];exact Uo (base:=none) q9 ht nD hu hd hs g1 (gf w rfl) (aM _) (by simp)
   rename_i iJ;split at h
   ·rename_i hc;simp only[au,bD]at h;obtain⟨rfl,rfl⟩:=h;obtain⟨μ',w',c,k1,k2,k3⟩:=Zsk (P:=P) (w:=w) (ty:=ty) (sLen:=0) (sCap:=0) (base:=none) (X:=a.eval y) (os:=[]) (co:=[]) hh q9 ht nD hu hd hs hb hz O5 cP hc.2 g1 (gf w.drew rfl) (by simp[Builtin.firstCells]) (by omega) qU
     (by have:=hc.1;unfold zR at this;simpa using this) (by simp[aY]) g3 (by simp) g4 (by simp) g2;refine⟨.value (.slice (some ⟨w.heap.size,0,none⟩) (0+m) c),_,w',μ',[],?_,.inl rfl,?_,?_⟩
    ·rw[h1];simp only[Sem.run_bind,k1,Result.andThen_ok,Sem.run_pure]
    ·simpa using k2
    simpa using k3
   cases h
  ·-- a slice
   rename_i i o len cap sz;have g_:=h1;obtain⟨l,c,hl,h1,Ay,B1,hk,xU⟩:=h1;split at h
   ·rename_i iJ;subst iJ;split at h
    ·simp only[au,bD]at h;obtain⟨rfl,rfl⟩:=h;refine bg.value hh (x:=a.eval x) ?_ g_;have O9:ys=[]:=by apply th;omega
     rw[h1];have:=Uo (P:=P) (w:=w) (w':=w) (ty:=ty) (base:=some ⟨l.b,l.d+o,none⟩) (sLen:=len) (sCap:=c) q9 ht nD hu hd hs g1 (gf w rfl) (by omega) (by simp only[O9];exact Zgk _ _);simpa using this
    cases h
   rename_i iJ;split at h
   ·cases h
   rename_i c9;simp only[not_or,Decidable.not_not,wz]at c9;obtain⟨m7,iN,B2⟩:=c9;subst m7;unfold zR at B2;have inPlace:∀(cs:List V) (e':TypeId),st.row i=some (cs,e',true)->o+(len+m)*sz<=cs.length->len+m<=c->(∀k,cap=some k->c=k)->
     bg P μ w st (do pure (.value (<-Builtin.append_ ts ty #[a.eval x,a.eval y]))) (.slice i o (len+m) cap sz) (st.write i (.cells (ae cs (o+len*sz) xs) e' true)):=by
    intro cs e' aA hle yI _
    have zam:(len+m)*sz=len*sz+m*sz:=js ..
    obtain⟨w',hw,fj⟩:=Um (o:=o+len*sz) hh hl aA g3 g4 (by rw[g2];omega)
    have bU:=Uo (P:=P) (w:=w) (w':=w') (ty:=ty) (base:=some ⟨l.b,l.d+o,none⟩) (sLen:=len) (sCap:=c) q9 ht nD hu hd hs g1 (gf w rfl) yI (by simp only[yX];rw[qP];exact hw)
    refine⟨.value (.slice (some ⟨l.b,l.d+o,none⟩) (len+m) c),_,w',μ,[i],?_,.inl rfl,?_,fj⟩
    ·rw[h1];simp only[Sem.run_bind,bU,Result.andThen_ok,Sem.run_pure]
    ·simp only[VR];exact⟨l,c,hl,rfl,yI,B1,hk,xU⟩
   have fresh:∀(b9:St) (ws:List Nat) (cs old:List V) (e':TypeId) (rj:Bool),bL P μ w st μ w b9 ws->b9.n=st.n->st.row i=some (cs,e',rj)->aP cs o (len*sz)=some old->¬len+m<=c->
     bg P μ w st (do pure (.value (<-Builtin.append_ ts ty #[a.eval x,a.eval y]))) (.slice st.n 0 (len+m) none sz) (b9.alloc (.cells (old++xs) e true)):=by
    intro b9 ws cs old e' rj jG wA aA hold dV
    have AP:=hh.row hl aA
    obtain⟨os,q1,q2,q3,q4,q5⟩:=AP.Bz hold
    have O4:(Builtin.firstCells sz len (.slice (some ⟨l.b,l.d+o,none⟩) len c)).run P w.drew=.ok ⟨os⟩ w.drew:=by
     refine run_firstCells_some (P:=P) w.drew sz len _ len c os q2 fun j y hy=>?_
     rw[yX]
     exact q4 j y hy
    obtain⟨μ',w',c',k1,k2,k3⟩:=Zsk (P:=P) (w:=w) (ty:=ty) (base:=some ⟨l.b,l.d+o,none⟩) (sLen:=len) (sCap:=c) jG.hr q9 ht nD hu hd hs hb hz O5 cP iN g1 (gf w.drew rfl) O4 dV qU B2 q1 g3 q5 g4 (by rw[<-q1.length,q2]) g2
    refine⟨.value (.slice (some ⟨w.heap.size,0,none⟩) (len+m) c'),_,w',μ',[]++ws,?_,.inl rfl,?_,jG.trans k3⟩
    ·rw[h1];simp only[Sem.run_bind,k1,Result.andThen_ok,Sem.run_pure]
    ·rw[<-wA];exact k2
   split at h
   ·cases h
   rename_i cs e' rj aA;split at h
   ·rename_i k;have IF:=hk k rfl;split at h
    ·rename_i hle;split at h
     ·rename_i hc;simp only[au,bD]at h;obtain⟨rfl,rfl⟩:=h;obtain⟨rfl,zU⟩:=hc;exact inPlace cs e' aA zU (by omega) hk
     cases h
    rename_i hle;split at h
    ·rename_i old hold;simp only[au,bD]at h;obtain⟨rfl,rfl⟩:=h;exact fresh st [] cs old e' rj (bL.refl hh) rfl aA hold (by omega)
    cases h
   split at h
   ·rename_i Pa;subst Pa;have AP:=hh.row hl aA;have hct:cs.length<=l.tu:=by obtain⟨_,_,_,_,_,h3,_⟩:=AP;exact h3
    have zbx:=xU rfl;have zam:(len+m)*sz=len*sz+m*sz:=js ..;split at h
    ·rename_i hle;simp only[au,bD]at h;obtain⟨rfl,rfl⟩:=h;refine inPlace cs e' aA hle ?_ hk;have:(len+m)*sz<=c*sz:=by omega
     exact Nat.le_of_mul_le_mul_right this (by omega)
    split at h
    ·rename_i hle hc;obtain⟨Ei,rfl,ho0⟩:=hc;simp only[au,bD]at h;obtain⟨rfl,rfl⟩:=h;have hold:aP cs o (len*sz)=some (cs.drop o):=by unfold aP;rw[av (by omega),fU (by simp;omega)]
     by_cases yI:len+m<=c
     ·-- in place,above what is known
      obtain⟨c',lo,hi,q1,q2,q3,q4,q5,q6⟩:=AP;obtain⟨cur⟩:=c';simp only[List.size_toArray]at q2;have B4:(len+m)*sz<=c*sz:=jz _ yI;have hrs:=Zek (P:=P) l.b (l.d+(o+len*sz)) e' lo hi ys 0 cur w q1 (by omega) g4 (fun j uG pT=>by have:=(q6 rfl).2 (j-l.d) (by omega);rw[show l.d+(j-l.d)=j by omega]at this;exact this);have bU:=Uo (P:=P) (w:=w) (ty:=ty) (base:=some ⟨l.b,l.d+o,none⟩) (sLen:=len) (sCap:=c) q9 ht nD hu hd hs g1 (gf w rfl) yI (by simp only[yX];rw[qP];exact hrs);have tA:=setRow_heap w l.b _ (⟨ae cur (l.d+(o+len*sz)+0) ys⟩:Array Value) e' _ q1;have dT:∀j lj,μ j=some lj->(fun j=>if j=st.n then some (⟨l.b,l.d+o,l.tu-o⟩:L) else μ j) j=some lj:=fun j lj hj=>by have:=(hh.dq j lj hj).1;simp only;rw[ak (by omega)];exact hj
      refine⟨.value (.slice (some ⟨l.b,l.d+o,none⟩) (len+m) c),_,w.setRow l.b ⟨ae cur (l.d+(o+len*sz)+0) ys⟩,fun j=>if j=st.n then some ⟨l.b,l.d+o,l.tu-o⟩ else μ j,[i],?_,.inl rfl,?_,bL.JI hh hl (Pb aA) rfl rfl rfl rfl (by simp) (fun b hb=>setRow_other w l.b b _ hb) rfl ⟨_,lo,hi,tA,?_,?_,?_,?_,?_⟩⟩
      ·rw[h1];simp only[Sem.run_bind,bU,Result.andThen_ok,Sem.run_pure]
      ·simp only[VR];refine⟨⟨l.b,l.d+o,l.tu-o⟩,c,by simp,by simp,yI,?_,by simp,fun _=>?_⟩
       ·show 0+c*sz<=l.tu-o;omega
       show 0+c*sz=l.tu-o;omega
      ·simp only[List.size_toArray];rw[Up (by omega)];omega
      ·simp only[iI,yO];omega
      ·intro j u' ot;have e1:∀k:Nat,(⟨ae cur (l.d+(o+len*sz)+0) ys⟩:Array Value)[k]?=(ae cur (l.d+(o+len*sz)+0) ys)[k]?:=fun k=>by simp
       simp only;rw[e1,Mo (by omega)];rw[List.getElem?_append]at ot;split at ot
       ·rename_i hj;simp only[yO]at hj;rw[fJ]at ot;obtain⟨y',p1,p2⟩:=q4 (o+j) u' ot;rw[ak (by omega)];refine⟨y',?_,VR.mono dT u' y' p2⟩;rw[show l.d+o+j=l.d+(o+j) by omega];simpa using p1
       rename_i hj;simp only[yO]at hj ot;obtain⟨y',p1,p2⟩:=g3.get ot;have aE:=(yK.1 p1).1;rw[av (by omega)];refine⟨y',?_,VR.mono dT u' y' p2⟩;rw[show l.d+o+j-(l.d+(o+len*sz)+0)=j-(cs.length-o) by omega];exact p1
      ·intro j y' bG vt;simp only at bG vt;have e1:(⟨ae cur (l.d+(o+len*sz)+0) ys⟩:Array Value)[l.d+o+j]?=(ae cur (l.d+(o+len*sz)+0) ys)[l.d+o+j]?:=by simp
       rw[e1,Mo (by omega)]at vt;split at vt
       ·exact g4 y' (cy vt)
       exact q5 (o+j) y' (by omega) (by rw[show l.d+(o+j)=l.d+o+j by omega];simpa using vt)
      intro _;refine⟨by have:=(q6 rfl).1;show l.d+o=0;omega,?_⟩;intro j hj;have:=(q6 rfl).2 (o+j) (by simp only at hj;omega);rw[show l.d+(o+j)=l.d+o+j by omega]at this;exact this
     have Pc:=bL.kill hh hl (Pb aA) rfl;exact fresh (st.write i .dead) [i] cs (cs.drop o) e' true Pc rfl aA hold yI
    cases h
   cases h
  cases h
 cases h
end
section
variable {P:Program} {μ:Mu} {w:World} {st aB:St} {r:T V} {n:Nat} {a:Act} {call:cO} {v:V}
def Zkn{b:Nat}{c:Array Value}{e:TypeId}{f:Nat×Nat}(h:w.heap[b]?=some (.cells c e f)):w.shape? b=some (e,c.size):=by simp[World.shape?,h]
def Zmr{t:TypeId}{z:Nat}(h:fE P t=some z):P.cellsOf t=z:=by unfold fE at h;simp[Program.cellsOf,h]
def Zsd{t:TypeId}{z:Nat}(h:fE P t=some z):∃j,P.info? t=some j/\j.size=z:=by unfold fE at h;simp only[mP]at h;exact h
def Zyn{u:TypeId}{z:Nat}(hc:P.cellsOf u=z+1)(count:Nat)(hn:1<=count):liesAt P P.depth u count 0 u 1=true:=by have hd:P.depth=(2*(P.types.size+Made.depth)+1)+1:=rfl;rw[hd];simp only[liesAt,I4];left;rw[hd];simp[rowAt,hc,sameLayout];left;omega
def Ye9(hh:bp P μ w st)(hr:RR μ r n a.tmps){src dst t:TypeId}{x:Operand}{s:Src}{z:Nat}(hs:P.underlying src=some (.pointer t))(hd:P.underlying dst=some .unsafePointer)(hz:fE P t=some (z+1))
  (hx:bI P x=some s) (h:Gy none s call r st=some (v,aB)):bg P μ w st (do pure (.value (<-convert src dst (a.eval x)))) v aB:=by
 unfold Gy at h;split at h
 ·rename_i i hm;obtain⟨l,hl,h1⟩:=dk hh hr hx hm;split at h
  ·rename_i c e' aA;simp only[]at h;split at h
   ·rename_i aE;simp only[au,bD]at h;obtain⟨rfl,rfl⟩:=h;obtain⟨c',lo,hi,g1,g2,g3,_,_,g6⟩:=hh.row hl aA;have qN:=(g6 rfl).1;obtain⟨j,hj,hjs⟩:=Zsd hz;refine bg.value hh (x:=.pointer (some ⟨l.b,l.d+0,none⟩)) ?_ ⟨l,hl,rfl⟩;rw[h1];exact Go.Lib.run_to_unsafe w ⟨l.b,l.d+0,none⟩ hs hd hj (by omega) (Zkn g1) (by show l.d+0<c'.size;omega)
   cases h
  cases h
 cases h
def Zw3(hh:bp P μ w st)(hr:RR μ r n a.tmps){src dst u:TypeId}{x:Operand}{s:Src}{z:Nat}(hs:P.underlying src=some .unsafePointer)(hd:P.underlying dst=some (.pointer u))(hz:fE P u=some (z+1))
  (hx:bI P x=some s) (h:Gy (some (u,z+1)) s call r st=some (v,aB)):bg P μ w st (do pure (.value (<-convert src dst (a.eval x)))) v aB:=by
 unfold Gy at h;split at h
 ·rename_i i hm;obtain⟨l,hl,h1⟩:=dk hh hr hx hm;split at h
  ·rename_i c e' aA;simp only[]at h;split at h
   ·rename_i aE;obtain⟨rfl,_,hle⟩:=aE;simp only[au,bD]at h;obtain⟨rfl,rfl⟩:=h;obtain⟨c',lo,hi,g1,g2,g3,_,_,g6⟩:=hh.row hl aA;have qN:=(g6 rfl).1;obtain⟨j,hj,hjs⟩:=Zsd hz;have hco:=Zmr hz;refine bg.value hh (x:=.pointer (some ⟨l.b,l.d+0,none⟩)) ?_ ⟨l,hl,rfl⟩;rw[h1];refine Go.Lib.run_from_unsafe w ⟨l.b,l.d+0,none⟩ hs hd hj (Zkn g1) ?_;show liesAt P P.depth e' (c'.size/P.cellsOf e') (l.d+0) e' 1=true;rw[qN];refine Zyn hco _ ?_;rw[hco];exact Nat.div_pos (by omega) (by omega)
   cases h
  cases h
 cases h
def Yll(hh:bp P μ w st)(hr:RR μ r n a.tmps){ts:Array TypeId}{ty:TypeId}{x:Operand}{s:Src}
  (hx:bI P x=some s) (h:LY s call r st=some (v,aB)):bg P μ w st (do pure (.value (<-Builtin.unsafeSliceData_ ts ty #[a.eval x]))) v aB:=by
 unfold LY at h;split at h
 ·rename_i i o len cap sz hm;obtain⟨l,c,hl,h1,Ay,_⟩:=dk hh hr hx hm;split at h
  ·rename_i aE;simp only[au,bD]at h;obtain⟨rfl,rfl⟩:=h;refine bg.value hh (x:=.pointer (some ⟨l.b,l.d+o,none⟩)) ?_ ⟨l,hl,rfl⟩;rw[h1];exact Go.Lib.run_unsafeSliceData_row w ts ty _ _ _ (by omega)
  cases h
 cases h
def Zqv:∀{vs:List V} {s:List UInt8},Jp vs=some s->vs.length=s.length/\∀(j:Nat) (b:UInt8),s[j]?=some b->vs[j]?=some (.int .u8 b.toNat)
 |[],s,h=>by
  simp only[Jp,au]at h;subst h
  exact⟨rfl,fun j b hb=>by simp at hb⟩
 |v::vs,s,h=>by
  simp only[Jp]at h
  split at h
  ·rename_i b s' hb hs
   simp only[au]at h;subst h
   obtain⟨h1,h2⟩:=Zqv hs
   refine⟨by simp[h1],fun j c hc=>?_⟩
   cases j with
   |zero=>
    simp only[De,au]at hc;subst hc
    cases v<;>simp only[TY,reduceCtorEq]at hb
    rename_i k m
    cases k<;>simp only[reduceCtorEq]at hb
    split at hb
    ·rename_i hm
     simp only[au]at hb;subst hb
     simp only[De,au,V.int.injEq,true_and]
     have:m.toNat<256:=by omega
     simp[Nat.toUInt8]
     omega
    ·cases hb
   |succ j=>
    simp only[Gh]at hc ⊢
    exact h2 j c hc
  ·cases h
def Yq7(hh:bp P μ w st)(hr:RR μ r n a.tmps){pt it ty e:TypeId}{x y:Operand}{s q:Src}(hp:P.underlying pt=some (.pointer e))(hz:fE P e=some 1)(hx:bI P x=some s)(hy:bI P y=some q)
  (h:LZ e s q call r st=some (v,aB)):bg P μ w st (do pure (.value (<-Builtin.unsafeString_ #[pt,it] ty #[a.eval x,a.eval y]))) v aB:=by
 unfold LZ at h;split at h
 ·rename_i i k hm hq;obtain⟨l,hl,h1⟩:=dk hh hr hx hm;have h2:=dk hh hr hy hq;simp only[VR]at h2;split at h
  ·rename_i hk;split at h
   ·rename_i c e' aA;split at h
    ·rename_i he;subst he;split at h
     ·rename_i Bz vO;split at h
      ·rename_i str zan;simp only[au,bD]at h;obtain⟨rfl,rfl⟩:=h;obtain⟨c',lo,hi,g1,g2,g3,g4,g5,g6⟩:=hh.row hl aA;have qN:=(g6 rfl).1;obtain⟨b1,b2⟩:=Zqv zan;obtain⟨xs,si,rM,zi,ic,_⟩:=(hh.row hl aA).Bz vO;have cC:str.length=k.toNat:=by have:=si.length;omega
       have hle:k.toNat<=c.length:=by
        unfold aP at vO;split at vO
        ·omega
        cases vO
       have wC:k=(str.length:Int):=by omega
       have aZ:str≠[]:=by intro h0;rw[h0]at cC;simp at cC;omega
       have iV:∀(j:Nat) (b:UInt8),str[j]?=some b->w.cell? ((⟨l.b,0,none⟩:Addr).add j)=some (.int .u8 b.toNat):=by intro j b hb;have hv:=b2 j b hb;obtain⟨y,uS,zj⟩:=si.get hv;simp only[VR]at zj;subst zj;have:=ic j _ uS;rw[yX];rw[qN,gE]at this;exact this
       have h63:str.length<=9223372036854775807:=by omega
       have bU:=Go.Lib.run_unsafeString_row (P:=P) w pt it ty e' hp (Zmr hz) l.b c'.size (Zkn g1) str aZ (by omega) h63 iV;have hw:bL P μ w st μ (w.freeze ⟨l.b,0,none⟩ str.length) (st.write i (.cells c e' false)) [i]:=by
        have jy:str.length≠0:=by simpa using aZ
        have pL:(w.freeze ⟨l.b,0,none⟩ str.length).heap[l.b]?=some (.cells c' e' (if lo==hi then (0,0+str.length) else (min lo 0,max hi (0+str.length)))):=by simp[World.freeze,jy,Array.getElem?_modify,g1]
        obtain⟨lo',kf,Pd⟩:∃p q,(if lo==hi then (0,0+str.length) else (min lo 0,max hi (0+str.length)))=(p,q):=⟨_,_,rfl⟩;rw[Pd]at pL;refine bL.write hh hl (Pb aA) rfl ?_ ?_ ?_ ?_ ?_ ⟨c',lo',kf,pL,g2,g3,g4,g5,fun hc=>by cases hc⟩
        ·simp[World.freeze,jy]
        ·simp[World.freeze,jy]
        ·simp[World.freeze,jy]
        ·simp[World.freeze,jy]
        intro b hb;simp only[World.freeze,jy,if_false,Array.getElem?_modify];rw[ak (fun h=>hb h.symm)]
       refine⟨.value (.string ⟨str.toArray⟩),_,_,μ,[i],?_,.inl rfl,rfl,hw⟩;rw[h1,h2,qN,wC];simp[bU,Result.andThen]
      cases h
     cases h
    cases h
   cases h
  cases h
 cases h
end
end Go.Mx
