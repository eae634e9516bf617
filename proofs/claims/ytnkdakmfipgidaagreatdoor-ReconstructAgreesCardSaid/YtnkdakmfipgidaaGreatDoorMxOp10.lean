/-The operations of M stand for the Go mod-/
import Derived.Test.YtnkdakmfipgidaaGreatDoorMxOp8
import Derived.Lib.Builder
import Derived.Lib.UnsafeStr
set_option linter.all false
namespace Go.Mx
open Go
set_option maxHeartbeats 2000000
def HR:Ext->Array Value->Sem Value
 |.pc=>add64Entry
 |.pd=>Go.Proofs.sub64Entry
 |.same=>Extern.AbiNoEscape.same
 |.cf=>Extern.BytealgIndexByte.indexByte
 |.nh=>fun _=>stuck "not taken"
def vn(P:Program):Prop:=∀(g:FuncId) (fn:Func) (e:Ext),P.funcs[g]?=some fn->fn.body.isSome=false->zS fn.name=some e->
 (fn.name== "runtime.NumGoroutine")=false/\Extern.findNext fn=none/\Extern.find fn=some (HR e)
def Zlq(c:UInt8):∀(l:List UInt8),Go.Lib.indexByte l c= -1\/0<=Go.Lib.indexByte l c
 |[]=>.inl rfl
 |b::l=>by
  rcases Zlq c l with h|h<;>simp only[Go.Lib.indexByte]<;>split<;>first|omega|(split<;>omega)
def Zpl(c:UInt8):∀(l:List UInt8) (i:Nat),I7 c l i=if Go.Lib.indexByte l c= -1 then -1 else Go.Lib.indexByte l c+i
 |[],i=>by simp[I7,Go.Lib.indexByte]
 |b::l,i=>by
  have h:=Zlq c l
  simp only[I7,Go.Lib.indexByte]
  split
  ·simp
  ·rw[Zpl c l (i+1)]
   by_cases e:Go.Lib.indexByte l c= -1
   ·simp[e]
   ·have e':(Go.Lib.indexByte l c== -1)=false:=by simpa using e
    rw[ak e,e']
    simp only[iy,if_false]
    rw[ak (by omega)]
    omega
section
variable {P:Program} {μ:Mu} {w:World} {st aA:St} {r:T V} {n:Nat} {a:Act} {call:cM} {v:V}
def Ywc(hh:bn P μ w st)(hr:RR μ r n a.tmps)(hE:vn P){g:Nat}{fn:Func}{e:Ext}{xs:List Operand}{ss:List Src}(hg:P.funcs[g]?=some fn)(hb:fn.body.isSome=false)(he:zS fn.name=some e)
  (hx:wL P xs=some ss) (h:Jo e ss call r st=some (v,aA)):a_ P μ w st (callFunc g ⟨xs.map a.eval⟩) v aA:=by
 obtain⟨e1,e2,e3⟩:=hE g fn e hg hb he;have bP:=run_callFunc_extern hg e1 (by simpa using hb) e2 e3 ⟨xs.map a.eval⟩ w;have fin:∀x,(HR e ⟨xs.map a.eval⟩).run P w=.ok x w->VR μ v x->aA=st->a_ P μ w st (callFunc g ⟨xs.map a.eval⟩) v aA:=by intro x hx hv hs;subst hs;exact⟨.value x,x,w,μ,[],by rw[bP,hx];rfl,.inl rfl,hv,bI.refl hh⟩
 unfold Jo at h;cases hl:vL r ss with
 |none=>cases e<;>simp[hl]at h
 |some l=>
  have hv:=IX hh hr hx hl;have xd:∀u,Ew e l=some u->(HR e ⟨xs.map a.eval⟩).run P w=.ok (match u with|.aV [.int .u64 p,.int .u64 q]=>.tuple #[.int .u64 p,.int .u64 q]|.int k m=>.int k m|_=>undef) w/\
    VR μ u (match u with|.aV [.int .u64 p,.int .u64 q]=>.tuple #[.int .u64 p,.int .u64 q]|.int k m=>.int k m|_=>undef):=by
   intro u hu
   unfold Ew at hu
   split at hu
   ·rename_i x y c
    split at hu
    ·cases hu
    ·rename_i hc
     simp only[aq]at hu;subst hu
     simp only[aU,VR]at hv
     obtain⟨_,_,h1,rfl,_,_,rfl,rfl,_,_,rfl,rfl,rfl⟩:=hv
     rw[h1]
     refine⟨?_,by simp[VR,aU]⟩
     have jw:c=0\/c=1:=Decidable.not_not.1 hc
     rcases jw with rfl|rfl<;>rfl
   ·rename_i x y c
    split at hu
    ·cases hu
    ·rename_i hc
     simp only[aq]at hu;subst hu
     simp only[aU,VR]at hv
     obtain⟨_,_,h1,rfl,_,_,rfl,rfl,_,_,rfl,rfl,rfl⟩:=hv
     rw[h1]
     refine⟨?_,by simp[VR,aU]⟩
     have jw:c=0\/c=1:=Decidable.not_not.1 hc
     have hi:∀(p:Prop) [Decidable p],((if p then 1 else 0:Int))=Int.ofNat (if p then 1 else 0):=fun p _=>by split<;>rfl
     rcases jw with rfl|rfl<;>rw[hi]<;>rfl
   ·rename_i s c
    simp only[aq]at hu;subst hu
    simp only[aU,VR]at hv
    obtain⟨_,_,h1,rfl,_,_,rfl,rfl,rfl⟩:=hv
    rw[h1]
    refine⟨?_,by simp[VR]⟩
    have:=Go.Lib.run_indexByteString (P:=P) ⟨s.toArray⟩ c w
    show (Extern.BytealgIndexByte.indexByte #[.string ⟨s.toArray⟩,.int .u8 c]).run P w=_
    rw[this,Zpl]
    simp only[]
    congr 2
    split
    ·rename_i e;exact e
    ·simp
   ·cases hu
  cases e with
  |same=>
   rcases l with _|⟨u,_|⟨u',l⟩⟩<;>simp[hl,Ew]at h
   obtain⟨rfl,rfl⟩:=h;obtain⟨y,ys,ri,h1,h2⟩:=kb.1 hv;simp only[aU]at h2;subst h2;refine fin y ?_ h1 rfl;rw[ri];rfl
  |pc=>
   simp only[hl]at h;split at h
   ·rename_i u hu;simp only[aq,bB]at h;obtain⟨rfl,rfl⟩:=h;exact fin _ (xd _ hu).1 (xd _ hu).2 rfl
   cases h
  |pd=>
   simp only[hl]at h;split at h
   ·rename_i u hu;simp only[aq,bB]at h;obtain⟨rfl,rfl⟩:=h;exact fin _ (xd _ hu).1 (xd _ hu).2 rfl
   cases h
  |cf=>
   simp only[hl]at h;split at h
   ·rename_i u hu;simp only[aq,bB]at h;obtain⟨rfl,rfl⟩:=h;exact fin _ (xd _ hu).1 (xd _ hu).2 rfl
   cases h
  |nh=>simp[hl,Ew]at h
def Zm5(hh:bn P μ w st){size:Nat}{u:V}{X:Value}(hx:VR μ u X){m:Nat}{xs:List V}(h:gb st size u=some (m,xs)):
  (Builtin.lenOf X).run P w=.ok m w/\xs.length=m*size/\∃ys,aU μ xs ys/\(∀y∈ys,y.oneCell'=true)/\
   ∀w':World,w'.heap=w.heap->∀k,k<=m->(Builtin.firstCells size k X).run P w'=.ok ⟨ys.take (k*size)⟩ w':=by
 unfold gb at h;split at h
 ·simp only[aq,bB]at h;obtain⟨rfl,rfl⟩:=h;simp only[VR]at hx;subst hx;exact⟨by simp[Builtin.lenOf],by simp,[],by simp[aU],by simp,fun w' _ k hk=>by simp[Builtin.firstCells]⟩
 ·simp only[aq,bB]at h;obtain⟨rfl,rfl⟩:=h;obtain⟨b,c,rfl⟩:=hx;refine⟨by simp[Builtin.lenOf],by simp,[],by simp[aU],by simp,fun w' _ k hk=>?_⟩;have nY:k=0:=by omega
  subst nY;have:=run_firstCells_some (P:=P) w' size 0 b 0 c [] (by simp) (by simp);simpa using this
 ·rename_i j p m' _ sz;obtain⟨l,c,hl,rfl,_⟩:=hx;split at h
  ·split at h
   ·rename_i cs _ _ az;split at h
    ·rename_i Bq uT;simp only[aq,bB]at h;obtain⟨rfl,rfl⟩:=h;obtain⟨ys,g1,g2,g3,g4,g5⟩:=(hh.row hl az).Bq uT;refine⟨by simp[Builtin.lenOf],by rw[<-g1.length,g2],ys,g1,g5,fun w' xr k hk=>?_⟩;have vA:k*size<=m'*size:=nf _ hk;refine run_firstCells_some (P:=P) w' size k _ m' c (ys.take (k*size)) (by rw[iX,g2];exact rj vA) fun i y hy=>?_;rw[yD];rw[jL]at hy;split at hy
     ·have:=g4 i y hy;simpa[World.cell?,xr]using this
     cases hy
    cases h
   cases h
  cases h
 ·rename_i s;split at h
  ·rename_i yx;subst yx;simp only[aq,bB]at h;obtain⟨rfl,rfl⟩:=h;simp only[VR]at hx;subst hx;have mL:(⟨s.toArray⟩:ByteArray).size=s.length:=rfl;refine⟨by simp[Builtin.lenOf,mL, -ByteArray.size_data],by simp,s.map (fun b=>.int .u8 b.toNat),?_,by simp;intro y _;rfl,fun w' _ k hk=>?_⟩
   ·refine aU.sG (by simp) fun i y hy=>?_;simp only[eG,ks]at hy;obtain⟨b,hb,rfl⟩:=hy;exact⟨_,by simp[hb];rfl,by simp[VR]⟩
   simp only[Builtin.firstCells,Sem.run_pure,yy];congr 1;apply Array.ext';simp
  cases h
 cases h
def Zgf(a:Addr)(i:Nat):(storeCells a [] i).run P w=.ok () w:=by simp[storeCells]
def Ys0(hh:bn P μ w st)(hr:RR μ r n a.tmps){ts:Array TypeId}{t ty e:TypeId}{size:Nat}{x y:Operand}{sd ss:Src}(qo:ts[0]?=some t)(ht:P.underlying t=some (.slice e))(hs:fz P e=some size)
  (hx:bE P x=some sd) (hy:bE P y=some ss) (h:EC size sd ss call r st=some (v,aA)):
  a_ P μ w st (do pure (.value (<-Builtin.copy_ ts ty #[a.eval x,a.eval y]))) v aA:=by
 unfold EC at h;split at h
 ·rename_i d s hd G5;have h1:=di hh hr hx hd;have h2:=di hh hr hy G5;split at h
  ·rename_i m xs FT;obtain⟨g1,g2,ys,g3,g4,g5⟩:=Zm5 hh h2 FT;have O5:=g3.length;split at h
   ·simp only[aq,bB]at h;obtain⟨rfl,rfl⟩:=h;simp only[VR]at h1;refine a_.value hh (x:=.int .i64 0) ?_ (by simp[VR]);have hf:=g5 w rfl 0 (wh _);simp[Builtin.copy_,qo,h1,run_underlying ht,g1,zA hs,hf,Result.andThen,goInt]
   ·rename_i i o len cap sz;obtain⟨l,c,hl,h1,Aa,BY,_⟩:=h1;split at h
    ·cases h
    rename_i mL;have hf:=g5 w rfl (min m len) (Nat.min_le_left _ _);simp only at h;split at h
    ·rename_i hk;simp only[aq,bB]at h;obtain⟨rfl,rfl⟩:=h;refine a_.value hh (x:=.int .i64 0) ?_ (by simp[VR]);have uU:Nat.min m len=0:=hk;rw[hk]at hf;simp[Builtin.copy_,qo,h1,run_underlying ht,g1,zA hs,hf,Result.andThen,goInt,uU,Zgf]
    rename_i hk;split at h
    ·rename_i cs e' az;split at h
     ·rename_i hle;simp only[aq,bB]at h;obtain⟨rfl,rfl⟩:=h;have vA:min m len*size<=m*size:=nf _ (Nat.min_le_left _ _);obtain⟨w',hw,eM⟩:=Uc (o:=o) hh hl az (g3.take (min m len*size)) (fun q hq=>g4 q (wB hq)) (by rw[iX,g2,rj vA];exact hle);refine⟨.value (.int .i64 (min m len:Nat)),_,w',μ,[i],?_,.inl rfl,by simp[VR],eM⟩;have uU:Nat.min m len=min m len:=rfl;simp only[Builtin.copy_,qo,h1,Sem.run_bind,run_underlying ht,g1,zA hs,Result.andThen_ok,uU,hf,hw,goInt,Sem.run_pure,List.getElem?_toArray,C4,Gm]
     cases h
    cases h
   cases h
  cases h
 cases h
def Zj1(z:Array Value)(k:Nat):Builtin.zeroCells z k=madeCells z (k*z.size):=rfl
def Yxj(hh:bn P μ w st)(hr:RR μ r n a.tmps){t ty e:TypeId}{size:Nat}{z:V}{x:Operand}{s:Src}(ht:P.underlying t=some (.slice e))(hz:su P e=some z)(cO:z.cells.all V.one=true)
  (hx:bE P x=some s) (h:LS size z.cells s call r st=some (v,aA)):
  a_ P μ w st (do pure (.value (<-Builtin.clear_ #[t] ty #[a.eval x]))) v aA:=by
 unfold LS at h;split at h
 ·rename_i hm;simp only[aq,bB]at h;obtain⟨rfl,rfl⟩:=h;have h1:=di hh hr hx hm;simp only[VR]at h1;exact a_.value hh (x:=.tuple #[]) (by simp[Builtin.clear_,h1,run_underlying ht]) ⟨[],rfl,by simp[aU]⟩
 ·rename_i hm;simp only[aq,bB]at h;obtain⟨rfl,rfl⟩:=h;obtain⟨b,c,h1⟩:=di hh hr hx hm;exact a_.value hh (x:=.tuple #[]) (by simp[Builtin.clear_,h1,run_underlying ht]) ⟨[],rfl,by simp[aU]⟩
 ·rename_i i o len cap sz hm;obtain⟨l,c,hl,h1,_⟩:=di hh hr hx hm;split at h
  ·rename_i h0;subst h0;simp only[aq,bB]at h;obtain⟨rfl,rfl⟩:=h;exact a_.value hh (x:=.tuple #[]) (by simp[Builtin.clear_,h1,run_underlying ht]) ⟨[],rfl,by simp[aU]⟩
  rename_i h0;split at h
  ·cases h
  rename_i c_;simp only[not_or,Decidable.not_not]at c_;split at h
  ·rename_i cs e' az;split at h
   ·rename_i hle;simp only[aq,bB]at h;obtain⟨rfl,rfl⟩:=h;obtain⟨inf,zx,hi,rA,Dr⟩:=JK hz;have pH:=Ud (Dr μ).cells len;have hlen:z.cells.length=zx.cells.size:=by rw[<-(Dr μ).cells.length];simp
    obtain⟨w',hw,eM⟩:=Uc (o:=o) hh hl az pH (Zrq cO len pH) (by rw[Zoc,c_.2.2];exact hle);refine⟨.value (.tuple #[]),_,w',μ,[i],?_,.inl rfl,⟨[],rfl,by simp[aU]⟩,eM⟩;have DG:Builtin.zeroCells zx.cells len=madeCells ⟨zx.cells.toList⟩ (len*z.cells.length):=by rw[Zj1,hlen]
    have hrz:(zeroValue e).run P w=.ok zx w:=by simp[zeroValue,typeInfo,hi,rA]
    obtain⟨zbx,rfl⟩:∃q,len=q+1:=⟨len-1,by omega⟩;simp[Builtin.clear_,h1,run_underlying ht,hrz,DG,hw,Result.andThen]
   cases h
  cases h
 cases h
def Ue{ts:Array TypeId}{t u ty e:TypeId}{d:TypeDesc}{size m sLen sCap:Nat}{base:Option Addr}{X:Value}{ys:List Value}(qo:ts[0]?=some t)(ht:P.underlying t=some (.slice e))(kj:ts[1]?=some u)(hu:P.underlying u=some d)
  (hd:∀k,d≠.int k) (hs:fz P e=some size) (hlen:(Builtin.lenOf X).run P w=.ok m w) (hf:(Builtin.firstCells size m X).run P w=.ok ⟨ys⟩ w) (hle:sLen+m<=sCap)
  {w':World} (eM:(match base with|some a=>storeCells (a.add (sLen*size)) ys|none=>pure ():Sem Unit).run P w=.ok () w'):
  (Builtin.append_ ts ty #[.slice base sLen sCap,X]).run P w=.ok (.slice base (sLen+m) sCap) w':=by
 cases base with
 |none=> simp only[Sem.run_pure,Result.ok.injEq,true_and]at eM;subst eM;cases d<;>first|exact absurd rfl (hd _)|simp[Builtin.append_,qo,run_underlying ht,kj,run_underlying hu,zA hs,Result.andThen,hlen,hf,hle]
 |some b=> simp only at eM;cases d<;>first|exact absurd rfl (hd _)|simp[Builtin.append_,qo,run_underlying ht,kj,run_underlying hu,zA hs,Result.andThen,hlen,hf,hle,eM]
def Znl{ts:Array TypeId}{t u ty e:TypeId}{d:TypeDesc}{inf:TypeInfo}{zx:Value}{m sLen sCap:Nat}{base:Option Addr}{X:Value}{os ys:List Value}(qo:ts[0]?=some t)(ht:P.underlying t=some (.slice e))(kj:ts[1]?=some u)(hu:P.underlying u=some d)
  (hd:∀k,d≠.int k) (hi:P.info? e=some inf) (hz:inf.zero=some zx) (hlen:(Builtin.lenOf X).run P w=.ok m w) (hf:(Builtin.firstCells inf.size m X).run P w.drew=.ok ⟨ys⟩ w.drew)
  (O6:(Builtin.firstCells inf.size sLen (.slice base sLen sCap)).run P w.drew=.ok ⟨os⟩ w.drew) (hle:¬sLen+m<=sCap) (hb:inf.bytes≠0) (BZ:2*(sLen+m)*inf.bytes<=2^48):
  (Builtin.append_ ts ty #[.slice base sLen sCap,X]).run P w=.ok (.slice (some ⟨w.heap.size,0,none⟩) (sLen+m) (grownCap w (sLen+m) sCap e))
   (w.drew.alloc (.cells ⟨os++ys++(Builtin.zeroCells zx.cells (grownCap w (sLen+m) sCap e-(sLen+m))).toList⟩ e)):=by
 have hgr:Builtin.nextslicecap (sLen+m) sCap*inf.bytes<=2^48:=by have h1:Builtin.nextslicecap (sLen+m) sCap*inf.bytes<=2*(sLen+m)*inf.bytes:=nf _ (nextslicecap_le (by omega));omega
 have zak:¬(281474976710656<Builtin.nextslicecap (sLen+m) sCap*inf.bytes):=by omega
 cases d<;>first|exact absurd rfl (hd _)|simp[Builtin.append_,qo,run_underlying ht,kj,run_underlying hu,sizeOf,typeInfo,zeroValue,hi,hz,Result.andThen,hlen,hf,O6,hle,hb,zak,Question.forced,newRow,grownCap]<;>(congr 2;apply Array.ext';simp)
def Zrm(hh:bn P μ w st){ts:Array TypeId}{t u ty e:TypeId}{d:TypeDesc}{size b m sLen sCap:Nat}{z:V}{base:Option Addr}{X:Value}{os ys:List Value}{co cx:List V}
  (qo:ts[0]?=some t) (ht:P.underlying t=some (.slice e)) (kj:ts[1]?=some u) (hu:P.underlying u=some d) (hd:∀k,d≠.int k)
  (hs:fz P e=some size) (hb:Ej P e=some b) (hz:su P e=some z) (O7:z.cells.length=size) (cO:z.cells.all V.one=true) (fP:size≠0)
  (hlen:(Builtin.lenOf X).run P w=.ok m w) (hf:(Builtin.firstCells size m X).run P w.drew=.ok ⟨ys⟩ w.drew)
  (O6:(Builtin.firstCells size sLen (.slice base sLen sCap)).run P w.drew=.ok ⟨os⟩ w.drew) (hle:¬sLen+m<=sCap) (ki:b≠0) (BZ:2*(sLen+m)*b<=2^48)
  (ho:aU μ co os) (hx:aU μ cx ys) (C1:∀y∈os,y.oneCell'=true) (wD:∀y∈ys,y.oneCell'=true) (iI:co.length=sLen*size) (zo:cx.length=m*size):
  ∃μ' w' c,(Builtin.append_ ts ty #[.slice base sLen sCap,X]).run P w=.ok (.slice (some ⟨w.heap.size,0,none⟩) (sLen+m) c) w'/\VR μ' (.slice st.n 0 (sLen+m) none size) (.slice (some ⟨w.heap.size,0,none⟩) (sLen+m) c)/\
   bI P μ w st μ' w' (st.alloc (.cells (co++cx) e true)) []:=by
 obtain⟨inf,zx,hi,rA,Dr⟩:=JK hz;have mL:inf.size=size:=by unfold fz at hs;simpa[hi]using hs
 have hbz:inf.bytes=b:=by unfold Ej at hb;simpa[hi]using hb
 have O8:zx.cells.size=size:=by rw[<-O7,<-(Dr μ).cells.length];simp
 subst mL hbz;have bP:=Znl (P:=P) (w:=w) (ty:=ty) qo ht kj hu hd hi rA hlen hf O6 hle ki BZ;have EV:=grownCap_ge w (sLen+m) sCap e;generalize grownCap w (sLen+m) sCap e=cap at bP EV;have DG:(Builtin.zeroCells zx.cells (cap-(sLen+m))).toList.length=(cap-(sLen+m))*inf.size:=by simp[Builtin.zeroCells,O8]
 have pH:aU μ (dm z.cells (cap-(sLen+m))) (Builtin.zeroCells zx.cells (cap-(sLen+m))).toList:=by
  have:=Ud (Dr μ).cells (cap-(sLen+m));rw[Zj1];have e1:zx.cells.size=z.cells.length:=by rw[O8,O7]
  rw[e1];simpa using this
 have O9:=ho.length;have Pa:=hx.length;have BY:(os++ys++(Builtin.zeroCells zx.cells (cap-(sLen+m))).toList).length=cap*inf.size:=by rw[jm,jm,DG,O9,Pa,iI,zo,<-ji,<-ji];congr 1;omega
 refine⟨_,_,cap,bP,?_,(bI.newRow hh.G6 (cs:=co++cx) (xs:=os++ys++(Builtin.zeroCells zx.cells (cap-(sLen+m))).toList) (lo:=0) (hi:=0) ?_ ?_ ?_ ?_).B1⟩
 ·simp only[VR];refine⟨⟨w.heap.size,0,(os++ys++(Builtin.zeroCells zx.cells (cap-(sLen+m))).toList).length⟩,cap,by exact ar trivial,by simp,EV,?_,by simp,fun _=>?_⟩
  ·show 0+cap*inf.size<=(os++ys++(Builtin.zeroCells zx.cells (cap-(sLen+m))).toList).length;omega
  show 0+cap*inf.size=(os++ys++(Builtin.zeroCells zx.cells (cap-(sLen+m))).toList).length;omega
 ·rw[jm,jm,jm,O9,Pa];omega
 ·intro j u' nU;obtain⟨y,h1,h2⟩:=(ho.append hx).get nU;exact⟨y,by rw[mj (wj.1 h1).1];exact h1,h2⟩
 ·intro y hy;simp only[jB]at hy;rcases hy with(hy|hy)|hy
  ·exact C1 y hy
  ·exact wD y hy
  exact Zrq cO _ pH y hy
 exact .inr (aO _)
def bI.JL{w':World}(h:bn P μ w st){i:Nat}{l l':L}{o o':O}(hi:μ i=some l)(ho:st.h.get i=some o)(hw:o.wr=true)
  (Bp:w'.os=w.os) (ZO:w'.tape=w.tape) (ZP:w'.output=w.output) (mL:w'.heap.size=w.heap.size) (sH:∀b,b≠l.b->w'.heap[b]?=w.heap[b]?) (vw:l'.b=l.b)
  (yB:OM P (fun j=>if j=st.n then some l' else μ j) w' o' l'):
  bI P μ w st (fun j=>if j=st.n then some l' else μ j) w' ((st.write i .dead).alloc o') [i]:=by
 have yC:o.live=true:=by cases o<;>simp_all [O.wr,O.live]
 have CG:=(h.dt i l hi).1;have nK:=(h.dt i l hi).2;have dN:∀j lj,μ j=some lj->(fun j=>if j=st.n then some l' else μ j) j=some lj:=fun j lj hj=>by have:=(h.dt j lj hj).1;show (if j=st.n then some l' else μ j)=some lj;rw[ak (by omega)];exact hj
 have cZ:∀j,((st.write i .dead).alloc o').h.get j=if j=st.n then some o' else if j=i then some .dead else st.h.get j:=fun j=>by simp only[St.alloc,St.write,T.ae]
 refine⟨⟨fun j lj hj=>?_,fun j lj hj=>?_,fun j k lj lk oj ok hj hk aW h1 h2 LD fl=>?_,fun g hg=>let ⟨t,ht⟩:=h.iN g hg;⟨t,dN g _ ht⟩⟩,fun j hj=>?_,by simp[St.alloc,St.write],rfl,⟨Bp,ZO,ZP,by omega,fun b _ dM=>sH b ?_⟩,
  fun j lj hn hj=>?_,fun j hj dM=>?_,fun j oj hn hj=>?_,fun j h1 h2=>⟨l',by simp only[St.alloc,St.write]at h2;show (if j=st.n then some l' else μ j)=some l';rw[ar (by omega)]⟩,fun j hj _=>by simp only[uv]at hj;subst hj;exact⟨o,ho,hw⟩⟩
 ·replace hj:(if j=st.n then some l' else μ j)=some lj:=hj;split at hj
  ·rename_i e;simp only[aq]at hj;subst hj;simp[St.alloc,St.write];omega
  have:=h.dt j lj hj;simp[St.alloc,St.write];omega
 ·replace hj:(if j=st.n then some l' else μ j)=some lj:=hj;split at hj
  ·rename_i e;simp only[aq]at hj;subst hj;exact⟨o',by rw[cZ,ar e],yB⟩
  rename_i e;by_cases e2:j=i
  ·exact⟨.dead,by rw[cZ,ak e,ar e2],trivial⟩
  obtain⟨oj,h1,h2⟩:=h.obj j lj hj;refine⟨oj,by rw[cZ,ak e,ak e2];exact h1,?_⟩;cases hl:oj.live
  ·cases oj<;>simp[O.live]at hl;trivial
  exact(h2.mono dN).congr (sH lj.b (Ne.symm (h.inj i j l lj o oj hi hj (Ne.symm e2) ho h1 hw hl)))
 ·rw[cZ]at h1 h2;replace hj:(if j=st.n then some l' else μ j)=some lj:=hj;replace hk:(if k=st.n then some l' else μ k)=some lk:=hk;by_cases e1:j=st.n
  ·rw[ar e1]at hj h1;simp only[aq]at hj h1;subst hj h1;by_cases e2:k=st.n
   ·exact absurd (e1.trans e2.symm) aW
   rw[ak e2]at hk h2;by_cases e3:k=i
   ·rw[ar e3,aq]at h2;subst h2;simp[O.live]at fl
   rw[ak e3]at h2;rw[vw];exact h.inj i k l lk o ok hi hk (Ne.symm e3) ho h2 hw fl
  rw[ak e1]at hj h1;by_cases e3:j=i
  ·rw[ar e3,aq]at h1;subst h1;simp[O.wr]at LD
  rw[ak e3]at h1;by_cases e2:k=st.n
  ·rw[ar e2]at hk h2;simp only[aq]at hk h2;subst hk h2;rw[vw];exact h.inj j i lj l oj o hj hi e3 h1 ho LD yC
  rw[ak e2]at hk h2;by_cases e4:k=i
  ·rw[ar e4,aq]at h2;subst h2;simp[O.live]at fl
  rw[ak e4]at h2;exact h.inj j k lj lk oj ok hj hk aW h1 h2 LD fl
 ·show (if j=st.n then some l' else μ j)=μ j;rw[ak (by omega)]
 ·exact Ne.symm (dM i (by simp) l hi)
 ·replace hj:(if j=st.n then some l' else μ j)=some lj:=hj;split at hj
  ·simp only[aq]at hj;subst hj;exact .inr ⟨i,by simp,CG,l,o,hi,vw.symm,ho,hw⟩
  exact absurd (h.dt j lj hj).1 (by omega)
 ·simp only[uv]at dM;rw[cZ,ak (by omega),ak dM]
 rw[cZ,ak (by omega)]at hj;split at hj
 ·rename_i e;subst e;simp only[aq]at hj;subst hj;exact⟨o,ho,by simp[O.wr],by simp[O.live]⟩
 exact⟨oj,hj,id,id⟩
def bI.kill(h:bn P μ w st){i:Nat}{l:L}{o:O}(hi:μ i=some l)(ho:st.h.get i=some o)(hw:o.wr=true):bI P μ w st μ w (st.write i .dead) [i]:=
 bI.write h hi ho hw rfl rfl rfl rfl (fun _ _=>rfl) trivial
def Yiw(hh:bn P μ w st)(hr:RR μ r n a.tmps){ts:Array TypeId}{t u ty e:TypeId}{d:TypeDesc}{size b:Nat}{z:V}{x y:Operand}{s sx:Src}
  (qo:ts[0]?=some t) (ht:P.underlying t=some (.slice e)) (kj:ts[1]?=some u) (hu:P.underlying u=some d) (hd:∀k,d≠.int k)
  (hs:fz P e=some size) (hb:Ej P e=some b) (hz:su P e=some z) (O7:z.cells.length=size) (cO:z.cells.all V.one=true) (ki:b≠0)
  (hx:bE P x=some s) (hy:bE P y=some sx) (h:EB size b e z.cells s sx call r st=some (v,aA)):
  a_ P μ w st (do pure (.value (<-Builtin.append_ ts ty #[a.eval x,a.eval y]))) v aA:=by
 unfold EB at h;split at h
 ·rename_i sv xv hsv Dl;have h1:=di hh hr hx hsv;have h2:=di hh hr hy Dl;unfold mm at h;split at h
  ·cases h
  rename_i m xs FT;obtain⟨g1,g2,ys,g3,g4,g5⟩:=Zm5 hh h2 FT;have O5:=g3.length;have Zn:ys.take (m*size)=ys:=gp (by omega);have gf:∀w':World,w'.heap=w.heap->(Builtin.firstCells size m (a.eval y)).run P w'=.ok ⟨ys⟩ w':=fun w' xr=>by rw[g5 w' xr m (aO _),Zn]
  split at h
  ·-- a nil slice
   simp only[VR]at h1;split at h
   ·rename_i jD;subst jD;simp only[aq,bB]at h;obtain⟨rfl,rfl⟩:=h;refine a_.value hh (x:=.slice none 0 0) ?_ (by simp[VR]);rw[h1];exact Ue (base:=none) qo ht kj hu hd hs g1 (gf w rfl) (aO _) (by simp)
   rename_i jD;split at h
   ·rename_i hc;simp only[aq,bB]at h;obtain⟨rfl,rfl⟩:=h;obtain⟨μ',w',c,k1,k2,k3⟩:=Zrm (P:=P) (w:=w) (ty:=ty) (sLen:=0) (sCap:=0) (base:=none) (X:=a.eval y) (os:=[]) (co:=[]) hh qo ht kj hu hd hs hb hz O7 cO hc.2 g1 (gf w.drew rfl) (by simp[Builtin.firstCells]) (by omega) ki
     (by have:=hc.1;unfold wu at this;simpa using this) (by simp[aU]) g3 (by simp) g4 (by simp) g2;refine⟨.value (.slice (some ⟨w.heap.size,0,none⟩) (0+m) c),_,w',μ',[],?_,.inl rfl,?_,?_⟩
    ·rw[h1];simp only[Sem.run_bind,k1,Result.andThen_ok,Sem.run_pure]
    ·simpa using k2
    simpa using k3
   cases h
  ·-- a slice
   rename_i i o len cap sz;have h_:=h1;obtain⟨l,c,hl,h1,Aa,BY,hk,EW⟩:=h1;split at h
   ·rename_i jD;subst jD;split at h
    ·simp only[aq,bB]at h;obtain⟨rfl,rfl⟩:=h;refine a_.value hh (x:=a.eval x) ?_ h_;have Pb:ys=[]:=by apply rS;omega
     rw[h1];have:=Ue (P:=P) (w:=w) (w':=w) (ty:=ty) (base:=some ⟨l.b,l.d+o,none⟩) (sLen:=len) (sCap:=c) qo ht kj hu hd hs g1 (gf w rfl) (by omega) (by simp only[Pb];exact Zgf _ _);simpa using this
    cases h
   rename_i jD;split at h
   ·cases h
   rename_i c_;simp only[not_or,Decidable.not_not,wx]at c_;obtain⟨mL,fP,BZ⟩:=c_;subst mL;unfold wu at BZ;have inPlace:∀(cs:List V) (e':TypeId),st.row i=some (cs,e',true)->o+(len+m)*sz<=cs.length->len+m<=c->(∀k,cap=some k->c=k)->
     a_ P μ w st (do pure (.value (<-Builtin.append_ ts ty #[a.eval x,a.eval y]))) (.slice i o (len+m) cap sz) (st.write i (.cells (ag cs (o+len*sz) xs) e' true)):=by
    intro cs e' az hle Ac _
    have IL:(len+m)*sz=len*sz+m*sz:=ji ..
    obtain⟨w',hw,eM⟩:=Uc (o:=o+len*sz) hh hl az g3 g4 (by rw[g2];omega)
    have bP:=Ue (P:=P) (w:=w) (w':=w') (ty:=ty) (base:=some ⟨l.b,l.d+o,none⟩) (sLen:=len) (sCap:=c) qo ht kj hu hd hs g1 (gf w rfl) Ac (by simp only[yD];rw[qe];exact hw)
    refine⟨.value (.slice (some ⟨l.b,l.d+o,none⟩) (len+m) c),_,w',μ,[i],?_,.inl rfl,?_,eM⟩
    ·rw[h1];simp only[Sem.run_bind,bP,Result.andThen_ok,Sem.run_pure]
    ·simp only[VR];exact⟨l,c,hl,rfl,Ac,BY,hk,EW⟩
   have fresh:∀(bX:St) (ws:List Nat) (cs old:List V) (e':TypeId) (rQ:Bool),bI P μ w st μ w bX ws->bX.n=st.n->st.row i=some (cs,e',rQ)->aL cs o (len*sz)=some old->¬len+m<=c->
     a_ P μ w st (do pure (.value (<-Builtin.append_ ts ty #[a.eval x,a.eval y]))) (.slice st.n 0 (len+m) none sz) (bX.alloc (.cells (old++xs) e true)):=by
    intro bX ws cs old e' rQ jv yl az hold dM
    have Aq:=hh.row hl az
    obtain⟨os,q1,q2,q3,q4,q5⟩:=Aq.Bq hold
    have O6:(Builtin.firstCells sz len (.slice (some ⟨l.b,l.d+o,none⟩) len c)).run P w.drew=.ok ⟨os⟩ w.drew:=by
     refine run_firstCells_some (P:=P) w.drew sz len _ len c os q2 fun j y hy=>?_
     rw[yD]
     exact q4 j y hy
    obtain⟨μ',w',c',k1,k2,k3⟩:=Zrm (P:=P) (w:=w) (ty:=ty) (base:=some ⟨l.b,l.d+o,none⟩) (sLen:=len) (sCap:=c) jv.hr qo ht kj hu hd hs hb hz O7 cO fP g1 (gf w.drew rfl) O6 dM ki BZ q1 g3 q5 g4 (by rw[<-q1.length,q2]) g2
    refine⟨.value (.slice (some ⟨w.heap.size,0,none⟩) (len+m) c'),_,w',μ',[]++ws,?_,.inl rfl,?_,jv.trans k3⟩
    ·rw[h1];simp only[Sem.run_bind,k1,Result.andThen_ok,Sem.run_pure]
    ·rw[<-yl];exact k2
   split at h
   ·cases h
   rename_i cs e' rQ az;split at h
   ·rename_i k;have Lq:=hk k rfl;split at h
    ·rename_i hle;split at h
     ·rename_i hc;simp only[aq,bB]at h;obtain⟨rfl,rfl⟩:=h;obtain⟨rfl,EX⟩:=hc;exact inPlace cs e' az EX (by omega) hk
     cases h
    rename_i hle;split at h
    ·rename_i old hold;simp only[aq,bB]at h;obtain⟨rfl,rfl⟩:=h;exact fresh st [] cs old e' rQ (bI.refl hh) rfl az hold (by omega)
    cases h
   split at h
   ·rename_i Pc;subst Pc;have Aq:=hh.row hl az;have hct:cs.length<=l.sF:=by obtain⟨_,_,_,_,_,h3,_⟩:=Aq;exact h3
    have zbc:=EW rfl;have IL:(len+m)*sz=len*sz+m*sz:=ji ..;split at h
    ·rename_i hle;simp only[aq,bB]at h;obtain⟨rfl,rfl⟩:=h;refine inPlace cs e' az hle ?_ hk;have:(len+m)*sz<=c*sz:=by omega
     exact Nat.le_of_mul_le_mul_right this (by omega)
    split at h
    ·rename_i hle hc;obtain⟨Pd,rfl,ho0⟩:=hc;simp only[aq,bB]at h;obtain⟨rfl,rfl⟩:=h;have hold:aL cs o (len*sz)=some (cs.drop o):=by unfold aL;rw[ar (by omega),gp (by simp;omega)]
     by_cases Ac:len+m<=c
     ·-- in place,above what is known
      obtain⟨c',lo,hi,q1,q2,q3,q4,q5,q6⟩:=Aq;obtain⟨cur⟩:=c';simp only[List.size_toArray]at q2;have B2:(len+m)*sz<=c*sz:=nf _ Ac;have hrs:=Zea (P:=P) l.b (l.d+(o+len*sz)) e' lo hi ys 0 cur w q1 (by omega) g4 (fun j tP pE=>by have:=(q6 rfl).2 (j-l.d) (by omega);rw[show l.d+(j-l.d)=j by omega]at this;exact this);have bP:=Ue (P:=P) (w:=w) (ty:=ty) (base:=some ⟨l.b,l.d+o,none⟩) (sLen:=len) (sCap:=c) qo ht kj hu hd hs g1 (gf w rfl) Ac (by simp only[yD];rw[qe];exact hrs);have sH:=setRow_heap w l.b _ (⟨ag cur (l.d+(o+len*sz)+0) ys⟩:Array Value) e' _ q1;have dN:∀j lj,μ j=some lj->(fun j=>if j=st.n then some (⟨l.b,l.d+o,l.sF-o⟩:L) else μ j) j=some lj:=fun j lj hj=>by have:=(hh.dt j lj hj).1;simp only;rw[ak (by omega)];exact hj
      refine⟨.value (.slice (some ⟨l.b,l.d+o,none⟩) (len+m) c),_,w.setRow l.b ⟨ag cur (l.d+(o+len*sz)+0) ys⟩,fun j=>if j=st.n then some ⟨l.b,l.d+o,l.sF-o⟩ else μ j,[i],?_,.inl rfl,?_,bI.JL hh hl (Pe az) rfl rfl rfl rfl (by simp) (fun b hb=>setRow_other w l.b b _ hb) rfl ⟨_,lo,hi,sH,?_,?_,?_,?_,?_⟩⟩
      ·rw[h1];simp only[Sem.run_bind,bP,Result.andThen_ok,Sem.run_pure]
      ·simp only[VR];refine⟨⟨l.b,l.d+o,l.sF-o⟩,c,by simp,by simp,Ac,?_,by simp,fun _=>?_⟩
       ·show 0+c*sz<=l.sF-o;omega
       show 0+c*sz=l.sF-o;omega
      ·simp only[List.size_toArray];rw[Uf (by omega)];omega
      ·simp only[jm,zk];omega
      ·intro j u' nU;have e1:∀k:Nat,(⟨ag cur (l.d+(o+len*sz)+0) ys⟩:Array Value)[k]?=(ag cur (l.d+(o+len*sz)+0) ys)[k]?:=fun k=>by simp
       simp only;rw[e1,Mm (by omega)];rw[List.getElem?_append]at nU;split at nU
       ·rename_i hj;simp only[zk]at hj;rw[fF]at nU;obtain⟨y',p1,p2⟩:=q4 (o+j) u' nU;rw[ak (by omega)];refine⟨y',?_,VR.mono dN u' y' p2⟩;rw[show l.d+o+j=l.d+(o+j) by omega];simpa using p1
       rename_i hj;simp only[zk]at hj nU;obtain⟨y',p1,p2⟩:=g3.get nU;have aC:=(wj.1 p1).1;rw[ar (by omega)];refine⟨y',?_,VR.mono dN u' y' p2⟩;rw[show l.d+o+j-(l.d+(o+len*sz)+0)=j-(cs.length-o) by omega];exact p1
      ·intro j y' cg xh;simp only at cg xh;have e1:(⟨ag cur (l.d+(o+len*sz)+0) ys⟩:Array Value)[l.d+o+j]?=(ag cur (l.d+(o+len*sz)+0) ys)[l.d+o+j]?:=by simp
       rw[e1,Mm (by omega)]at xh;split at xh
       ·exact g4 y' (cF xh)
       exact q5 (o+j) y' (by omega) (by rw[show l.d+(o+j)=l.d+o+j by omega];simpa using xh)
      intro _;refine⟨by have:=(q6 rfl).1;show l.d+o=0;omega,?_⟩;intro j hj;have:=(q6 rfl).2 (o+j) (by simp only at hj;omega);rw[show l.d+(o+j)=l.d+o+j by omega]at this;exact this
     have Pf:=bI.kill hh hl (Pe az) rfl;exact fresh (st.write i .dead) [i] cs (cs.drop o) e' true Pf rfl az hold Ac
    cases h
   cases h
  cases h
 cases h
end
section
variable {P:Program} {μ:Mu} {w:World} {st aA:St} {r:T V} {n:Nat} {a:Act} {call:cM} {v:V}
def Zkc{b:Nat}{c:Array Value}{e:TypeId}{f:Nat×Nat}(h:w.heap[b]?=some (.cells c e f)):w.shape? b=some (e,c.size):=by simp[World.shape?,h]
def Zl5{t:TypeId}{z:Nat}(h:fz P t=some z):P.cellsOf t=z:=by unfold fz at h;simp[Program.cellsOf,h]
def Zrg{t:TypeId}{z:Nat}(h:fz P t=some z):∃j,P.info? t=some j/\j.size=z:=by unfold fz at h;simp only[ks]at h;exact h
def Zxe{u:TypeId}{z:Nat}(hc:P.cellsOf u=z+1)(count:Nat)(hn:1<=count):liesAt P P.depth u count 0 u 1=true:=by have hd:P.depth=(2*(P.types.size+Made.depth)+1)+1:=rfl;rw[hd];simp only[liesAt,I4];left;rw[hd];simp[rowAt,hc,sameLayout];left;omega
def Yd4(hh:bn P μ w st)(hr:RR μ r n a.tmps){src dst t:TypeId}{x:Operand}{s:Src}{z:Nat}(hs:P.underlying src=some (.pointer t))(hd:P.underlying dst=some .unsafePointer)(hz:fz P t=some (z+1))
  (hx:bE P x=some s) (h:GD none s call r st=some (v,aA)):a_ P μ w st (do pure (.value (<-convert src dst (a.eval x)))) v aA:=by
 unfold GD at h;split at h
 ·rename_i i hm;obtain⟨l,hl,h1⟩:=di hh hr hx hm;split at h
  ·rename_i c e' az;simp only[]at h;split at h
   ·rename_i aC;simp only[aq,bB]at h;obtain⟨rfl,rfl⟩:=h;obtain⟨c',lo,hi,g1,g2,g3,_,_,g6⟩:=hh.row hl az;have qf:=(g6 rfl).1;obtain⟨j,hj,hjs⟩:=Zrg hz;refine a_.value hh (x:=.pointer (some ⟨l.b,l.d+0,none⟩)) ?_ ⟨l,hl,rfl⟩;rw[h1];exact Go.Lib.run_to_unsafe w ⟨l.b,l.d+0,none⟩ hs hd hj (by omega) (Zkc g1) (by show l.d+0<c'.size;omega)
   cases h
  cases h
 cases h
def Zv1(hh:bn P μ w st)(hr:RR μ r n a.tmps){src dst u:TypeId}{x:Operand}{s:Src}{z:Nat}(hs:P.underlying src=some .unsafePointer)(hd:P.underlying dst=some (.pointer u))(hz:fz P u=some (z+1))
  (hx:bE P x=some s) (h:GD (some (u,z+1)) s call r st=some (v,aA)):a_ P μ w st (do pure (.value (<-convert src dst (a.eval x)))) v aA:=by
 unfold GD at h;split at h
 ·rename_i i hm;obtain⟨l,hl,h1⟩:=di hh hr hx hm;split at h
  ·rename_i c e' az;simp only[]at h;split at h
   ·rename_i aC;obtain⟨rfl,_,hle⟩:=aC;simp only[aq,bB]at h;obtain⟨rfl,rfl⟩:=h;obtain⟨c',lo,hi,g1,g2,g3,_,_,g6⟩:=hh.row hl az;have qf:=(g6 rfl).1;obtain⟨j,hj,hjs⟩:=Zrg hz;have Ti:=Zl5 hz;refine a_.value hh (x:=.pointer (some ⟨l.b,l.d+0,none⟩)) ?_ ⟨l,hl,rfl⟩;rw[h1];refine Go.Lib.run_from_unsafe w ⟨l.b,l.d+0,none⟩ hs hd hj (Zkc g1) ?_;show liesAt P P.depth e' (c'.size/P.cellsOf e') (l.d+0) e' 1=true;rw[qf];refine Zxe Ti _ ?_;rw[Ti];exact Nat.div_pos (by omega) (by omega)
   cases h
  cases h
 cases h
def Yj3(hh:bn P μ w st)(hr:RR μ r n a.tmps){ts:Array TypeId}{ty:TypeId}{x:Operand}{s:Src}
  (hx:bE P x=some s) (h:LU s call r st=some (v,aA)):a_ P μ w st (do pure (.value (<-Builtin.unsafeSliceData_ ts ty #[a.eval x]))) v aA:=by
 unfold LU at h;split at h
 ·rename_i i o len cap sz hm;obtain⟨l,c,hl,h1,Aa,_⟩:=di hh hr hx hm;split at h
  ·rename_i aC;simp only[aq,bB]at h;obtain⟨rfl,rfl⟩:=h;refine a_.value hh (x:=.pointer (some ⟨l.b,l.d+o,none⟩)) ?_ ⟨l,hl,rfl⟩;rw[h1];exact Go.Lib.run_unsafeSliceData_row w ts ty _ _ _ (by omega)
  cases h
 cases h
def Zp2:∀{vs:List V} {s:List UInt8},Jp vs=some s->vs.length=s.length/\∀(j:Nat) (b:UInt8),s[j]?=some b->vs[j]?=some (.int .u8 b.toNat)
 |[],s,h=>by
  simp only[Jp,aq]at h;subst h
  exact⟨rfl,fun j b hb=>by simp at hb⟩
 |v::vs,s,h=>by
  simp only[Jp]at h
  split at h
  ·rename_i b s' hb hs
   simp only[aq]at h;subst h
   obtain⟨h1,h2⟩:=Zp2 hs
   refine⟨by simp[h1],fun j c hc=>?_⟩
   cases j with
   |zero=>
    simp only[C4,aq]at hc;subst hc
    cases v<;>simp only[TG,reduceCtorEq]at hb
    rename_i k m
    cases k<;>simp only[reduceCtorEq]at hb
    split at hb
    ·rename_i hm
     simp only[aq]at hb;subst hb
     simp only[C4,aq,V.int.injEq,true_and]
     have:m.toNat<256:=by omega
     simp[Nat.toUInt8]
     omega
    ·cases hb
   |succ j=>
    simp only[Gm]at hc ⊢
    exact h2 j c hc
  ·cases h
def Ypk(hh:bn P μ w st)(hr:RR μ r n a.tmps){pt it ty e:TypeId}{x y:Operand}{s q:Src}(hp:P.underlying pt=some (.pointer e))(hz:fz P e=some 1)(hx:bE P x=some s)(hy:bE P y=some q)
  (h:LV e s q call r st=some (v,aA)):a_ P μ w st (do pure (.value (<-Builtin.unsafeString_ #[pt,it] ty #[a.eval x,a.eval y]))) v aA:=by
 unfold LV at h;split at h
 ·rename_i i k hm hq;obtain⟨l,hl,h1⟩:=di hh hr hx hm;have h2:=di hh hr hy hq;simp only[VR]at h2;split at h
  ·rename_i hk;split at h
   ·rename_i c e' az;split at h
    ·rename_i he;subst he;split at h
     ·rename_i Bq uT;split at h
      ·rename_i str zal;simp only[aq,bB]at h;obtain⟨rfl,rfl⟩:=h;obtain⟨c',lo,hi,g1,g2,g3,g4,g5,g6⟩:=hh.row hl az;have qf:=(g6 rfl).1;obtain⟨b1,b2⟩:=Zp2 zal;obtain⟨xs,ri,zo,yO,ic,_⟩:=(hh.row hl az).Bq uT;have ct:str.length=k.toNat:=by have:=ri.length;omega
       have hle:k.toNat<=c.length:=by
        unfold aL at uT;split at uT
        ·omega
        cases uT
       have Ae:k=(str.length:Int):=by omega
       have aW:str≠[]:=by intro h0;rw[h0]at ct;simp at ct;omega
       have iT:∀(j:Nat) (b:UInt8),str[j]?=some b->w.cell? ((⟨l.b,0,none⟩:Addr).add j)=some (.int .u8 b.toNat):=by intro j b hb;have hv:=b2 j b hb;obtain⟨y,uf,yP⟩:=ri.get hv;simp only[VR]at yP;subst yP;have:=ic j _ uf;rw[yD];rw[qf,gE]at this;exact this
       have h63:str.length<=9223372036854775807:=by omega
       have bP:=Go.Lib.run_unsafeString_row (P:=P) w pt it ty e' hp (Zl5 hz) l.b c'.size (Zkc g1) str aW (by omega) h63 iT;have hw:bI P μ w st μ (w.freeze ⟨l.b,0,none⟩ str.length) (st.write i (.cells c e' false)) [i]:=by
        have km:str.length≠0:=by simpa using aW
        have pq:(w.freeze ⟨l.b,0,none⟩ str.length).heap[l.b]?=some (.cells c' e' (if lo==hi then (0,0+str.length) else (min lo 0,max hi (0+str.length)))):=by simp[World.freeze,km,Array.getElem?_modify,g1]
        obtain⟨lo',jn,Pg⟩:∃p q,(if lo==hi then (0,0+str.length) else (min lo 0,max hi (0+str.length)))=(p,q):=⟨_,_,rfl⟩;rw[Pg]at pq;refine bI.write hh hl (Pe az) rfl ?_ ?_ ?_ ?_ ?_ ⟨c',lo',jn,pq,g2,g3,g4,g5,fun hc=>by cases hc⟩
        ·simp[World.freeze,km]
        ·simp[World.freeze,km]
        ·simp[World.freeze,km]
        ·simp[World.freeze,km]
        intro b hb;simp only[World.freeze,km,if_false,Array.getElem?_modify];rw[ak (fun h=>hb h.symm)]
       refine⟨.value (.string ⟨str.toArray⟩),_,_,μ,[i],?_,.inl rfl,rfl,hw⟩;rw[h1,h2,qf,Ae];simp[bP,Result.andThen]
      cases h
     cases h
    cases h
   cases h
  cases h
 cases h
end
end Go.Mx
