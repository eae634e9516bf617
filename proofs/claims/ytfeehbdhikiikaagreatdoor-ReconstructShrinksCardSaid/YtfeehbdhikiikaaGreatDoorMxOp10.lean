/-The operations of M stand for the Go mod-/
import Derived.Test.YtfeehbdhikiikaaGreatDoorMxOp6
import Derived.Lib.Builder
import Derived.Lib.UnsafeStr
set_option linter.all false
namespace Go.Mx
open Go
set_option maxHeartbeats 2000000
variable{ts:Array TypeId}{l:L}{os ys:List Value}{b g i m sCap sLen size z:Nat}{o:O}{x y:Operand}{s sd sx:Src}{d:TypeDesc}{dst src ty u:TypeId}{X zx:Value}
def Ig:Ext->Array Value->Sem Value
 |.py=>add64Entry
 |.pz=>Go.Proofs.sub64Entry
 |.same=>Extern.AbiNoEscape.same
 |.cn=>Extern.BytealgIndexByte.indexByte
 |.nK=>fun _=>stuck "not taken"
def vS(P:Program):Prop:=∀(g:FuncId) (fn:Func) (e:Ext),P.funcs[g]?=some fn->fn.body.isSome=false->As fn.name=some e->
 (fn.name== "runtime.NumGoroutine")=false/\Extern.findNext fn=none/\Extern.find fn=some (Ig e)
def Zlt(c:UInt8):∀(l:List UInt8),Go.Lib.indexByte l c= -1\/0<=Go.Lib.indexByte l c
 |[]=>.inl rfl
 |b::l=>by
  rcases Zlt c l with h|h<;>simp only[Go.Lib.indexByte]<;>split<;>first|omega|(split<;>omega)
def Zpo(c:UInt8):∀(l:List UInt8) (i:Nat),Jk c l i=if Go.Lib.indexByte l c= -1 then -1 else Go.Lib.indexByte l c+i
 |[],i=>by simp[Jk,Go.Lib.indexByte]
 |b::l,i=>by
  have h:=Zlt c l
  simp only[Jk,Go.Lib.indexByte]
  split
  ·simp
  ·rw[Zpo c l (i+1)]
   by_cases e:Go.Lib.indexByte l c= -1
   ·simp[e]
   ·have e':(Go.Lib.indexByte l c== -1)=false:=by simpa using e
    rw[ak e,e']
    simp only[iE,if_false]
    rw[ak (by omega)]
    omega
section
variable {P:Program} {μ:Mu} {w:World} {st aB:St} {r:T V} {n:Nat} {a:Act} {call:cQ} {v:V}
def Yxe(hh:bq P μ w st)(hr:RR μ r n a.tmps)(hE:vS P){fn:Func}{e:Ext}{xs:List Operand}{ss:List Src}(hg:P.funcs[g]?=some fn)(hb:fn.body.isSome=false)(he:As fn.name=some e)
  (hx:xp P xs=some ss) (h:JB e ss call r st=some (v,aB)):ba P μ w st (callFunc g ⟨xs.map a.eval⟩) v aB:=by
 obtain⟨e1,e2,e3⟩:=hE g fn e hg hb he;have bY:=run_callFunc_extern hg e1 (by simpa using hb) e2 e3 ⟨xs.map a.eval⟩ w;have fin:∀x,(Ig e ⟨xs.map a.eval⟩).run P w=.ok x w->VR μ v x->aB=st->ba P μ w st (callFunc g ⟨xs.map a.eval⟩) v aB:=by intro x hx hv hs;subst hs;exact⟨.value x,x,w,μ,[],by rw[bY,hx];rfl,.inl rfl,hv,bN.refl hh⟩
 unfold JB at h;cases hl:wu r ss with
 |none=>cases e<;>simp[hl]at h
 |some l=>
  have hv:=Ja hh hr hx hl;have xI:∀u,EB e l=some u->(Ig e ⟨xs.map a.eval⟩).run P w=.ok (match u with|.aU [.int .u64 p,.int .u64 q]=>.tuple #[.int .u64 p,.int .u64 q]|.int k m=>.int k m|_=>undef) w/\
    VR μ u (match u with|.aU [.int .u64 p,.int .u64 q]=>.tuple #[.int .u64 p,.int .u64 q]|.int k m=>.int k m|_=>undef):=by
   intro u hu
   unfold EB at hu
   split at hu
   ·rename_i x y c
    split at hu
    ·cases hu
    ·rename_i hc
     simp only[ar]at hu;subst hu
     simp only[aV,VR]at hv
     obtain⟨_,_,h1,rfl,_,_,rfl,rfl,_,_,rfl,rfl,rfl⟩:=hv
     rw[h1]
     refine⟨?_,by simp[VR,aV]⟩
     have rD:c=0\/c=1:=Decidable.not_not.1 hc
     rcases rD with rfl|rfl<;>rfl
   ·rename_i x y c
    split at hu
    ·cases hu
    ·rename_i hc
     simp only[ar]at hu;subst hu
     simp only[aV,VR]at hv
     obtain⟨_,_,h1,rfl,_,_,rfl,rfl,_,_,rfl,rfl,rfl⟩:=hv
     rw[h1]
     refine⟨?_,by simp[VR,aV]⟩
     have rD:c=0\/c=1:=Decidable.not_not.1 hc
     have hi:∀(p:Prop) [Decidable p],((if p then 1 else 0:Int))=Int.ofNat (if p then 1 else 0):=fun p _=>by split<;>rfl
     rcases rD with rfl|rfl<;>rw[hi]<;>rfl
   ·rename_i s c
    simp only[ar]at hu;subst hu
    simp only[aV,VR]at hv
    obtain⟨_,_,h1,rfl,_,_,rfl,rfl,rfl⟩:=hv
    rw[h1]
    refine⟨?_,by simp[VR]⟩
    have:=Go.Lib.run_indexByteString (P:=P) ⟨s.toArray⟩ c w
    show (Extern.BytealgIndexByte.indexByte #[.string ⟨s.toArray⟩,.int .u8 c]).run P w=_
    rw[this,Zpo]
    simp only[]
    congr 2
    split
    ·rename_i e;exact e
    ·simp
   ·cases hu
  cases e with
  |same=>
   rcases l with _|⟨u,_|⟨u',l⟩⟩<;>simp[hl,EB]at h
   obtain⟨rfl,rfl⟩:=h;obtain⟨y,ys,rU,h1,h2⟩:=kW.1 hv;simp only[aV]at h2;subst h2;refine fin y ?_ h1 rfl;rw[rU];rfl
  |py=>
   simp only[hl]at h;split at h
   ·rename_i u hu;simp only[ar,bB]at h;obtain⟨rfl,rfl⟩:=h;exact fin _ (xI _ hu).1 (xI _ hu).2 rfl
   cases h
  |pz=>
   simp only[hl]at h;split at h
   ·rename_i u hu;simp only[ar,bB]at h;obtain⟨rfl,rfl⟩:=h;exact fin _ (xI _ hu).1 (xI _ hu).2 rfl
   cases h
  |cn=>
   simp only[hl]at h;split at h
   ·rename_i u hu;simp only[ar,bB]at h;obtain⟨rfl,rfl⟩:=h;exact fin _ (xI _ hu).1 (xI _ hu).2 rfl
   cases h
  |nK=>simp[hl,EB]at h
def Zm5(hh:bq P μ w st){u:V}(hx:VR μ u X){xs:List V}(h:fO st size u=some (m,xs)):
  (Builtin.lenOf X).run P w=.ok m w/\xs.length=m*size/\∃ys,aV μ xs ys/\(∀y∈ys,y.oneCell'=true)/\
   ∀w':World,w'.heap=w.heap->∀k,k<=m->(Builtin.firstCells size k X).run P w'=.ok ⟨ys.take (k*size)⟩ w':=by
 unfold fO at h;split at h
 ·simp only[ar,bB]at h;obtain⟨rfl,rfl⟩:=h;simp only[VR]at hx;subst hx;exact⟨by simp[Builtin.lenOf],by simp,[],by simp[aV],by simp,fun w' _ k hk=>by simp[Builtin.firstCells]⟩
 ·simp only[ar,bB]at h;obtain⟨rfl,rfl⟩:=h;obtain⟨b,c,rfl⟩:=hx;refine⟨by simp[Builtin.lenOf],by simp,[],by simp[aV],by simp,fun w' _ k hk=>?_⟩;have pG:k=0:=by omega
  subst pG;have:=run_firstCells_some (P:=P) w' size 0 b 0 c [] (by simp) (by simp);simpa using this
 ·rename_i j p m' _ sz;obtain⟨l,c,hl,rfl,_⟩:=hx;split at h
  ·split at h
   ·rename_i cs _ _ aA;split at h
    ·rename_i BL vw;simp only[ar,bB]at h;obtain⟨rfl,rfl⟩:=h;obtain⟨ys,g1,g2,g3,g4,g5⟩:=(hh.row hl aA).BL vw;refine⟨by simp[Builtin.lenOf],by rw[<-g1.length,g2],ys,g1,g5,fun w' xP k hk=>?_⟩;have wA:k*size<=m'*size:=kg _ hk;refine run_firstCells_some (P:=P) w' size k _ m' c (ys.take (k*size)) (by rw[iV,g2];exact rP wA) fun i y hy=>?_;rw[yW];rw[jZ]at hy;split at hy
     ·have:=g4 i y hy;simpa[World.cell?,xP]using this
     cases hy
    cases h
   cases h
  cases h
 ·rename_i s;split at h
  ·rename_i zT;subst zT;simp only[ar,bB]at h;obtain⟨rfl,rfl⟩:=h;simp only[VR]at hx;subst hx;have mY:(⟨s.toArray⟩:ByteArray).size=s.length:=rfl;refine⟨by simp[Builtin.lenOf,mY, -ByteArray.size_data],by simp,s.map (fun b=>.int .u8 b.toNat),?_,by simp;intro y _;rfl,fun w' _ k hk=>?_⟩
   ·refine aV.tA (by simp) fun i y hy=>?_;simp only[eH,mS]at hy;obtain⟨b,hb,rfl⟩:=hy;exact⟨_,by simp[hb];rfl,by simp[VR]⟩
   simp only[Builtin.firstCells,Sem.run_pure,AL];congr 1;apply Array.ext';simp
  cases h
 cases h
def Zgh(a:Addr)(i:Nat):(storeCells a [] i).run P w=.ok () w:=by simp[storeCells]
def Ytz(hh:bq P μ w st)(hr:RR μ r n a.tmps){t e:TypeId}{ss:Src}(q_:ts[0]?=some t)(ht:P.underlying t=some (.slice e))(hs:fQ P e=some size)
  (hx:bJ P x=some sd) (hy:bJ P y=some ss) (h:EG size sd ss call r st=some (v,aB)):
  ba P μ w st (do pure (.value (<-Builtin.copy_ ts ty #[a.eval x,a.eval y]))) v aB:=by
 unfold EG at h;split at h
 ·rename_i d s hd Ho;have h1:=dt hh hr hx hd;have h2:=dt hh hr hy Ho;split at h
  ·rename_i m xs Oz;obtain⟨g1,g2,ys,g3,g4,g5⟩:=Zm5 hh h2 Oz;have PN:=g3.length;split at h
   ·simp only[ar,bB]at h;obtain⟨rfl,rfl⟩:=h;simp only[VR]at h1;refine ba.value hh (x:=.int .i64 0) ?_ (by simp[VR]);have hf:=g5 w rfl 0 (wX _);simp[Builtin.copy_,q_,h1,run_underlying ht,g1,Ac hs,hf,Result.andThen,goInt]
   ·rename_i i o len cap sz;obtain⟨l,c,hl,h1,AY,Cl,_⟩:=h1;split at h
    ·cases h
    rename_i mY;have hf:=g5 w rfl (min m len) (Nat.min_le_left _ _);simp only at h;split at h
    ·rename_i hk;simp only[ar,bB]at h;obtain⟨rfl,rfl⟩:=h;refine ba.value hh (x:=.int .i64 0) ?_ (by simp[VR]);have vz:Nat.min m len=0:=hk;rw[hk]at hf;simp[Builtin.copy_,q_,h1,run_underlying ht,g1,Ac hs,hf,Result.andThen,goInt,vz,Zgh]
    rename_i hk;split at h
    ·rename_i cs e' aA;split at h
     ·rename_i hle;simp only[ar,bB]at h;obtain⟨rfl,rfl⟩:=h;have wA:min m len*size<=m*size:=kg _ (Nat.min_le_left _ _);obtain⟨w',hw,fF⟩:=Uy (o:=o) hh hl aA (g3.take (min m len*size)) (fun q hq=>g4 q (AG hq)) (by rw[iV,g2,rP wA];exact hle);refine⟨.value (.int .i64 (min m len:Nat)),_,w',μ,[i],?_,.inl rfl,by simp[VR],fF⟩;have vz:Nat.min m len=min m len:=rfl;simp only[Builtin.copy_,q_,h1,Sem.run_bind,run_underlying ht,g1,Ac hs,Result.andThen_ok,vz,hf,hw,goInt,Sem.run_pure,List.getElem?_toArray,De,Gw]
     cases h
    cases h
   cases h
  cases h
 cases h
def Zjr(z:Array Value)(k:Nat):Builtin.zeroCells z k=madeCells z (k*z.size):=rfl
def Yyn(hh:bq P μ w st)(hr:RR μ r n a.tmps){t e:TypeId}{z:V}(ht:P.underlying t=some (.slice e))(hz:tn P e=some z)(cW:z.cells.all V.one=true)
  (hx:bJ P x=some s) (h:Mt size z.cells s call r st=some (v,aB)):
  ba P μ w st (do pure (.value (<-Builtin.clear_ #[t] ty #[a.eval x]))) v aB:=by
 unfold Mt at h;split at h
 ·rename_i hm;simp only[ar,bB]at h;obtain⟨rfl,rfl⟩:=h;have h1:=dt hh hr hx hm;simp only[VR]at h1;exact ba.value hh (x:=.tuple #[]) (by simp[Builtin.clear_,h1,run_underlying ht]) ⟨[],rfl,by simp[aV]⟩
 ·rename_i hm;simp only[ar,bB]at h;obtain⟨rfl,rfl⟩:=h;obtain⟨b,c,h1⟩:=dt hh hr hx hm;exact ba.value hh (x:=.tuple #[]) (by simp[Builtin.clear_,h1,run_underlying ht]) ⟨[],rfl,by simp[aV]⟩
 ·rename_i i o len cap sz hm;obtain⟨l,c,hl,h1,_⟩:=dt hh hr hx hm;split at h
  ·rename_i h0;subst h0;simp only[ar,bB]at h;obtain⟨rfl,rfl⟩:=h;exact ba.value hh (x:=.tuple #[]) (by simp[Builtin.clear_,h1,run_underlying ht]) ⟨[],rfl,by simp[aV]⟩
  rename_i h0;split at h
  ·cases h
  rename_i df;simp only[not_or,Decidable.not_not]at df;split at h
  ·rename_i cs e' aA;split at h
   ·rename_i hle;simp only[ar,bB]at h;obtain⟨rfl,rfl⟩:=h;obtain⟨inf,zx,hi,sE,DH⟩:=JW hz;have qf:=Uz (DH μ).cells len;have hlen:z.cells.length=zx.cells.size:=by rw[<-(DH μ).cells.length];simp
    obtain⟨w',hw,fF⟩:=Uy (o:=o) hh hl aA qf (Zsc cW len qf) (by rw[Zod,df.2.2];exact hle);refine⟨.value (.tuple #[]),_,w',μ,[i],?_,.inl rfl,⟨[],rfl,by simp[aV]⟩,fF⟩;have AB:Builtin.zeroCells zx.cells len=madeCells ⟨zx.cells.toList⟩ (len*z.cells.length):=by rw[Zjr,hlen]
    have hrz:(zeroValue e).run P w=.ok zx w:=by simp[zeroValue,typeInfo,hi,sE]
    obtain⟨zbC,rfl⟩:∃q,len=q+1:=⟨len-1,by omega⟩;simp[Builtin.clear_,h1,run_underlying ht,hrz,AB,hw,Result.andThen]
   cases h
  cases h
 cases h
def UA{t e:TypeId}{base:Option Addr}(q_:ts[0]?=some t)(ht:P.underlying t=some (.slice e))(nL:ts[1]?=some u)(hu:P.underlying u=some d)
  (hd:∀k,d≠.int k) (hs:fQ P e=some size) (hlen:(Builtin.lenOf X).run P w=.ok m w) (hf:(Builtin.firstCells size m X).run P w=.ok ⟨ys⟩ w) (hle:sLen+m<=sCap)
  {w':World} (fF:(match base with|some a=>storeCells (a.add (sLen*size)) ys|none=>pure ():Sem Unit).run P w=.ok () w'):
  (Builtin.append_ ts ty #[.slice base sLen sCap,X]).run P w=.ok (.slice base (sLen+m) sCap) w':=by
 cases base with
 |none=> simp only[Sem.run_pure,Result.ok.injEq,true_and]at fF;subst fF;cases d<;>first|exact absurd rfl (hd _)|simp[Builtin.append_,q_,run_underlying ht,nL,run_underlying hu,Ac hs,Result.andThen,hlen,hf,hle]
 |some b=> simp only at fF;cases d<;>first|exact absurd rfl (hd _)|simp[Builtin.append_,q_,run_underlying ht,nL,run_underlying hu,Ac hs,Result.andThen,hlen,hf,hle,fF]
def Znk{t e:TypeId}{inf:TypeInfo}{base:Option Addr}(q_:ts[0]?=some t)(ht:P.underlying t=some (.slice e))(nL:ts[1]?=some u)(hu:P.underlying u=some d)
  (hd:∀k,d≠.int k) (hi:P.info? e=some inf) (hz:inf.zero=some zx) (hlen:(Builtin.lenOf X).run P w=.ok m w) (hf:(Builtin.firstCells inf.size m X).run P w.drew=.ok ⟨ys⟩ w.drew)
  (PO:(Builtin.firstCells inf.size sLen (.slice base sLen sCap)).run P w.drew=.ok ⟨os⟩ w.drew) (hle:¬sLen+m<=sCap) (hb:inf.bytes≠0) (Cm:2*(sLen+m)*inf.bytes<=2^48):
  (Builtin.append_ ts ty #[.slice base sLen sCap,X]).run P w=.ok (.slice (some ⟨w.heap.size,0,none⟩) (sLen+m) (grownCap w (sLen+m) sCap e))
   (w.drew.alloc (.cells ⟨os++ys++(Builtin.zeroCells zx.cells (grownCap w (sLen+m) sCap e-(sLen+m))).toList⟩ e)):=by
 have hgr:Builtin.nextslicecap (sLen+m) sCap*inf.bytes<=2^48:=by have h1:Builtin.nextslicecap (sLen+m) sCap*inf.bytes<=2*(sLen+m)*inf.bytes:=kg _ (nextslicecap_le (by omega));omega
 have zau:¬(281474976710656<Builtin.nextslicecap (sLen+m) sCap*inf.bytes):=by omega
 cases d<;>first|exact absurd rfl (hd _)|simp[Builtin.append_,q_,run_underlying ht,nL,run_underlying hu,sizeOf,typeInfo,zeroValue,hi,hz,Result.andThen,hlen,hf,PO,hle,hb,zau,Question.forced,newRow,grownCap]<;>(congr 2;apply Array.ext';simp)
def Zr7(hh:bq P μ w st){t e:TypeId}{z:V}{base:Option Addr}{co cx:List V}
  (q_:ts[0]?=some t) (ht:P.underlying t=some (.slice e)) (nL:ts[1]?=some u) (hu:P.underlying u=some d) (hd:∀k,d≠.int k)
  (hs:fQ P e=some size) (hb:Ep P e=some b) (hz:tn P e=some z) (PQ:z.cells.length=size) (cW:z.cells.all V.one=true) (iW:size≠0)
  (hlen:(Builtin.lenOf X).run P w=.ok m w) (hf:(Builtin.firstCells size m X).run P w.drew=.ok ⟨ys⟩ w.drew)
  (PO:(Builtin.firstCells size sLen (.slice base sLen sCap)).run P w.drew=.ok ⟨os⟩ w.drew) (hle:¬sLen+m<=sCap) (nT:b≠0) (Cm:2*(sLen+m)*b<=2^48)
  (ho:aV μ co os) (hx:aV μ cx ys) (Dc:∀y∈os,y.oneCell'=true) (wK:∀y∈ys,y.oneCell'=true) (gJ:co.length=sLen*size) (uU:cx.length=m*size):
  ∃μ' w' c,(Builtin.append_ ts ty #[.slice base sLen sCap,X]).run P w=.ok (.slice (some ⟨w.heap.size,0,none⟩) (sLen+m) c) w'/\VR μ' (.slice st.n 0 (sLen+m) none size) (.slice (some ⟨w.heap.size,0,none⟩) (sLen+m) c)/\
   bN P μ w st μ' w' (st.alloc (.cells (co++cx) e true)) []:=by
 obtain⟨inf,zx,hi,sE,DH⟩:=JW hz;have mY:inf.size=size:=by unfold fQ at hs;simpa[hi]using hs
 have hbz:inf.bytes=b:=by unfold Ep at hb;simpa[hi]using hb
 have PR:zx.cells.size=size:=by rw[<-PQ,<-(DH μ).cells.length];simp
 subst mY hbz;have bY:=Znk (P:=P) (w:=w) (ty:=ty) q_ ht nL hu hd hi sE hlen hf PO hle nT Cm;have Fb:=grownCap_ge w (sLen+m) sCap e;generalize grownCap w (sLen+m) sCap e=cap at bY Fb;have AB:(Builtin.zeroCells zx.cells (cap-(sLen+m))).toList.length=(cap-(sLen+m))*inf.size:=by simp[Builtin.zeroCells,PR]
 have qf:aV μ (du z.cells (cap-(sLen+m))) (Builtin.zeroCells zx.cells (cap-(sLen+m))).toList:=by
  have:=Uz (DH μ).cells (cap-(sLen+m));rw[Zjr];have e1:zx.cells.size=z.cells.length:=by rw[PR,PQ]
  rw[e1];simpa using this
 have PS:=ho.length;have PT:=hx.length;have Cl:(os++ys++(Builtin.zeroCells zx.cells (cap-(sLen+m))).toList).length=cap*inf.size:=by rw[iU,iU,AB,PS,PT,gJ,uU,<-iR,<-iR];congr 1;omega
 refine⟨_,_,cap,bY,?_,(bN.newRow hh.Hp (cs:=co++cx) (xs:=os++ys++(Builtin.zeroCells zx.cells (cap-(sLen+m))).toList) (lo:=0) (hi:=0) ?_ ?_ ?_ ?_).Cn⟩
 ·simp only[VR];refine⟨⟨w.heap.size,0,(os++ys++(Builtin.zeroCells zx.cells (cap-(sLen+m))).toList).length⟩,cap,by exact av trivial,by simp,Fb,?_,by simp,fun _=>?_⟩
  ·show 0+cap*inf.size<=(os++ys++(Builtin.zeroCells zx.cells (cap-(sLen+m))).toList).length;omega
  show 0+cap*inf.size=(os++ys++(Builtin.zeroCells zx.cells (cap-(sLen+m))).toList).length;omega
 ·rw[iU,iU,iU,PS,PT];omega
 ·intro j u' nJ;obtain⟨y,h1,h2⟩:=(ho.append hx).get nJ;exact⟨y,by rw[k_ (yL.1 h1).1];exact h1,h2⟩
 ·intro y hy;simp only[iS]at hy;rcases hy with(hy|hy)|hy
  ·exact Dc y hy
  ·exact wK y hy
  exact Zsc cW _ qf y hy
 exact .inr (aN _)
def bN.JX{w':World}(h:bq P μ w st){l':L}{o':O}(hi:μ i=some l)(ho:st.h.get i=some o)(hw:o.wr=true)
  (BK:w'.os=w.os) (htp:w'.tape=w.tape) (hou:w'.output=w.output) (mY:w'.heap.size=w.heap.size) (tB:∀b,b≠l.b->w'.heap[b]?=w.heap[b]?) (wm:l'.b=l.b)
  (yU:OM P (fun j=>if j=st.n then some l' else μ j) w' o' l'):
  bN P μ w st (fun j=>if j=st.n then some l' else μ j) w' ((st.write i .dead).alloc o') [i]:=by
 have yV:o.live=true:=by cases o<;>simp_all [O.wr,O.live]
 have Db:=(h.dw i l hi).1;have nt:=(h.dw i l hi).2;have dW:∀j lj,μ j=some lj->(fun j=>if j=st.n then some l' else μ j) j=some lj:=fun j lj hj=>by have:=(h.dw j lj hj).1;show (if j=st.n then some l' else μ j)=some lj;rw[ak (by omega)];exact hj
 have de:∀j,((st.write i .dead).alloc o').h.get j=if j=st.n then some o' else if j=i then some .dead else st.h.get j:=fun j=>by simp only[St.alloc,St.write,T.ag]
 refine⟨⟨fun j lj hj=>?_,fun j lj hj=>?_,fun j k lj lk oj ok hj hk aX h1 h2 Me gj=>?_,fun g hg=>let ⟨t,ht⟩:=h.je g hg;⟨t,dW g _ ht⟩⟩,fun j hj=>?_,by simp[St.alloc,St.write],rfl,⟨BK,htp,hou,by omega,fun b _ dV=>tB b ?_⟩,
  fun j lj hn hj=>?_,fun j hj dV=>?_,fun j oj hn hj=>?_,fun j h1 h2=>⟨l',by simp only[St.alloc,St.write]at h2;show (if j=st.n then some l' else μ j)=some l';rw[av (by omega)]⟩,fun j hj _=>by simp only[og]at hj;subst hj;exact⟨o,ho,hw⟩⟩
 ·replace hj:(if j=st.n then some l' else μ j)=some lj:=hj;split at hj
  ·rename_i e;simp only[ar]at hj;subst hj;simp[St.alloc,St.write];omega
  have:=h.dw j lj hj;simp[St.alloc,St.write];omega
 ·replace hj:(if j=st.n then some l' else μ j)=some lj:=hj;split at hj
  ·rename_i e;simp only[ar]at hj;subst hj;exact⟨o',by rw[de,av e],yU⟩
  rename_i e;by_cases e2:j=i
  ·exact⟨.dead,by rw[de,ak e,av e2],trivial⟩
  obtain⟨oj,h1,h2⟩:=h.obj j lj hj;refine⟨oj,by rw[de,ak e,ak e2];exact h1,?_⟩;cases hl:oj.live
  ·cases oj<;>simp[O.live]at hl;trivial
  exact(h2.mono dW).congr (tB lj.b (Ne.symm (h.inj i j l lj o oj hi hj (Ne.symm e2) ho h1 hw hl)))
 ·rw[de]at h1 h2;replace hj:(if j=st.n then some l' else μ j)=some lj:=hj;replace hk:(if k=st.n then some l' else μ k)=some lk:=hk;by_cases e1:j=st.n
  ·rw[av e1]at hj h1;simp only[ar]at hj h1;subst hj h1;by_cases e2:k=st.n
   ·exact absurd (e1.trans e2.symm) aX
   rw[ak e2]at hk h2;by_cases e3:k=i
   ·rw[av e3,ar]at h2;subst h2;simp[O.live]at gj
   rw[ak e3]at h2;rw[wm];exact h.inj i k l lk o ok hi hk (Ne.symm e3) ho h2 hw gj
  rw[ak e1]at hj h1;by_cases e3:j=i
  ·rw[av e3,ar]at h1;subst h1;simp[O.wr]at Me
  rw[ak e3]at h1;by_cases e2:k=st.n
  ·rw[av e2]at hk h2;simp only[ar]at hk h2;subst hk h2;rw[wm];exact h.inj j i lj l oj o hj hi e3 h1 ho Me yV
  rw[ak e2]at hk h2;by_cases e4:k=i
  ·rw[av e4,ar]at h2;subst h2;simp[O.live]at gj
  rw[ak e4]at h2;exact h.inj j k lj lk oj ok hj hk aX h1 h2 Me gj
 ·show (if j=st.n then some l' else μ j)=μ j;rw[ak (by omega)]
 ·exact Ne.symm (dV i (by simp) l hi)
 ·replace hj:(if j=st.n then some l' else μ j)=some lj:=hj;split at hj
  ·simp only[ar]at hj;subst hj;exact .inr ⟨i,by simp,Db,l,o,hi,wm.symm,ho,hw⟩
  exact absurd (h.dw j lj hj).1 (by omega)
 ·simp only[og]at dV;rw[de,ak (by omega),ak dV]
 rw[de,ak (by omega)]at hj;split at hj
 ·rename_i e;subst e;simp only[ar]at hj;subst hj;exact⟨o,ho,by simp[O.wr],by simp[O.live]⟩
 exact⟨oj,hj,id,id⟩
def bN.kill(h:bq P μ w st)(hi:μ i=some l)(ho:st.h.get i=some o)(hw:o.wr=true):bN P μ w st μ w (st.write i .dead) [i]:=
 bN.write h hi ho hw rfl rfl rfl rfl (fun _ _=>rfl) trivial
def Yje(hh:bq P μ w st)(hr:RR μ r n a.tmps){t e:TypeId}{z:V}
  (q_:ts[0]?=some t) (ht:P.underlying t=some (.slice e)) (nL:ts[1]?=some u) (hu:P.underlying u=some d) (hd:∀k,d≠.int k)
  (hs:fQ P e=some size) (hb:Ep P e=some b) (hz:tn P e=some z) (PQ:z.cells.length=size) (cW:z.cells.all V.one=true) (nT:b≠0)
  (hx:bJ P x=some s) (hy:bJ P y=some sx) (h:EF size b e z.cells s sx call r st=some (v,aB)):
  ba P μ w st (do pure (.value (<-Builtin.append_ ts ty #[a.eval x,a.eval y]))) v aB:=by
 unfold EF at h;split at h
 ·rename_i sv xv hsv Dz;have h1:=dt hh hr hx hsv;have h2:=dt hh hr hy Dz;unfold mR at h;split at h
  ·cases h
  rename_i m xs Oz;obtain⟨g1,g2,ys,g3,g4,g5⟩:=Zm5 hh h2 Oz;have PN:=g3.length;have hyt:ys.take (m*size)=ys:=gm (by omega);have gf:∀w':World,w'.heap=w.heap->(Builtin.firstCells size m (a.eval y)).run P w'=.ok ⟨ys⟩ w':=fun w' xP=>by rw[g5 w' xP m (aN _),hyt]
  split at h
  ·-- a nil slice
   simp only[VR]at h1;split at h
   ·rename_i jU;subst jU;simp only[ar,bB]at h;obtain⟨rfl,rfl⟩:=h;refine ba.value hh (x:=.slice none 0 0) ?_ (by simp[VR]);rw[h1];exact UA (base:=none) q_ ht nL hu hd hs g1 (gf w rfl) (aN _) (by simp)
   rename_i jU;split at h
   ·rename_i hc;simp only[ar,bB]at h;obtain⟨rfl,rfl⟩:=h;obtain⟨μ',w',c,k1,k2,k3⟩:=Zr7 (P:=P) (w:=w) (ty:=ty) (sLen:=0) (sCap:=0) (base:=none) (X:=a.eval y) (os:=[]) (co:=[]) hh q_ ht nL hu hd hs hb hz PQ cW hc.2 g1 (gf w.drew rfl) (by simp[Builtin.firstCells]) (by omega) nT
     (by have:=hc.1;unfold Ae at this;simpa using this) (by simp[aV]) g3 (by simp) g4 (by simp) g2;refine⟨.value (.slice (some ⟨w.heap.size,0,none⟩) (0+m) c),_,w',μ',[],?_,.inl rfl,?_,?_⟩
    ·rw[h1];simp only[Sem.run_bind,k1,Result.andThen_ok,Sem.run_pure]
    ·simpa using k2
    simpa using k3
   cases h
  ·-- a slice
   rename_i i o len cap sz;have iz:=h1;obtain⟨l,c,hl,h1,AY,Cl,hk,Fe⟩:=h1;split at h
   ·rename_i jU;subst jU;split at h
    ·simp only[ar,bB]at h;obtain⟨rfl,rfl⟩:=h;refine ba.value hh (x:=a.eval x) ?_ iz;have PU:ys=[]:=by apply tC;omega
     rw[h1];have:=UA (P:=P) (w:=w) (w':=w) (ty:=ty) (base:=some ⟨l.b,l.d+o,none⟩) (sLen:=len) (sCap:=c) q_ ht nL hu hd hs g1 (gf w rfl) (by omega) (by simp only[PU];exact Zgh _ _);simpa using this
    cases h
   rename_i jU;split at h
   ·cases h
   rename_i df;simp only[not_or,Decidable.not_not,xb]at df;obtain⟨mY,iW,Cm⟩:=df;subst mY;unfold Ae at Cm;have inPlace:∀(cs:List V) (e':TypeId),st.row i=some (cs,e',true)->o+(len+m)*sz<=cs.length->len+m<=c->(∀k,cap=some k->c=k)->
     ba P μ w st (do pure (.value (<-Builtin.append_ ts ty #[a.eval x,a.eval y]))) (.slice i o (len+m) cap sz) (st.write i (.cells (ae cs (o+len*sz) xs) e' true)):=by
    intro cs e' aA hle Av _
    have zav:(len+m)*sz=len*sz+m*sz:=iR ..
    obtain⟨w',hw,fF⟩:=Uy (o:=o+len*sz) hh hl aA g3 g4 (by rw[g2];omega)
    have bY:=UA (P:=P) (w:=w) (w':=w') (ty:=ty) (base:=some ⟨l.b,l.d+o,none⟩) (sLen:=len) (sCap:=c) q_ ht nL hu hd hs g1 (gf w rfl) Av (by simp only[yW];rw[pE];exact hw)
    refine⟨.value (.slice (some ⟨l.b,l.d+o,none⟩) (len+m) c),_,w',μ,[i],?_,.inl rfl,?_,fF⟩
    ·rw[h1];simp only[Sem.run_bind,bY,Result.andThen_ok,Sem.run_pure]
    ·simp only[VR];exact⟨l,c,hl,rfl,Av,Cl,hk,Fe⟩
   have fresh:∀(cg:St) (ws:List Nat) (cs old:List V) (e':TypeId) (sO:Bool),bN P μ w st μ w cg ws->cg.n=st.n->st.row i=some (cs,e',sO)->aO cs o (len*sz)=some old->¬len+m<=c->
     ba P μ w st (do pure (.value (<-Builtin.append_ ts ty #[a.eval x,a.eval y]))) (.slice st.n 0 (len+m) none sz) (cg.alloc (.cells (old++xs) e true)):=by
    intro cg ws cs old e' sO jF zi aA hold dV
    have AT:=hh.row hl aA
    obtain⟨os,q1,q2,q3,q4,q5⟩:=AT.BL hold
    have PO:(Builtin.firstCells sz len (.slice (some ⟨l.b,l.d+o,none⟩) len c)).run P w.drew=.ok ⟨os⟩ w.drew:=by
     refine run_firstCells_some (P:=P) w.drew sz len _ len c os q2 fun j y hy=>?_
     rw[yW]
     exact q4 j y hy
    obtain⟨μ',w',c',k1,k2,k3⟩:=Zr7 (P:=P) (w:=w) (ty:=ty) (base:=some ⟨l.b,l.d+o,none⟩) (sLen:=len) (sCap:=c) jF.hr q_ ht nL hu hd hs hb hz PQ cW iW g1 (gf w.drew rfl) PO dV nT Cm q1 g3 q5 g4 (by rw[<-q1.length,q2]) g2
    refine⟨.value (.slice (some ⟨w.heap.size,0,none⟩) (len+m) c'),_,w',μ',[]++ws,?_,.inl rfl,?_,jF.trans k3⟩
    ·rw[h1];simp only[Sem.run_bind,k1,Result.andThen_ok,Sem.run_pure]
    ·rw[<-zi];exact k2
   split at h
   ·cases h
   rename_i cs e' sO aA;split at h
   ·rename_i k;have NP:=hk k rfl;split at h
    ·rename_i hle;split at h
     ·rename_i hc;simp only[ar,bB]at h;obtain⟨rfl,rfl⟩:=h;obtain⟨rfl,BB⟩:=hc;exact inPlace cs e' aA BB (by omega) hk
     cases h
    rename_i hle;split at h
    ·rename_i old hold;simp only[ar,bB]at h;obtain⟨rfl,rfl⟩:=h;exact fresh st [] cs old e' sO (bN.refl hh) rfl aA hold (by omega)
    cases h
   split at h
   ·rename_i PV;subst PV;have AT:=hh.row hl aA;have hct:cs.length<=l.tv:=by obtain⟨_,_,_,_,_,h3,_⟩:=AT;exact h3
    have zbj:=Fe rfl;have zav:(len+m)*sz=len*sz+m*sz:=iR ..;split at h
    ·rename_i hle;simp only[ar,bB]at h;obtain⟨rfl,rfl⟩:=h;refine inPlace cs e' aA hle ?_ hk;have:(len+m)*sz<=c*sz:=by omega
     exact Nat.le_of_mul_le_mul_right this (by omega)
    split at h
    ·rename_i hle hc;obtain⟨PW,rfl,ho0⟩:=hc;simp only[ar,bB]at h;obtain⟨rfl,rfl⟩:=h;have hold:aO cs o (len*sz)=some (cs.drop o):=by unfold aO;rw[av (by omega),gm (by simp;omega)]
     by_cases Av:len+m<=c
     ·-- in place,above what is known
      obtain⟨c',lo,hi,q1,q2,q3,q4,q5,q6⟩:=AT;obtain⟨cur⟩:=c';simp only[List.size_toArray]at q2;have Co:(len+m)*sz<=c*sz:=kg _ Av;have hrs:=Zeb (P:=P) l.b (l.d+(o+len*sz)) e' lo hi ys 0 cur w q1 (by omega) g4 (fun j uP pY=>by have:=(q6 rfl).2 (j-l.d) (by omega);rw[show l.d+(j-l.d)=j by omega]at this;exact this);have bY:=UA (P:=P) (w:=w) (ty:=ty) (base:=some ⟨l.b,l.d+o,none⟩) (sLen:=len) (sCap:=c) q_ ht nL hu hd hs g1 (gf w rfl) Av (by simp only[yW];rw[pE];exact hrs);have tB:=setRow_heap w l.b _ (⟨ae cur (l.d+(o+len*sz)+0) ys⟩:Array Value) e' _ q1;have dW:∀j lj,μ j=some lj->(fun j=>if j=st.n then some (⟨l.b,l.d+o,l.tv-o⟩:L) else μ j) j=some lj:=fun j lj hj=>by have:=(hh.dw j lj hj).1;simp only;rw[ak (by omega)];exact hj
      refine⟨.value (.slice (some ⟨l.b,l.d+o,none⟩) (len+m) c),_,w.setRow l.b ⟨ae cur (l.d+(o+len*sz)+0) ys⟩,fun j=>if j=st.n then some ⟨l.b,l.d+o,l.tv-o⟩ else μ j,[i],?_,.inl rfl,?_,bN.JX hh hl (PX aA) rfl rfl rfl rfl (by simp) (fun b hb=>setRow_other w l.b b _ hb) rfl ⟨_,lo,hi,tB,?_,?_,?_,?_,?_⟩⟩
      ·rw[h1];simp only[Sem.run_bind,bY,Result.andThen_ok,Sem.run_pure]
      ·simp only[VR];refine⟨⟨l.b,l.d+o,l.tv-o⟩,c,by simp,by simp,Av,?_,by simp,fun _=>?_⟩
       ·show 0+c*sz<=l.tv-o;omega
       show 0+c*sz=l.tv-o;omega
      ·simp only[List.size_toArray];rw[UC (by omega)];omega
      ·simp only[iU,zX];omega
      ·intro j u' nJ;have e1:∀k:Nat,(⟨ae cur (l.d+(o+len*sz)+0) ys⟩:Array Value)[k]?=(ae cur (l.d+(o+len*sz)+0) ys)[k]?:=fun k=>by simp
       simp only;rw[e1,MO (by omega)];rw[List.getElem?_append]at nJ;split at nJ
       ·rename_i hj;simp only[zX]at hj;rw[fU]at nJ;obtain⟨y',p1,p2⟩:=q4 (o+j) u' nJ;rw[ak (by omega)];refine⟨y',?_,VR.mono dW u' y' p2⟩;rw[show l.d+o+j=l.d+(o+j) by omega];simpa using p1
       rename_i hj;simp only[zX]at hj nJ;obtain⟨y',p1,p2⟩:=g3.get nJ;have aD:=(yL.1 p1).1;rw[av (by omega)];refine⟨y',?_,VR.mono dW u' y' p2⟩;rw[show l.d+o+j-(l.d+(o+len*sz)+0)=j-(cs.length-o) by omega];exact p1
      ·intro j y' bV xL;simp only at bV xL;have e1:(⟨ae cur (l.d+(o+len*sz)+0) ys⟩:Array Value)[l.d+o+j]?=(ae cur (l.d+(o+len*sz)+0) ys)[l.d+o+j]?:=by simp
       rw[e1,MO (by omega)]at xL;split at xL
       ·exact g4 y' (cP xL)
       exact q5 (o+j) y' (by omega) (by rw[show l.d+(o+j)=l.d+o+j by omega];simpa using xL)
      intro _;refine⟨by have:=(q6 rfl).1;show l.d+o=0;omega,?_⟩;intro j hj;have:=(q6 rfl).2 (o+j) (by simp only at hj;omega);rw[show l.d+(o+j)=l.d+o+j by omega]at this;exact this
     have PY:=bN.kill hh hl (PX aA) rfl;exact fresh (st.write i .dead) [i] cs (cs.drop o) e' true PY rfl aA hold Av
    cases h
   cases h
  cases h
 cases h
end
section
variable {P:Program} {μ:Mu} {w:World} {st aB:St} {r:T V} {n:Nat} {a:Act} {call:cQ} {v:V}
def Zj4{c:Array Value}{e:TypeId}{f:Nat×Nat}(h:w.heap[b]?=some (.cells c e f)):w.shape? b=some (e,c.size):=by simp[World.shape?,h]
def Zma{t:TypeId}(h:fQ P t=some z):P.cellsOf t=z:=by unfold fQ at h;simp[Program.cellsOf,h]
def Zrv{t:TypeId}(h:fQ P t=some z):∃j,P.info? t=some j/\j.size=z:=by unfold fQ at h;simp only[mS]at h;exact h
def Zx3(hc:P.cellsOf u=z+1)(count:Nat)(hn:1<=count):liesAt P P.depth u count 0 u 1=true:=by have hd:P.depth=(2*(P.types.size+Made.depth)+1)+1:=rfl;rw[hd];simp only[liesAt,Jh];left;rw[hd];simp[rowAt,hc,sameLayout];left;omega
def Yez(hh:bq P μ w st)(hr:RR μ r n a.tmps){t:TypeId}(hs:P.underlying src=some (.pointer t))(hd:P.underlying dst=some .unsafePointer)(hz:fQ P t=some (z+1))
  (hx:bJ P x=some s) (h:GK none s call r st=some (v,aB)):ba P μ w st (do pure (.value (<-convert src dst (a.eval x)))) v aB:=by
 unfold GK at h;split at h
 ·rename_i i hm;obtain⟨l,hl,h1⟩:=dt hh hr hx hm;split at h
  ·rename_i c e' aA;simp only[]at h;split at h
   ·rename_i aD;simp only[ar,bB]at h;obtain⟨rfl,rfl⟩:=h;obtain⟨c',lo,hi,g1,g2,g3,_,_,g6⟩:=hh.row hl aA;have qG:=(g6 rfl).1;obtain⟨j,hj,hjs⟩:=Zrv hz;refine ba.value hh (x:=.pointer (some ⟨l.b,l.d+0,none⟩)) ?_ ⟨l,hl,rfl⟩;rw[h1];exact Go.Lib.run_to_unsafe w ⟨l.b,l.d+0,none⟩ hs hd hj (by omega) (Zj4 g1) (by show l.d+0<c'.size;omega)
   cases h
  cases h
 cases h
def Zwg(hh:bq P μ w st)(hr:RR μ r n a.tmps)(hs:P.underlying src=some .unsafePointer)(hd:P.underlying dst=some (.pointer u))(hz:fQ P u=some (z+1))
  (hx:bJ P x=some s) (h:GK (some (u,z+1)) s call r st=some (v,aB)):ba P μ w st (do pure (.value (<-convert src dst (a.eval x)))) v aB:=by
 unfold GK at h;split at h
 ·rename_i i hm;obtain⟨l,hl,h1⟩:=dt hh hr hx hm;split at h
  ·rename_i c e' aA;simp only[]at h;split at h
   ·rename_i aD;obtain⟨rfl,_,hle⟩:=aD;simp only[ar,bB]at h;obtain⟨rfl,rfl⟩:=h;obtain⟨c',lo,hi,g1,g2,g3,_,_,g6⟩:=hh.row hl aA;have qG:=(g6 rfl).1;obtain⟨j,hj,hjs⟩:=Zrv hz;have hco:=Zma hz;refine ba.value hh (x:=.pointer (some ⟨l.b,l.d+0,none⟩)) ?_ ⟨l,hl,rfl⟩;rw[h1];refine Go.Lib.run_from_unsafe w ⟨l.b,l.d+0,none⟩ hs hd hj (Zj4 g1) ?_;show liesAt P P.depth e' (c'.size/P.cellsOf e') (l.d+0) e' 1=true;rw[qG];refine Zx3 hco _ ?_;rw[hco];exact Nat.div_pos (by omega) (by omega)
   cases h
  cases h
 cases h
def Ykn(hh:bq P μ w st)(hr:RR μ r n a.tmps)
  (hx:bJ P x=some s) (h:Mv s call r st=some (v,aB)):ba P μ w st (do pure (.value (<-Builtin.unsafeSliceData_ ts ty #[a.eval x]))) v aB:=by
 unfold Mv at h;split at h
 ·rename_i i o len cap sz hm;obtain⟨l,c,hl,h1,AY,_⟩:=dt hh hr hx hm;split at h
  ·rename_i aD;simp only[ar,bB]at h;obtain⟨rfl,rfl⟩:=h;refine ba.value hh (x:=.pointer (some ⟨l.b,l.d+o,none⟩)) ?_ ⟨l,hl,rfl⟩;rw[h1];exact Go.Lib.run_unsafeSliceData_row w ts ty _ _ _ (by omega)
  cases h
 cases h
def Zp9:∀{vs:List V} {s:List UInt8},JC vs=some s->vs.length=s.length/\∀(j:Nat) (b:UInt8),s[j]?=some b->vs[j]?=some (.int .u8 b.toNat)
 |[],s,h=>by
  simp only[JC,ar]at h;subst h
  exact⟨rfl,fun j b hb=>by simp at hb⟩
 |v::vs,s,h=>by
  simp only[JC]at h
  split at h
  ·rename_i b s' hb hs
   simp only[ar]at h;subst h
   obtain⟨h1,h2⟩:=Zp9 hs
   refine⟨by simp[h1],fun j c hc=>?_⟩
   cases j with
   |zero=>
    simp only[De,ar]at hc;subst hc
    cases v<;>simp only[T0,reduceCtorEq]at hb
    rename_i k m
    cases k<;>simp only[reduceCtorEq]at hb
    split at hb
    ·rename_i hm
     simp only[ar]at hb;subst hb
     simp only[De,ar,V.int.injEq,true_and]
     have:m.toNat<256:=by omega
     simp[Nat.toUInt8]
     omega
    ·cases hb
   |succ j=>
    simp only[Gw]at hc ⊢
    exact h2 j c hc
  ·cases h
def Ypz(hh:bq P μ w st)(hr:RR μ r n a.tmps){pt it e:TypeId}{q:Src}(hp:P.underlying pt=some (.pointer e))(hz:fQ P e=some 1)(hx:bJ P x=some s)(hy:bJ P y=some q)
  (h:Mw e s q call r st=some (v,aB)):ba P μ w st (do pure (.value (<-Builtin.unsafeString_ #[pt,it] ty #[a.eval x,a.eval y]))) v aB:=by
 unfold Mw at h;split at h
 ·rename_i i k hm hq;obtain⟨l,hl,h1⟩:=dt hh hr hx hm;have h2:=dt hh hr hy hq;simp only[VR]at h2;split at h
  ·rename_i hk;split at h
   ·rename_i c e' aA;split at h
    ·rename_i he;subst he;split at h
     ·rename_i BL vw;split at h
      ·rename_i str zaw;simp only[ar,bB]at h;obtain⟨rfl,rfl⟩:=h;obtain⟨c',lo,hi,g1,g2,g3,g4,g5,g6⟩:=hh.row hl aA;have qG:=(g6 rfl).1;obtain⟨b1,b2⟩:=Zp9 zaw;obtain⟨xs,rU,uU,zg,iA,_⟩:=(hh.row hl aA).BL vw;have cv:str.length=k.toNat:=by have:=rU.length;omega
       have hle:k.toNat<=c.length:=by
        unfold aO at vw;split at vw
        ·omega
        cases vw
       have AF:k=(str.length:Int):=by omega
       have aX:str≠[]:=by intro h0;rw[h0]at cv;simp at cv;omega
       have ji:∀(j:Nat) (b:UInt8),str[j]?=some b->w.cell? ((⟨l.b,0,none⟩:Addr).add j)=some (.int .u8 b.toNat):=by intro j b hb;have hv:=b2 j b hb;obtain⟨y,rS,zh⟩:=rU.get hv;simp only[VR]at zh;subst zh;have:=iA j _ rS;rw[yW];rw[qG,iX]at this;exact this
       have h63:str.length<=9223372036854775807:=by omega
       have bY:=Go.Lib.run_unsafeString_row (P:=P) w pt it ty e' hp (Zma hz) l.b c'.size (Zj4 g1) str aX (by omega) h63 ji;have hw:bN P μ w st μ (w.freeze ⟨l.b,0,none⟩ str.length) (st.write i (.cells c e' false)) [i]:=by
        have fP:str.length≠0:=by simpa using aX
        have uK:(w.freeze ⟨l.b,0,none⟩ str.length).heap[l.b]?=some (.cells c' e' (if lo==hi then (0,0+str.length) else (min lo 0,max hi (0+str.length)))):=by simp[World.freeze,fP,Array.getElem?_modify,g1]
        obtain⟨lo',kl,PZ⟩:∃p q,(if lo==hi then (0,0+str.length) else (min lo 0,max hi (0+str.length)))=(p,q):=⟨_,_,rfl⟩;rw[PZ]at uK;refine bN.write hh hl (PX aA) rfl ?_ ?_ ?_ ?_ ?_ ⟨c',lo',kl,uK,g2,g3,g4,g5,fun hc=>by cases hc⟩
        ·simp[World.freeze,fP]
        ·simp[World.freeze,fP]
        ·simp[World.freeze,fP]
        ·simp[World.freeze,fP]
        intro b hb;simp only[World.freeze,fP,if_false,Array.getElem?_modify];rw[ak (fun h=>hb h.symm)]
       refine⟨.value (.string ⟨str.toArray⟩),_,_,μ,[i],?_,.inl rfl,rfl,hw⟩;rw[h1,h2,qG,AF];simp[bY,Result.andThen]
      cases h
     cases h
    cases h
   cases h
  cases h
 cases h
end
end Go.Mx
