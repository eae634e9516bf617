/-The operations of M stand for the Go mod-/
import Derived.Test.YteoackkadadmdaaGreatDoorMxOp7
import Derived.Lib.Builder
import Derived.Lib.UnsafeStr
set_option linter.all false
namespace Go.Mx
open Go
set_option maxHeartbeats 2000000
def EX:Ext->Array Value->Sem Value
 |.eW=>add64Entry
 |.iH=>Go.Proofs.sub64Entry
 |.same=>Extern.AbiNoEscape.same
 |.bM=>Extern.BytealgIndexByte.indexByte
 |.kR=>fun _=>stuck "not taken"
def tC(P:Program):Prop:=∀(g:FuncId) (fn:Func) (e:Ext),P.funcs[g]?=some fn->fn.body.isSome=false->ya fn.name=some e->
 (fn.name== "runtime.NumGoroutine")=false/\Extern.findNext fn=none/\Extern.find fn=some (EX e)
def Zkm(c:UInt8):∀(l:List UInt8),Go.Lib.indexByte l c= -1\/0<=Go.Lib.indexByte l c
 |[]=>.inl rfl
 |b::l=>by
  rcases Zkm c l with h|h<;>simp only[Go.Lib.indexByte]<;>split<;>first|omega|(split<;>omega)
def Zn8(c:UInt8):∀(l:List UInt8) (i:Nat),FQ c l i=if Go.Lib.indexByte l c= -1 then -1 else Go.Lib.indexByte l c+i
 |[],i=>by simp[FQ,Go.Lib.indexByte]
 |b::l,i=>by
  have h:=Zkm c l
  simp only[FQ,Go.Lib.indexByte]
  split
  ·simp
  ·rw[Zn8 c l (i+1)]
   by_cases e:Go.Lib.indexByte l c= -1
   ·simp[e]
   ·have e':(Go.Lib.indexByte l c== -1)=false:=by simpa using e
    rw[ar e,e']
    simp only[fF,if_false]
    rw[ar (by omega)]
    omega
section
variable {P:Program} {μ:Mu} {w:World} {st aB:St} {r:T V} {n:Nat} {a:Act} {call:cG} {v:V}
def Yre(hh:bA P μ w st)(hr:RR μ r n a.tmps)(hE:tC P){g:Nat}{fn:Func}{e:Ext}{xs:List Operand}{ss:List Src}(hg:P.funcs[g]?=some fn)(hb:fn.body.isSome=false)(he:ya fn.name=some e)
  (hx:uC P xs=some ss) (h:Ga e ss call r st=some (v,aB)):bm P μ w st (callFunc g ⟨xs.map a.eval⟩) v aB:=by
 obtain⟨e1,e2,e3⟩:=hE g fn e hg hb he
 have bX:=run_callFunc_extern hg e1 (by simpa using hb) e2 e3 ⟨xs.map a.eval⟩ w
 have fin:∀x,(EX e ⟨xs.map a.eval⟩).run P w=.ok x w->VR μ v x->aB=st->bm P μ w st (callFunc g ⟨xs.map a.eval⟩) v aB:=by
  intro x hx hv hs
  subst hs
  exact⟨.value x,x,w,μ,[],by rw[bX,hx];rfl,.inl rfl,hv,bQ.refl hh⟩
 unfold Ga at h
 cases hl:tN r ss with
 |none=>cases e<;>simp[hl]at h
 |some l=>
  have hv:=FF hh hr hx hl
  have u9:∀u,BU e l=some u->(EX e ⟨xs.map a.eval⟩).run P w=.ok (match u with|.bg [.int .u64 p,.int .u64 q]=>.tuple #[.int .u64 p,.int .u64 q]|.int k m=>.int k m|_=>undef) w/\
    VR μ u (match u with|.bg [.int .u64 p,.int .u64 q]=>.tuple #[.int .u64 p,.int .u64 q]|.int k m=>.int k m|_=>undef):=by
   intro u hu
   unfold BU at hu
   split at hu
   ·rename_i x y c
    split at hu
    ·cases hu
    ·rename_i hc
     simp only[al]at hu;subst hu
     simp only[bb,VR]at hv
     obtain⟨_,_,h1,rfl,_,_,rfl,rfl,_,_,rfl,rfl,rfl⟩:=hv
     rw[h1]
     refine⟨?_,by simp[VR,bb]⟩
     have oZ:c=0\/c=1:=Decidable.not_not.1 hc
     rcases oZ with rfl|rfl<;>rfl
   ·rename_i x y c
    split at hu
    ·cases hu
    ·rename_i hc
     simp only[al]at hu;subst hu
     simp only[bb,VR]at hv
     obtain⟨_,_,h1,rfl,_,_,rfl,rfl,_,_,rfl,rfl,rfl⟩:=hv
     rw[h1]
     refine⟨?_,by simp[VR,bb]⟩
     have oZ:c=0\/c=1:=Decidable.not_not.1 hc
     have hi:∀(p:Prop) [Decidable p],((if p then 1 else 0:Int))=Int.ofNat (if p then 1 else 0):=fun p _=>by split<;>rfl
     rcases oZ with rfl|rfl<;>rw[hi]<;>rfl
   ·rename_i s c
    simp only[al]at hu;subst hu
    simp only[bb,VR]at hv
    obtain⟨_,_,h1,rfl,_,_,rfl,rfl,rfl⟩:=hv
    rw[h1]
    refine⟨?_,by simp[VR]⟩
    have:=Go.Lib.run_indexByteString (P:=P) ⟨s.toArray⟩ c w
    show (Extern.BytealgIndexByte.indexByte #[.string ⟨s.toArray⟩,.int .u8 c]).run P w=_
    rw[this,Zn8]
    simp only[]
    congr 2
    split
    ·rename_i e;exact e
    ·simp
   ·cases hu
  cases e with
  |same=>
   rcases l with _|⟨u,_|⟨u',l⟩⟩<;>simp[hl,BU]at h
   obtain⟨rfl,rfl⟩:=h
   obtain⟨y,ys,px,h1,h2⟩:=ke.1 hv
   simp only[bb]at h2;subst h2
   refine fin y ?_ h1 rfl
   rw[px];rfl
  |eW=>
   simp only[hl]at h
   split at h
   ·rename_i u hu
    simp only[al,bF]at h
    obtain⟨rfl,rfl⟩:=h
    exact fin _ (u9 _ hu).1 (u9 _ hu).2 rfl
   ·cases h
  |iH=>
   simp only[hl]at h
   split at h
   ·rename_i u hu
    simp only[al,bF]at h
    obtain⟨rfl,rfl⟩:=h
    exact fin _ (u9 _ hu).1 (u9 _ hu).2 rfl
   ·cases h
  |bM=>
   simp only[hl]at h
   split at h
   ·rename_i u hu
    simp only[al,bF]at h
    obtain⟨rfl,rfl⟩:=h
    exact fin _ (u9 _ hu).1 (u9 _ hu).2 rfl
   ·cases h
  |kR=>simp[hl,BU]at h
def Zlt(hh:bA P μ w st){size:Nat}{u:V}{X:Value}(hx:VR μ u X){m:Nat}{xs:List V}(h:eD st size u=some (m,xs)):
  (Builtin.lenOf X).run P w=.ok m w/\xs.length=m*size/\∃ys,bb μ xs ys/\(∀y∈ys,y.oneCell'=true)/\
   ∀w':World,w'.heap=w.heap->∀k,k<=m->(Builtin.firstCells size k X).run P w'=.ok ⟨ys.take (k*size)⟩ w':=by
 unfold eD at h
 split at h
 ·simp only[al,bF]at h
  obtain⟨rfl,rfl⟩:=h
  simp only[VR]at hx;subst hx
  exact⟨by simp[Builtin.lenOf],by simp,[],by simp[bb],by simp,fun w' _ k hk=>by simp[Builtin.firstCells]⟩
 ·simp only[al,bF]at h
  obtain⟨rfl,rfl⟩:=h
  obtain⟨b,c,rfl⟩:=hx
  refine⟨by simp[Builtin.lenOf],by simp,[],by simp[bb],by simp,fun w' _ k hk=>?_⟩
  have jW:k=0:=by omega
  subst jW
  have:=run_firstCells_some (P:=P) w' size 0 b 0 c [] (by simp) (by simp)
  simpa using this
 ·rename_i j p m' _ sz
  obtain⟨l,c,hl,rfl,_⟩:=hx
  split at h
  ·split at h
   ·rename_i cs _ _ ak
    split at h
    ·rename_i zi sY
     simp only[al,bF]at h
     obtain⟨rfl,rfl⟩:=h
     obtain⟨ys,g1,g2,g3,g4,g5⟩:=(hh.row hl ak).zi sY
     refine⟨by simp[Builtin.lenOf],by rw[<-g1.length,g2],ys,g1,g5,fun w' vg k hk=>?_⟩
     have UY:k*size<=m'*size:=lV _ hk
     refine run_firstCells_some (P:=P) w' size k _ m' c (ys.take (k*size)) (by rw[gm,g2];exact py UY) fun i y hy=>?_
     rw[wJ]
     rw[iy]at hy
     split at hy
     ·have:=g4 i y hy
      simpa[World.cell?,vg]using this
     ·cases hy
    ·cases h
   ·cases h
  ·cases h
 ·rename_i s
  split at h
  ·rename_i zO
   subst zO
   simp only[al,bF]at h
   obtain⟨rfl,rfl⟩:=h
   simp only[VR]at hx;subst hx
   have kf:(⟨s.toArray⟩:ByteArray).size=s.length:=rfl
   refine⟨by simp[Builtin.lenOf,kf, -ByteArray.size_data],by simp,s.map (fun b=>.int .u8 b.toNat),?_,by simp;intro y _;rfl,fun w' _ k hk=>?_⟩
   ·refine bb.qq (by simp) fun i y hy=>?_
    simp only[gG,jT]at hy
    obtain⟨b,hb,rfl⟩:=hy
    exact⟨_,by simp[hb];rfl,by simp[VR]⟩
   ·simp only[Builtin.firstCells,Sem.run_pure,yc]
    congr 1
    apply Array.ext'
    simp
  ·cases h
 ·cases h
def Zfq(a:Addr)(i:Nat):(storeCells a [] i).run P w=.ok () w:=by simp[storeCells]
def Yos(hh:bA P μ w st)(hr:RR μ r n a.tmps){ts:Array TypeId}{t ty e:TypeId}{size:Nat}{x y:Operand}{sd ss:Src}(oG:ts[0]?=some t)(ht:P.underlying t=some (.slice e))(hs:eR P e=some size)
  (hx:bJ P x=some sd) (hy:bJ P y=some ss) (h:BZ size sd ss call r st=some (v,aB)):
  bm P μ w st (do pure (.value (<-Builtin.copy_ ts ty #[a.eval x,a.eval y]))) v aB:=by
 unfold BZ at h
 split at h
 ·rename_i d s hd Ea
  have h1:=cU hh hr hx hd
  have h2:=cU hh hr hy Ea
  split at h
  ·rename_i m xs Ay
   obtain⟨g1,g2,ys,g3,g4,g5⟩:=Zlt hh h2 Ay
   have KM:=g3.length
   split at h
   ·simp only[al,bF]at h
    obtain⟨rfl,rfl⟩:=h
    simp only[VR]at h1
    refine bm.value hh (x:=.int .i64 0) ?_ (by simp[VR])
    have hf:=g5 w rfl 0 (tH _)
    simp[Builtin.copy_,oG,h1,run_underlying ht,g1,xH hs,hf,Result.andThen,goInt]
   ·rename_i i o len cap sz
    obtain⟨l,c,hl,h1,A5,zR,_⟩:=h1
    split at h
    ·cases h
    ·rename_i kf
     have hf:=g5 w rfl (min m len) (Nat.min_le_left _ _)
     simp only at h
     split at h
     ·rename_i hk
      simp only[al,bF]at h
      obtain⟨rfl,rfl⟩:=h
      refine bm.value hh (x:=.int .i64 0) ?_ (by simp[VR])
      have sZ:Nat.min m len=0:=hk
      rw[hk]at hf
      simp[Builtin.copy_,oG,h1,run_underlying ht,g1,xH hs,hf,Result.andThen,goInt,sZ,Zfq]
     ·rename_i hk
      split at h
      ·rename_i cs e' ak
       split at h
       ·rename_i hle
        simp only[al,bF]at h
        obtain⟨rfl,rfl⟩:=h
        have UY:min m len*size<=m*size:=lV _ (Nat.min_le_left _ _)
        obtain⟨w',hw,dH⟩:=OY (o:=o) hh hl ak (g3.take (min m len*size)) (fun q hq=>g4 q (ym hq)) (by rw[gm,g2,py UY];exact hle)
        refine⟨.value (.int .i64 (min m len:Nat)),_,w',μ,[i],?_,.inl rfl,by simp[VR],dH⟩
        have sZ:Nat.min m len=min m len:=rfl
        simp only[Builtin.copy_,oG,h1,Sem.run_bind,run_underlying ht,g1,xH hs,Result.andThen_ok,sZ,hf,hw,goInt,Sem.run_pure,List.getElem?_toArray,AL,Dq]
       ·cases h
      ·cases h
   ·cases h
  ·cases h
 ·cases h
def Ziq(z:Array Value)(k:Nat):Builtin.zeroCells z k=madeCells z (k*z.size):=rfl
def O0{ts:Array TypeId}{t u ty e:TypeId}{d:TypeDesc}{size m sLen sCap:Nat}{base:Option Addr}{X:Value}{ys:List Value}(oG:ts[0]?=some t)(ht:P.underlying t=some (.slice e))(kV:ts[1]?=some u)(hu:P.underlying u=some d)
  (hd:∀k,d≠.int k) (hs:eR P e=some size) (hlen:(Builtin.lenOf X).run P w=.ok m w) (hf:(Builtin.firstCells size m X).run P w=.ok ⟨ys⟩ w) (hle:sLen+m<=sCap)
  {w':World} (dH:(match base with|some a=>storeCells (a.add (sLen*size)) ys|none=>pure ():Sem Unit).run P w=.ok () w'):
  (Builtin.append_ ts ty #[.slice base sLen sCap,X]).run P w=.ok (.slice base (sLen+m) sCap) w':=by
 cases base with
 |none=>
  simp only[Sem.run_pure,Result.ok.injEq,true_and]at dH
  subst dH
  cases d<;>first|exact absurd rfl (hd _)|simp[Builtin.append_,oG,run_underlying ht,kV,run_underlying hu,xH hs,Result.andThen,hlen,hf,hle]
 |some b=>
  simp only at dH
  cases d<;>first|exact absurd rfl (hd _)|simp[Builtin.append_,oG,run_underlying ht,kV,run_underlying hu,xH hs,Result.andThen,hlen,hf,hle,dH]
def Zl5{ts:Array TypeId}{t u ty e:TypeId}{d:TypeDesc}{inf:TypeInfo}{zx:Value}{m sLen sCap:Nat}{base:Option Addr}{X:Value}{os ys:List Value}(oG:ts[0]?=some t)(ht:P.underlying t=some (.slice e))(kV:ts[1]?=some u)(hu:P.underlying u=some d)
  (hd:∀k,d≠.int k) (hi:P.info? e=some inf) (hz:inf.zero=some zx) (hlen:(Builtin.lenOf X).run P w=.ok m w) (hf:(Builtin.firstCells inf.size m X).run P w.drew=.ok ⟨ys⟩ w.drew)
  (KN:(Builtin.firstCells inf.size sLen (.slice base sLen sCap)).run P w.drew=.ok ⟨os⟩ w.drew) (hle:¬sLen+m<=sCap) (hb:inf.bytes≠0) (zS:2*(sLen+m)*inf.bytes<=2^48):
  (Builtin.append_ ts ty #[.slice base sLen sCap,X]).run P w=.ok (.slice (some ⟨w.heap.size,0,none⟩) (sLen+m) (grownCap w (sLen+m) sCap e))
   (w.drew.alloc (.cells ⟨os++ys++(Builtin.zeroCells zx.cells (grownCap w (sLen+m) sCap e-(sLen+m))).toList⟩ e)):=by
 have hgr:Builtin.nextslicecap (sLen+m) sCap*inf.bytes<=2^48:=by
  have h1:Builtin.nextslicecap (sLen+m) sCap*inf.bytes<=2*(sLen+m)*inf.bytes:=lV _ (nextslicecap_le (by omega))
  omega
 have U0:¬(281474976710656<Builtin.nextslicecap (sLen+m) sCap*inf.bytes):=by omega
 cases d<;>first|exact absurd rfl (hd _)|simp[Builtin.append_,oG,run_underlying ht,kV,run_underlying hu,sizeOf,typeInfo,zeroValue,hi,hz,Result.andThen,hlen,hf,KN,hle,hb,U0,Question.forced,newRow,grownCap]<;>(congr 2;apply Array.ext';simp)
def Zp9(hh:bA P μ w st){ts:Array TypeId}{t u ty e:TypeId}{d:TypeDesc}{size b m sLen sCap:Nat}{z:V}{base:Option Addr}{X:Value}{os ys:List Value}{co cx:List V}
  (oG:ts[0]?=some t) (ht:P.underlying t=some (.slice e)) (kV:ts[1]?=some u) (hu:P.underlying u=some d) (hd:∀k,d≠.int k)
  (hs:eR P e=some size) (hb:BH P e=some b) (hz:ql P e=some z) (KO:z.cells.length=size) (f_:z.cells.all V.one=true) (lZ:size≠0)
  (hlen:(Builtin.lenOf X).run P w=.ok m w) (hf:(Builtin.firstCells size m X).run P w.drew=.ok ⟨ys⟩ w.drew)
  (KN:(Builtin.firstCells size sLen (.slice base sLen sCap)).run P w.drew=.ok ⟨os⟩ w.drew) (hle:¬sLen+m<=sCap) (kW:b≠0) (zS:2*(sLen+m)*b<=2^48)
  (ho:bb μ co os) (hx:bb μ cx ys) (AJ:∀y∈os,y.oneCell'=true) (sW:∀y∈ys,y.oneCell'=true) (gV:co.length=sLen*size) (A2:cx.length=m*size):
  ∃μ' w' c,(Builtin.append_ ts ty #[.slice base sLen sCap,X]).run P w=.ok (.slice (some ⟨w.heap.size,0,none⟩) (sLen+m) c) w'/\VR μ' (.slice st.n 0 (sLen+m) none size) (.slice (some ⟨w.heap.size,0,none⟩) (sLen+m) c)/\
   bQ P μ w st μ' w' (st.alloc (.cells (co++cx) e true)) []:=by
 obtain⟨inf,zx,hi,pL,A6⟩:=Gt hz
 have kf:inf.size=size:=by unfold eR at hs;simpa[hi]using hs
 have hbz:inf.bytes=b:=by unfold BH at hb;simpa[hi]using hb
 have KP:zx.cells.size=size:=by rw[<-KO,<-(A6 μ).cells.length];simp
 subst kf hbz
 have bX:=Zl5 (P:=P) (w:=w) (ty:=ty) oG ht kV hu hd hi pL hlen hf KN hle kW zS
 have Ck:=grownCap_ge w (sLen+m) sCap e
 generalize grownCap w (sLen+m) sCap e=cap at bX Ck
 have Cj:(Builtin.zeroCells zx.cells (cap-(sLen+m))).toList.length=(cap-(sLen+m))*inf.size:=by simp[Builtin.zeroCells,KP]
 have nP:bb μ (dr z.cells (cap-(sLen+m))) (Builtin.zeroCells zx.cells (cap-(sLen+m))).toList:=by
  have:=OZ (A6 μ).cells (cap-(sLen+m))
  rw[Ziq]
  have e1:zx.cells.size=z.cells.length:=by rw[KP,KO]
  rw[e1]
  simpa using this
 have KQ:=ho.length
 have KR:=hx.length
 have zR:(os++ys++(Builtin.zeroCells zx.cells (cap-(sLen+m))).toList).length=cap*inf.size:=by
  rw[iN,iN,Cj,KQ,KR,gV,A2,<-iW,<-iW]
  congr 1;omega
 refine⟨_,_,cap,bX,?_,(bQ.newRow hh.Eb (cs:=co++cx) (xs:=os++ys++(Builtin.zeroCells zx.cells (cap-(sLen+m))).toList) (lo:=0) (hi:=0) ?_ ?_ ?_ ?_).zT⟩
 ·simp only[VR]
  refine⟨⟨w.heap.size,0,(os++ys++(Builtin.zeroCells zx.cells (cap-(sLen+m))).toList).length⟩,cap,by exact aF trivial,by simp,Ck,?_,by simp,fun _=>?_⟩
  ·show 0+cap*inf.size<=(os++ys++(Builtin.zeroCells zx.cells (cap-(sLen+m))).toList).length
   omega
  ·show 0+cap*inf.size=(os++ys++(Builtin.zeroCells zx.cells (cap-(sLen+m))).toList).length
   omega
 ·rw[iN,iN,iN,KQ,KR];omega
 ·intro j u' mE
  obtain⟨y,h1,h2⟩:=(ho.append hx).get mE
  exact⟨y,by rw[lE (y8.1 h1).1];exact h1,h2⟩
 ·intro y hy
  simp only[kb]at hy
  rcases hy with(hy|hy)|hy
  ·exact AJ y hy
  ·exact sW y hy
  ·exact UZ f_ _ nP y hy
 ·exact .inr (aW _)
def bQ.Gu{w':World}(h:bA P μ w st){i:Nat}{l l':L}{o o':O}(hi:μ i=some l)(ho:st.h.get i=some o)(hw:o.wr=true)
  (zh:w'.os=w.os) (TT:w'.tape=w.tape) (TU:w'.output=w.output) (kf:w'.heap.size=w.heap.size) (qs:∀b,b≠l.b->w'.heap[b]?=w.heap[b]?) (rT:l'.b=l.b)
  (wH:OM P (fun j=>if j=st.n then some l' else μ j) w' o' l'):
  bQ P μ w st (fun j=>if j=st.n then some l' else μ j) w' ((st.write i .dead).alloc o') [i]:=by
 have wI:o.live=true:=by cases o<;>simp_all [O.wr,O.live]
 have Dp:=(h.df i l hi).1
 have jk:=(h.df i l hi).2
 have dw:∀j lj,μ j=some lj->(fun j=>if j=st.n then some l' else μ j) j=some lj:=fun j lj hj=>by
  have:=(h.df j lj hj).1
  show (if j=st.n then some l' else μ j)=some lj
  rw[ar (by omega)];exact hj
 have cL:∀j,((st.write i .dead).alloc o').h.get j=if j=st.n then some o' else if j=i then some .dead else st.h.get j:=fun j=>by
  simp only[St.alloc,St.write,T.ag]
 refine⟨⟨fun j lj hj=>?_,fun j lj hj=>?_,fun j k lj lk oj ok hj hk bB h1 h2 Ii fK=>?_,fun g hg=>let ⟨t,ht⟩:=h.gK g hg;⟨t,dw g _ ht⟩⟩,fun j hj=>?_,by simp[St.alloc,St.write],rfl,⟨zh,TT,TU,by omega,fun b _ dv=>qs b ?_⟩,
  fun j lj hn hj=>?_,fun j hj dv=>?_,fun j oj hn hj=>?_,fun j h1 h2=>⟨l',by simp only[St.alloc,St.write]at h2;show (if j=st.n then some l' else μ j)=some l';rw[aF (by omega)]⟩,fun j hj _=>by simp only[wC]at hj;subst hj;exact⟨o,ho,hw⟩⟩
 ·replace hj:(if j=st.n then some l' else μ j)=some lj:=hj
  split at hj
  ·rename_i e
   simp only[al]at hj;subst hj
   simp[St.alloc,St.write];omega
  ·have:=h.df j lj hj
   simp[St.alloc,St.write];omega
 ·replace hj:(if j=st.n then some l' else μ j)=some lj:=hj
  split at hj
  ·rename_i e
   simp only[al]at hj;subst hj
   exact⟨o',by rw[cL,aF e],wH⟩
  ·rename_i e
   by_cases e2:j=i
   ·exact⟨.dead,by rw[cL,ar e,aF e2],trivial⟩
   ·obtain⟨oj,h1,h2⟩:=h.obj j lj hj
    refine⟨oj,by rw[cL,ar e,ar e2];exact h1,?_⟩
    cases hl:oj.live
    ·cases oj<;>simp[O.live]at hl
     trivial
    ·exact(h2.mono dw).congr (qs lj.b (Ne.symm (h.inj i j l lj o oj hi hj (Ne.symm e2) ho h1 hw hl)))
 ·rw[cL]at h1 h2
  replace hj:(if j=st.n then some l' else μ j)=some lj:=hj
  replace hk:(if k=st.n then some l' else μ k)=some lk:=hk
  by_cases e1:j=st.n
  ·rw[aF e1]at hj h1
   simp only[al]at hj h1
   subst hj h1
   by_cases e2:k=st.n
   ·exact absurd (e1.trans e2.symm) bB
   ·rw[ar e2]at hk h2
    by_cases e3:k=i
    ·rw[aF e3,al]at h2;subst h2;simp[O.live]at fK
    ·rw[ar e3]at h2
     rw[rT]
     exact h.inj i k l lk o ok hi hk (Ne.symm e3) ho h2 hw fK
  ·rw[ar e1]at hj h1
   by_cases e3:j=i
   ·rw[aF e3,al]at h1;subst h1;simp[O.wr]at Ii
   ·rw[ar e3]at h1
    by_cases e2:k=st.n
    ·rw[aF e2]at hk h2
     simp only[al]at hk h2
     subst hk h2
     rw[rT]
     exact h.inj j i lj l oj o hj hi e3 h1 ho Ii wI
    ·rw[ar e2]at hk h2
     by_cases e4:k=i
     ·rw[aF e4,al]at h2;subst h2;simp[O.live]at fK
     ·rw[ar e4]at h2
      exact h.inj j k lj lk oj ok hj hk bB h1 h2 Ii fK
 ·show (if j=st.n then some l' else μ j)=μ j
  rw[ar (by omega)]
 ·exact Ne.symm (dv i (by simp) l hi)
 ·replace hj:(if j=st.n then some l' else μ j)=some lj:=hj
  split at hj
  ·simp only[al]at hj;subst hj
   exact .inr ⟨i,by simp,Dp,l,o,hi,rT.symm,ho,hw⟩
  ·exact absurd (h.df j lj hj).1 (by omega)
 ·simp only[wC]at dv
  rw[cL,ar (by omega),ar dv]
 ·rw[cL,ar (by omega)]at hj
  split at hj
  ·rename_i e
   subst e
   simp only[al]at hj;subst hj
   exact⟨o,ho,by simp[O.wr],by simp[O.live]⟩
  ·exact⟨oj,hj,id,id⟩
def bQ.kill(h:bA P μ w st){i:Nat}{l:L}{o:O}(hi:μ i=some l)(ho:st.h.get i=some o)(hw:o.wr=true):bQ P μ w st μ w (st.write i .dead) [i]:=
 bQ.write h hi ho hw rfl rfl rfl rfl (fun _ _=>rfl) trivial
def Yfl(hh:bA P μ w st)(hr:RR μ r n a.tmps){ts:Array TypeId}{t u ty e:TypeId}{d:TypeDesc}{size b:Nat}{z:V}{x y:Operand}{s sx:Src}
  (oG:ts[0]?=some t) (ht:P.underlying t=some (.slice e)) (kV:ts[1]?=some u) (hu:P.underlying u=some d) (hd:∀k,d≠.int k)
  (hs:eR P e=some size) (hb:BH P e=some b) (hz:ql P e=some z) (KO:z.cells.length=size) (f_:z.cells.all V.one=true) (kW:b≠0)
  (hx:bJ P x=some s) (hy:bJ P y=some sx) (h:BY size b e z.cells s sx call r st=some (v,aB)):
  bm P μ w st (do pure (.value (<-Builtin.append_ ts ty #[a.eval x,a.eval y]))) v aB:=by
 unfold BY at h
 split at h
 ·rename_i sv xv hsv A1
  have h1:=cU hh hr hx hsv
  have h2:=cU hh hr hy A1
  unfold gj at h
  split at h
  ·cases h
  ·rename_i m xs Ay
   obtain⟨g1,g2,ys,g3,g4,g5⟩:=Zlt hh h2 Ay
   have KM:=g3.length
   have hyt:ys.take (m*size)=ys:=eZ (by omega)
   have gf:∀w':World,w'.heap=w.heap->(Builtin.firstCells size m (a.eval y)).run P w'=.ok ⟨ys⟩ w':=fun w' vg=>by rw[g5 w' vg m (aW _),hyt]
   split at h
   ·-- a nil slice
    simp only[VR]at h1
    split at h
    ·rename_i fV
     subst fV
     simp only[al,bF]at h
     obtain⟨rfl,rfl⟩:=h
     refine bm.value hh (x:=.slice none 0 0) ?_ (by simp[VR])
     rw[h1]
     exact O0 (base:=none) oG ht kV hu hd hs g1 (gf w rfl) (aW _) (by simp)
    ·rename_i fV
     split at h
     ·rename_i hc
      simp only[al,bF]at h
      obtain⟨rfl,rfl⟩:=h
      obtain⟨μ',w',c,k1,k2,k3⟩:=Zp9 (P:=P) (w:=w) (ty:=ty) (sLen:=0) (sCap:=0) (base:=none) (X:=a.eval y) (os:=[]) (co:=[]) hh oG ht kV hu hd hs hb hz KO f_ hc.2 g1 (gf w.drew rfl) (by simp[Builtin.firstCells]) (by omega) kW
       (by have:=hc.1;unfold tJ at this;simpa using this) (by simp[bb]) g3 (by simp) g4 (by simp) g2
      refine⟨.value (.slice (some ⟨w.heap.size,0,none⟩) (0+m) c),_,w',μ',[],?_,.inl rfl,?_,?_⟩
      ·rw[h1];simp only[Sem.run_bind,k1,Result.andThen_ok,Sem.run_pure]
      ·simpa using k2
      ·simpa using k3
     ·cases h
   ·-- a slice
    rename_i i o len cap sz
    have fH:=h1
    obtain⟨l,c,hl,h1,A5,zR,hk,Cl⟩:=h1
    split at h
    ·rename_i fV
     subst fV
     split at h
     ·simp only[al,bF]at h
      obtain⟨rfl,rfl⟩:=h
      refine bm.value hh (x:=a.eval x) ?_ fH
      have KS:ys=[]:=by
       apply qj
       omega
      rw[h1]
      have:=O0 (P:=P) (w:=w) (w':=w) (ty:=ty) (base:=some ⟨l.b,l.d+o,none⟩) (sLen:=len) (sCap:=c) oG ht kV hu hd hs g1 (gf w rfl) (by omega) (by simp only[KS];exact Zfq _ _)
      simpa using this
     ·cases h
    ·rename_i fV
     split at h
     ·cases h
     ·rename_i cM
      simp only[not_or,Decidable.not_not,sH]at cM
      obtain⟨kf,lZ,zS⟩:=cM
      subst kf
      unfold tJ at zS
      have inPlace:∀(cs:List V) (e':TypeId),st.row i=some (cs,e',true)->o+(len+m)*sz<=cs.length->len+m<=c->(∀k,cap=some k->c=k)->
        bm P μ w st (do pure (.value (<-Builtin.append_ ts ty #[a.eval x,a.eval y]))) (.slice i o (len+m) cap sz) (st.write i (.cells (ad cs (o+len*sz) xs) e' true)):=by
       intro cs e' ak hle Cm _
       have U5:(len+m)*sz=len*sz+m*sz:=iW ..
       obtain⟨w',hw,dH⟩:=OY (o:=o+len*sz) hh hl ak g3 g4 (by rw[g2];omega)
       have bX:=O0 (P:=P) (w:=w) (w':=w') (ty:=ty) (base:=some ⟨l.b,l.d+o,none⟩) (sLen:=len) (sCap:=c) oG ht kV hu hd hs g1 (gf w rfl) Cm (by
        simp only[wJ];rw[pw];exact hw)
       refine⟨.value (.slice (some ⟨l.b,l.d+o,none⟩) (len+m) c),_,w',μ,[i],?_,.inl rfl,?_,dH⟩
       ·rw[h1];simp only[Sem.run_bind,bX,Result.andThen_ok,Sem.run_pure]
       ·simp only[VR];exact⟨l,c,hl,rfl,Cm,zR,hk,Cl⟩
      have fresh:∀(cf:St) (ws:List Nat) (cs old:List V) (e':TypeId) (oC:Bool),bQ P μ w st μ w cf ws->cf.n=st.n->st.row i=some (cs,e',oC)->aE cs o (len*sz)=some old->¬len+m<=c->
        bm P μ w st (do pure (.value (<-Builtin.append_ ts ty #[a.eval x,a.eval y]))) (.slice st.n 0 (len+m) none sz) (cf.alloc (.cells (old++xs) e true)):=by
       intro cf ws cs old e' oC iB wZ ak hold dv
       have yy:=hh.row hl ak
       obtain⟨os,q1,q2,q3,q4,q5⟩:=yy.zi hold
       have KN:(Builtin.firstCells sz len (.slice (some ⟨l.b,l.d+o,none⟩) len c)).run P w.drew=.ok ⟨os⟩ w.drew:=by
        refine run_firstCells_some (P:=P) w.drew sz len _ len c os q2 fun j y hy=>?_
        rw[wJ]
        exact q4 j y hy
       obtain⟨μ',w',c',k1,k2,k3⟩:=Zp9 (P:=P) (w:=w) (ty:=ty) (base:=some ⟨l.b,l.d+o,none⟩) (sLen:=len) (sCap:=c) iB.hr oG ht kV hu hd hs hb hz KO f_ lZ g1 (gf w.drew rfl) KN dv kW zS q1 g3 q5 g4 (by rw[<-q1.length,q2]) g2
       refine⟨.value (.slice (some ⟨w.heap.size,0,none⟩) (len+m) c'),_,w',μ',[]++ws,?_,.inl rfl,?_,iB.trans k3⟩
       ·rw[h1];simp only[Sem.run_bind,k1,Result.andThen_ok,Sem.run_pure]
       ·rw[<-wZ];exact k2
      split at h
      ·cases h
      ·rename_i cs e' oC ak
       split at h
       ·rename_i k
        have hck:=hk k rfl
        split at h
        ·rename_i hle
         split at h
         ·rename_i hc
          simp only[al,bF]at h
          obtain⟨rfl,rfl⟩:=h
          obtain⟨rfl,Cn⟩:=hc
          exact inPlace cs e' ak Cn (by omega) hk
         ·cases h
        ·rename_i hle
         split at h
         ·rename_i old hold
          simp only[al,bF]at h
          obtain⟨rfl,rfl⟩:=h
          exact fresh st [] cs old e' oC (bQ.refl hh) rfl ak hold (by omega)
         ·cases h
       ·split at h
        ·rename_i KT
         subst KT
         have yy:=hh.row hl ak
         have hct:cs.length<=l.qp:=by obtain⟨_,_,_,_,_,h3,_⟩:=yy;exact h3
         have zab:=Cl rfl
         have U5:(len+m)*sz=len*sz+m*sz:=iW ..
         split at h
         ·rename_i hle
          simp only[al,bF]at h
          obtain⟨rfl,rfl⟩:=h
          refine inPlace cs e' ak hle ?_ hk
          have:(len+m)*sz<=c*sz:=by omega
          exact Nat.le_of_mul_le_mul_right this (by omega)
         ·split at h
          ·rename_i hle hc
           obtain⟨KU,rfl,ho0⟩:=hc
           simp only[al,bF]at h
           obtain⟨rfl,rfl⟩:=h
           have hold:aE cs o (len*sz)=some (cs.drop o):=by
            unfold aE
            rw[aF (by omega),eZ (by simp;omega)]
           by_cases Cm:len+m<=c
           ·-- in place,above what is known
            obtain⟨c',lo,hi,q1,q2,q3,q4,q5,q6⟩:=yy
            obtain⟨cur⟩:=c'
            simp only[List.size_toArray]at q2
            have xU:(len+m)*sz<=c*sz:=lV _ Cm
            have UI:=U6 (P:=P) l.b (l.d+(o+len*sz)) e' lo hi ys 0 cur w q1 (by omega) g4 (fun j xR nM=>by
             have:=(q6 rfl).2 (j-l.d) (by omega)
             rw[show l.d+(j-l.d)=j by omega]at this
             exact this)
            have bX:=O0 (P:=P) (w:=w) (ty:=ty) (base:=some ⟨l.b,l.d+o,none⟩) (sLen:=len) (sCap:=c) oG ht kV hu hd hs g1 (gf w rfl) Cm (by
             simp only[wJ];rw[pw];exact UI)
            have qs:=setRow_heap w l.b _ (⟨ad cur (l.d+(o+len*sz)+0) ys⟩:Array Value) e' _ q1
            have dw:∀j lj,μ j=some lj->(fun j=>if j=st.n then some (⟨l.b,l.d+o,l.qp-o⟩:L) else μ j) j=some lj:=fun j lj hj=>by
             have:=(hh.df j lj hj).1
             simp only
             rw[ar (by omega)];exact hj
            refine⟨.value (.slice (some ⟨l.b,l.d+o,none⟩) (len+m) c),_,w.setRow l.b ⟨ad cur (l.d+(o+len*sz)+0) ys⟩,fun j=>if j=st.n then some ⟨l.b,l.d+o,l.qp-o⟩ else μ j,[i],?_,.inl rfl,?_,bQ.Gu hh hl (KV ak) rfl rfl rfl rfl (by simp) (fun b hb=>setRow_other w l.b b _ hb) rfl ⟨_,lo,hi,qs,?_,?_,?_,?_,?_⟩⟩
            ·rw[h1];simp only[Sem.run_bind,bX,Result.andThen_ok,Sem.run_pure]
            ·simp only[VR]
             refine⟨⟨l.b,l.d+o,l.qp-o⟩,c,by simp,by simp,Cm,?_,by simp,fun _=>?_⟩
             ·show 0+c*sz<=l.qp-o
              omega
             ·show 0+c*sz=l.qp-o
              omega
            ·simp only[List.size_toArray]
             rw[O3 (by omega)];omega
            ·simp only[iN,xE];omega
            ·intro j u' mE
             have e1:∀k:Nat,(⟨ad cur (l.d+(o+len*sz)+0) ys⟩:Array Value)[k]?=(ad cur (l.d+(o+len*sz)+0) ys)[k]?:=fun k=>by simp
             simp only
             rw[e1,IS (by omega)]
             rw[List.getElem?_append]at mE
             split at mE
             ·rename_i hj
              simp only[xE]at hj
              rw[fh]at mE
              obtain⟨y',p1,p2⟩:=q4 (o+j) u' mE
              rw[ar (by omega)]
              refine⟨y',?_,VR.mono dw u' y' p2⟩
              rw[show l.d+o+j=l.d+(o+j) by omega]
              simpa using p1
             ·rename_i hj
              simp only[xE]at hj mE
              obtain⟨y',p1,p2⟩:=g3.get mE
              have ay:=(y8.1 p1).1
              rw[aF (by omega)]
              refine⟨y',?_,VR.mono dw u' y' p2⟩
              rw[show l.d+o+j-(l.d+(o+len*sz)+0)=j-(cs.length-o) by omega]
              exact p1
            ·intro j y' bn ve
             simp only at bn ve
             have e1:(⟨ad cur (l.d+(o+len*sz)+0) ys⟩:Array Value)[l.d+o+j]?=(ad cur (l.d+(o+len*sz)+0) ys)[l.d+o+j]?:=by simp
             rw[e1,IS (by omega)]at ve
             split at ve
             ·exact g4 y' (cm ve)
             ·exact q5 (o+j) y' (by omega) (by rw[show l.d+(o+j)=l.d+o+j by omega];simpa using ve)
            ·intro _
             refine⟨by have:=(q6 rfl).1;show l.d+o=0;omega,?_⟩
             intro j hj
             have:=(q6 rfl).2 (o+j) (by simp only at hj;omega)
             rw[show l.d+(o+j)=l.d+o+j by omega]at this
             exact this
           ·have KW:=bQ.kill hh hl (KV ak) rfl
            exact fresh (st.write i .dead) [i] cs (cs.drop o) e' true KW rfl ak hold Cm
          ·cases h
        ·cases h
   ·cases h
 ·cases h
end
section
variable {P:Program} {μ:Mu} {w:World} {st aB:St} {r:T V} {n:Nat} {a:Act} {call:cG} {v:V}
def U7{b:Nat}{c:Array Value}{e:TypeId}{f:Nat×Nat}(h:w.heap[b]?=some (.cells c e f)):w.shape? b=some (e,c.size):=by
 simp[World.shape?,h]
def Zkw{t:TypeId}{z:Nat}(h:eR P t=some z):P.cellsOf t=z:=by
 unfold eR at h
 simp[Program.cellsOf,h]
def Zp3{t:TypeId}{z:Nat}(h:eR P t=some z):∃j,P.info? t=some j/\j.size=z:=by
 unfold eR at h
 simp only[jT]at h
 exact h
def Zvg{u:TypeId}{z:Nat}(hc:P.cellsOf u=z+1)(count:Nat)(hn:1<=count):liesAt P P.depth u count 0 u 1=true:=by
 have hd:P.depth=(2*(P.types.size+Made.depth)+1)+1:=rfl
 rw[hd]
 simp only[liesAt,FM]
 left
 rw[hd]
 simp[rowAt,hc,sameLayout]
 left;omega
def Ya6(hh:bA P μ w st)(hr:RR μ r n a.tmps){src dst t:TypeId}{x:Operand}{s:Src}{z:Nat}(hs:P.underlying src=some (.pointer t))(hd:P.underlying dst=some .unsafePointer)(hz:eR P t=some (z+1))
  (hx:bJ P x=some s) (h:B0 none s call r st=some (v,aB)):bm P μ w st (do pure (.value (<-convert src dst (a.eval x)))) v aB:=by
 unfold B0 at h
 split at h
 ·rename_i i hm
  obtain⟨l,hl,h1⟩:=cU hh hr hx hm
  split at h
  ·rename_i c e' ak
   simp only[]at h
   split at h
   ·rename_i ay
    simp only[al,bF]at h
    obtain⟨rfl,rfl⟩:=h
    obtain⟨c',lo,hi,g1,g2,g3,_,_,g6⟩:=hh.row hl ak
    have pE:=(g6 rfl).1
    obtain⟨j,hj,hjs⟩:=Zp3 hz
    refine bm.value hh (x:=.pointer (some ⟨l.b,l.d+0,none⟩)) ?_ ⟨l,hl,rfl⟩
    rw[h1]
    exact Go.Lib.run_to_unsafe w ⟨l.b,l.d+0,none⟩ hs hd hj (by omega) (U7 g1) (by show l.d+0<c'.size;omega)
   ·cases h
  ·cases h
 ·cases h
def Zt4(hh:bA P μ w st)(hr:RR μ r n a.tmps){src dst u:TypeId}{x:Operand}{s:Src}{z:Nat}(hs:P.underlying src=some .unsafePointer)(hd:P.underlying dst=some (.pointer u))(hz:eR P u=some (z+1))
  (hx:bJ P x=some s) (h:B0 (some (u,z+1)) s call r st=some (v,aB)):bm P μ w st (do pure (.value (<-convert src dst (a.eval x)))) v aB:=by
 unfold B0 at h
 split at h
 ·rename_i i hm
  obtain⟨l,hl,h1⟩:=cU hh hr hx hm
  split at h
  ·rename_i c e' ak
   simp only[]at h
   split at h
   ·rename_i ay
    obtain⟨rfl,_,hle⟩:=ay
    simp only[al,bF]at h
    obtain⟨rfl,rfl⟩:=h
    obtain⟨c',lo,hi,g1,g2,g3,_,_,g6⟩:=hh.row hl ak
    have pE:=(g6 rfl).1
    obtain⟨j,hj,hjs⟩:=Zp3 hz
    have hco:=Zkw hz
    refine bm.value hh (x:=.pointer (some ⟨l.b,l.d+0,none⟩)) ?_ ⟨l,hl,rfl⟩
    rw[h1]
    refine Go.Lib.run_from_unsafe w ⟨l.b,l.d+0,none⟩ hs hd hj (U7 g1) ?_
    show liesAt P P.depth e' (c'.size/P.cellsOf e') (l.d+0) e' 1=true
    rw[pE]
    refine Zvg hco _ ?_
    rw[hco]
    exact Nat.div_pos (by omega) (by omega)
   ·cases h
  ·cases h
 ·cases h
def Ygs(hh:bA P μ w st)(hr:RR μ r n a.tmps){ts:Array TypeId}{ty:TypeId}{x:Operand}{s:Src}
  (hx:bJ P x=some s) (h:IA s call r st=some (v,aB)):bm P μ w st (do pure (.value (<-Builtin.unsafeSliceData_ ts ty #[a.eval x]))) v aB:=by
 unfold IA at h
 split at h
 ·rename_i i o len cap sz hm
  obtain⟨l,c,hl,h1,A5,_⟩:=cU hh hr hx hm
  split at h
  ·rename_i ay
   simp only[al,bF]at h
   obtain⟨rfl,rfl⟩:=h
   refine bm.value hh (x:=.pointer (some ⟨l.b,l.d+o,none⟩)) ?_ ⟨l,hl,rfl⟩
   rw[h1]
   exact Go.Lib.run_unsafeSliceData_row w ts ty _ _ _ (by omega)
  ·cases h
 ·cases h
def Zop:∀{vs:List V} {s:List UInt8},Gb vs=some s->vs.length=s.length/\∀(j:Nat) (b:UInt8),s[j]?=some b->vs[j]?=some (.int .u8 b.toNat)
 |[],s,h=>by
  simp only[Gb,al]at h;subst h
  exact⟨rfl,fun j b hb=>by simp at hb⟩
 |v::vs,s,h=>by
  simp only[Gb]at h
  split at h
  ·rename_i b s' hb hs
   simp only[al]at h;subst h
   obtain⟨h1,h2⟩:=Zop hs
   refine⟨by simp[h1],fun j c hc=>?_⟩
   cases j with
   |zero=>
    simp only[AL,al]at hc;subst hc
    cases v<;>simp only[OB,reduceCtorEq]at hb
    rename_i k m
    cases k<;>simp only[reduceCtorEq]at hb
    split at hb
    ·rename_i hm
     simp only[al]at hb;subst hb
     simp only[AL,al,V.int.injEq,true_and]
     have:m.toNat<256:=by omega
     simp[Nat.toUInt8]
     omega
    ·cases hb
   |succ j=>
    simp only[Dq]at hc ⊢
    exact h2 j c hc
  ·cases h
def Ylj(hh:bA P μ w st)(hr:RR μ r n a.tmps){pt it ty e:TypeId}{x y:Operand}{s q:Src}(hp:P.underlying pt=some (.pointer e))(hz:eR P e=some 1)(hx:bJ P x=some s)(hy:bJ P y=some q)
  (h:IB e s q call r st=some (v,aB)):bm P μ w st (do pure (.value (<-Builtin.unsafeString_ #[pt,it] ty #[a.eval x,a.eval y]))) v aB:=by
 unfold IB at h
 split at h
 ·rename_i i k hm hq
  obtain⟨l,hl,h1⟩:=cU hh hr hx hm
  have h2:=cU hh hr hy hq
  simp only[VR]at h2
  split at h
  ·rename_i hk
   split at h
   ·rename_i c e' ak
    split at h
    ·rename_i he
     subst he
     split at h
     ·rename_i zi sY
      split at h
      ·rename_i str U8
       simp only[al,bF]at h
       obtain⟨rfl,rfl⟩:=h
       obtain⟨c',lo,hi,g1,g2,g3,g4,g5,g6⟩:=hh.row hl ak
       have pE:=(g6 rfl).1
       obtain⟨b1,b2⟩:=Zop U8
       obtain⟨xs,px,A2,wX,fS,_⟩:=(hh.row hl ak).zi sY
       have cE:str.length=k.toNat:=by have:=px.length;omega
       have hle:k.toNat<=c.length:=by
        unfold aE at sY
        split at sY
        ·omega
        ·cases sY
       have Z5:k=(str.length:Int):=by omega
       have bB:str≠[]:=by intro h0;rw[h0]at cE;simp at cE;omega
       have gW:∀(j:Nat) (b:UInt8),str[j]?=some b->w.cell? ((⟨l.b,0,none⟩:Addr).add j)=some (.int .u8 b.toNat):=by
        intro j b hb
        have hv:=b2 j b hb
        obtain⟨y,rZ,wY⟩:=px.get hv
        simp only[VR]at wY
        subst wY
        have:=fS j _ rZ
        rw[wJ]
        rw[pE,ka]at this
        exact this
       have h63:str.length<=9223372036854775807:=by omega
       have bX:=Go.Lib.run_unsafeString_row (P:=P) w pt it ty e' hp (Zkw hz) l.b c'.size (U7 g1) str bB (by omega) h63 gW
       have hw:bQ P μ w st μ (w.freeze ⟨l.b,0,none⟩ str.length) (st.write i (.cells c e' false)) [i]:=by
        have oK:str.length≠0:=by simpa using bB
        have uY:(w.freeze ⟨l.b,0,none⟩ str.length).heap[l.b]?=some (.cells c' e' (if lo==hi then (0,0+str.length) else (min lo 0,max hi (0+str.length)))):=by
         simp[World.freeze,oK,Array.getElem?_modify,g1]
        obtain⟨lo',iF,KX⟩:∃p q,(if lo==hi then (0,0+str.length) else (min lo 0,max hi (0+str.length)))=(p,q):=⟨_,_,rfl⟩
        rw[KX]at uY
        refine bQ.write hh hl (KV ak) rfl ?_ ?_ ?_ ?_ ?_ ⟨c',lo',iF,uY,g2,g3,g4,g5,fun hc=>by cases hc⟩
        ·simp[World.freeze,oK]
        ·simp[World.freeze,oK]
        ·simp[World.freeze,oK]
        ·simp[World.freeze,oK]
        ·intro b hb
         simp only[World.freeze,oK,if_false,Array.getElem?_modify]
         rw[ar (fun h=>hb h.symm)]
       refine⟨.value (.string ⟨str.toArray⟩),_,_,μ,[i],?_,.inl rfl,rfl,hw⟩
       rw[h1,h2,pE,Z5]
       simp[bX,Result.andThen]
      ·cases h
     ·cases h
    ·cases h
   ·cases h
  ·cases h
 ·cases h
end
section
variable {P:Program} {μ:Mu} {w:World} {st aB:St} {r:T V} {n:Nat} {a:Act} {call:cG} {v:V}
def fX.nR:fX->Bool
 |.call _ _=>true
 |_=>false
def IV{α:Type}{a:Array α}{x:α}(h:a.toList=[x]):a=#[x]:=by
 apply Array.ext';simpa using h
def Lc{α:Type}{a:Array α}{x y:α}(h:a.toList=[x,y]):a=#[x,y]:=by
 apply Array.ext';simpa using h
def Zvw(hh:bA P μ w st)(hr:RR μ r n a.tmps){b:Builtin}{ts:Array TypeId}{xs:Array Operand}{ty:TypeId}{cs:Array Bool}{m:fX}(hc:Dl P ⟨.builtin b,xs,ts⟩=some m)
  (h:ct m call r st=some (v,aB)):bm P μ w st (builtin b ts ty cs (xs.map a.eval)) v aB:=by
 simp only[Dl]at hc
 split at hc
 ·rename_i t x ht hx
  have e1:=IV ht
  have e2:=IV hx
  subst e1 e2
  simp only[builtin,Ip,my,uJ]
  split at hc
  ·rename_i s hu hs
   simp only[al]at hc;subst hc
   exact Zzk (call:=call) hh hr hu hs h
  ·rename_i e s hu hs
   simp only[al]at hc;subst hc
   exact Zsy (call:=call) hh hr hu hs h
  ·rename_i k e s hu hs
   simp only[al]at hc;subst hc
   exact Ybx (call:=call) hh hr hu hs h
  ·cases hc
 ·rename_i t x ht hx
  have e1:=IV ht
  have e2:=IV hx
  subst e1 e2
  simp only[builtin,Ip,my,uJ]
  split at hc
  ·rename_i e s hu hs
   simp only[al]at hc;subst hc
   exact Yru (call:=call) hh hr hu hs h
  ·cases hc
 ·split at hc
  ·rename_i l hl
   simp only[al]at hc;subst hc
   exact Ytl (call:=call) hh hr hl h
  ·cases hc
 ·split at hc
  ·rename_i l hl
   simp only[al]at hc;subst hc
   exact Ytk (call:=call) hh hr hl h
  ·cases hc
 ·rename_i t u s x ht hx
  have e1:=Lc ht
  have e2:=Lc hx
  subst e1 e2
  simp only[builtin,Ip,my,uJ]
  split at hc
  ·rename_i e hu
   split at hc
   ·rename_i n' b' z s' x' d hs hb hz iY lI hd
    rw[Il]at hc
    obtain⟨cM,hc⟩:=hc
    simp only[not_or,Decidable.not_not]at cM
    obtain⟨c1,c2,c3,c4⟩:=cM
    simp only[al]at hc;subst hc
    have c4':z.cells.all V.one=true:=by simpa using c4
    exact Yfl (call:=call) hh hr (by rfl) hu (by rfl) hd (fun k hk=>by subst hk;simp at c1) hs hb hz c3 c4' c2 iY lI h
   ·cases hc
  ·cases hc
 ·rename_i t ts' d s ht hx
  have e2:=Lc hx
  subst e2
  simp only[builtin,Ip,my,uJ]
  split at hc
  ·rename_i e hu
   split at hc
   ·rename_i n' d' s' hs hd iY
    simp only[al]at hc;subst hc
    exact Yos (call:=call) hh hr (by rw[<-BK,ht];rfl) hu hs hd iY h
   ·cases hc
  ·cases hc
 ·rename_i t s ht hx
  have e1:=IV ht
  have e2:=IV hx
  subst e1 e2
  simp only[builtin,Ip,my,uJ]
  simp only[jT]at hc
  obtain⟨s',hs,rfl⟩:=hc
  exact Ygs (call:=call) hh hr hs h
 ·rename_i t u x y ht hx
  have e1:=Lc ht
  have e2:=Lc hx
  subst e1 e2
  simp only[builtin,Ip,my,uJ]
  split at hc
  ·rename_i e hu
   split at hc
   ·rename_i s q hs hx hy
    simp only[al]at hc;subst hc
    exact Ylj (call:=call) hh hr hu hs hx hy h
   ·cases hc
  ·cases hc
 ·cases hc
def Yqh(hh:bA P μ w st)(hr:RR μ r n a.tmps)(hE:tC P){o:Oper}{m:fX}(hc:Ic P o.op=some m)(hn:m.nR=false)(h:ct m call r st=some (v,aB)):
  bm P μ w st (execOp a.eval o) v aB:=by
 obtain⟨dst,op,ty,pos,af,g⟩:=o
 cases op<;>simp only[Ic]at hc<;>try (cases hc;done)
 case move x=>simp only[jT]at hc;obtain⟨s,h1,rfl⟩:=hc;exact Ykh (call:=call) hh hr h1 h
 case assign x=>simp only[jT]at hc;obtain⟨s,h1,rfl⟩:=hc;exact Ykh (call:=call) hh hr h1 h
 case pick c x y=>
  split at hc
  ·rename_i h1 h2 h3
   simp only[al]at hc;subst hc
   exact Ymo (call:=call) hh hr h1 h2 h3 h
  ·cases hc
 case alloc e=>
  split at hc
  ·rename_i z hz
   split at hc
   ·rename_i f_
    simp only[al]at hc;subst hc
    exact Yjp (call:=call) (r:=r) hh hz f_ h
   ·cases hc
  ·cases hc
 case box e x=>simp only[jT]at hc;obtain⟨s,h1,rfl⟩:=hc;exact Yrx (call:=call) hh hr h1 h
 case build t parts=>
  split at hc
  ·cases hc
  ·rename_i z hz
   split at hc
   ·rename_i fs Co
    split at hc
    ·rename_i pl kK
     simp only[jT]at hc
     obtain⟨tQ,h1,rfl⟩:=hc
     exact Zos (call:=call) hh hr hz Co kK h1 h
    ·cases hc
   ·rename_i k e hu
    split at hc
    ·rename_i s hs
     simp only[jT]at hc
     obtain⟨tQ,h1,rfl⟩:=hc
     exact Zo8 (call:=call) hh hr hz hu hs h1 h
    ·cases hc
   ·cases hc
 case buildSlice t len parts=>
  split at hc
  ·rename_i e hu
   split at hc
   ·rename_i s z hs hz
    split at hc
    ·cases hc
    ·rename_i cM
     simp only[not_or,Decidable.not_not]at cM
     simp only[jT]at hc
     obtain⟨tQ,h1,rfl⟩:=hc
     exact Yfi (call:=call) hh hr hu hs hz cM.1 cM.2.1 h1 h
   ·cases hc
  ·cases hc
 case load t x=>
  split at hc
  ·rename_i h1 h2
   simp only[al]at hc;subst hc
   exact Yno (call:=call) hh hr h1 h2 h
  ·cases hc
 case store t x y=>
  split at hc
  ·rename_i h1 h2 h3
   simp only[al]at hc;subst hc
   exact Ygl (call:=call) hh hr h1 h2 h3 h
  ·cases hc
 case nilCheck x=>simp only[jT]at hc;obtain⟨s,h1,rfl⟩:=hc;exact Yhq (call:=call) hh hr h1 h
 case binOp op t x y p=>
  split at hc
  ·rename_i s u h1 h2
   have fin:∀q ng,U9 P op t x y q ng->m=.bin op q ng s u->bm P μ w st (execOp a.eval ⟨dst,.binOp op t x y p,ty,pos,af,g⟩) v aB:=by
    intro q ng hq hm
    subst hm
    exact Yry (call:=call) hh hr h1 h2 hq h
   cases op
   case eql=>
    simp only at hc
    split at hc
    ·rename_i q hq
     rw[Il]at hc
     obtain⟨cM,hc⟩:=hc
     simp only[al]at hc
     exact fin _ _ (fun _=>⟨hq,by rw[Bool.not_eq_true]at cM;exact cM,rfl⟩) hc.symm
    ·cases hc
   case neq=>
    simp only at hc
    split at hc
    ·rename_i q hq
     rw[Il]at hc
     obtain⟨cM,hc⟩:=hc
     simp only[al]at hc
     exact fin _ _ (fun _=>⟨hq,by rw[Bool.not_eq_true]at cM;exact cM,rfl⟩) hc.symm
    ·cases hc
   all_goals
    simp only[al]at hc
    exact fin _ _ (fun hq=>by rcases hq with hq|hq<;>cases hq) hc.symm
  ·cases hc
 case unOp op t x=>simp only[jT]at hc;obtain⟨s,h1,rfl⟩:=hc;exact Ysl (call:=call) hh hr h1 h
 case convert src dst' x=>
  split at hc
  ·cases hc
  ·rename_i s h1
   split at hc
   ·rename_i q k hq hk
    simp only[al]at hc;subst hc
    exact Yak (call:=call) hh hr ⟨_,hq⟩ hk h1 h
   ·rename_i e hq hk
    split at hc
    ·rename_i he
     simp only[al]at hc;subst hc
     exact Zua (call:=call) hh hr hq hk he h1 h
    ·cases hc
   ·rename_i e hq hk
    split at hc
    ·rename_i he
     simp only[al]at hc;subst hc
     exact Zvv (call:=call) hh hr hq hk he h1 h
    ·cases hc
   ·rename_i t hq hk
    split at hc
    ·rename_i z hz
     simp only[al]at hc;subst hc
     exact Ya6 (call:=call) hh hr hq hk hz h1 h
    ·cases hc
   ·rename_i u hq hk
    split at hc
    ·rename_i z hz
     simp only[al]at hc;subst hc
     exact Zt4 (call:=call) hh hr hq hk hz h1 h
    ·cases hc
   ·cases hc
 case makeInterface t x=>
  split at hc
  ·cases hc
  ·rename_i d bB hd
   simp only[jT]at hc;obtain⟨s,h1,rfl⟩:=hc
   exact Zzd (call:=call) hh hr hd (fun k hk=>bB k hk) h1 h
  ·cases hc
 case makeFunc f first fY=>
  cases f<;>simp only[reduceCtorEq]at hc
  split at hc
  ·rename_i h1 h2
   simp only[al]at hc;subst hc
   exact Yc7 (call:=call) hh hr h1 h2 h
  ·cases hc
 case makeMap t rsv=>
  cases rsv<;>simp only[reduceCtorEq]at hc
  simp only[al]at hc;subst hc
  exact Ymp (call:=call) (r:=r) hh h
 case makeSlice t x y=>
  split at hc
  ·rename_i e hu
   split at hc
   ·rename_i hs hb hz hx hy
    split at hc
    ·rename_i f_
     simp only[al]at hc;subst hc
     exact Zzc (call:=call) hh hr hu hs hb hz f_ hx hy h
    ·cases hc
   ·cases hc
  ·cases hc
 case slice t x lo hi mx=>
  split at hc
  ·rename_i hx fL gH dh
   split at hc
   ·rename_i hu
    split at hc
    ·cases hc
    ·rename_i Ld
     simp only[al]at hc;subst hc
     have hm:mx=none:=by
      cases mx with
      |none=>rfl
      |some q=>
       simp only[tK]at dh
       split at dh
       ·simp only[al]at dh
        subst dh;simp at Ld
       ·cases dh
     subst hm
     exact Zuc (call:=call) hh hr hu hx fL gH h
   ·rename_i e hu
    simp only[jT]at hc;obtain⟨s,h1,rfl⟩:=hc
    exact Zye (call:=call) hh hr hu h1 hx fL gH dh h
   ·rename_i k e hu
    simp only[jT]at hc;obtain⟨s,h1,rfl⟩:=hc
    exact Zud (call:=call) hh hr hu h1 hx fL gH dh h
   ·cases hc
  ·cases hc
 case fieldAddr t x i=>
  split at hc
  ·rename_i hu hx
   split at hc
   ·rename_i f hf
    split at hc
    ·rename_i hk
     simp only[al]at hc;subst hc
     exact Yiu (call:=call) hh hr hu hf hk hx h
    ·cases hc
   ·cases hc
  ·cases hc
 case indexAddr t x i=>
  split at hc
  ·rename_i hu hx hi
   simp only[jT]at hc;obtain⟨s,h1,rfl⟩:=hc
   exact Zvk (call:=call) hh hr hu h1 hx hi h
  ·rename_i hu hx hi
   simp only[jT]at hc;obtain⟨s,h1,rfl⟩:=hc
   exact Zz5 (call:=call) hh hr hu h1 hx hi h
  ·cases hc
 case index t x i=>
  split at hc
  ·rename_i hu hx hi
   simp only[al]at hc;subst hc
   exact Yd3 (call:=call) hh hr hu hx hi h
  ·cases hc
 case lookup t x k ok=>
  split at hc
  ·rename_i hu hx hk
   split at hc
   ·rename_i h1 h2
    simp only[al]at hc;subst hc
    exact Yh2 (call:=call) hh hr hu h1 h2 hx hk h
   ·cases hc
  ·cases hc
 case mapUpdate t x k y=>
  split at hc
  ·rename_i hu hx hk hy
   simp only[jT]at hc;obtain⟨s,h1,rfl⟩:=hc
   exact Zsz (call:=call) hh hr hu h1 hx hk hy h
  ·cases hc
 case insert t x k y=>
  split at hc
  ·rename_i hu hx hk hy
   simp only[jT]at hc;obtain⟨s,h1,rfl⟩:=hc
   exact Zsz (call:=call) hh hr hu h1 hx hk hy h
  ·cases hc
 case range t x=>
  split at hc
  ·rename_i hu hx
   simp only[al]at hc;subst hc
   exact Zun (call:=call) hh hr hu hx h
  ·cases hc
 case next it isS=>
  cases isS<;>simp only[reduceCtorEq]at hc
  simp only[jT]at hc;obtain⟨s,h1,rfl⟩:=hc
  exact Zyz (call:=call) hh hr h1 h
 case extract x i=>simp only[jT]at hc;obtain⟨s,h1,rfl⟩:=hc;exact Zz8 (call:=call) hh hr h1 h
 case call c=>
  obtain⟨callee,args,ats⟩:=c
  cases callee with
  |invoke r' nm=>simp only[Dl,reduceCtorEq]at hc
  |builtin b=>
   have:=Zvw (ty:=ty) (cs:=args.map fun|.const _=>true|_=>false) hh hr hc h
   obtain⟨nx,x,w',μ',ws,k1,k2⟩:=this
   refine⟨nx,x,w',μ',ws,?_,k2⟩
   rw[<-k1]
   simp[execOp,resolve,invoke]
   rfl
  |value f=>
   simp only[Dl]at hc
   split at hc
   ·cases hc
   ·rename_i ss Ea
    cases f<;>simp only at hc
    case func gid=>
     split at hc
     ·rename_i fn Aw
      split at hc
      ·simp only[al]at hc;subst hc;simp[fX.nR]at hn
      ·rename_i hb
       split at hc
       ·rename_i e he
        simp only[al]at hc;subst hc
        have:=Yre (call:=call) hh hr hE Aw (by simpa using hb) he Ea h
        obtain⟨nx,x,w',μ',ws,k1,k2⟩:=this
        refine⟨nx,x,w',μ',ws,?_,k2⟩
        rw[<-k1]
        have e0:(⟨List.map a.eval args.toList⟩:Array Value)=args.map a.eval:=by apply Array.ext';simp
        rw[e0]
        simp[execOp,resolve,invoke,Deferred.ofValue,Act.eval]
       ·cases hc
     ·cases hc
    all_goals
     split at hc
     ·simp only[al]at hc;subst hc;simp[fX.nR]at hn
     ·cases hc
end
end Go.Mx
