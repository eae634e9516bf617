/-The operations of M stand for the Go mod-/
import Derived.Test.YtfeehbdhikiikaaGreatDoorMxOp2
import Derived.Laws.IdiomStrings
import Derived.Lib.Bytealg
import Derived.Shelf.Spec.BitsCarry
set_option linter.all false
namespace Go.Mx
open Go
variable{ts:Array TypeId}{b:Bool}{l:L}{wB:List (Nat×Nat×Src)}{ss:List Src}{cs vs zs:List V}{xs:List Value}{hi i k lo o:Nat}{o' ob:Obj}{x y:Operand}{s sk sm sx sy:Src}{α:Type}{d:TypeDesc}{dst kt src ty:TypeId}{z:V}{kd:mW}
section
variable {P:Program} {μ:Mu} {w:World} {st aB:St} {r:T V} {n:Nat} {a:Act} {call:cQ} {v:V}
def UC{c vs:List α}(h:o+vs.length<=c.length):(ae c o vs).length=c.length:=by simp[ae];omega
def MO{c vs:List α}(h:o+vs.length<=c.length)(j:Nat):(ae c o vs)[j]?=if o<=j/\j<o+vs.length then vs[j-o]? else c[j]?:=by
 have aD:(c.take o).length=o:=by simp;omega
 unfold ae;rw[uJ];by_cases h1:j<o
 ·rw[k_ (by omega),ak (by omega),jZ,av h1]
 rw[pC (by omega),aD];by_cases h2:j<o+vs.length
 ·rw[k_ (by omega),av ⟨by omega,h2⟩]
 rw[pC (by omega),ak (by omega),fU];congr 1;omega
def aV.ae{c vs:List V}{c' nG:List Value}(h:aV μ c c')(h':aV μ vs nG)(o:Nat):aV μ (ae c o vs) (ae c' o nG):=by unfold Mx.ae;rw[h'.length];exact((h.take o).append h').append (h.drop _)
def Zop(c:List α)(o:Nat)(x:α)(vs:List α)(h:o<c.length):Mx.ae (c.set o x) (o+1) vs=Mx.ae c o (x::vs):=by
 unfold Mx.ae;have e1:(c.set o x).take (o+1)=c.take o++[x]:=by rw[Bi,List.take_set_of_le (aN _)];simp[h]
 have e2:(c.set o x).drop (o+1+vs.length)=c.drop (o+(vs.length+1)):=by rw[List.drop_set_of_lt (by omega)];congr 1;omega
 rw[e1,e2];simp
def Ymm(off:Nat):∀(vs:List Value) (k:Nat) (cs:List Value),off+k+vs.length<=cs.length->
  (vs.zipIdx k).foldl (fun (cs:Array Value) (p:Value×Nat)=>cs.setIfInBounds (off+p.2) p.1) ⟨cs⟩=⟨ae cs (off+k) vs⟩:=by
 intro vs;induction vs with
 |nil=>intro k cs h;simp[ae]
 |cons x vs ih=>
  intro k cs h;simp only[bl]at h;simp only[List.zipIdx_cons,List.foldl_cons];have e:(⟨cs⟩:Array Value).setIfInBounds (off+k) x=⟨cs.set (off+k) x⟩:=by apply Array.ext';simp
  rw[e,ih (k+1) (cs.set (off+k) x) (by simp;omega),<-pE,Zop _ _ _ _ (by omega)]
def Zte(hh:bq P μ w st)(hr:RR μ r n a.tmps){place:Nat->Option (Nat×Nat)}:∀{parts:List (Nat×Operand)} {wB:List (Nat×Nat×Src)},Da P place parts=some wB->
  ∀{ps:List (Nat×Nat×V)},Dk r wB=some ps->∀{cs:List V} {Hr:List Value},aV μ cs Hr->∀{l:List V},Dj cs ps=some l->
  ∃l',Instr.fill place ⟨Hr⟩ (parts.map fun p=>(p.1,a.eval p.2))=some ⟨l'⟩/\aV μ l l':=by
 intro parts;induction parts with
 |nil=> intro wB hc ps he cs Hr kZ l hl;simp only[Da,ar]at hc;subst hc;simp only[Dk,ar]at he;subst he;simp only[Dj,ar]at hl;subst hl;exact⟨Hr,by simp[Instr.fill],kZ⟩
 |cons p parts ih=>
  intro wB hc ps he cs Hr kZ l hl;obtain⟨i,x⟩:=p;simp only[Da]at hc;split at hc
  ·rename_i o s sx l' hp hx jh;simp only[ar]at hc;subst hc;simp only[Dk]at he;split at he
   ·rename_i u vs hu I7;simp only[ar]at he;subst he;simp only[Dj]at hl;split at hl
    ·rename_i df;have UG:=dt hh hr hx hu;have ji:=UG.cells;have hlen:(a.eval x).cells.size=s:=by have:=ji.length;rw[<-df.1,<-this];simp
     have fZ:(a.eval x).cells.toList.length=s:=by simpa using hlen
     obtain⟨l'',h1,h2⟩:=ih jh I7 (kZ.ae ji o) hl;refine⟨l'',?_,h2⟩;simp only[pU,Instr.fill,hp];rw[ak]
     ·have e:((a.eval x).cells.zipIdx.foldl (fun (cs:Array Value) (p:Value×Nat)=>cs.setIfInBounds (o+p.2) p.1) ⟨Hr⟩)=⟨ae Hr o (a.eval x).cells.toList⟩:=by rw[<-Array.foldl_toList,Array.toList_zipIdx];have:=Ymm o (a.eval x).cells.toList 0 Hr (by rw[fZ,kZ.length];omega);simpa using this
      rw[<-h1];congr 1
     have cy:=kZ.length;simp only[hlen,ne_eq,not_true_eq_false,decide_false,Bool.false_or,decide_eq_true_eq];simp[cy];omega
    cases hl
   cases he
  cases hc
def Yci:∀{fs:List Field} {pl:List (Nat×Nat)},Ma P fs=some pl->fs.mapM (fun f=>(P.info? f.type).map fun i=>(f.offset,i.size))=some pl:=by
 intro fs;induction fs with
 |nil=>intro pl h;simp only[Ma,ar]at h;subst h;simp
 |cons f fs ih=>
  intro pl h;simp only[Ma]at h;split at h
  ·rename_i s l hs hl;simp only[ar]at h;subst h;unfold fQ at hs;simp only[mS]at hs;obtain⟨i,hi,rfl⟩:=hs;simp[List.mapM_cons,hi,ih hl]
  cases h
def JW{t:TypeId}(h:tn P t=some z):∃i x,P.info? t=some i/\i.zero=some x/\∀μ,VR μ z x:=by
 unfold tn at h;split at h
 ·rename_i i hi;split at h
  ·rename_i x hx;exact⟨i,x,hi,hx,fun μ=>TO μ x z h⟩
  cases h
 cases h
def Zqc(hh:bq P μ w st)(hr:RR μ r n a.tmps){t:TypeId}{fs:Array Field}{pl:List (Nat×Nat)}{parts:Array (Nat×Operand)}
  (hz:tn P t=some z) (ht:P.underlying t=some (.struct fs)) (hp:Ma P fs.toList=some pl) (hc:Da P (pl[·]?) parts.toList=some wB) (h:EC z.cells wB call r st=some (v,aB)):
  ba P μ w st (do pure (.value (<-Instr.build t (parts.map fun (i,x)=>(i,a.eval x))))) v aB:=by
 unfold EC at h;split at h
 ·rename_i ps th;split at h
  ·rename_i l hl;simp only[ar,bB]at h;obtain⟨rfl,rfl⟩:=h;obtain⟨i,x,hi,hx,sE⟩:=JW hz;obtain⟨l',h1,h2⟩:=Zte hh hr hc th (sE μ).cells hl;refine ba.value hh (x:=.agg ⟨l'⟩) (run_build w t _ _ ?_) ⟨l',rfl,h2⟩;simp only[Program.built,hi,ht,hx,Yci hp];rw[<-h1];simp
  cases h
 cases h
def Zqw(hh:bq P μ w st)(hr:RR μ r n a.tmps){t e:TypeId}{s:Nat}{parts:Array (Nat×Operand)}
  (hz:tn P t=some z) (ht:P.underlying t=some (.array k e)) (hs:fQ P e=some s) (hc:Da P (fun i=>some (i*s,s)) parts.toList=some wB) (h:EC z.cells wB call r st=some (v,aB)):
  ba P μ w st (do pure (.value (<-Instr.build t (parts.map fun (i,x)=>(i,a.eval x))))) v aB:=by
 unfold EC at h;split at h
 ·rename_i ps th;split at h
  ·rename_i l hl;simp only[ar,bB]at h;obtain⟨rfl,rfl⟩:=h;obtain⟨i,x,hi,hx,sE⟩:=JW hz;unfold fQ at hs;simp only[mS]at hs;obtain⟨ie,hie,rfl⟩:=hs;obtain⟨l',h1,h2⟩:=Zte hh hr hc th (sE μ).cells hl;refine ba.value hh (x:=.agg ⟨l'⟩) (run_build w t _ _ ?_) ⟨l',rfl,h2⟩;simp only[Program.built,hi,ht,hx,hie];rw[<-h1];simp
  cases h
 cases h
def P4(h:aV μ vs xs)(hv:vs.all V.one=true):∀x∈xs,x.oneCell'=true:=by
 intro x hx;obtain⟨j,hj⟩:=nP hx;have hl:=h.length;have JT:j<xs.length:=(yL.1 hj).1;have:∃u,vs[j]?=some u:=⟨vs[j]'(by omega),by simp⟩;obtain⟨u,hu⟩:=this;obtain⟨y,h1,h2⟩:=h.get hu;rw[hj]at h1;cases h1;have Aj:u.one=true:=by rw[kJ]at hv;exact hv u (cP hu)
 have:=h2.one Aj;cases x<;>simp_all [Value.oneCell']
def ba.newRow(hh:bq P μ w st){s:Sem Value}{x:Value}{e:TypeId}(hs:s.run P w=.ok x (w.alloc (.cells ⟨xs⟩ e)))
  (hc:aV μ cs xs) (h1:∀x∈xs,x.oneCell'=true) (hv:VR (fun i=>if i=st.n then some ⟨w.heap.size,0,xs.length⟩ else μ i) v x):
  ba P μ w st (do pure (.value (<-s))) v (st.alloc (.cells cs e true)):=by
 have dW:∀i l,μ i=some l->(fun i=>if i=st.n then some (⟨w.heap.size,0,xs.length⟩:L) else μ i) i=some l:=fun i l hl=>by have:=(hh.dw i l hl).1;simp only;rw[ak (by omega)];exact hl
 refine⟨Next.value x,x,_,_,[],by simp[hs,Result.andThen],.inl rfl,hv,bN.alloc hh (.cells cs e true) (.cells ⟨xs⟩ e) 0 xs.length ⟨⟨xs⟩,0,0,?_,by simp,by simp[hc.length],fun j u hu=>?_,fun j y _ hy=>?_,fun _=>⟨rfl,fun j hj=>by omega⟩⟩⟩
 ·simp
 ·obtain⟨y,hy,hr⟩:=hc.get hu;exact⟨y,by simpa using hy,VR.mono dW u y hr⟩
 exact h1 y (cP (by simpa using hy))
def Ynv(hh:bq P μ w st){e:TypeId}(hz:tn P e=some z)(cW:z.cells.all V.one=true)(h:Mn z.cells e call r st=some (v,aB)):
  ba P μ w st (do pure (.value (<-Instr.alloc e true (.tuple #[])))) v aB:=by unfold Mn at h;simp only[ar,bB]at h;obtain⟨rfl,rfl⟩:=h;obtain⟨i,x,hi,hx,sE⟩:=JW hz;refine ba.newRow hh (v:=.ptr st.n 0) (xs:=x.cells.toList) (x:=.pointer (some ⟨w.heap.size,0,none⟩)) ?_ (sE μ).cells (P4 (sE μ).cells cW) (by simp only[VR];exact⟨⟨w.heap.size,0,x.cells.toList.length⟩,by simp,by simp⟩);simp[Instr.alloc,zeroValue,typeInfo,hi,hx,newVar,Go.newRow,Result.andThen]
def Yx1(hh:bq P μ w st)(hr:RR μ r n a.tmps){e:TypeId}(hx:bJ P x=some s)(h:Jm e s call r st=some (v,aB)):
  ba P μ w st (do pure (.value (<-Instr.box e (a.eval x)))) v aB:=by
 unfold Jm at h;split at h
 ·rename_i u hu;split at h
  ·rename_i cW;simp only[ar,bB]at h;obtain⟨rfl,rfl⟩:=h;have UG:=dt hh hr hx hu;refine ba.newRow hh (v:=.ptr st.n 0) (xs:=(a.eval x).cells.toList) (x:=.pointer (some ⟨w.heap.size,0,none⟩)) ?_ UG.cells (P4 UG.cells cW) (by simp only[VR];exact⟨⟨w.heap.size,0,_⟩,by simp;rfl,by simp⟩);simp[Instr.box,newVar,Go.newRow,Result.andThen]
  cases h
 cases h
end
section
variable {P:Program} {μ:Mu} {w:World} {st aB:St} {r:T V} {n:Nat} {a:Act} {call:cQ} {v:V}
def Zod(zs:List V)(k:Nat):(du zs k).length=k*zs.length:=by simp[du]
def Uz(h:aV μ zs xs)(k:Nat):aV μ (du zs k) (madeCells ⟨xs⟩ (k*zs.length)).toList:=by
 have hl:=h.length;refine aV.tA (by simp[du,madeCells]) fun j u hu=>?_;have hj:j<k*zs.length:=by have:=(yL.1 hu).1;simpa[du]using this
 have hz:0<zs.length:=by
  rcases Jb zs.length with e|e
  ·rw[e]at hj;simp at hj
  exact e
 have Ff:j%zs.length<zs.length:=m_ _ hz;simp only[du,eH,zD hj,qH,ar]at hu;obtain⟨y,h1,h2⟩:=h.get (i:=j%zs.length) (v:=zs[j%zs.length]) (by simp[Ff]);refine⟨y,?_,?_⟩
 ·simp only[madeCells,Array.toList_map,Array.toList_range,eH,zD hj,qH,ar];have iz:(⟨xs⟩:Array Value)[j%xs.length]?=some y:=by rw[hl];simpa using h1
  simp only[Array.size,getElem!_def,iz]
 rw[<-hu];simpa[List.getD,Ff]using h2
def Zsc(h:zs.all V.one=true)(k:Nat):∀{xs:List Value},aV μ (du zs k) xs->∀x∈xs,x.oneCell'=true:=by
 intro xs hx;refine P4 hx ?_;rw[kJ];intro u hu;simp only[du,bO,jz]at hu;obtain⟨j,hj,rfl⟩:=hu;have hz:0<zs.length:=by
  rcases Jb zs.length with e|e
  ·rw[e]at hj;simp at hj
  exact e
 have Ff:j%zs.length<zs.length:=m_ _ hz;rw[kJ]at h;simpa[List.getD,Ff]using h zs[j%zs.length] (by simp)
def Yja(hh:bq P μ w st)(hr:RR μ r n a.tmps){t e:TypeId}{s len:Nat}{parts:Array (Nat×Operand)}
  (ht:P.underlying t=some (.slice e)) (hs:fQ P e=some s) (hz:tn P e=some z) (hle:¬len*s > 2^24) (PR:z.cells.length=s)
  (hc:Da P (fun i=>some (i*s,s)) parts.toList=some wB) (h:Jn e s len (du z.cells len) wB call r st=some (v,aB)):
  ba P μ w st (do pure (.value (<-Instr.buildSlice t len (parts.map fun (i,x)=>(i,a.eval x))))) v aB:=by
 unfold Jn at h;split at h
 ·rename_i ps th;split at h
  ·rename_i l hl;split at h
   ·rename_i cW;simp only[ar,bB]at h;obtain⟨rfl,rfl⟩:=h;obtain⟨i,x,hi,hx,sE⟩:=JW hz;have Cr:=(sE μ).cells;have qf:=Uz Cr len;rw[PR]at qf;obtain⟨l',h1,h2⟩:=Zte hh hr hc th qf hl;have jX:=h2.length;refine ba.newRow hh (v:=.slice st.n 0 len (some len) s) (xs:=l') (x:=.slice (some ⟨w.heap.size,0,none⟩) len len) ?_ h2 (P4 h2 cW) ?_
    ·have iz:Instr.fill (fun i=>some (i*s,s)) (madeCells x.cells (len*s)) (parts.map fun p=>(p.1,a.eval p.2)).toList=some ⟨l'⟩:=by rw[<-h1];simp
     simp only[Instr.buildSlice,Sem.run_bind,run_underlying ht,Result.andThen,Ac hs,ak hle];split
     ·rename_i e0;have ji:((Array.range (len*s)).map ((#[]:Array Value)[·%(#[]:Array Value).size]!))=madeCells x.cells (len*s):=by simp[madeCells,e0]
      simp only[Sem.run_bind,Sem.run_pure,Result.andThen,ji];rw[iz];simp[Go.newRow,Result.andThen]
     have ji:((Array.range (len*s)).map (x.cells[·%x.cells.size]!))=madeCells x.cells (len*s):=rfl;simp only[zeroValue,typeInfo,Sem.run_bind,Sem.run_pure,Result.andThen,hi,hx,run_program];simp only[ji];rw[iz];simp[Go.newRow,Result.andThen]
    have P5:l.length=len*s:=by
     have:∀(ps:List (Nat×Nat×V)) (cs l:List V),Dj cs ps=some l->l.length=cs.length:=by
      intro ps;induction ps with
      |nil=>intro cs l h;simp only[Dj,ar]at h;rw[h]
      |cons p ps ih=>
       intro cs l h;obtain⟨o,s,u⟩:=p;simp only[Dj]at h;split at h
       ·rename_i hc;rw[ih _ _ h,UC (by omega)]
       cases h
     rw[this ps _ l hl,Zod,PR]
    simp only[VR];exact⟨⟨w.heap.size,0,l'.length⟩,len,by simp,by simp,aN _,by simp[jX,P5],by simp,by simp⟩
   cases h
  cases h
 cases h
def Yc4(hh:bq P μ w st)(hr:RR μ r n a.tmps){t e:TypeId}{s b:Nat}(ht:P.underlying t=some (.slice e))(hs:fQ P e=some s)(hb:Ep P e=some b)(hz:tn P e=some z)
  (cW:z.cells.all V.one=true) (hx:bJ P x=some sx) (hy:bJ P y=some sy) (h:ED e s b z.cells sx sy call r st=some (v,aB)):
  ba P μ w st (do pure (.value (<-Instr.makeSlice t (a.eval x) (a.eval y)))) v aB:=by
 unfold ED at h;split at h
 ·rename_i k l k' c h1 h2;have e1:=dt hh hr hx h1;have e2:=dt hh hr hy h2;simp only[VR]at e1 e2;split at h
  ·rename_i hc;obtain⟨dk,AY,hbc,zbD,mY,iW⟩:=hc;simp only[ar,bB]at h;obtain⟨rfl,rfl⟩:=h;obtain⟨i,zx,hi,sE,UH⟩:=JW hz;unfold fQ at hs;unfold Ep at hb;simp only[hi,qH,ar]at hs hb;have Cr:=(UH μ).cells;have qf:=Uz Cr c.toNat;rw[<-mY]at qf;have bY:=run_make (P:=P) w t e i zx ht hi sE k k' l c dk AY (by rw[hb];omega) (by omega);rw[hs]at bY;refine ba.newRow hh (v:=.slice st.n 0 l.toNat (some c.toNat) s) (xs:=(madeCells zx.cells (c.toNat*s)).toList) (x:=.slice (some ⟨w.heap.size,0,none⟩) l.toNat c.toNat) ?_ qf (Zsc cW c.toNat qf) ?_
   ·rw[e1,e2,bY]
   simp only[VR];exact⟨⟨w.heap.size,0,_⟩,c.toNat,by simp;rfl,by simp,by omega,by simp[madeCells],by simp,by simp⟩
  cases h
 cases h
def ba.newObj(hh:bq P μ w st){s:Sem Value}{x:Value}{o:O}(hs:s.run P w=.ok x (w.alloc ob))
  (ho:OM P (fun i=>if i=st.n then some ⟨w.heap.size,0,0⟩ else μ i) (w.alloc ob) o ⟨w.heap.size,0,0⟩) (hv:VR (fun i=>if i=st.n then some ⟨w.heap.size,0,0⟩ else μ i) v x):
  ba P μ w st (do pure (.value (<-s))) v (st.alloc o):=
 ⟨Next.value x,x,_,_,[],by simp[hs,Result.andThen],.inl rfl,hv,bN.alloc hh o ob 0 0 ho⟩
def Zqj(w:World)(o:Obj):(w.alloc o).heap[w.heap.size]?=some o:=by show (w.heap.push o)[w.heap.size]?=some o;simp
def Ylu(hh:bq P μ w st){t:TypeId}(h:Mq call r st=some (v,aB)):ba P μ w st (do pure (.value (<-Instr.makeMap t none))) v aB:=by
 unfold Mq at h;simp only[ar,bB]at h;obtain⟨rfl,rfl⟩:=h;refine ba.newObj hh (v:=.map st.n) (x:=.map (some w.heap.size)) (ob:=.map #[] 0) ?_ ⟨[],by simpa using Zqj w _,rfl⟩ ?_
 ·simp[Instr.makeMap,Result.andThen]
 simp only[VR];exact⟨⟨w.heap.size,0,0⟩,by simp,rfl⟩
def Ywr(hh:bq P μ w st)(hr:RR μ r n a.tmps){t e:TypeId}{d:ChanDir}{b:Nat}(ht:P.underlying t=some (.chan d e))(hb:Ep P e=some b)(hx:bJ P x=some s)
  (h:GG b s call r st=some (v,aB)):ba P μ w st (do pure (.value (<-Instr.makeChan t (a.eval x)))) v aB:=by
 unfold GG at h;split at h
 ·rename_i q k hk;have e1:=dt hh hr hx hk;simp only[VR]at e1;split at h
  ·cases h
  rename_i hc;simp only[ar,bB]at h;obtain⟨rfl,rfl⟩:=h;unfold Ep at hb;simp only[mS]at hb;obtain⟨i,hi,rfl⟩:=hb;refine ba.newObj hh (v:=.chan st.n) (x:=.chan (some w.heap.size)) (ob:=.chan k.toNat #[] false 0 0 false) ?_ ⟨[],0,0,by simpa using Zqj w _,by simp[aV]⟩ ?_
  ·simp only[Instr.makeChan,e1,asInt,asIntOf,run_underlying ht,typeInfo,hi,ak hc,Result.andThen,Sem.run_bind,Sem.run_pure,run_program,run_newObj];rfl
  simp only[VR];exact⟨⟨w.heap.size,0,0⟩,by simp,rfl⟩
 cases h
def Zw8(hh:bq P μ w st)(hr:RR μ r n a.tmps){t:TypeId}(ht:P.underlying t=some .string)(hx:bJ P x=some s)
  (h:Jy s call r st=some (v,aB)):ba P μ w st (do pure (.value (<-Instr.range t (a.eval x)))) v aB:=by
 unfold Jy at h;split at h
 ·rename_i q hk;have e1:=dt hh hr hx hk;simp only[VR]at e1;simp only[ar,bB]at h;obtain⟨rfl,rfl⟩:=h;refine ba.newObj hh (v:=.ptr st.n 0) (x:=.pointer (some ⟨w.heap.size,0,none⟩)) (ob:=.stringIter ⟨q.toArray⟩ 0) ?_ (by simp only[OM];exact⟨Zqj w _,trivial⟩) ?_
  ·simp[Instr.range,e1,run_underlying ht,Result.andThen]
  simp only[VR];exact⟨⟨w.heap.size,0,0⟩,by simp,rfl⟩
 cases h
def Zeb(g o:Nat)(t:TypeId)(lo hi:Nat):∀(vs:List Value) (i:Nat) (cur:List Value) (w:World),w.heap[g]?=some (.cells ⟨cur⟩ t (lo,hi))->o+i+vs.length<=cur.length->(∀v∈vs,v.oneCell'=true)->
  (∀j,o+i<=j->j<o+i+vs.length->¬(lo<=j/\j<hi))->(storeCells ⟨g,o,none⟩ vs i).run P w=.ok () (w.setRow g ⟨ae cur (o+i) vs⟩)
 |[],i,cur,w,hg,_,_,_=>by
  have e:ae cur (o+i) []=cur:=by simp[ae]
  rw[e,setRow_self w g _ t _ hg]
  simp[storeCells]
 |v::rest,i,cur,w,hg,hl,h1,hf=>by
  simp only[bl]at hl
  have kl:o+i<cur.length:=by omega
  have iA:w.cell? ⟨g,o+i,none⟩=some cur[o+i]:=by simp[World.cell?,hg,kl]
  have zay:w.frozen? ⟨g,o+i,none⟩=false:=by
   have:=hf (o+i) (aN _) (by simp)
   simp only[World.frozen?,hg]
   simp;omega
  have fF:(store ((⟨g,o,none⟩:Addr).add i) v).run P w=.ok () (w.setRow g ⟨cur.set (o+i) v⟩):=by
   rw[yW,run_store P w _ v _ (h1 v (by simp)),iA]
   simp[zay,setCell_eq_setRow w g (o+i) _ t _ v hg]
  have ih:=Zeb g o t lo hi rest (i+1) (cur.set (o+i) v) (w.setRow g ⟨cur.set (o+i) v⟩) (setRow_heap w g _ _ t _ hg) (by simp;omega) (fun x hx=>h1 x (by simp[hx]))
   (fun j uP pY=>hf j (by omega) (by simp only[bl];omega))
  simp only[storeCells,Sem.run_bind,fF,Result.andThen_ok,ih,setRow_setRow]
  rw[<-pE,Zop _ _ _ _ kl]
def Uy(hh:bq P μ w st)(hl:μ i=some l){c:List V}{e:TypeId}(aA:st.row i=some (c,e,true))(hv:aV μ vs xs)(h1:∀x∈xs,x.oneCell'=true)
  (hlen:o+vs.length<=c.length):
  ∃w',(storeCells ⟨l.b,l.d+o,none⟩ xs).run P w=.ok () w'/\bN P μ w st μ w' (st.write i (.cells (ae c o vs) e true)) [i]:=by
 obtain⟨c',lo,hi,g1,g2,g3,g4,g5,g6⟩:=hh.row hl aA;obtain⟨cur⟩:=c';have uU:=hv.length;simp only[List.size_toArray]at g2;have bY:=Zeb (P:=P) l.b (l.d+o) e lo hi xs 0 cur w g1 (by omega) h1 (fun j uP pY=>by have:=(g6 rfl).2 (j-l.d) (by omega);rw[show l.d+(j-l.d)=j by omega]at this;exact this);refine⟨_,bY,?_⟩;have hb:=setRow_heap w l.b _ (⟨ae cur (l.d+o+0) xs⟩:Array Value) e _ g1;refine bN.write hh hl (PX aA) rfl rfl rfl rfl (by simp) (fun b hb=>setRow_other w l.b b _ hb) ⟨_,lo,hi,hb,?_,?_,?_,?_,g6⟩
 ·simp only[List.size_toArray];rw[UC (by omega)];exact g2
 ·rw[UC hlen];exact g3
 ·intro j u hu;rw[MO hlen]at hu;have e':∀k:Nat,(⟨ae cur (l.d+o+0) xs⟩:Array Value)[k]?=(ae cur (l.d+o+0) xs)[k]?:=fun k=>by simp
  rw[e',MO (by omega)];split at hu
  ·rename_i hj;rw[av (by omega)];obtain⟨y,hy,hr⟩:=hv.get hu;exact⟨y,by rw[show l.d+j-(l.d+o+0)=j-o by omega];exact hy,hr⟩
  rename_i hj;rw[ak (by omega)];obtain⟨y,hy,hr⟩:=g4 j u hu;exact⟨y,by simpa using hy,hr⟩
 intro j x aD hx;have e':(⟨ae cur (l.d+o+0) xs⟩:Array Value)[l.d+j]?=(ae cur (l.d+o+0) xs)[l.d+j]?:=by simp
 rw[e',MO (by omega)]at hx;split at hx
 ·exact h1 x (cP hx)
 exact g5 j x aD (by simpa using hx)
def Yke(hh:bq P μ w st)(hr:RR μ r n a.tmps){t:TypeId}(hk:fQ P t=some k)(hx:bJ P x=some sx)(hy:bJ P y=some sy)
  (h:GD k sx sy call r st=some (v,aB)):ba P μ w st (do Instr.storeAt t (a.eval x) (a.eval y);pure .skip) v aB:=by
 unfold GD at h;split at h
 ·rename_i i o u h1 h2;obtain⟨l,hl,e1⟩:=dt hh hr hx h1;have e2:=dt hh hr hy h2;split at h
  ·rename_i c e aA;split at h
   ·rename_i hc;simp only[ar,bB]at h;obtain⟨rfl,rfl⟩:=h;have cy:=e2.cells;have hlen:=cy.length;obtain⟨w',hw,hs⟩:=Uy hh hl aA cy (P4 cy hc.2.2) (o:=o) (by omega);refine⟨.skip,undef,w',μ,[i],?_,.inr ⟨rfl,rfl⟩,⟨[],rfl,by simp[aV]⟩,hs⟩;have mY:(a.eval y).cells.size=k:=by rw[<-hc.1,<-hlen];simp
    simp[Instr.storeAt,Instr.sureAddr,e1,storeVar,Ac hk,mY,hw,Result.andThen]
   cases h
  cases h
 cases h
end
section
variable {P:Program} {μ:Mu} {w:World} {st aB:St} {r:T V} {n:Nat} {a:Act} {call:cQ} {v:V}
def bq.Hp(h:bq P μ w st):bq P μ w.drew st:=h.drew (w.drawn+1)
def bN.Cn{μ':Mu}{w':World}{ws:List Nat}(h:bN P μ w.drew st μ' w' aB ws):bN P μ w st μ' w' aB ws:=
 ⟨h.hr,h.ext,h.iy,h.wl,⟨h.fe.os,h.fe.tape,h.fe.output,h.fe.size,h.fe.block⟩,h.new,h.ad,h.grow,h.full,h.AJ⟩
def bN.newRow(hh:bq P μ w st){e:TypeId}
  (hle:cs.length<=xs.length) (hc:∀(j:Nat) (u:V),cs[j]?=some u->∃x,xs[j]?=some x/\VR μ u x) (h1:∀x∈xs,x.oneCell'=true) (hf:xs.length<=lo\/hi<=lo):
  bN P μ w st (fun i=>if i=st.n then some ⟨w.heap.size,0,xs.length⟩ else μ i) (w.alloc (.cells ⟨xs⟩ e (lo,hi))) (st.alloc (.cells cs e true)) []:=by
 have dW:∀i l,μ i=some l->(fun i=>if i=st.n then some (⟨w.heap.size,0,xs.length⟩:L) else μ i) i=some l:=fun i l hl=>by have:=(hh.dw i l hl).1;simp only;rw[ak (by omega)];exact hl
 refine bN.alloc hh (.cells cs e true) (.cells ⟨xs⟩ e (lo,hi)) 0 xs.length ⟨⟨xs⟩,lo,hi,?_,by simp,hle,fun j u hu=>?_,fun j y _ hy=>?_,fun _=>⟨rfl,fun j hj=>by simp only at hj ⊢;omega⟩⟩
 ·simp
 ·obtain⟨y,hy,hr⟩:=hc j u hu;exact⟨y,by simpa using hy,VR.mono dW u y hr⟩
 exact h1 y (cP (by simpa using hy))
def ba.Fg(hh:bq P μ w st){s:Sem Value}{x:Value}{e:TypeId}(hs:s.run P w=.ok x (w.drew.alloc (.cells ⟨xs⟩ e (lo,hi))))
  (hle:cs.length<=xs.length) (hc:∀(j:Nat) (u:V),cs[j]?=some u->∃x,xs[j]?=some x/\VR μ u x) (h1:∀x∈xs,x.oneCell'=true) (hf:xs.length<=lo\/hi<=lo)
  (hv:VR (fun i=>if i=st.n then some ⟨w.heap.size,0,xs.length⟩ else μ i) v x):
  ba P μ w st (do pure (.value (<-s))) v (st.alloc (.cells cs e true)):=
 ⟨Next.value x,x,_,_,[],by simp only[Sem.run_bind,hs,Result.andThen,Sem.run_pure],.inl rfl,hv,(bN.newRow hh.Hp hle hc h1 hf (hi:=hi)).Cn⟩
def Zwr(hh:bq P μ w st)(hr:RR μ r n a.tmps){e:TypeId}(hs:P.underlying src=some .string)(hd:P.underlying dst=some (.slice e))(he:P.underlying e=some (.int .u8))(hx:bJ P x=some s)
  (h:GF e s call r st=some (v,aB)):ba P μ w st (do pure (.value (<-convert src dst (a.eval x)))) v aB:=by
 unfold GF at h;split at h
 ·rename_i m hm;simp only[ar,bB]at h;obtain⟨rfl,rfl⟩:=h;have h1:=dt hh hr hx hm;simp only[VR]at h1;have bY:=run_bytes_of_string (P:=P) w src dst e ⟨m.toArray⟩ hs hd he;rw[<-h1]at bY;have Fb:=grownCap_ge w m.length 0 e;have mY:(⟨m.toArray⟩:ByteArray).size=m.length:=by simp[ByteArray.size]
  rw[mY]at bY;have hl:(bytesRow ⟨m.toArray⟩ (grownCap w m.length 0 e)).toList=m.map (fun b=>Value.int .u8 b.toNat)++List.replicate (grownCap w m.length 0 e-m.length) (.int .u8 0):=by simp[bytesRow,mY]
  have P6:(bytesRow ⟨m.toArray⟩ (grownCap w m.length 0 e)).size=m.length+(grownCap w m.length 0 e-m.length):=by rw[<-Array.length_toList,hl];simp
  refine ba.Fg hh (v:=.slice st.n 0 m.length none 1) (xs:=(bytesRow ⟨m.toArray⟩ (grownCap w m.length 0 e)).toList) (lo:=_) (hi:=_) bY ?_ ?_ ?_ (.inl (by simp)) ?_
  ·rw[hl];simp
  ·intro j u hu;rw[hl];have hj:j<m.length:=by have:=(yL.1 hu).1;simpa using this
   refine⟨_,k_ (by simpa using hj) |>.trans (eH ..) |>.trans (by rw[cj hj];rfl),?_⟩;simp only[eH,cj hj,qH,ar]at hu;rw[<-hu];simp[VR]
  ·intro y hy;rw[hl]at hy;simp only[iS,bO,Jc]at hy;rcases hy with⟨b,_,rfl⟩|⟨_,rfl⟩<;>rfl
  simp only[VR];refine⟨⟨w.heap.size,0,_⟩,grownCap w m.length 0 e,by simp;rfl,by simp,Fb,?_,by simp,fun _=>?_⟩
  ·simp only[P6];omega
  simp only[P6];omega
 cases h
def Yno{l:List V}{s:List UInt8}(h:aV μ l xs)(hm:l.mapM (fun v=>match v with|.int .u8 n=>some (UInt8.ofNat n.toNat)|_=>none)=some s):
  ∃ns:List Int,xs=ns.map (Value.int .u8)/\s=ns.map (fun n=>UInt8.ofNat n.toNat):=by
 induction l generalizing s xs with
 |nil=> simp only[List.mapM_nil,pure,ar]at hm;subst hm;simp only[aV]at h;exact⟨[],by simp[h],rfl⟩
 |cons u l ih=>
  obtain⟨y,ys,rfl,h1,h2⟩:=kW.1 h;simp only[List.mapM_cons]at hm;cases u<;>simp only[bind,Option.bind,reduceCtorEq]at hm;rename_i k q;cases k<;>simp only[reduceCtorEq]at hm;split at hm
  ·cases hm
  rename_i s' kj;simp only[pure,ar]at hm;subst hm;obtain⟨ns,rfl,rfl⟩:=ih h2 kj;simp only[VR]at h1;exact⟨q::ns,by simp[h1],by simp⟩
def Ziq:∀(l:List Int) (r:ByteArray),l.foldl (fun r n=>r.push (UInt8.ofNat n.toNat)) r=⟨r.data++(l.map (fun n=>UInt8.ofNat n.toNat)).toArray⟩
 |[],r=>by simp
 |b::l,r=>by
  simp only[List.foldl_cons]
  rw[Ziq l]
  simp[ByteArray.push]
def Zyv(hh:bq P μ w st)(hr:RR μ r n a.tmps){e:TypeId}(hs:P.underlying src=some (.slice e))(hd:P.underlying dst=some .string)(he:P.underlying e=some (.int .u8))(hx:bJ P x=some s)
  (h:Jt s call r st=some (v,aB)):ba P μ w st (do pure (.value (<-convert src dst (a.eval x)))) v aB:=by
 unfold Jt at h;split at h
 ·rename_i hm;simp only[ar,bB]at h;obtain⟨rfl,rfl⟩:=h;have h1:=dt hh hr hx hm;simp only[VR]at h1;refine ba.value hh (x:=.string ByteArray.empty) ?_ (by simp only[VR];rfl);rw[h1,run_convert_bytes_string w src dst e none 0 0 hs he hd];simp[Conv.bytesToString]
 ·rename_i i o len cap hm;obtain⟨l,c,hl,h1,_⟩:=dt hh hr hx hm;split at h
  ·rename_i cs e' sO aA;split at h
   ·rename_i BL vw;split at h
    ·rename_i s' hmm;simp only[ar,bB]at h;obtain⟨rfl,rfl⟩:=h;obtain⟨xs,rU,uU,zg,_,_⟩:=(hh.row hl aA).BL vw;obtain⟨ns,rfl,rfl⟩:=Yno rU hmm;refine ba.value hh (x:=.string ⟨(ns.map (fun n=>UInt8.ofNat n.toNat)).toArray⟩) ?_ (by simp[VR]);rw[h1,run_convert_bytes_string w src dst e _ _ _ hs he hd,run_bytesToString w _ len c ns zg,Ziq];have PI:ByteArray.empty.data=#[]:=rfl;rw[PI];simp
    cases h
   cases h
  cases h
 cases h
def UI{o:Obj}(h:w.heap[i]?=some o)(ho:∀c e f,o≠.cells c e f):(getObj i).run P w=.ok o w:=by simp only[getObj,Sem.run,h]
def jI.length:∀{es:List (V×V)} {xs:List MapEntry} {i:Nat},jI μ es xs i->xs.length=es.length
 |[],_,_,h=>by simp[jI]at h;simp[h]
 |(k,u)::es,_,i,h=>by
  obtain⟨e,ys,rfl,_,_,_,h5⟩:=h
  simp[jI.length h5]
def Ydc(hh:bq P μ w st)(hr:RR μ r n a.tmps){t:TypeId}(ht:P.underlying t=some .string)(hx:bJ P x=some s)
  (h:Ag 0 s call r st=some (v,aB)):ba P μ w st (do pure (.value (<-Builtin.len_ #[t] ty #[a.eval x]))) v aB:=by
 unfold Ag at h;cases hm:s.ev r with
 |none=>simp[hm]at h
 |some q=> have h1:=dt hh hr hx hm;cases q<;>simp[hm]at h;rename_i q;obtain⟨rfl,rfl⟩:=h;simp only[VR]at h1;have h2:(⟨q.toArray⟩:ByteArray).size=q.length:=rfl;exact ba.value hh (x:=.int .i64 q.length) (by simp[Builtin.len_,h1,run_underlying ht,goInt,h2, -ByteArray.size_data]) (by simp[VR])
def Zu7(hh:bq P μ w st)(hr:RR μ r n a.tmps){t e:TypeId}(ht:P.underlying t=some (.slice e))(hx:bJ P x=some s)
  (h:Ag 1 s call r st=some (v,aB)):ba P μ w st (do pure (.value (<-Builtin.len_ #[t] ty #[a.eval x]))) v aB:=by
 unfold Ag at h;cases hm:s.ev r with
 |none=>simp[hm]at h
 |some q=>
  have h1:=dt hh hr hx hm;cases q<;>simp[hm]at h;case aa=>
   obtain⟨rfl,rfl⟩:=h
   simp only[VR]at h1
   exact ba.value hh (x:=.int .i64 0) (by simp[Builtin.len_,h1,run_underlying ht,goInt]) (by simp[VR])
  case empty=>
   obtain⟨rfl,rfl⟩:=h
   obtain⟨b,c,h1⟩:=h1
   exact ba.value hh (x:=.int .i64 0) (by simp[Builtin.len_,h1,run_underlying ht,goInt]) (by simp[VR])
  case slice i o len cap sz=>
   obtain⟨rfl,rfl⟩:=h
   obtain⟨l,c,_,h1,_⟩:=h1
   exact ba.value hh (x:=.int .i64 len) (by simp[Builtin.len_,h1,run_underlying ht,goInt]) (by simp[VR])
def Ydd(hh:bq P μ w st)(hr:RR μ r n a.tmps){t k e:TypeId}(ht:P.underlying t=some (.map k e))(hx:bJ P x=some s)
  (h:Ag 2 s call r st=some (v,aB)):ba P μ w st (do pure (.value (<-Builtin.len_ #[t] ty #[a.eval x]))) v aB:=by
 unfold Ag at h;cases hm:s.ev r with
 |none=>simp[hm]at h
 |some q=>
  have h1:=dt hh hr hx hm;cases q<;>simp[hm]at h;case bW=>
   obtain⟨rfl,rfl⟩:=h
   simp only[VR]at h1
   exact ba.value hh (x:=.int .i64 0) (by simp[Builtin.len_,h1,run_underlying ht,goInt]) (by simp[VR])
  case map i=>
   split at h
   ·rename_i es DI
    simp only[ar,bB]at h
    obtain⟨rfl,rfl⟩:=h
    obtain⟨l,hl,h1⟩:=h1
    obtain⟨jd,g1,g2⟩:=hh.get hl DI
    have hg:=UI (P:=P) g1 (by simp)
    exact ba.value hh (x:=.int .i64 es.length) (by simp[Builtin.len_,h1,run_underlying ht,goInt,hg,Result.andThen,g2.length]) (by simp[VR])
   ·cases h
def Ywt(hh:bq P μ w st){t:TypeId}{x:Value}(ht:(∃e,P.underlying t=some (.array k e))\/∃u e,P.underlying t=some (.pointer u)/\P.underlying u=some (.array k e))
  (h:OZ k call r st=some (v,aB)):ba P μ w st (do pure (.value (<-Builtin.len_ #[t] ty #[x]))) v aB:=by
 unfold OZ at h;simp only[ar,bB]at h;obtain⟨rfl,rfl⟩:=h;refine ba.value hh (x:=.int .i64 k) ?_ (by simp[VR]);rcases ht with⟨e,h1⟩|⟨u,e,h1,h2⟩
 ·simp[Builtin.len_,run_underlying h1,goInt]
 simp[Builtin.len_,run_underlying h1,run_underlying h2,goInt]
def Yxz(hh:bq P μ w st)(hr:RR μ r n a.tmps){t e:TypeId}(ht:P.underlying t=some (.slice e))(hx:bJ P x=some s)
  (h:Ms s call r st=some (v,aB)):ba P μ w st (do pure (.value (<-Builtin.cap_ #[t] ty #[a.eval x]))) v aB:=by
 unfold Ms at h;split at h
 ·rename_i hm;simp only[ar,bB]at h;obtain⟨rfl,rfl⟩:=h;have h1:=dt hh hr hx hm;simp only[VR]at h1;exact ba.value hh (x:=.int .i64 0) (by simp[Builtin.cap_,h1,run_underlying ht,goInt]) (by simp[VR])
 ·rename_i i o len k sz hm;simp only[ar,bB]at h;obtain⟨rfl,rfl⟩:=h;obtain⟨l,c,_,h1,_,_,h5,_⟩:=dt hh hr hx hm;have hk:=h5 k rfl;subst hk;exact ba.value hh (x:=.int .i64 c) (by simp[Builtin.cap_,h1,run_underlying ht,goInt]) (by simp[VR])
 cases h
def Yg1:∀{l:List V} {u:V} {xs:List Value},y8 (l)=some u->aV μ l xs->∃y ys z,xs=y::ys/\(ys.foldlM Builtin.min2 y).run P w=.ok z w/\VR μ u z:=by
 intro l;induction l using y8.induct<;>intro u xs h hx
 case case1=>simp[y8]at h
 case case2 x=>
  simp only[y8,ar]at h;subst h
  obtain⟨y,ys,rfl,h1,h2⟩:=kW.1 hx
  simp only[aV]at h2;subst h2
  exact⟨y,[],y,rfl,by simp,h1⟩
 case case3 k p k' q rest ih=>
  simp only[y8]at h
  obtain⟨y,ys,rfl,h1,h2⟩:=kW.1 hx
  obtain⟨y',ys',rfl,h3,h4⟩:=kW.1 h2
  simp only[VR]at h1 h3
  subst h1;subst h3
  obtain⟨y,ys,z,e,hz,hv⟩:=ih h (xs:=.int k (if q<p then q else p)::ys') (kW.2 ⟨_,_,rfl,by simp[VR],h4⟩)
  simp only[jW]at e
  obtain⟨rfl,rfl⟩:=e
  exact⟨_,_,z,rfl,by simpa[Builtin.min2]using hz,hv⟩
 case case4 h1 h2 h3=>unfold y8 at h;split at h<;>simp_all<;>exact absurd rfl (h3 _ _ _ _ _ rfl rfl rfl rfl)
def Yg4:∀{l:List V} {u:V} {xs:List Value},y_ (l)=some u->aV μ l xs->∃y ys z,xs=y::ys/\(ys.foldlM Builtin.max2 y).run P w=.ok z w/\VR μ u z:=by
 intro l;induction l using y_.induct<;>intro u xs h hx
 case case1=>simp[y_]at h
 case case2 x=>
  simp only[y_,ar]at h;subst h
  obtain⟨y,ys,rfl,h1,h2⟩:=kW.1 hx
  simp only[aV]at h2;subst h2
  exact⟨y,[],y,rfl,by simp,h1⟩
 case case3 k p k' q rest ih=>
  simp only[y_]at h
  obtain⟨y,ys,rfl,h1,h2⟩:=kW.1 hx
  obtain⟨y',ys',rfl,h3,h4⟩:=kW.1 h2
  simp only[VR]at h1 h3
  subst h1;subst h3
  obtain⟨y,ys,z,e,hz,hv⟩:=ih h (xs:=.int k (if p<q then q else p)::ys') (kW.2 ⟨_,_,rfl,by simp[VR],h4⟩)
  simp only[jW]at e
  obtain⟨rfl,rfl⟩:=e
  exact⟨_,_,z,rfl,by simpa[Builtin.max2]using hz,hv⟩
 case case4 h1 h2 h3=>unfold y_ at h;split at h<;>simp_all<;>exact absurd rfl (h3 _ _ _ _ _ rfl rfl rfl rfl)
def Yzv(hh:bq P μ w st)(hr:RR μ r n a.tmps){xs:Array Operand}(hx:xp P xs.toList=some ss)
  (h:AP ss call r st=some (v,aB)):ba P μ w st (do pure (.value (<-Builtin.min_ ts ty (xs.map a.eval)))) v aB:=by
 unfold AP at h;split at h
 ·rename_i l hl;split at h
  ·rename_i u hu;simp only[ar,bB]at h;obtain⟨rfl,rfl⟩:=h;obtain⟨y,ys,z,e,hz,hv⟩:=Yg1 (P:=P) (w:=w) (Ysa l▸hu) (Ja hh hr hx hl);refine ba.value hh (x:=z) ?_ hv;simp only[Builtin.min_,Array.toList_map,e];exact hz
  cases h
 cases h
def Yzu(hh:bq P μ w st)(hr:RR μ r n a.tmps){xs:Array Operand}(hx:xp P xs.toList=some ss)
  (h:tG ss call r st=some (v,aB)):ba P μ w st (do pure (.value (<-Builtin.max_ ts ty (xs.map a.eval)))) v aB:=by
 unfold tG at h;split at h
 ·rename_i l hl;split at h
  ·rename_i u hu;simp only[ar,bB]at h;obtain⟨rfl,rfl⟩:=h;obtain⟨y,ys,z,e,hz,hv⟩:=Yg4 (P:=P) (w:=w) (Yse l▸hu) (Ja hh hr hx hl);refine ba.value hh (x:=z) ?_ hv;simp only[Builtin.max_,Array.toList_map,e];exact hz
  cases h
 cases h
end
section
variable {P:Program} {μ:Mu} {w:World} {st aB:St} {r:T V} {n:Nat} {a:Act} {call:cQ} {v:V}
def Zpm{t:TypeId}(h:BG P t=some kd):(∃k,kd=.int k/\P.underlying t=some (.int k))\/(kd=.str/\P.underlying t=some .string):=by
 unfold BG at h;split at h
 ·simp only[ar]at h;subst h;rename_i k hk;exact .inl ⟨k,rfl,hk⟩
 ·simp only[ar]at h;subst h;rename_i hk;exact .inr ⟨rfl,hk⟩
 cases h
def Zu8{t:TypeId}(hd:P.underlying t=some d)(h:BG P t=some kd){k q:V}{x y:Value}(hx:VR μ k x)(hy:VR μ q y)(hb:TY kd k q=some b):
  Instr.sameNow d x y=some b/\(b=true->x=y/\Instr.sameBits 10000 y x=true):=by
 rcases Zpm h with⟨kk,rfl,h1⟩|⟨rfl,h1⟩
 ·rw[hd,ar]at h1;subst h1;cases k<;>cases q<;>simp only[TY,reduceCtorEq]at hb;split at hb
  ·rename_i hc;obtain⟨rfl,rfl⟩:=hc;simp only[ar]at hb;subst hb;simp only[VR]at hx hy;subst hx;subst hy;refine⟨by simp[Instr.sameNow],fun hb=>?_⟩;simp only[beq_iff_eq]at hb;subst hb;simp[Instr.sameBits]
  cases hb
 rw[hd,ar]at h1;subst h1;cases k<;>cases q<;>simp only[TY,reduceCtorEq]at hb;rename_i s s';simp only[ar]at hb;subst hb;simp only[VR]at hx hy;subst hx;subst hy;have e:((⟨s.toArray⟩:ByteArray)==⟨s'.toArray⟩)=(s==s'):=by show (s.toArray==s'.toArray)=(s==s');simp
 refine⟨by simp only[Instr.sameNow,e],fun hb=>?_⟩;simp only[beq_iff_eq]at hb;subst hb;exact⟨rfl,by simp only[Instr.sameBits];rw[e];simp⟩
def UJ{t:TypeId}(hd:P.underlying t=some d)(h:BG P t=some kd){k:V}{x:Value}(hx:VR μ k x):
  ∀{es:List (V×V)} {xs:List MapEntry} {i b:Nat} {o:Option (Nat×V)},jI μ es xs b->fY kd k es i=some o->
   match o with
   |none=>Instr.findNow d x xs i=some none
   |some (j,u)=>∃e:MapEntry,i<=j/\xs[j-i]?=some e/\VR μ u e.val/\Instr.findNow d x xs i=some (some (j,e.val))/\x=e.key/\Instr.sameBits 10000 e.key x=true:=by
 intro es;induction es with
 |nil=> intro xs i b o hm hf;simp only[jI]at hm;subst hm;simp only[fY,ar]at hf;subst hf;simp[Instr.findNow]
 |cons p es ih=>
  intro xs i b o hm hf;obtain⟨q,u⟩:=p;obtain⟨e,ys,rfl,h1,h2,h3,h4⟩:=hm;simp only[fY]at hf;split at hf
  ·rename_i hb;simp only[ar]at hf;subst hf;obtain⟨g1,g2⟩:=Zu8 hd h hx h1 hb;exact⟨e,aN _,by simp,h2,by simp[Instr.findNow,g1],(g2 rfl).1,(g2 rfl).2⟩
  ·rename_i hb;obtain⟨g1,_⟩:=Zu8 hd h hx h1 hb;have:=ih h4 hf;cases o with
   |none=>simpa[Instr.findNow,g1]using this
   |some ju=> obtain⟨j,u'⟩:=ju;obtain⟨e',k1,k2,k3,k4,k5⟩:=this;refine⟨e',by omega,?_,k3,by simpa[Instr.findNow,g1]using k4,k5⟩;rw[show j-i=(j-(i+1))+1 by omega];simpa using k2
  cases hf
def Zsp{t:TypeId}(h:BG P t=some kd){x:Value}(q:Nat):(Instr.checkKey b (q+1) t x).run P w=.ok () w:=by
 rcases Zpm h with⟨kk,rfl,h1⟩|⟨rfl,h1⟩
 ·cases x<;>simp only[Instr.checkKey,Sem.run_bind,run_underlying h1,Result.andThen_ok,Sem.run_pure]
 cases x<;>simp only[Instr.checkKey,Sem.run_bind,run_underlying h1,Result.andThen_ok,Sem.run_pure]
def P7{t:TypeId}(h:BG P t=some kd){x:Value}:(Instr.checkKey b 10000 t x).run P w=.ok () w:=Zsp h 9999
def Yan{t:TypeId}(h:BG P t=some kd):∃d,P.underlying t=some d:=by rcases Zpm h with⟨kk,_,h1⟩|⟨_,h1⟩<;>exact⟨_,h1⟩
def Yg8(hh:bq P μ w st)(hr:RR μ r n a.tmps){t e:TypeId}{ok:Bool}(ht:P.underlying t=some (.map kt e))(hk:BG P kt=some kd)(hz:tn P e=some z)
  (hx:bJ P x=some sm) (hy:bJ P y=some sk) (h:Jx kd z sm sk ok call r st=some (v,aB)):
  ba P μ w st (do pure (.value (<-Instr.lookup t (a.eval x) (a.eval y) ok))) v aB:=by
 unfold Jx at h;split at h
 ·rename_i m k hm ta;have h1:=dt hh hr hx hm;have h2:=dt hh hr hy ta;obtain⟨d,hd⟩:=Yan hk;obtain⟨zx,UH,DH⟩:=Yfp (w:=w) hz;split at h
  ·cases m<;>simp at h;case bW=>
    simp only[VR]at h1
    simp only[fY,ar,bB]at h
    obtain⟨rfl,rfl⟩:=h
    refine ba.value hh (x:=if ok then .tuple #[zx,.bool false] else zx) ?_ ?_
    ·simp[Instr.lookup,run_underlying ht,h1,P7 hk,Instr.findKey,run_underlying hd,Instr.findNow,UH,Result.andThen]
    ·cases ok
     ·simpa using DH μ
     ·simp only[if_true,VR];exact⟨_,rfl,by simp[aV,VR];exact DH μ⟩
   case map i=>
    obtain⟨l,hl,h1⟩:=h1
    split at h
    ·rename_i es DI
     split at DI
     ·rename_i es0 hg
      simp only[ar]at DI;subst DI
      obtain⟨jd,g1,g2⟩:=hh.get hl hg
      have vE:=UI (P:=P) g1 (by simp)
      split at h
      ·rename_i j u ho
       simp only[ar,bB]at h
       obtain⟨rfl,rfl⟩:=h
       obtain⟨en,_,_,k3,k4,_⟩:=UJ hd hk h2 g2 ho
       refine ba.value hh (x:=if ok then .tuple #[en.val,.bool true] else en.val) ?_ ?_
       ·simp[Instr.lookup,run_underlying ht,h1,vE,P7 hk,Instr.findKey,run_underlying hd,k4,Result.andThen]
       ·cases ok
        ·simpa using k3
        ·simp only[if_true,VR];exact⟨_,rfl,by simp[aV,VR];exact k3⟩
      ·rename_i ho
       simp only[ar,bB]at h
       obtain⟨rfl,rfl⟩:=h
       have k4:=UJ hd hk h2 g2 ho
       simp only at k4
       refine ba.value hh (x:=if ok then .tuple #[zx,.bool false] else zx) ?_ ?_
       ·simp[Instr.lookup,run_underlying ht,h1,vE,P7 hk,Instr.findKey,run_underlying hd,k4,UH,Result.andThen]
       ·cases ok
        ·simpa using DH μ
        ·simp only[if_true,VR];exact⟨_,rfl,by simp[aV,VR];exact DH μ⟩
      ·cases h
     ·cases DI
    ·cases h
  cases h
 cases h
def Zj5(w:World)(b:Nat)(o:Obj):({w with heap:=w.heap.setIfInBounds b o}:World).heap[b]?=if b<w.heap.size then some o else none:=by show (w.heap.setIfInBounds b o)[b]?=_;rw[Array.getElem?_setIfInBounds];simp
def Zj6{o:Obj}(h:w.heap[i]?=some o)(ho:∀c e f,o≠.cells c e f):(setObj i o').run P w=.ok () {w with heap:=w.heap.setIfInBounds i o'}:=by simp only[setObj,Sem.run,h]
def bN.setObj(hh:bq P μ w st)(hl:μ i=some l){o o':O}(hg:st.h.get i=some o)(hw:o.wr=true)
  (hm:OM P μ {w with heap:=w.heap.setIfInBounds l.b ob} o' l):bN P μ w st μ {w with heap:=w.heap.setIfInBounds l.b ob} (st.write i o') [i]:=
 bN.write hh hl hg hw rfl rfl rfl (by simp) (fun b hb=>by
  show (w.heap.setIfInBounds l.b ob)[b]?=_
  rw[TM (Ne.symm hb)]) hm
def jI.set:∀{es:List (V×V)} {xs:List MapEntry} {b:Nat},jI μ es xs b->∀{j:Nat} {k u:V} {x y:Value},VR μ k x->VR μ u y->∀{e:MapEntry},xs[j]?=some e->
  jI μ (es.set j (k,u)) (xs.set j {e with key:=x,val:=y}) b
 |[],xs,b,h,j,k,u,x,y,_,_,e,he=>by simp[jI]at h;subst h;simp at he
 |(k0,u0)::es,xs,b,h,j,k,u,x,y,h1,h2,e,he=>by
  obtain⟨e0,ys,rfl,g1,g2,g3,g4⟩:=h
  cases j with
  |zero=>simp at he;subst he;exact⟨_,_,rfl,h1,h2,g3,g4⟩
  |succ j=>exact⟨e0,_,rfl,g1,g2,g3,jI.set g4 h1 h2 (by simpa using he)⟩
def jI.push:∀{es:List (V×V)} {xs:List MapEntry} {b:Nat},jI μ es xs b->∀{k u:V} {x y:Value},VR μ k x->VR μ u y->∀{c:Nat},c=b+xs.length->
  jI μ (es++[(k,u)]) (xs++[{key:=x,val:=y,born:=c}]) b
 |[],xs,b,h,k,u,x,y,h1,h2,c,hc=>by simp[jI]at h;subst h;exact⟨_,_,rfl,h1,h2,by simpa using hc,rfl⟩
 |(k0,u0)::es,xs,b,h,k,u,x,y,h1,h2,c,hc=>by
  obtain⟨e0,ys,rfl,g1,g2,g3,g4⟩:=h
  exact⟨e0,_,rfl,g1,g2,g3,jI.push g4 h1 h2 (by simp at hc;omega)⟩
def ba.skip{s:Sem Unit}{w':World}{μ':Mu}{ws:List Nat}(hs:s.run P w=.ok () w')(h:bN P μ w st μ' w' aB ws):ba P μ w st (do s;pure .skip) (.aU []) aB:=
 ⟨.skip,undef,w',μ',ws,by simp[hs,Result.andThen],.inr ⟨rfl,rfl⟩,⟨[],rfl,by simp[aV]⟩,h⟩
def Zu5(hh:bq P μ w st)(hr:RR μ r n a.tmps){t e:TypeId}{z:Operand}{sv:Src}(ht:P.underlying t=some (.map kt e))(hk:BG P kt=some kd)
  (hx:bJ P x=some sm) (hy:bJ P y=some sk) (hz:bJ P z=some sv) (h:GJ kd sm sk sv call r st=some (v,aB)):
  ba P μ w st (do Instr.mapUpdate t (a.eval x) (a.eval y) (a.eval z);pure .skip) v aB:=by
 unfold GJ at h;split at h
 ·rename_i i k u hm ta hu;obtain⟨l,hl,h1⟩:=dt hh hr hx hm;have h2:=dt hh hr hy ta;have h3:=dt hh hr hz hu;obtain⟨d,hd⟩:=Yan hk;split at h
  ·split at h
   ·rename_i es DI;obtain⟨jd,g1,g2⟩:=hh.get hl DI;have vE:=UI (P:=P) g1 (by simp);have hb:l.b<w.heap.size:=(hh.dw i l hl).2;split at h
    ·rename_i j _ hf;simp only[ar,bB]at h;obtain⟨rfl,rfl⟩:=h;obtain⟨en,k1,k2,k3,k4,k5,k6⟩:=UJ hd hk h2 g2 hf;simp only[Nat.sub_zero]at k2;have P8:=Zj6 (P:=P) (o':=.map ((⟨jd⟩:Array MapEntry).modify j fun e=>{e with key:=a.eval y,val:=a.eval z}) jd.length) g1 (by simp);refine ba.skip (μ':=μ) (ws:=[i]) (w':={w with heap:=w.heap.setIfInBounds l.b (.map ((⟨jd⟩:Array MapEntry).modify j fun e=>{e with key:=a.eval y,val:=a.eval z}) jd.length)}) ?_ (bN.setObj hh hl DI rfl ⟨jd.set j {en with key:=a.eval y,val:=a.eval z},?_,?_⟩)
     ·have P9:(Instr.keyThatStays en.key (a.eval y)).run P w=.ok (a.eval y) w:=by simp[Instr.keyThatStays,k6]
      have de:(((⟨jd⟩:Array MapEntry)[j]?).map (·.key)).getD (a.eval y)=en.key:=by simp[k2]
      simp only[Instr.mapUpdate,Sem.run_bind,run_underlying ht,Result.andThen,h1,vE,P7 hk,Instr.findKey,run_underlying hd,k4,Sem.run_pure,de,P9,P8]
     ·rw[Zj5,av hb];congr 2
      ·apply Array.ext';apply pM;intro q;rw[Es,Array.getElem?_modify];by_cases e:j=q
       ·subst e;obtain⟨hj,hje⟩:=yL.1 k2;simp[hj,hje]
       simp[e,fk e]
      simp
     exact g2.set h2 h3 k2
    ·rename_i hf;simp only[ar,bB]at h;obtain⟨rfl,rfl⟩:=h;have k4:=UJ hd hk h2 g2 hf;simp only at k4;have P8:=Zj6 (P:=P) (o':=.map ((⟨jd⟩:Array MapEntry).push {key:=a.eval y,val:=a.eval z,born:=jd.length}) (jd.length+1)) g1 (by simp);refine ba.skip (μ':=μ) (ws:=[i]) (w':={w with heap:=w.heap.setIfInBounds l.b (.map ((⟨jd⟩:Array MapEntry).push {key:=a.eval y,val:=a.eval z,born:=jd.length}) (jd.length+1))}) ?_ (bN.setObj hh hl DI rfl ⟨jd++[{key:=a.eval y,val:=a.eval z,born:=jd.length}],?_,?_⟩)
     ·simp only[Instr.mapUpdate,Sem.run_bind,run_underlying ht,Result.andThen,h1,vE,P7 hk,Instr.findKey,run_underlying hd,k4,Sem.run_pure,P8]
     ·rw[Zj5,av hb];simp
     exact g2.push h2 h3 (by simp)
    cases h
   cases h
  cases h
 cases h
def Ycr(hh:bq P μ w st)(hr:RR μ r n a.tmps)(hx:bJ P x=some s)
  (h:Jz s call r st=some (v,aB)):ba P μ w st (do pure (.value (<-Instr.next (a.eval x) true ty))) v aB:=by
 unfold Jz at h;split at h
 ·rename_i i hm;obtain⟨l,hl,h1⟩:=dt hh hr hx hm;split at h
  ·rename_i q pos hg;obtain⟨g1,g2⟩:=hh.get hl hg;rw[g2]at h1;have vE:=UI (P:=P) g1 (by simp);have hb:l.b<w.heap.size:=(hh.dw i l hl).2;have mY:(⟨q.toArray⟩:ByteArray).size=q.length:=rfl;split at h
   ·rename_i hp;simp only[ar,bB]at h;obtain⟨rfl,rfl⟩:=h;have P8:=Zj6 (P:=P) (o':=.stringIter ⟨q.toArray⟩ (pos+(Utf8.decode ⟨q.toArray⟩ pos).2)) g1 (by simp);refine⟨.value (.tuple #[.bool true,.int .i64 pos,.int .i32 (Utf8.decode ⟨q.toArray⟩ pos).1]),_,_,μ,[i],?_,.inl rfl,?_,bN.setObj hh hl hg rfl (ob:=.stringIter ⟨q.toArray⟩ (pos+(Utf8.decode ⟨q.toArray⟩ pos).2)) ⟨?_,g2⟩⟩
    ·simp[Instr.next,h1,vE,Result.andThen,mY,hp,P8,goInt, -ByteArray.size_data]
    ·simp only[VR];exact⟨_,rfl,by simp[aV,VR]⟩
    rw[Zj5,av hb]
   rename_i hp;simp only[ar,bB]at h;obtain⟨rfl,rfl⟩:=h;refine ba.value hh (x:=.tuple #[.bool false]) ?_ (by simp only[VR];exact⟨_,rfl,by simp[aV,VR]⟩);simp[Instr.next,h1,vE,Result.andThen,mY,hp, -ByteArray.size_data]
  cases h
 cases h
end
end Go.Mx
