/-The operations of M stand for the Go mod-/
import Derived.Test.YtdlikflhcjmkeaaGreatDoorMxOp4
import Derived.Laws.IdiomStrings
import Derived.Lib.Bytealg
set_option linter.all false
namespace Go.Mx
open Go
section
variable {P:Program} {μ:Mu} {w:World} {st st':St} {r:T V} {n:Nat} {a:Act} {call:Za0} {v:V}
def Zlr(zs:List V)(k:Nat):(Zeh zs k).length=k*zs.length:=by simp[Zeh]
def Zla{zs:List V}{xs:List Value}(h:VRs μ zs xs)(k:Nat):VRs μ (Zeh zs k) (madeCells ⟨xs⟩ (k*zs.length)).toList:=by
 have hl:=h.length
 refine VRs.of_get (by simp[Zeh,madeCells]) fun j u hu=>?_
 have hj:j<k*zs.length:=by
  have:=(Yro.1 hu).1
  simpa[Zeh]using this
 have hz:0<zs.length:=by
  rcases Ytx zs.length with e|e
  ·rw[e]at hj;simp at hj
  ·exact e
 have hmod:j%zs.length<zs.length:=Yri _ hz
 simp only[Zeh,Yq4,Ytw hj,Ys5,Yqc]at hu
 obtain⟨y,h1,h2⟩:=h.get (i:=j%zs.length) (v:=zs[j%zs.length]) (by simp[hmod])
 refine⟨y,?_,?_⟩
 ·simp only[madeCells,Array.toList_map,Array.toList_range,Yq4,Ytw hj,Ys5,Yqc]
  have h1':(⟨xs⟩:Array Value)[j%xs.length]?=some y:=by rw[hl];simpa using h1
  simp only[Array.size,getElem!_def,h1']
 ·rw[←hu]
  simpa[List.getD,hmod]using h2
def Zom{zs:List V}(h:zs.all V.one=true)(k:Nat):∀{xs:List Value},VRs μ (Zeh zs k) xs→∀x∈xs,x.oneCell'=true:=by
 intro xs hx
 refine Znf hx ?_
 rw[Yrs]
 intro u hu
 simp only[Zeh,Yts,List.mem_range]at hu
 obtain⟨j,hj,rfl⟩:=hu
 have hz:0<zs.length:=by
  rcases Ytx zs.length with e|e
  ·rw[e]at hj;simp at hj
  ·exact e
 have hmod:j%zs.length<zs.length:=Yri _ hz
 rw[Yrs]at h
 simpa[List.getD,hmod]using h zs[j%zs.length] (by simp)
def Ycl(hh:Za7 P μ w st)(hr:RR μ r n a.tmps){t e:TypeId}{s len:Nat}{z:V}{parts:Array (Nat×Operand)}{cps:List (Nat×Nat×Src)}
  (ht:P.underlying t=some (.slice e)) (hs:Zbr P e=some s) (hz:Ze1 P e=some z) (hle:¬len*s > 2^24) (hzs:z.cells.length=s)
  (hc:Zh4 P (fun i=>some (i*s,s)) parts.toList=some cps) (h:Zex e s len (Zeh z.cells len) cps call r st=some (v,st')):
  Za3 P μ w st (do pure (.value (←Instr.buildSlice t len (parts.map fun (i,x)=>(i,a.eval x))))) v st':=by
 unfold Zex at h
 split at h
 ·rename_i ps hps
  split at h
  ·rename_i l hl
   split at h
   ·rename_i hone
    simp only[Yqc,Yqf]at h
    obtain⟨rfl,rfl⟩:=h
    obtain⟨i,x,hi,hx,hzx⟩:=Zdr hz
    have hz1:=(hzx μ).cells
    have hsim:=Zla hz1 len
    rw[hzs]at hsim
    obtain⟨l',h1,h2⟩:=Zpe hh hr hc hps hsim hl
    have hll:=h2.length
    refine Za3.newRow hh (v:=.slice st.n 0 len (some len) s) (xs:=l') (x:=.slice (some ⟨w.heap.size,0,none⟩) len len) ?_ h2 (Znf h2 hone) ?_
    ·have h1':Instr.fill (fun i=>some (i*s,s)) (madeCells x.cells (len*s)) (parts.map fun p=>(p.1,a.eval p.2)).toList=some ⟨l'⟩:=by
      rw[←h1]
      simp
     simp only[Instr.buildSlice,Sem.run_bind,run_underlying ht,Result.andThen,Zb0 hs,Yqe hle]
     split
     ·rename_i e0
      have hcells:((Array.range (len*s)).map ((#[]:Array Value)[·%(#[]:Array Value).size]!))=madeCells x.cells (len*s):=by
       simp[madeCells,e0]
      simp only[Sem.run_bind,Sem.run_pure,Result.andThen,hcells]
      rw[h1']
      simp[Go.newRow,Result.andThen]
     ·have hcells:((Array.range (len*s)).map (x.cells[·%x.cells.size]!))=madeCells x.cells (len*s):=rfl
      simp only[zeroValue,typeInfo,Sem.run_bind,Sem.run_pure,Result.andThen,hi,hx,run_program]
      simp only[hcells]
      rw[h1']
      simp[Go.newRow,Result.andThen]
    ·have hfill:l.length=len*s:=by
      have:∀(ps:List (Nat×Nat×V)) (cs l:List V),Znl cs ps=some l→l.length=cs.length:=by
       intro ps
       induction ps with
       |nil=>intro cs l h;simp only[Znl,Yqc]at h;rw[h]
       |cons p ps ih=>
        intro cs l h
        obtain⟨o,s,u⟩:=p
        simp only[Znl]at h
        split at h
        ·rename_i hc
         rw[ih _ _ h,Zb3 (by omega)]
        ·cases h
      rw[this ps _ l hl,Zlr,hzs]
     simp only[VR]
     exact⟨⟨w.heap.size,0,l'.length⟩,len,by simp,by simp,Yqg _,by simp[hll,hfill],by simp,by simp⟩
   ·cases h
  ·cases h
 ·cases h
def Zwz(hh:Za7 P μ w st)(hr:RR μ r n a.tmps){t e:TypeId}{s b:Nat}{z:V}{x y:Operand}{sx sy:Src}(ht:P.underlying t=some (.slice e))(hs:Zbr P e=some s)(hb:Zh5 P e=some b)(hz:Ze1 P e=some z)
  (hone:z.cells.all V.one=true) (hx:Zba P x=some sx) (hy:Zba P y=some sy) (h:Zck e s b z.cells sx sy call r st=some (v,st')):
  Za3 P μ w st (do pure (.value (←Instr.makeSlice t (a.eval x) (a.eval y)))) v st':=by
 unfold Zck at h
 split at h
 ·rename_i k l k' c h1 h2
  have e1:=Zap hh hr hx h1
  have e2:=Zap hh hr hy h2
  simp only[VR]at e1 e2
  split at h
  ·rename_i hc
   obtain⟨hl0,hlc,hbc,hc62,hsz,hs0⟩:=hc
   simp only[Yqc,Yqf]at h
   obtain⟨rfl,rfl⟩:=h
   obtain⟨i,zx,hi,hzx,hzr⟩:=Zdr hz
   unfold Zbr at hs
   unfold Zh5 at hb
   simp only[hi,Ys5,Yqc]at hs hb
   have hz1:=(hzr μ).cells
   have hsim:=Zla hz1 c.toNat
   rw[←hsz]at hsim
   have hrun:=run_make (P:=P) w t e i zx ht hi hzx k k' l c hl0 hlc (by rw[hb];omega) (by omega)
   rw[hs]at hrun
   refine Za3.newRow hh (v:=.slice st.n 0 l.toNat (some c.toNat) s) (xs:=(madeCells zx.cells (c.toNat*s)).toList) (x:=.slice (some ⟨w.heap.size,0,none⟩) l.toNat c.toNat) ?_ hsim (Zom hone c.toNat hsim) ?_
   ·rw[e1,e2,hrun]
   ·simp only[VR]
    exact⟨⟨w.heap.size,0,_⟩,c.toNat,by simp;rfl,by simp,by omega,by simp[madeCells],by simp,by simp⟩
  ·cases h
 ·cases h
def Za3.newObj(hh:Za7 P μ w st){s:Sem Value}{x:Value}{o:O}{ob:Obj}(hs:s.run P w=.ok x (w.alloc ob))
  (ho:OM P (fun i=>if i=st.n then some ⟨w.heap.size,0,0⟩ else μ i) (w.alloc ob) o ⟨w.heap.size,0,0⟩) (hv:VR (fun i=>if i=st.n then some ⟨w.heap.size,0,0⟩ else μ i) v x):
  Za3 P μ w st (do pure (.value (←s))) v (st.alloc o):=
 ⟨Next.value x,x,_,_,[],by simp[hs,Result.andThen],.inl rfl,hv,Stp.alloc hh o ob 0 0 ho⟩
def Zne(w:World)(o:Obj):(w.alloc o).heap[w.heap.size]?=some o:=by
 show (w.heap.push o)[w.heap.size]?=some o
 simp
def Yek(hh:Za7 P μ w st){t:TypeId}(h:Zhn call r st=some (v,st')):Za3 P μ w st (do pure (.value (←Instr.makeMap t none))) v st':=by
 unfold Zhn at h
 simp only[Yqc,Yqf]at h
 obtain⟨rfl,rfl⟩:=h
 refine Za3.newObj hh (v:=.map st.n) (x:=.map (some w.heap.size)) (ob:=.map #[] 0) ?_ ⟨[],by simpa using Zne w _,rfl⟩ ?_
 ·simp[Instr.makeMap,Result.andThen]
 ·simp only[VR];exact⟨⟨w.heap.size,0,0⟩,by simp,rfl⟩
def Yam(hh:Za7 P μ w st)(hr:RR μ r n a.tmps){t e:TypeId}{d:ChanDir}{b:Nat}{x:Operand}{s:Src}(ht:P.underlying t=some (.chan d e))(hb:Zh5 P e=some b)(hx:Zba P x=some s)
  (h:Zeb b s call r st=some (v,st')):Za3 P μ w st (do pure (.value (←Instr.makeChan t (a.eval x)))) v st':=by
 unfold Zeb at h
 split at h
 ·rename_i q k hk
  have e1:=Zap hh hr hx hk
  simp only[VR]at e1
  split at h
  ·cases h
  ·rename_i hc
   simp only[Yqc,Yqf]at h
   obtain⟨rfl,rfl⟩:=h
   unfold Zh5 at hb
   simp only[Yql]at hb
   obtain⟨i,hi,rfl⟩:=hb
   refine Za3.newObj hh (v:=.chan st.n) (x:=.chan (some w.heap.size)) (ob:=.chan k.toNat #[] false 0 0 false) ?_ ⟨[],0,0,by simpa using Zne w _,by simp[VRs]⟩ ?_
   ·simp only[Instr.makeChan,e1,asInt,asIntOf,run_underlying ht,typeInfo,hi,Yqe hc,Result.andThen,Sem.run_bind,Sem.run_pure,run_program,run_newObj]
    rfl
   ·simp only[VR];exact⟨⟨w.heap.size,0,0⟩,by simp,rfl⟩
 ·cases h
def Zsj(hh:Za7 P μ w st)(hr:RR μ r n a.tmps){t:TypeId}{x:Operand}{s:Src}(ht:P.underlying t=some .string)(hx:Zba P x=some s)
  (h:Zc2 s call r st=some (v,st')):Za3 P μ w st (do pure (.value (←Instr.range t (a.eval x)))) v st':=by
 unfold Zc2 at h
 split at h
 ·rename_i q hk
  have e1:=Zap hh hr hx hk
  simp only[VR]at e1
  simp only[Yqc,Yqf]at h
  obtain⟨rfl,rfl⟩:=h
  refine Za3.newObj hh (v:=.ptr st.n 0) (x:=.pointer (some ⟨w.heap.size,0,none⟩)) (ob:=.stringIter ⟨q.toArray⟩ 0) ?_ (by simp only[OM];exact⟨Zne w _,trivial⟩) ?_
  ·simp[Instr.range,e1,run_underlying ht,Result.andThen]
  ·simp only[VR];exact⟨⟨w.heap.size,0,0⟩,by simp,rfl⟩
 ·cases h
def Zdh(g o:Nat)(t:TypeId)(lo hi:Nat):∀(vs:List Value) (i:Nat) (cur:List Value) (w:World),w.heap[g]?=some (.cells ⟨cur⟩ t (lo,hi))→o+i+vs.length≤cur.length→(∀v∈vs,v.oneCell'=true)→
  (∀j,o+i≤j→j<o+i+vs.length→¬(lo≤j∧j<hi))→(storeCells ⟨g,o,none⟩ vs i).run P w=.ok () (w.setRow g ⟨splice cur (o+i) vs⟩)
 |[],i,cur,w,hg,_,_,_=>by
  have e:splice cur (o+i) []=cur:=by simp[splice]
  rw[e,setRow_self w g _ t _ hg]
  simp[storeCells]
 |v::rest,i,cur,w,hg,hl,h1,hf=>by
  simp only[Yqd]at hl
  have hi':o+i<cur.length:=by omega
  have hcell:w.cell? ⟨g,o+i,none⟩=some cur[o+i]:=by simp[World.cell?,hg,hi']
  have hfro:w.frozen? ⟨g,o+i,none⟩=false:=by
   have:=hf (o+i) (Yqg _) (by simp)
   simp only[World.frozen?,hg]
   simp;omega
  have hst:(store ((⟨g,o,none⟩:Addr).add i) v).run P w=.ok () (w.setRow g ⟨cur.set (o+i) v⟩):=by
   rw[Zcd,run_store P w _ v _ (h1 v (by simp)),hcell]
   simp[hfro,setCell_eq_setRow w g (o+i) _ t _ v hg]
  have ih:=Zdh g o t lo hi rest (i+1) (cur.set (o+i) v) (w.setRow g ⟨cur.set (o+i) v⟩) (setRow_heap w g _ _ t _ hg) (by simp;omega) (fun x hx=>h1 x (by simp[hx]))
   (fun j hj1 hj2=>hf j (by omega) (by simp only[Yqd];omega))
  simp only[storeCells,Sem.run_bind,hst,Result.andThen_ok,ih,setRow_setRow]
  rw[←Yrq,Zl1 _ _ _ _ hi']
def Zji(hh:Za7 P μ w st){i o:Nat}{l:L}(hl:μ i=some l){c:List V}{e:TypeId}(hrow:st.row i=some (c,e,true)){vs:List V}{xs:List Value}(hv:VRs μ vs xs)(h1:∀x∈xs,x.oneCell'=true)
  (hlen:o+vs.length≤c.length):
  ∃w',(storeCells ⟨l.b,l.d+o,none⟩ xs).run P w=.ok () w'∧Stp P μ w st μ w' (st.write i (.cells (splice c o vs) e true)) [i]:=by
 obtain⟨c',lo,hi,g1,g2,g3,g4,g5,g6⟩:=hh.row hl hrow
 obtain⟨cur⟩:=c'
 have hxl:=hv.length
 simp only[List.size_toArray]at g2
 have hrun:=Zdh (P:=P) l.b (l.d+o) e lo hi xs 0 cur w g1 (by omega) h1 (fun j hj1 hj2=>by
  have:=(g6 rfl).2 (j-l.d) (by omega)
  rw[show l.d+(j-l.d)=j by omega]at this
  exact this)
 refine⟨_,hrun,?_⟩
 have hb:=setRow_heap w l.b _ (⟨splice cur (l.d+o+0) xs⟩:Array Value) e _ g1
 refine Stp.write hh hl (Zjj hrow) rfl rfl rfl rfl (by simp) (fun b hb=>setRow_other w l.b b _ hb) ⟨_,lo,hi,hb,?_,?_,?_,?_,g6⟩
 ·simp only[List.size_toArray]
  rw[Zb3 (by omega)];exact g2
 ·rw[Zb3 hlen];exact g3
 ·intro j u hu
  rw[Zeq hlen]at hu
  have e':∀k:Nat,(⟨splice cur (l.d+o+0) xs⟩:Array Value)[k]?=(splice cur (l.d+o+0) xs)[k]?:=fun k=>by simp
  rw[e',Zeq (by omega)]
  split at hu
  ·rename_i hj
   rw[Yqi (by omega)]
   obtain⟨y,hy,hr⟩:=hv.get hu
   exact⟨y,by rw[show l.d+j-(l.d+o+0)=j-o by omega];exact hy,hr⟩
  ·rename_i hj
   rw[Yqe (by omega)]
   obtain⟨y,hy,hr⟩:=g4 j u hu
   exact⟨y,by simpa using hy,hr⟩
 ·intro j x hlt hx
  have e':(⟨splice cur (l.d+o+0) xs⟩:Array Value)[l.d+j]?=(splice cur (l.d+o+0) xs)[l.d+j]?:=by simp
  rw[e',Zeq (by omega)]at hx
  split at hx
  ·exact h1 x (Yqn hx)
  ·exact g5 j x hlt (by simpa using hx)
def Ydg(hh:Za7 P μ w st)(hr:RR μ r n a.tmps){t:TypeId}{k:Nat}{x y:Operand}{sx sy:Src}(hk:Zbr P t=some k)(hx:Zba P x=some sx)(hy:Zba P y=some sy)
  (h:Ze5 k sx sy call r st=some (v,st')):Za3 P μ w st (do Instr.storeAt t (a.eval x) (a.eval y);pure .skip) v st':=by
 unfold Ze5 at h
 split at h
 ·rename_i i o u h1 h2
  obtain⟨l,hl,e1⟩:=Zap hh hr hx h1
  have e2:=Zap hh hr hy h2
  split at h
  ·rename_i c e hrow
   split at h
   ·rename_i hc
    simp only[Yqc,Yqf]at h
    obtain⟨rfl,rfl⟩:=h
    have hcl:=e2.cells
    have hlen:=hcl.length
    obtain⟨w',hw,hs⟩:=Zji hh hl hrow hcl (Znf hcl hc.2.2) (o:=o) (by omega)
    refine⟨.skip,undef,w',μ,[i],?_,.inr ⟨rfl,rfl⟩,⟨[],rfl,by simp[VRs]⟩,hs⟩
    have hsz:(a.eval y).cells.size=k:=by
     rw[←hc.1,←hlen];simp
    simp[Instr.storeAt,Instr.sureAddr,e1,storeVar,Zb0 hk,hsz,hw,Result.andThen]
   ·cases h
  ·cases h
 ·cases h
end
section
variable {P:Program} {μ:Mu} {w:World} {st st':St} {r:T V} {n:Nat} {a:Act} {call:Za0} {v:V}
def Za7.drew'(h:Za7 P μ w st):Za7 P μ w.drew st:=h.drew (w.drawn+1)
def Stp.undrew{μ':Mu}{w':World}{ws:List Nat}(h:Stp P μ w.drew st μ' w' st' ws):Stp P μ w st μ' w' st' ws:=
 ⟨h.hr,h.ext,h.nle,h.wl,⟨h.chg.os,h.chg.tape,h.chg.output,h.chg.size,h.chg.block⟩,h.new,h.keep,h.grow,h.full,h.wrt⟩
def Stp.newRow(hh:Za7 P μ w st){cs:List V}{xs:List Value}{e:TypeId}{lo hi:Nat}
  (hle:cs.length≤xs.length) (hc:∀(j:Nat) (u:V),cs[j]?=some u→∃x,xs[j]?=some x∧VR μ u x) (h1:∀x∈xs,x.oneCell'=true) (hf:xs.length≤lo∨hi≤lo):
  Stp P μ w st (fun i=>if i=st.n then some ⟨w.heap.size,0,xs.length⟩ else μ i) (w.alloc (.cells ⟨xs⟩ e (lo,hi))) (st.alloc (.cells cs e true)) []:=by
 have hmono:∀i l,μ i=some l→(fun i=>if i=st.n then some (⟨w.heap.size,0,xs.length⟩:L) else μ i) i=some l:=fun i l hl=>by
  have:=(hh.dom i l hl).1
  simp only
  rw[Yqe (by omega)];exact hl
 refine Stp.alloc hh (.cells cs e true) (.cells ⟨xs⟩ e (lo,hi)) 0 xs.length ⟨⟨xs⟩,lo,hi,?_,by simp,hle,fun j u hu=>?_,fun j y _ hy=>?_,fun _=>⟨rfl,fun j hj=>by simp only at hj ⊢;omega⟩⟩
 ·simp
 ·obtain⟨y,hy,hr⟩:=hc j u hu
  exact⟨y,by simpa using hy,VR.mono hmono u y hr⟩
 ·exact h1 y (Yqn (by simpa using hy))
def Za3.newRowD(hh:Za7 P μ w st){s:Sem Value}{x:Value}{cs:List V}{xs:List Value}{e:TypeId}{lo hi:Nat}(hs:s.run P w=.ok x (w.drew.alloc (.cells ⟨xs⟩ e (lo,hi))))
  (hle:cs.length≤xs.length) (hc:∀(j:Nat) (u:V),cs[j]?=some u→∃x,xs[j]?=some x∧VR μ u x) (h1:∀x∈xs,x.oneCell'=true) (hf:xs.length≤lo∨hi≤lo)
  (hv:VR (fun i=>if i=st.n then some ⟨w.heap.size,0,xs.length⟩ else μ i) v x):
  Za3 P μ w st (do pure (.value (←s))) v (st.alloc (.cells cs e true)):=
 ⟨Next.value x,x,_,_,[],by simp only[Sem.run_bind,hs,Result.andThen,Sem.run_pure],.inl rfl,hv,(Stp.newRow hh.drew' hle hc h1 hf (hi:=hi)).undrew⟩
def Zr4(hh:Za7 P μ w st)(hr:RR μ r n a.tmps){src dst e:TypeId}{x:Operand}{s:Src}(hs:P.underlying src=some .string)(hd:P.underlying dst=some (.slice e))(he:P.underlying e=some (.int .u8))(hx:Zba P x=some s)
  (h:Zcf e s call r st=some (v,st')):Za3 P μ w st (do pure (.value (←convert src dst (a.eval x)))) v st':=by
 unfold Zcf at h
 split at h
 ·rename_i m hm
  simp only[Yqc,Yqf]at h
  obtain⟨rfl,rfl⟩:=h
  have h1:=Zap hh hr hx hm
  simp only[VR]at h1
  have hrun:=run_bytes_of_string (P:=P) w src dst e ⟨m.toArray⟩ hs hd he
  rw[←h1]at hrun
  have hcap:=grownCap_ge w m.length 0 e
  have hsz:(⟨m.toArray⟩:ByteArray).size=m.length:=by simp[ByteArray.size]
  rw[hsz]at hrun
  have hl:(bytesRow ⟨m.toArray⟩ (grownCap w m.length 0 e)).toList=m.map (fun b=>Value.int .u8 b.toNat)++List.replicate (grownCap w m.length 0 e-m.length) (.int .u8 0):=by
   simp[bytesRow,hsz]
  have hsz':(bytesRow ⟨m.toArray⟩ (grownCap w m.length 0 e)).size=m.length+(grownCap w m.length 0 e-m.length):=by
   rw[←Array.length_toList,hl];simp
  refine Za3.newRowD hh (v:=.slice st.n 0 m.length none 1) (xs:=(bytesRow ⟨m.toArray⟩ (grownCap w m.length 0 e)).toList) (lo:=_) (hi:=_) hrun ?_ ?_ ?_ (.inl (by simp)) ?_
  ·rw[hl];simp
  ·intro j u hu
   rw[hl]
   have hj:j<m.length:=by
    have:=(Yro.1 hu).1
    simpa using this
   refine⟨_,Yrp (by simpa using hj) |>.trans (Yq4 ..) |>.trans (by rw[Yqh hj];rfl),?_⟩
   simp only[Yq4,Yqh hj,Ys5,Yqc]at hu
   rw[←hu];simp[VR]
  ·intro y hy
   rw[hl]at hy
   simp only[Yry,Yts,Ytn]at hy
   rcases hy with⟨b,_,rfl⟩|⟨_,rfl⟩<;>rfl
  ·simp only[VR]
   refine⟨⟨w.heap.size,0,_⟩,grownCap w m.length 0 e,by simp;rfl,by simp,hcap,?_,by simp,fun _=>?_⟩
   ·simp only[hsz'];omega
   ·simp only[hsz'];omega
 ·cases h
def Yfo{l:List V}{s:List UInt8}{xs:List Value}(h:VRs μ l xs)(hm:l.mapM (fun v=>match v with|.int .u8 n=>some (UInt8.ofNat n.toNat)|_=>none)=some s):
  ∃ns:List Int,xs=ns.map (Value.int .u8)∧s=ns.map (fun n=>UInt8.ofNat n.toNat):=by
 induction l generalizing s xs with
 |nil=>
  simp only[List.mapM_nil,pure,Yqc]at hm
  subst hm
  simp only[VRs]at h
  exact⟨[],by simp[h],rfl⟩
 |cons u l ih=>
  obtain⟨y,ys,rfl,h1,h2⟩:=Zaw.1 h
  simp only[List.mapM_cons]at hm
  cases u<;>simp only[bind,Option.bind,reduceCtorEq]at hm
  rename_i k q
  cases k<;>simp only[reduceCtorEq]at hm
  split at hm
  ·cases hm
  ·rename_i s' hs'
   simp only[pure,Yqc]at hm
   subst hm
   obtain⟨ns,rfl,rfl⟩:=ih h2 hs'
   simp only[VR]at h1
   exact⟨q::ns,by simp[h1],by simp⟩
def Zg4:∀(l:List Int) (r:ByteArray),l.foldl (fun r n=>r.push (UInt8.ofNat n.toNat)) r=⟨r.data++(l.map (fun n=>UInt8.ofNat n.toNat)).toArray⟩
 |[],r=>by simp
 |b::l,r=>by
  simp only[List.foldl_cons]
  rw[Zg4 l]
  simp[ByteArray.push]
def Ztp(hh:Za7 P μ w st)(hr:RR μ r n a.tmps){src dst e:TypeId}{x:Operand}{s:Src}(hs:P.underlying src=some (.slice e))(hd:P.underlying dst=some .string)(he:P.underlying e=some (.int .u8))(hx:Zba P x=some s)
  (h:Zc3 s call r st=some (v,st')):Za3 P μ w st (do pure (.value (←convert src dst (a.eval x)))) v st':=by
 unfold Zc3 at h
 split at h
 ·rename_i hm
  simp only[Yqc,Yqf]at h
  obtain⟨rfl,rfl⟩:=h
  have h1:=Zap hh hr hx hm
  simp only[VR]at h1
  refine Za3.value hh (x:=.string ByteArray.empty) ?_ (by simp only[VR];rfl)
  rw[h1,run_convert_bytes_string w src dst e none 0 0 hs he hd]
  simp[Conv.bytesToString]
 ·rename_i i o len cap hm
  obtain⟨l,c,hl,h1,_⟩:=Zap hh hr hx hm
  split at h
  ·rename_i cs e' rw' hrow
   split at h
   ·rename_i seg hseg
    split at h
    ·rename_i s' hmm
     simp only[Yqc,Yqf]at h
     obtain⟨rfl,rfl⟩:=h
     obtain⟨xs,hxs,hxl,hload,_,_⟩:=(hh.row hl hrow).seg hseg
     obtain⟨ns,rfl,rfl⟩:=Yfo hxs hmm
     refine Za3.value hh (x:=.string ⟨(ns.map (fun n=>UInt8.ofNat n.toNat)).toArray⟩) ?_ (by simp[VR])
     rw[h1,run_convert_bytes_string w src dst e _ _ _ hs he hd,run_bytesToString w _ len c ns hload,Zg4]
     have he0:ByteArray.empty.data=#[]:=rfl
     rw[he0];simp
    ·cases h
   ·cases h
  ·cases h
 ·cases h
def Zfx{i:Nat}{o:Obj}(h:w.heap[i]?=some o)(ho:∀c e f,o≠.cells c e f):(getObj i).run P w=.ok o w:=by
 simp only[getObj,Sem.run,h]
def Zhy.length:∀{es:List (V×V)} {xs:List MapEntry} {i:Nat},Zhy μ es xs i→xs.length=es.length
 |[],_,_,h=>by simp[Zhy]at h;simp[h]
 |(k,u)::es,_,i,h=>by
  obtain⟨e,ys,rfl,_,_,_,h5⟩:=h
  simp[Zhy.length h5]
def Zw6(hh:Za7 P μ w st)(hr:RR μ r n a.tmps){t ty:TypeId}{x:Operand}{s:Src}(ht:P.underlying t=some .string)(hx:Zba P x=some s)
  (h:Zfd 0 s call r st=some (v,st')):Za3 P μ w st (do pure (.value (←Builtin.len_ #[t] ty #[a.eval x]))) v st':=by
 unfold Zfd at h
 cases hm:s.ev r with
 |none=>simp[hm]at h
 |some q=>
  have h1:=Zap hh hr hx hm
  cases q<;>simp[hm]at h
  rename_i q
  obtain⟨rfl,rfl⟩:=h
  simp only[VR]at h1
  have h2:(⟨q.toArray⟩:ByteArray).size=q.length:=rfl
  exact Za3.value hh (x:=.int .i64 q.length) (by simp[Builtin.len_,h1,run_underlying ht,goInt,h2, -ByteArray.size_data]) (by simp[VR])
def Zqw(hh:Za7 P μ w st)(hr:RR μ r n a.tmps){t ty e:TypeId}{x:Operand}{s:Src}(ht:P.underlying t=some (.slice e))(hx:Zba P x=some s)
  (h:Zfd 1 s call r st=some (v,st')):Za3 P μ w st (do pure (.value (←Builtin.len_ #[t] ty #[a.eval x]))) v st':=by
 unfold Zfd at h
 cases hm:s.ev r with
 |none=>simp[hm]at h
 |some q=>
  have h1:=Zap hh hr hx hm
  cases q<;>simp[hm]at h
  case nilslice=>
   obtain⟨rfl,rfl⟩:=h
   simp only[VR]at h1
   exact Za3.value hh (x:=.int .i64 0) (by simp[Builtin.len_,h1,run_underlying ht,goInt]) (by simp[VR])
  case empty=>
   obtain⟨rfl,rfl⟩:=h
   obtain⟨b,c,h1⟩:=h1
   exact Za3.value hh (x:=.int .i64 0) (by simp[Builtin.len_,h1,run_underlying ht,goInt]) (by simp[VR])
  case slice i o len cap sz=>
   obtain⟨rfl,rfl⟩:=h
   obtain⟨l,c,_,h1,_⟩:=h1
   exact Za3.value hh (x:=.int .i64 len) (by simp[Builtin.len_,h1,run_underlying ht,goInt]) (by simp[VR])
def Zw7(hh:Za7 P μ w st)(hr:RR μ r n a.tmps){t ty k e:TypeId}{x:Operand}{s:Src}(ht:P.underlying t=some (.map k e))(hx:Zba P x=some s)
  (h:Zfd 2 s call r st=some (v,st')):Za3 P μ w st (do pure (.value (←Builtin.len_ #[t] ty #[a.eval x]))) v st':=by
 unfold Zfd at h
 cases hm:s.ev r with
 |none=>simp[hm]at h
 |some q=>
  have h1:=Zap hh hr hx hm
  cases q<;>simp[hm]at h
  case nilmap=>
   obtain⟨rfl,rfl⟩:=h
   simp only[VR]at h1
   exact Za3.value hh (x:=.int .i64 0) (by simp[Builtin.len_,h1,run_underlying ht,goInt]) (by simp[VR])
  case map i=>
   split at h
   ·rename_i es hes
    simp only[Yqc,Yqf]at h
    obtain⟨rfl,rfl⟩:=h
    obtain⟨l,hl,h1⟩:=h1
    obtain⟨es',g1,g2⟩:=hh.get hl hes
    have hg:=Zfx (P:=P) g1 (by simp)
    exact Za3.value hh (x:=.int .i64 es.length) (by simp[Builtin.len_,h1,run_underlying ht,goInt,hg,Result.andThen,g2.length]) (by simp[VR])
   ·cases h
def Zqx(hh:Za7 P μ w st){t ty:TypeId}{k:Nat}{x:Value}(ht:(∃e,P.underlying t=some (.array k e))∨∃u e,P.underlying t=some (.pointer u)∧P.underlying u=some (.array k e))
  (h:Zgu k call r st=some (v,st')):Za3 P μ w st (do pure (.value (←Builtin.len_ #[t] ty #[x]))) v st':=by
 unfold Zgu at h
 simp only[Yqc,Yqf]at h
 obtain⟨rfl,rfl⟩:=h
 refine Za3.value hh (x:=.int .i64 k) ?_ (by simp[VR])
 rcases ht with⟨e,h1⟩|⟨u,e,h1,h2⟩
 ·simp[Builtin.len_,run_underlying h1,goInt]
 ·simp[Builtin.len_,run_underlying h1,run_underlying h2,goInt]
def Ymc(hh:Za7 P μ w st)(hr:RR μ r n a.tmps){t ty e:TypeId}{x:Operand}{s:Src}(ht:P.underlying t=some (.slice e))(hx:Zba P x=some s)
  (h:Zn4 s call r st=some (v,st')):Za3 P μ w st (do pure (.value (←Builtin.cap_ #[t] ty #[a.eval x]))) v st':=by
 unfold Zn4 at h
 split at h
 ·rename_i hm
  simp only[Yqc,Yqf]at h
  obtain⟨rfl,rfl⟩:=h
  have h1:=Zap hh hr hx hm
  simp only[VR]at h1
  exact Za3.value hh (x:=.int .i64 0) (by simp[Builtin.cap_,h1,run_underlying ht,goInt]) (by simp[VR])
 ·rename_i i o len k sz hm
  simp only[Yqc,Yqf]at h
  obtain⟨rfl,rfl⟩:=h
  obtain⟨l,c,_,h1,_,_,h5,_⟩:=Zap hh hr hx hm
  have hk:=h5 k rfl
  subst hk
  exact Za3.value hh (x:=.int .i64 c) (by simp[Builtin.cap_,h1,run_underlying ht,goInt]) (by simp[VR])
 ·cases h
def Yan:∀{l:List V} {u:V} {xs:List Value},Zuv (l)=some u→VRs μ l xs→∃y ys z,xs=y::ys∧(ys.foldlM Builtin.min2 y).run P w=.ok z w∧VR μ u z:=by
 intro l
 induction l using Zuv.induct<;>intro u xs h hx
 case case1=>simp[Zuv]at h
 case case2 x=>
  simp only[Zuv,Yqc]at h;subst h
  obtain⟨y,ys,rfl,h1,h2⟩:=Zaw.1 hx
  simp only[VRs]at h2;subst h2
  exact⟨y,[],y,rfl,by simp,h1⟩
 case case3 k p k' q rest ih=>
  simp only[Zuv]at h
  obtain⟨y,ys,rfl,h1,h2⟩:=Zaw.1 hx
  obtain⟨y',ys',rfl,h3,h4⟩:=Zaw.1 h2
  simp only[VR]at h1 h3
  subst h1;subst h3
  obtain⟨y,ys,z,e,hz,hv⟩:=ih h (xs:=.int k (if q<p then q else p)::ys') (Zaw.2 ⟨_,_,rfl,by simp[VR],h4⟩)
  simp only[Yqu]at e
  obtain⟨rfl,rfl⟩:=e
  exact⟨_,_,z,rfl,by simpa[Builtin.min2]using hz,hv⟩
 case case4 h1 h2 h3=>unfold Zuv at h;split at h<;>simp_all<;>exact absurd rfl (h3 _ _ _ _ _ rfl rfl rfl rfl)
def Yap:∀{l:List V} {u:V} {xs:List Value},Zuw (l)=some u→VRs μ l xs→∃y ys z,xs=y::ys∧(ys.foldlM Builtin.max2 y).run P w=.ok z w∧VR μ u z:=by
 intro l
 induction l using Zuw.induct<;>intro u xs h hx
 case case1=>simp[Zuw]at h
 case case2 x=>
  simp only[Zuw,Yqc]at h;subst h
  obtain⟨y,ys,rfl,h1,h2⟩:=Zaw.1 hx
  simp only[VRs]at h2;subst h2
  exact⟨y,[],y,rfl,by simp,h1⟩
 case case3 k p k' q rest ih=>
  simp only[Zuw]at h
  obtain⟨y,ys,rfl,h1,h2⟩:=Zaw.1 hx
  obtain⟨y',ys',rfl,h3,h4⟩:=Zaw.1 h2
  simp only[VR]at h1 h3
  subst h1;subst h3
  obtain⟨y,ys,z,e,hz,hv⟩:=ih h (xs:=.int k (if p<q then q else p)::ys') (Zaw.2 ⟨_,_,rfl,by simp[VR],h4⟩)
  simp only[Yqu]at e
  obtain⟨rfl,rfl⟩:=e
  exact⟨_,_,z,rfl,by simpa[Builtin.max2]using hz,hv⟩
 case case4 h1 h2 h3=>unfold Zuw at h;split at h<;>simp_all<;>exact absurd rfl (h3 _ _ _ _ _ rfl rfl rfl rfl)
def Ynv(hh:Za7 P μ w st)(hr:RR μ r n a.tmps){ts:Array TypeId}{ty:TypeId}{xs:Array Operand}{ss:List Src}(hx:Ziw P xs.toList=some ss)
  (h:Zk6 ss call r st=some (v,st')):Za3 P μ w st (do pure (.value (←Builtin.min_ ts ty (xs.map a.eval)))) v st':=by
 unfold Zk6 at h
 split at h
 ·rename_i l hl
  split at h
  ·rename_i u hu
   simp only[Yqc,Yqf]at h
   obtain⟨rfl,rfl⟩:=h
   obtain⟨y,ys,z,e,hz,hv⟩:=Yan (P:=P) (w:=w) (Yiz l▸hu) (Zez hh hr hx hl)
   refine Za3.value hh (x:=z) ?_ hv
   simp only[Builtin.min_,Array.toList_map,e]
   exact hz
  ·cases h
 ·cases h
def Ynu(hh:Za7 P μ w st)(hr:RR μ r n a.tmps){ts:Array TypeId}{ty:TypeId}{xs:Array Operand}{ss:List Src}(hx:Ziw P xs.toList=some ss)
  (h:Zf2 ss call r st=some (v,st')):Za3 P μ w st (do pure (.value (←Builtin.max_ ts ty (xs.map a.eval)))) v st':=by
 unfold Zf2 at h
 split at h
 ·rename_i l hl
  split at h
  ·rename_i u hu
   simp only[Yqc,Yqf]at h
   obtain⟨rfl,rfl⟩:=h
   obtain⟨y,ys,z,e,hz,hv⟩:=Yap (P:=P) (w:=w) (Yi2 l▸hu) (Zez hh hr hx hl)
   refine Za3.value hh (x:=z) ?_ hv
   simp only[Builtin.max_,Array.toList_map,e]
   exact hz
  ·cases h
 ·cases h
end
end Go.Mx
