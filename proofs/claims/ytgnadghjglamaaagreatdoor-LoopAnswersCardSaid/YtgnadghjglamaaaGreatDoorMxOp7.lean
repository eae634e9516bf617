/-The operations of M stand for the Go mod-/
import Derived.Test.YtgnadghjglamaaaGreatDoorMxOp4
import Derived.Laws.IdiomStrings
import Derived.Lib.Bytealg
import Derived.Shelf.Spec.BitsCarry
set_option linter.all false
namespace Go.Mx
open Go
section
variable {P:Program} {μ:Mu} {w:World} {st st':St} {r:T V} {n:Nat} {a:Act} {call:Za1} {v:V}
def Zl5(zs:List V)(k:Nat):(Zc8 zs k).length=k*zs.length:=by simp[Zc8]
def Zlm{zs:List V}{xs:List Value}(h:VRs μ zs xs)(k:Nat):VRs μ (Zc8 zs k) (madeCells ⟨xs⟩ (k*zs.length)).toList:=by
 have hl:=h.length
 refine VRs.of_get (by simp[Zc8,madeCells]) fun j u hu=>?_
 have hj:j<k*zs.length:=by
  have:=(Ys9.1 hu).1
  simpa[Zc8]using this
 have hz:0<zs.length:=by
  rcases Yu4 zs.length with e|e
  ·rw[e]at hj;simp at hj
  ·exact e
 have hmod:j%zs.length<zs.length:=Ys2 _ hz
 simp only[Zc8,Yso,Yve hj,Yuq,Yrs]at hu
 obtain⟨y,h1,h2⟩:=h.get (i:=j%zs.length) (v:=zs[j%zs.length]) (by simp[hmod])
 refine⟨y,?_,?_⟩
 ·simp only[madeCells,Array.toList_map,Array.toList_range,Yso,Yve hj,Yuq,Yrs]
  have h1':(⟨xs⟩:Array Value)[j%xs.length]?=some y:=by rw[hl];simpa using h1
  simp only[Array.size,getElem!_def,h1']
 ·rw[←hu]
  simpa[List.getD,hmod]using h2
def Zo7{zs:List V}(h:zs.all V.one=true)(k:Nat):∀{xs:List Value},VRs μ (Zc8 zs k) xs→∀x∈xs,x.oneCell'=true:=by
 intro xs hx
 refine Znw hx ?_
 rw[Ys5]
 intro u hu
 simp only[Zc8,Ytq,List.mem_range]at hu
 obtain⟨j,hj,rfl⟩:=hu
 have hz:0<zs.length:=by
  rcases Yu4 zs.length with e|e
  ·rw[e]at hj;simp at hj
  ·exact e
 have hmod:j%zs.length<zs.length:=Ys2 _ hz
 rw[Ys5]at h
 simpa[List.getD,hmod]using h zs[j%zs.length] (by simp)
def Ydo(hh:Zba P μ w st)(hr:RR μ r n a.tmps){t e:TypeId}{s len:Nat}{z:V}{parts:Array (Nat×Operand)}{cps:List (Nat×Nat×Src)}
  (ht:P.underlying t=some (.slice e)) (hs:Zbt P e=some s) (hz:Ze6 P e=some z) (hle:¬len*s > 2^24) (hzs:z.cells.length=s)
  (hc:Zif P (fun i=>some (i*s,s)) parts.toList=some cps) (h:Ze1 e s len (Zc8 z.cells len) cps call r st=some (v,st')):
  Za4 P μ w st (do pure (.value (←Instr.buildSlice t len (parts.map fun (i,x)=>(i,a.eval x))))) v st':=by
 unfold Ze1 at h
 split at h
 ·rename_i ps hps
  split at h
  ·rename_i l hl
   split at h
   ·rename_i hone
    simp only[Yrs,Yrv]at h
    obtain⟨rfl,rfl⟩:=h
    obtain⟨i,x,hi,hx,hzx⟩:=Zdu hz
    have hz1:=(hzx μ).cells
    have hsim:=Zlm hz1 len
    rw[hzs]at hsim
    obtain⟨l',h1,h2⟩:=Zpz hh hr hc hps hsim hl
    have hll:=h2.length
    refine Za4.newRow hh (v:=.slice st.n 0 len (some len) s) (xs:=l') (x:=.slice (some ⟨w.heap.size,0,none⟩) len len) ?_ h2 (Znw h2 hone) ?_
    ·have h1':Instr.fill (fun i=>some (i*s,s)) (madeCells x.cells (len*s)) (parts.map fun p=>(p.1,a.eval p.2)).toList=some ⟨l'⟩:=by
      rw[←h1]
      simp
     simp only[Instr.buildSlice,Sem.run_bind,run_underlying ht,Result.andThen,Zb2 hs,Yrt hle]
     split
     ·rename_i e0
      have hcells:((Array.range (len*s)).map ((#[]:Array Value)[·%(#[]:Array Value).size]!))=madeCells x.cells (len*s):=by
       simp[madeCells,e0]
      simp only[Sem.run_bind,Sem.run_pure,Result.andThen,hcells]
      rw[h1']
      simp[Go.newRow,Result.andThen]
     ·have hcells:((Array.range (len*s)).map (x.cells[·%x.cells.size]!))=madeCells x.cells (len*s):=rfl
      simp only[zeroValue,typeInfo,Sem.run_bind,Sem.run_pure,Result.andThen,hi,hx,run_program]
      simp only[hcells]
      rw[h1']
      simp[Go.newRow,Result.andThen]
    ·have hfill:l.length=len*s:=by
      have:∀(ps:List (Nat×Nat×V)) (cs l:List V),Zn5 cs ps=some l→l.length=cs.length:=by
       intro ps
       induction ps with
       |nil=>intro cs l h;simp only[Zn5,Yrs]at h;rw[h]
       |cons p ps ih=>
        intro cs l h
        obtain⟨o,s,u⟩:=p
        simp only[Zn5]at h
        split at h
        ·rename_i hc
         rw[ih _ _ h,Zb9 (by omega)]
        ·cases h
      rw[this ps _ l hl,Zl5,hzs]
     simp only[VR]
     exact⟨⟨w.heap.size,0,l'.length⟩,len,by simp,by simp,Yru _,by simp[hll,hfill],by simp,by simp⟩
   ·cases h
  ·cases h
 ·cases h
def Zxv(hh:Zba P μ w st)(hr:RR μ r n a.tmps){t e:TypeId}{s b:Nat}{z:V}{x y:Operand}{sx sy:Src}(ht:P.underlying t=some (.slice e))(hs:Zbt P e=some s)(hb:Zig P e=some b)(hz:Ze6 P e=some z)
  (hone:z.cells.all V.one=true) (hx:Zbe P x=some sx) (hy:Zbe P y=some sy) (h:Zcp e s b z.cells sx sy call r st=some (v,st')):
  Za4 P μ w st (do pure (.value (←Instr.makeSlice t (a.eval x) (a.eval y)))) v st':=by
 unfold Zcp at h
 split at h
 ·rename_i k l k' c h1 h2
  have e1:=Zar hh hr hx h1
  have e2:=Zar hh hr hy h2
  simp only[VR]at e1 e2
  split at h
  ·rename_i hc
   obtain⟨hl0,hlc,hbc,hc62,hsz,hs0⟩:=hc
   simp only[Yrs,Yrv]at h
   obtain⟨rfl,rfl⟩:=h
   obtain⟨i,zx,hi,hzx,hzr⟩:=Zdu hz
   unfold Zbt at hs
   unfold Zig at hb
   simp only[hi,Yuq,Yrs]at hs hb
   have hz1:=(hzr μ).cells
   have hsim:=Zlm hz1 c.toNat
   rw[←hsz]at hsim
   have hrun:=run_make (P:=P) w t e i zx ht hi hzx k k' l c hl0 hlc (by rw[hb];omega) (by omega)
   rw[hs]at hrun
   refine Za4.newRow hh (v:=.slice st.n 0 l.toNat (some c.toNat) s) (xs:=(madeCells zx.cells (c.toNat*s)).toList) (x:=.slice (some ⟨w.heap.size,0,none⟩) l.toNat c.toNat) ?_ hsim (Zo7 hone c.toNat hsim) ?_
   ·rw[e1,e2,hrun]
   ·simp only[VR]
    exact⟨⟨w.heap.size,0,_⟩,c.toNat,by simp;rfl,by simp,by omega,by simp[madeCells],by simp,by simp⟩
  ·cases h
 ·cases h
def Za4.newObj(hh:Zba P μ w st){s:Sem Value}{x:Value}{o:O}{ob:Obj}(hs:s.run P w=.ok x (w.alloc ob))
  (ho:OM P (fun i=>if i=st.n then some ⟨w.heap.size,0,0⟩ else μ i) (w.alloc ob) o ⟨w.heap.size,0,0⟩) (hv:VR (fun i=>if i=st.n then some ⟨w.heap.size,0,0⟩ else μ i) v x):
  Za4 P μ w st (do pure (.value (←s))) v (st.alloc o):=
 ⟨Next.value x,x,_,_,[],by simp[hs,Result.andThen],.inl rfl,hv,Stp.alloc hh o ob 0 0 ho⟩
def Znv(w:World)(o:Obj):(w.alloc o).heap[w.heap.size]?=some o:=by
 show (w.heap.push o)[w.heap.size]?=some o
 simp
def Yfs(hh:Zba P μ w st){t:TypeId}(h:Zhx call r st=some (v,st')):Za4 P μ w st (do pure (.value (←Instr.makeMap t none))) v st':=by
 unfold Zhx at h
 simp only[Yrs,Yrv]at h
 obtain⟨rfl,rfl⟩:=h
 refine Za4.newObj hh (v:=.map st.n) (x:=.map (some w.heap.size)) (ob:=.map #[] 0) ?_ ⟨[],by simpa using Znv w _,rfl⟩ ?_
 ·simp[Instr.makeMap,Result.andThen]
 ·simp only[VR];exact⟨⟨w.heap.size,0,0⟩,by simp,rfl⟩
def Ybo(hh:Zba P μ w st)(hr:RR μ r n a.tmps){t e:TypeId}{d:ChanDir}{b:Nat}{x:Operand}{s:Src}(ht:P.underlying t=some (.chan d e))(hb:Zig P e=some b)(hx:Zbe P x=some s)
  (h:Zeg b s call r st=some (v,st')):Za4 P μ w st (do pure (.value (←Instr.makeChan t (a.eval x)))) v st':=by
 unfold Zeg at h
 split at h
 ·rename_i q k hk
  have e1:=Zar hh hr hx hk
  simp only[VR]at e1
  split at h
  ·cases h
  ·rename_i hc
   simp only[Yrs,Yrv]at h
   obtain⟨rfl,rfl⟩:=h
   unfold Zig at hb
   simp only[Yr0]at hb
   obtain⟨i,hi,rfl⟩:=hb
   refine Za4.newObj hh (v:=.chan st.n) (x:=.chan (some w.heap.size)) (ob:=.chan k.toNat #[] false 0 0 false) ?_ ⟨[],0,0,by simpa using Znv w _,by simp[VRs]⟩ ?_
   ·simp only[Instr.makeChan,e1,asInt,asIntOf,run_underlying ht,typeInfo,hi,Yrt hc,Result.andThen,Sem.run_bind,Sem.run_pure,run_program,run_newObj]
    rfl
   ·simp only[VR];exact⟨⟨w.heap.size,0,0⟩,by simp,rfl⟩
 ·cases h
def Zs9(hh:Zba P μ w st)(hr:RR μ r n a.tmps){t:TypeId}{x:Operand}{s:Src}(ht:P.underlying t=some .string)(hx:Zbe P x=some s)
  (h:Zc3 s call r st=some (v,st')):Za4 P μ w st (do pure (.value (←Instr.range t (a.eval x)))) v st':=by
 unfold Zc3 at h
 split at h
 ·rename_i q hk
  have e1:=Zar hh hr hx hk
  simp only[VR]at e1
  simp only[Yrs,Yrv]at h
  obtain⟨rfl,rfl⟩:=h
  refine Za4.newObj hh (v:=.ptr st.n 0) (x:=.pointer (some ⟨w.heap.size,0,none⟩)) (ob:=.stringIter ⟨q.toArray⟩ 0) ?_ (by simp only[OM];exact⟨Znv w _,trivial⟩) ?_
  ·simp[Instr.range,e1,run_underlying ht,Result.andThen]
  ·simp only[VR];exact⟨⟨w.heap.size,0,0⟩,by simp,rfl⟩
 ·cases h
def Zdj(g o:Nat)(t:TypeId)(lo hi:Nat):∀(vs:List Value) (i:Nat) (cur:List Value) (w:World),w.heap[g]?=some (.cells ⟨cur⟩ t (lo,hi))→o+i+vs.length≤cur.length→(∀v∈vs,v.oneCell'=true)→
  (∀j,o+i≤j→j<o+i+vs.length→¬(lo≤j∧j<hi))→(storeCells ⟨g,o,none⟩ vs i).run P w=.ok () (w.setRow g ⟨splice cur (o+i) vs⟩)
 |[],i,cur,w,hg,_,_,_=>by
  have e:splice cur (o+i) []=cur:=by simp[splice]
  rw[e,setRow_self w g _ t _ hg]
  simp[storeCells]
 |v::rest,i,cur,w,hg,hl,h1,hf=>by
  simp only[Yrr]at hl
  have hi':o+i<cur.length:=by omega
  have hcell:w.cell? ⟨g,o+i,none⟩=some cur[o+i]:=by simp[World.cell?,hg,hi']
  have hfro:w.frozen? ⟨g,o+i,none⟩=false:=by
   have:=hf (o+i) (Yru _) (by simp)
   simp only[World.frozen?,hg]
   simp;omega
  have hst:(store ((⟨g,o,none⟩:Addr).add i) v).run P w=.ok () (w.setRow g ⟨cur.set (o+i) v⟩):=by
   rw[Zci,run_store P w _ v _ (h1 v (by simp)),hcell]
   simp[hfro,setCell_eq_setRow w g (o+i) _ t _ v hg]
  have ih:=Zdj g o t lo hi rest (i+1) (cur.set (o+i) v) (w.setRow g ⟨cur.set (o+i) v⟩) (setRow_heap w g _ _ t _ hg) (by simp;omega) (fun x hx=>h1 x (by simp[hx]))
   (fun j hj1 hj2=>hf j (by omega) (by simp only[Yrr];omega))
  simp only[storeCells,Sem.run_bind,hst,Result.andThen_ok,ih,setRow_setRow]
  rw[←Yta,Zmf _ _ _ _ hi']
def Zjq(hh:Zba P μ w st){i o:Nat}{l:L}(hl:μ i=some l){c:List V}{e:TypeId}(hrow:st.row i=some (c,e,true)){vs:List V}{xs:List Value}(hv:VRs μ vs xs)(h1:∀x∈xs,x.oneCell'=true)
  (hlen:o+vs.length≤c.length):
  ∃w',(storeCells ⟨l.b,l.d+o,none⟩ xs).run P w=.ok () w'∧Stp P μ w st μ w' (st.write i (.cells (splice c o vs) e true)) [i]:=by
 obtain⟨c',lo,hi,g1,g2,g3,g4,g5,g6⟩:=hh.row hl hrow
 obtain⟨cur⟩:=c'
 have hxl:=hv.length
 simp only[List.size_toArray]at g2
 have hrun:=Zdj (P:=P) l.b (l.d+o) e lo hi xs 0 cur w g1 (by omega) h1 (fun j hj1 hj2=>by
  have:=(g6 rfl).2 (j-l.d) (by omega)
  rw[show l.d+(j-l.d)=j by omega]at this
  exact this)
 refine⟨_,hrun,?_⟩
 have hb:=setRow_heap w l.b _ (⟨splice cur (l.d+o+0) xs⟩:Array Value) e _ g1
 refine Stp.write hh hl (Zjr hrow) rfl rfl rfl rfl (by simp) (fun b hb=>setRow_other w l.b b _ hb) ⟨_,lo,hi,hb,?_,?_,?_,?_,g6⟩
 ·simp only[List.size_toArray]
  rw[Zb9 (by omega)];exact g2
 ·rw[Zb9 hlen];exact g3
 ·intro j u hu
  rw[Zeu hlen]at hu
  have e':∀k:Nat,(⟨splice cur (l.d+o+0) xs⟩:Array Value)[k]?=(splice cur (l.d+o+0) xs)[k]?:=fun k=>by simp
  rw[e',Zeu (by omega)]
  split at hu
  ·rename_i hj
   rw[Yrw (by omega)]
   obtain⟨y,hy,hr⟩:=hv.get hu
   exact⟨y,by rw[show l.d+j-(l.d+o+0)=j-o by omega];exact hy,hr⟩
  ·rename_i hj
   rw[Yrt (by omega)]
   obtain⟨y,hy,hr⟩:=g4 j u hu
   exact⟨y,by simpa using hy,hr⟩
 ·intro j x hlt hx
  have e':(⟨splice cur (l.d+o+0) xs⟩:Array Value)[l.d+j]?=(splice cur (l.d+o+0) xs)[l.d+j]?:=by simp
  rw[e',Zeu (by omega)]at hx
  split at hx
  ·exact h1 x (Yr1 hx)
  ·exact g5 j x hlt (by simpa using hx)
def Yen(hh:Zba P μ w st)(hr:RR μ r n a.tmps){t:TypeId}{k:Nat}{x y:Operand}{sx sy:Src}(hk:Zbt P t=some k)(hx:Zbe P x=some sx)(hy:Zbe P y=some sy)
  (h:Zfb k sx sy call r st=some (v,st')):Za4 P μ w st (do Instr.storeAt t (a.eval x) (a.eval y);pure .skip) v st':=by
 unfold Zfb at h
 split at h
 ·rename_i i o u h1 h2
  obtain⟨l,hl,e1⟩:=Zar hh hr hx h1
  have e2:=Zar hh hr hy h2
  split at h
  ·rename_i c e hrow
   split at h
   ·rename_i hc
    simp only[Yrs,Yrv]at h
    obtain⟨rfl,rfl⟩:=h
    have hcl:=e2.cells
    have hlen:=hcl.length
    obtain⟨w',hw,hs⟩:=Zjq hh hl hrow hcl (Znw hcl hc.2.2) (o:=o) (by omega)
    refine⟨.skip,undef,w',μ,[i],?_,.inr ⟨rfl,rfl⟩,⟨[],rfl,by simp[VRs]⟩,hs⟩
    have hsz:(a.eval y).cells.size=k:=by
     rw[←hc.1,←hlen];simp
    simp[Instr.storeAt,Instr.sureAddr,e1,storeVar,Zb2 hk,hsz,hw,Result.andThen]
   ·cases h
  ·cases h
 ·cases h
end
section
variable {P:Program} {μ:Mu} {w:World} {st st':St} {r:T V} {n:Nat} {a:Act} {call:Za1} {v:V}
def Zba.drew'(h:Zba P μ w st):Zba P μ w.drew st:=h.drew (w.drawn+1)
def Stp.undrew{μ':Mu}{w':World}{ws:List Nat}(h:Stp P μ w.drew st μ' w' st' ws):Stp P μ w st μ' w' st' ws:=
 ⟨h.hr,h.ext,h.nle,h.wl,⟨h.chg.os,h.chg.tape,h.chg.output,h.chg.size,h.chg.block⟩,h.new,h.keep,h.grow,h.full,h.wrt⟩
def Stp.newRow(hh:Zba P μ w st){cs:List V}{xs:List Value}{e:TypeId}{lo hi:Nat}
  (hle:cs.length≤xs.length) (hc:∀(j:Nat) (u:V),cs[j]?=some u→∃x,xs[j]?=some x∧VR μ u x) (h1:∀x∈xs,x.oneCell'=true) (hf:xs.length≤lo∨hi≤lo):
  Stp P μ w st (fun i=>if i=st.n then some ⟨w.heap.size,0,xs.length⟩ else μ i) (w.alloc (.cells ⟨xs⟩ e (lo,hi))) (st.alloc (.cells cs e true)) []:=by
 have hmono:∀i l,μ i=some l→(fun i=>if i=st.n then some (⟨w.heap.size,0,xs.length⟩:L) else μ i) i=some l:=fun i l hl=>by
  have:=(hh.dom i l hl).1
  simp only
  rw[Yrt (by omega)];exact hl
 refine Stp.alloc hh (.cells cs e true) (.cells ⟨xs⟩ e (lo,hi)) 0 xs.length ⟨⟨xs⟩,lo,hi,?_,by simp,hle,fun j u hu=>?_,fun j y _ hy=>?_,fun _=>⟨rfl,fun j hj=>by simp only at hj ⊢;omega⟩⟩
 ·simp
 ·obtain⟨y,hy,hr⟩:=hc j u hu
  exact⟨y,by simpa using hy,VR.mono hmono u y hr⟩
 ·exact h1 y (Yr1 (by simpa using hy))
def Za4.newRowD(hh:Zba P μ w st){s:Sem Value}{x:Value}{cs:List V}{xs:List Value}{e:TypeId}{lo hi:Nat}(hs:s.run P w=.ok x (w.drew.alloc (.cells ⟨xs⟩ e (lo,hi))))
  (hle:cs.length≤xs.length) (hc:∀(j:Nat) (u:V),cs[j]?=some u→∃x,xs[j]?=some x∧VR μ u x) (h1:∀x∈xs,x.oneCell'=true) (hf:xs.length≤lo∨hi≤lo)
  (hv:VR (fun i=>if i=st.n then some ⟨w.heap.size,0,xs.length⟩ else μ i) v x):
  Za4 P μ w st (do pure (.value (←s))) v (st.alloc (.cells cs e true)):=
 ⟨Next.value x,x,_,_,[],by simp only[Sem.run_bind,hs,Result.andThen,Sem.run_pure],.inl rfl,hv,(Stp.newRow hh.drew' hle hc h1 hf (hi:=hi)).undrew⟩
def Zss(hh:Zba P μ w st)(hr:RR μ r n a.tmps){src dst e:TypeId}{x:Operand}{s:Src}(hs:P.underlying src=some .string)(hd:P.underlying dst=some (.slice e))(he:P.underlying e=some (.int .u8))(hx:Zbe P x=some s)
  (h:Zcj e s call r st=some (v,st')):Za4 P μ w st (do pure (.value (←convert src dst (a.eval x)))) v st':=by
 unfold Zcj at h
 split at h
 ·rename_i m hm
  simp only[Yrs,Yrv]at h
  obtain⟨rfl,rfl⟩:=h
  have h1:=Zar hh hr hx hm
  simp only[VR]at h1
  have hrun:=run_bytes_of_string (P:=P) w src dst e ⟨m.toArray⟩ hs hd he
  rw[←h1]at hrun
  have hcap:=grownCap_ge w m.length 0 e
  have hsz:(⟨m.toArray⟩:ByteArray).size=m.length:=by simp[ByteArray.size]
  rw[hsz]at hrun
  have hl:(bytesRow ⟨m.toArray⟩ (grownCap w m.length 0 e)).toList=m.map (fun b=>Value.int .u8 b.toNat)++List.replicate (grownCap w m.length 0 e-m.length) (.int .u8 0):=by
   simp[bytesRow,hsz]
  have hsz':(bytesRow ⟨m.toArray⟩ (grownCap w m.length 0 e)).size=m.length+(grownCap w m.length 0 e-m.length):=by
   rw[←Array.length_toList,hl];simp
  refine Za4.newRowD hh (v:=.slice st.n 0 m.length none 1) (xs:=(bytesRow ⟨m.toArray⟩ (grownCap w m.length 0 e)).toList) (lo:=_) (hi:=_) hrun ?_ ?_ ?_ (.inl (by simp)) ?_
  ·rw[hl];simp
  ·intro j u hu
   rw[hl]
   have hj:j<m.length:=by
    have:=(Ys9.1 hu).1
    simpa using this
   refine⟨_,Ysc (by simpa using hj) |>.trans (Yso ..) |>.trans (by rw[Yrx hj];rfl),?_⟩
   simp only[Yso,Yrx hj,Yuq,Yrs]at hu
   rw[←hu];simp[VR]
  ·intro y hy
   rw[hl]at hy
   simp only[Ysq,Ytq,Yu5]at hy
   rcases hy with⟨b,_,rfl⟩|⟨_,rfl⟩<;>rfl
  ·simp only[VR]
   refine⟨⟨w.heap.size,0,_⟩,grownCap w m.length 0 e,by simp;rfl,by simp,hcap,?_,by simp,fun _=>?_⟩
   ·simp only[hsz'];omega
   ·simp only[hsz'];omega
 ·cases h
def Ygx{l:List V}{s:List UInt8}{xs:List Value}(h:VRs μ l xs)(hm:l.mapM (fun v=>match v with|.int .u8 n=>some (UInt8.ofNat n.toNat)|_=>none)=some s):
  ∃ns:List Int,xs=ns.map (Value.int .u8)∧s=ns.map (fun n=>UInt8.ofNat n.toNat):=by
 induction l generalizing s xs with
 |nil=>
  simp only[List.mapM_nil,pure,Yrs]at hm
  subst hm
  simp only[VRs]at h
  exact⟨[],by simp[h],rfl⟩
 |cons u l ih=>
  obtain⟨y,ys,rfl,h1,h2⟩:=Zau.1 h
  simp only[List.mapM_cons]at hm
  cases u<;>simp only[bind,Option.bind,reduceCtorEq]at hm
  rename_i k q
  cases k<;>simp only[reduceCtorEq]at hm
  split at hm
  ·cases hm
  ·rename_i s' hs'
   simp only[pure,Yrs]at hm
   subst hm
   obtain⟨ns,rfl,rfl⟩:=ih h2 hs'
   simp only[VR]at h1
   exact⟨q::ns,by simp[h1],by simp⟩
def Zhb:∀(l:List Int) (r:ByteArray),l.foldl (fun r n=>r.push (UInt8.ofNat n.toNat)) r=⟨r.data++(l.map (fun n=>UInt8.ofNat n.toNat)).toArray⟩
 |[],r=>by simp
 |b::l,r=>by
  simp only[List.foldl_cons]
  rw[Zhb l]
  simp[ByteArray.push]
def Zum(hh:Zba P μ w st)(hr:RR μ r n a.tmps){src dst e:TypeId}{x:Operand}{s:Src}(hs:P.underlying src=some (.slice e))(hd:P.underlying dst=some .string)(he:P.underlying e=some (.int .u8))(hx:Zbe P x=some s)
  (h:Zc4 s call r st=some (v,st')):Za4 P μ w st (do pure (.value (←convert src dst (a.eval x)))) v st':=by
 unfold Zc4 at h
 split at h
 ·rename_i hm
  simp only[Yrs,Yrv]at h
  obtain⟨rfl,rfl⟩:=h
  have h1:=Zar hh hr hx hm
  simp only[VR]at h1
  refine Za4.value hh (x:=.string ByteArray.empty) ?_ (by simp only[VR];rfl)
  rw[h1,run_convert_bytes_string w src dst e none 0 0 hs he hd]
  simp[Conv.bytesToString]
 ·rename_i i o len cap hm
  obtain⟨l,c,hl,h1,_⟩:=Zar hh hr hx hm
  split at h
  ·rename_i cs e' rw' hrow
   split at h
   ·rename_i seg hseg
    split at h
    ·rename_i s' hmm
     simp only[Yrs,Yrv]at h
     obtain⟨rfl,rfl⟩:=h
     obtain⟨xs,hxs,hxl,hload,_,_⟩:=(hh.row hl hrow).seg hseg
     obtain⟨ns,rfl,rfl⟩:=Ygx hxs hmm
     refine Za4.value hh (x:=.string ⟨(ns.map (fun n=>UInt8.ofNat n.toNat)).toArray⟩) ?_ (by simp[VR])
     rw[h1,run_convert_bytes_string w src dst e _ _ _ hs he hd,run_bytesToString w _ len c ns hload,Zhb]
     have he0:ByteArray.empty.data=#[]:=rfl
     rw[he0];simp
    ·cases h
   ·cases h
  ·cases h
 ·cases h
def Zf3{i:Nat}{o:Obj}(h:w.heap[i]?=some o)(ho:∀c e f,o≠.cells c e f):(getObj i).run P w=.ok o w:=by
 simp only[getObj,Sem.run,h]
def Zh7.length:∀{es:List (V×V)} {xs:List MapEntry} {i:Nat},Zh7 μ es xs i→xs.length=es.length
 |[],_,_,h=>by simp[Zh7]at h;simp[h]
 |(k,u)::es,_,i,h=>by
  obtain⟨e,ys,rfl,_,_,_,h5⟩:=h
  simp[Zh7.length h5]
def Zx1(hh:Zba P μ w st)(hr:RR μ r n a.tmps){t ty:TypeId}{x:Operand}{s:Src}(ht:P.underlying t=some .string)(hx:Zbe P x=some s)
  (h:Zfh 0 s call r st=some (v,st')):Za4 P μ w st (do pure (.value (←Builtin.len_ #[t] ty #[a.eval x]))) v st':=by
 unfold Zfh at h
 cases hm:s.ev r with
 |none=>simp[hm]at h
 |some q=>
  have h1:=Zar hh hr hx hm
  cases q<;>simp[hm]at h
  rename_i q
  obtain⟨rfl,rfl⟩:=h
  simp only[VR]at h1
  have h2:(⟨q.toArray⟩:ByteArray).size=q.length:=rfl
  exact Za4.value hh (x:=.int .i64 q.length) (by simp[Builtin.len_,h1,run_underlying ht,goInt,h2, -ByteArray.size_data]) (by simp[VR])
def Zre(hh:Zba P μ w st)(hr:RR μ r n a.tmps){t ty e:TypeId}{x:Operand}{s:Src}(ht:P.underlying t=some (.slice e))(hx:Zbe P x=some s)
  (h:Zfh 1 s call r st=some (v,st')):Za4 P μ w st (do pure (.value (←Builtin.len_ #[t] ty #[a.eval x]))) v st':=by
 unfold Zfh at h
 cases hm:s.ev r with
 |none=>simp[hm]at h
 |some q=>
  have h1:=Zar hh hr hx hm
  cases q<;>simp[hm]at h
  case nilslice=>
   obtain⟨rfl,rfl⟩:=h
   simp only[VR]at h1
   exact Za4.value hh (x:=.int .i64 0) (by simp[Builtin.len_,h1,run_underlying ht,goInt]) (by simp[VR])
  case empty=>
   obtain⟨rfl,rfl⟩:=h
   obtain⟨b,c,h1⟩:=h1
   exact Za4.value hh (x:=.int .i64 0) (by simp[Builtin.len_,h1,run_underlying ht,goInt]) (by simp[VR])
  case slice i o len cap sz=>
   obtain⟨rfl,rfl⟩:=h
   obtain⟨l,c,_,h1,_⟩:=h1
   exact Za4.value hh (x:=.int .i64 len) (by simp[Builtin.len_,h1,run_underlying ht,goInt]) (by simp[VR])
def Zx2(hh:Zba P μ w st)(hr:RR μ r n a.tmps){t ty k e:TypeId}{x:Operand}{s:Src}(ht:P.underlying t=some (.map k e))(hx:Zbe P x=some s)
  (h:Zfh 2 s call r st=some (v,st')):Za4 P μ w st (do pure (.value (←Builtin.len_ #[t] ty #[a.eval x]))) v st':=by
 unfold Zfh at h
 cases hm:s.ev r with
 |none=>simp[hm]at h
 |some q=>
  have h1:=Zar hh hr hx hm
  cases q<;>simp[hm]at h
  case nilmap=>
   obtain⟨rfl,rfl⟩:=h
   simp only[VR]at h1
   exact Za4.value hh (x:=.int .i64 0) (by simp[Builtin.len_,h1,run_underlying ht,goInt]) (by simp[VR])
  case map i=>
   split at h
   ·rename_i es hes
    simp only[Yrs,Yrv]at h
    obtain⟨rfl,rfl⟩:=h
    obtain⟨l,hl,h1⟩:=h1
    obtain⟨es',g1,g2⟩:=hh.get hl hes
    have hg:=Zf3 (P:=P) g1 (by simp)
    exact Za4.value hh (x:=.int .i64 es.length) (by simp[Builtin.len_,h1,run_underlying ht,goInt,hg,Result.andThen,g2.length]) (by simp[VR])
   ·cases h
def Zrf(hh:Zba P μ w st){t ty:TypeId}{k:Nat}{x:Value}(ht:(∃e,P.underlying t=some (.array k e))∨∃u e,P.underlying t=some (.pointer u)∧P.underlying u=some (.array k e))
  (h:Zg0 k call r st=some (v,st')):Za4 P μ w st (do pure (.value (←Builtin.len_ #[t] ty #[x]))) v st':=by
 unfold Zg0 at h
 simp only[Yrs,Yrv]at h
 obtain⟨rfl,rfl⟩:=h
 refine Za4.value hh (x:=.int .i64 k) ?_ (by simp[VR])
 rcases ht with⟨e,h1⟩|⟨u,e,h1,h2⟩
 ·simp[Builtin.len_,run_underlying h1,goInt]
 ·simp[Builtin.len_,run_underlying h1,run_underlying h2,goInt]
def Ynh(hh:Zba P μ w st)(hr:RR μ r n a.tmps){t ty e:TypeId}{x:Operand}{s:Src}(ht:P.underlying t=some (.slice e))(hx:Zbe P x=some s)
  (h:Zon s call r st=some (v,st')):Za4 P μ w st (do pure (.value (←Builtin.cap_ #[t] ty #[a.eval x]))) v st':=by
 unfold Zon at h
 split at h
 ·rename_i hm
  simp only[Yrs,Yrv]at h
  obtain⟨rfl,rfl⟩:=h
  have h1:=Zar hh hr hx hm
  simp only[VR]at h1
  exact Za4.value hh (x:=.int .i64 0) (by simp[Builtin.cap_,h1,run_underlying ht,goInt]) (by simp[VR])
 ·rename_i i o len k sz hm
  simp only[Yrs,Yrv]at h
  obtain⟨rfl,rfl⟩:=h
  obtain⟨l,c,_,h1,_,_,h5,_⟩:=Zar hh hr hx hm
  have hk:=h5 k rfl
  subst hk
  exact Za4.value hh (x:=.int .i64 c) (by simp[Builtin.cap_,h1,run_underlying ht,goInt]) (by simp[VR])
 ·cases h
def Ybp:∀{l:List V} {u:V} {xs:List Value},Zvr (l)=some u→VRs μ l xs→∃y ys z,xs=y::ys∧(ys.foldlM Builtin.min2 y).run P w=.ok z w∧VR μ u z:=by
 intro l
 induction l using Zvr.induct<;>intro u xs h hx
 case case1=>simp[Zvr]at h
 case case2 x=>
  simp only[Zvr,Yrs]at h;subst h
  obtain⟨y,ys,rfl,h1,h2⟩:=Zau.1 hx
  simp only[VRs]at h2;subst h2
  exact⟨y,[],y,rfl,by simp,h1⟩
 case case3 k p k' q rest ih=>
  simp only[Zvr]at h
  obtain⟨y,ys,rfl,h1,h2⟩:=Zau.1 hx
  obtain⟨y',ys',rfl,h3,h4⟩:=Zau.1 h2
  simp only[VR]at h1 h3
  subst h1;subst h3
  obtain⟨y,ys,z,e,hz,hv⟩:=ih h (xs:=.int k (if q<p then q else p)::ys') (Zau.2 ⟨_,_,rfl,by simp[VR],h4⟩)
  simp only[Yse]at e
  obtain⟨rfl,rfl⟩:=e
  exact⟨_,_,z,rfl,by simpa[Builtin.min2]using hz,hv⟩
 case case4 h1 h2 h3=>unfold Zvr at h;split at h<;>simp_all<;>exact absurd rfl (h3 _ _ _ _ _ rfl rfl rfl rfl)
def Ybs:∀{l:List V} {u:V} {xs:List Value},Zvt (l)=some u→VRs μ l xs→∃y ys z,xs=y::ys∧(ys.foldlM Builtin.max2 y).run P w=.ok z w∧VR μ u z:=by
 intro l
 induction l using Zvt.induct<;>intro u xs h hx
 case case1=>simp[Zvt]at h
 case case2 x=>
  simp only[Zvt,Yrs]at h;subst h
  obtain⟨y,ys,rfl,h1,h2⟩:=Zau.1 hx
  simp only[VRs]at h2;subst h2
  exact⟨y,[],y,rfl,by simp,h1⟩
 case case3 k p k' q rest ih=>
  simp only[Zvt]at h
  obtain⟨y,ys,rfl,h1,h2⟩:=Zau.1 hx
  obtain⟨y',ys',rfl,h3,h4⟩:=Zau.1 h2
  simp only[VR]at h1 h3
  subst h1;subst h3
  obtain⟨y,ys,z,e,hz,hv⟩:=ih h (xs:=.int k (if p<q then q else p)::ys') (Zau.2 ⟨_,_,rfl,by simp[VR],h4⟩)
  simp only[Yse]at e
  obtain⟨rfl,rfl⟩:=e
  exact⟨_,_,z,rfl,by simpa[Builtin.max2]using hz,hv⟩
 case case4 h1 h2 h3=>unfold Zvt at h;split at h<;>simp_all<;>exact absurd rfl (h3 _ _ _ _ _ rfl rfl rfl rfl)
def Yo6(hh:Zba P μ w st)(hr:RR μ r n a.tmps){ts:Array TypeId}{ty:TypeId}{xs:Array Operand}{ss:List Src}(hx:Zi2 P xs.toList=some ss)
  (h:Zjv ss call r st=some (v,st')):Za4 P μ w st (do pure (.value (←Builtin.min_ ts ty (xs.map a.eval)))) v st':=by
 unfold Zjv at h
 split at h
 ·rename_i l hl
  split at h
  ·rename_i u hu
   simp only[Yrs,Yrv]at h
   obtain⟨rfl,rfl⟩:=h
   obtain⟨y,ys,z,e,hz,hv⟩:=Ybp (P:=P) (w:=w) (Yj4 l▸hu) (Ze3 hh hr hx hl)
   refine Za4.value hh (x:=z) ?_ hv
   simp only[Builtin.min_,Array.toList_map,e]
   exact hz
  ·cases h
 ·cases h
def Yo5(hh:Zba P μ w st)(hr:RR μ r n a.tmps){ts:Array TypeId}{ty:TypeId}{xs:Array Operand}{ss:List Src}(hx:Zi2 P xs.toList=some ss)
  (h:Zf9 ss call r st=some (v,st')):Za4 P μ w st (do pure (.value (←Builtin.max_ ts ty (xs.map a.eval)))) v st':=by
 unfold Zf9 at h
 split at h
 ·rename_i l hl
  split at h
  ·rename_i u hu
   simp only[Yrs,Yrv]at h
   obtain⟨rfl,rfl⟩:=h
   obtain⟨y,ys,z,e,hz,hv⟩:=Ybs (P:=P) (w:=w) (Yj7 l▸hu) (Ze3 hh hr hx hl)
   refine Za4.value hh (x:=z) ?_ hv
   simp only[Builtin.max_,Array.toList_map,e]
   exact hz
  ·cases h
 ·cases h
end
section
variable {P:Program} {μ:Mu} {w:World} {st st':St} {r:T V} {n:Nat} {a:Act} {call:Za1} {v:V}
def Zm6{t:TypeId}{kd:Zk3}(h:Yb4 P t=some kd):(∃k,kd=.int k∧P.underlying t=some (.int k))∨(kd=.str∧P.underlying t=some .string):=by
 unfold Yb4 at h
 split at h
 ·simp only[Yrs]at h;subst h;rename_i k hk;exact .inl ⟨k,rfl,hk⟩
 ·simp only[Yrs]at h;subst h;rename_i hk;exact .inr ⟨rfl,hk⟩
 ·cases h
def Zrg{t:TypeId}{kd:Zk3}{d:TypeDesc}(hd:P.underlying t=some d)(h:Yb4 P t=some kd){k q:V}{x y:Value}(hx:VR μ k x)(hy:VR μ q y){b:Bool}(hb:Yfy kd k q=some b):
  Instr.sameNow d x y=some b∧(b=true→x=y∧Instr.sameBits 10000 y x=true):=by
 rcases Zm6 h with⟨kk,rfl,h1⟩|⟨rfl,h1⟩
 ·rw[hd,Yrs]at h1;subst h1
  cases k<;>cases q<;>simp only[Yfy,reduceCtorEq]at hb
  split at hb
  ·rename_i hc
   obtain⟨rfl,rfl⟩:=hc
   simp only[Yrs]at hb;subst hb
   simp only[VR]at hx hy
   subst hx;subst hy
   refine⟨by simp[Instr.sameNow],fun hb=>?_⟩
   simp only[beq_iff_eq]at hb
   subst hb
   simp[Instr.sameBits]
  ·cases hb
 ·rw[hd,Yrs]at h1;subst h1
  cases k<;>cases q<;>simp only[Yfy,reduceCtorEq]at hb
  rename_i s s'
  simp only[Yrs]at hb;subst hb
  simp only[VR]at hx hy
  subst hx;subst hy
  have e:((⟨s.toArray⟩:ByteArray)==⟨s'.toArray⟩)=(s==s'):=by
   show (s.toArray==s'.toArray)=(s==s')
   simp
  refine⟨by simp only[Instr.sameNow,e],fun hb=>?_⟩
  simp only[beq_iff_eq]at hb
  subst hb
  exact⟨rfl,by simp only[Instr.sameBits];rw[e];simp⟩
def Zj8{t:TypeId}{kd:Zk3}{d:TypeDesc}(hd:P.underlying t=some d)(h:Yb4 P t=some kd){k:V}{x:Value}(hx:VR μ k x):
  ∀{es:List (V×V)} {xs:List MapEntry} {i b:Nat} {o:Option (Nat×V)},Zh7 μ es xs b→findV kd k es i=some o→
   match o with
   |none=>Instr.findNow d x xs i=some none
   |some (j,u)=>∃e:MapEntry,i≤j∧xs[j-i]?=some e∧VR μ u e.val∧Instr.findNow d x xs i=some (some (j,e.val))∧x=e.key∧Instr.sameBits 10000 e.key x=true:=by
 intro es
 induction es with
 |nil=>
  intro xs i b o hm hf
  simp only[Zh7]at hm;subst hm
  simp only[findV,Yrs]at hf;subst hf
  simp[Instr.findNow]
 |cons p es ih=>
  intro xs i b o hm hf
  obtain⟨q,u⟩:=p
  obtain⟨e,ys,rfl,h1,h2,h3,h4⟩:=hm
  simp only[findV]at hf
  split at hf
  ·rename_i hb
   simp only[Yrs]at hf;subst hf
   obtain⟨g1,g2⟩:=Zrg hd h hx h1 hb
   exact⟨e,Yru _,by simp,h2,by simp[Instr.findNow,g1],(g2 rfl).1,(g2 rfl).2⟩
  ·rename_i hb
   obtain⟨g1,_⟩:=Zrg hd h hx h1 hb
   have:=ih h4 hf
   cases o with
   |none=>simpa[Instr.findNow,g1]using this
   |some ju=>
    obtain⟨j,u'⟩:=ju
    obtain⟨e',k1,k2,k3,k4,k5⟩:=this
    refine⟨e',by omega,?_,k3,by simpa[Instr.findNow,g1]using k4,k5⟩
    rw[show j-i=(j-(i+1))+1 by omega]
    simpa using k2
  ·cases hf
def Zpj{t:TypeId}{kd:Zk3}(h:Yb4 P t=some kd){b:Bool}{x:Value}(q:Nat):(Instr.checkKey b (q+1) t x).run P w=.ok () w:=by
 rcases Zm6 h with⟨kk,rfl,h1⟩|⟨rfl,h1⟩
 ·cases x<;>simp only[Instr.checkKey,Sem.run_bind,run_underlying h1,Result.andThen_ok,Sem.run_pure]
 ·cases x<;>simp only[Instr.checkKey,Sem.run_bind,run_underlying h1,Result.andThen_ok,Sem.run_pure]
def Zed{t:TypeId}{kd:Zk3}(h:Yb4 P t=some kd){b:Bool}{x:Value}:(Instr.checkKey b 10000 t x).run P w=.ok () w:=Zpj h 9999
def Zvw{t:TypeId}{kd:Zk3}(h:Yb4 P t=some kd):∃d,P.underlying t=some d:=by
 rcases Zm6 h with⟨kk,_,h1⟩|⟨_,h1⟩<;>exact⟨_,h1⟩
def Ybw(hh:Zba P μ w st)(hr:RR μ r n a.tmps){t kt e:TypeId}{x y:Operand}{sm sk:Src}{kd:Zk3}{z:V}{ok:Bool}(ht:P.underlying t=some (.map kt e))(hk:Yb4 P kt=some kd)(hz:Ze6 P e=some z)
  (hx:Zbe P x=some sm) (hy:Zbe P y=some sk) (h:Ze0 kd z sm sk ok call r st=some (v,st')):
  Za4 P μ w st (do pure (.value (←Instr.lookup t (a.eval x) (a.eval y) ok))) v st':=by
 unfold Ze0 at h
 split at h
 ·rename_i m k hm hkk
  have h1:=Zar hh hr hx hm
  have h2:=Zar hh hr hy hkk
  obtain⟨d,hd⟩:=Zvw hk
  obtain⟨zx,hzr,hzv⟩:=Zqo (w:=w) hz
  split at h
  ·cases m<;>simp at h
   case nilmap=>
    simp only[VR]at h1
    simp only[findV,Yrs,Yrv]at h
    obtain⟨rfl,rfl⟩:=h
    refine Za4.value hh (x:=if ok then .tuple #[zx,.bool false] else zx) ?_ ?_
    ·simp[Instr.lookup,run_underlying ht,h1,Zed hk,Instr.findKey,run_underlying hd,Instr.findNow,hzr,Result.andThen]
    ·cases ok
     ·simpa using hzv μ
     ·simp only[if_true,VR];exact⟨_,rfl,by simp[VRs,VR];exact hzv μ⟩
   case map i=>
    obtain⟨l,hl,h1⟩:=h1
    split at h
    ·rename_i es hes
     split at hes
     ·rename_i es0 hg
      simp only[Yrs]at hes;subst hes
      obtain⟨es',g1,g2⟩:=hh.get hl hg
      have hgo:=Zf3 (P:=P) g1 (by simp)
      split at h
      ·rename_i j u ho
       simp only[Yrs,Yrv]at h
       obtain⟨rfl,rfl⟩:=h
       obtain⟨en,_,_,k3,k4,_⟩:=Zj8 hd hk h2 g2 ho
       refine Za4.value hh (x:=if ok then .tuple #[en.val,.bool true] else en.val) ?_ ?_
       ·simp[Instr.lookup,run_underlying ht,h1,hgo,Zed hk,Instr.findKey,run_underlying hd,k4,Result.andThen]
       ·cases ok
        ·simpa using k3
        ·simp only[if_true,VR];exact⟨_,rfl,by simp[VRs,VR];exact k3⟩
      ·rename_i ho
       simp only[Yrs,Yrv]at h
       obtain⟨rfl,rfl⟩:=h
       have k4:=Zj8 hd hk h2 g2 ho
       simp only at k4
       refine Za4.value hh (x:=if ok then .tuple #[zx,.bool false] else zx) ?_ ?_
       ·simp[Instr.lookup,run_underlying ht,h1,hgo,Zed hk,Instr.findKey,run_underlying hd,k4,hzr,Result.andThen]
       ·cases ok
        ·simpa using hzv μ
        ·simp only[if_true,VR];exact⟨_,rfl,by simp[VRs,VR];exact hzv μ⟩
      ·cases h
     ·cases hes
    ·cases h
  ·cases h
 ·cases h
def Zim(w:World)(b:Nat)(o:Obj):({w with heap:=w.heap.setIfInBounds b o}:World).heap[b]?=if b<w.heap.size then some o else none:=by
 show (w.heap.setIfInBounds b o)[b]?=_
 rw[Array.getElem?_setIfInBounds]
 simp
def Zin{i:Nat}{o o':Obj}(h:w.heap[i]?=some o)(ho:∀c e f,o≠.cells c e f):(setObj i o').run P w=.ok () {w with heap:=w.heap.setIfInBounds i o'}:=by
 simp only[setObj,Sem.run,h]
def Stp.setObj(hh:Zba P μ w st){i:Nat}{l:L}(hl:μ i=some l){o o':O}(hg:st.h.get i=some o)(hw:o.wr=true){ob:Obj}
  (hm:OM P μ {w with heap:=w.heap.setIfInBounds l.b ob} o' l):Stp P μ w st μ {w with heap:=w.heap.setIfInBounds l.b ob} (st.write i o') [i]:=
 Stp.write hh hl hg hw rfl rfl rfl (by simp) (fun b hb=>by
  show (w.heap.setIfInBounds l.b ob)[b]?=_
  rw[Ytu (Ne.symm hb)]) hm
def Zh7.set:∀{es:List (V×V)} {xs:List MapEntry} {b:Nat},Zh7 μ es xs b→∀{j:Nat} {k u:V} {x y:Value},VR μ k x→VR μ u y→∀{e:MapEntry},xs[j]?=some e→
  Zh7 μ (es.set j (k,u)) (xs.set j {e with key:=x,val:=y}) b
 |[],xs,b,h,j,k,u,x,y,_,_,e,he=>by simp[Zh7]at h;subst h;simp at he
 |(k0,u0)::es,xs,b,h,j,k,u,x,y,h1,h2,e,he=>by
  obtain⟨e0,ys,rfl,g1,g2,g3,g4⟩:=h
  cases j with
  |zero=>simp at he;subst he;exact⟨_,_,rfl,h1,h2,g3,g4⟩
  |succ j=>exact⟨e0,_,rfl,g1,g2,g3,Zh7.set g4 h1 h2 (by simpa using he)⟩
def Zh7.push:∀{es:List (V×V)} {xs:List MapEntry} {b:Nat},Zh7 μ es xs b→∀{k u:V} {x y:Value},VR μ k x→VR μ u y→∀{c:Nat},c=b+xs.length→
  Zh7 μ (es++[(k,u)]) (xs++[{key:=x,val:=y,born:=c}]) b
 |[],xs,b,h,k,u,x,y,h1,h2,c,hc=>by simp[Zh7]at h;subst h;exact⟨_,_,rfl,h1,h2,by simpa using hc,rfl⟩
 |(k0,u0)::es,xs,b,h,k,u,x,y,h1,h2,c,hc=>by
  obtain⟨e0,ys,rfl,g1,g2,g3,g4⟩:=h
  exact⟨e0,_,rfl,g1,g2,g3,Zh7.push g4 h1 h2 (by simp at hc;omega)⟩
def Za4.skip{s:Sem Unit}{w':World}{μ':Mu}{ws:List Nat}(hs:s.run P w=.ok () w')(h:Stp P μ w st μ' w' st' ws):Za4 P μ w st (do s;pure .skip) (.tup []) st':=
 ⟨.skip,undef,w',μ',ws,by simp[hs,Result.andThen],.inr ⟨rfl,rfl⟩,⟨[],rfl,by simp[VRs]⟩,h⟩
def Zrc(hh:Zba P μ w st)(hr:RR μ r n a.tmps){t kt e:TypeId}{x y z:Operand}{sm sk sv:Src}{kd:Zk3}(ht:P.underlying t=some (.map kt e))(hk:Yb4 P kt=some kd)
  (hx:Zbe P x=some sm) (hy:Zbe P y=some sk) (hz:Zbe P z=some sv) (h:Zeh kd sm sk sv call r st=some (v,st')):
  Za4 P μ w st (do Instr.mapUpdate t (a.eval x) (a.eval y) (a.eval z);pure .skip) v st':=by
 unfold Zeh at h
 split at h
 ·rename_i i k u hm hkk hu
  obtain⟨l,hl,h1⟩:=Zar hh hr hx hm
  have h2:=Zar hh hr hy hkk
  have h3:=Zar hh hr hz hu
  obtain⟨d,hd⟩:=Zvw hk
  split at h
  ·split at h
   ·rename_i es hes
    obtain⟨es',g1,g2⟩:=hh.get hl hes
    have hgo:=Zf3 (P:=P) g1 (by simp)
    have hb:l.b<w.heap.size:=(hh.dom i l hl).2
    split at h
    ·rename_i j _ hf
     simp only[Yrs,Yrv]at h
     obtain⟨rfl,rfl⟩:=h
     obtain⟨en,k1,k2,k3,k4,k5,k6⟩:=Zj8 hd hk h2 g2 hf
     simp only[Nat.sub_zero]at k2
     have hso:=Zin (P:=P) (o':=.map ((⟨es'⟩:Array MapEntry).modify j fun e=>{e with key:=a.eval y,val:=a.eval z}) es'.length) g1 (by simp)
     refine Za4.skip (μ':=μ) (ws:=[i]) (w':={w with heap:=w.heap.setIfInBounds l.b (.map ((⟨es'⟩:Array MapEntry).modify j fun e=>{e with key:=a.eval y,val:=a.eval z}) es'.length)}) ?_ (Stp.setObj hh hl hes rfl ⟨es'.set j {en with key:=a.eval y,val:=a.eval z},?_,?_⟩)
     ·have hkeep:(Instr.keyThatStays en.key (a.eval y)).run P w=.ok (a.eval y) w:=by
       simp[Instr.keyThatStays,k6]
      have hget:(((⟨es'⟩:Array MapEntry)[j]?).map (·.key)).getD (a.eval y)=en.key:=by simp[k2]
      simp only[Instr.mapUpdate,Sem.run_bind,run_underlying ht,Result.andThen,h1,hgo,Zed hk,Instr.findKey,run_underlying hd,k4,Sem.run_pure,hget,hkeep,hso]
     ·rw[Zim,Yrw hb]
      congr 2
      ·apply Yu3
       apply Ysw
       intro q
       rw[Ytf,Array.getElem?_modify]
       by_cases e:j=q
       ·subst e
        obtain⟨hj,hje⟩:=Ys9.1 k2
        simp[hj,hje]
       ·simp[e,Yry e]
      ·simp
     ·exact g2.set h2 h3 k2
    ·rename_i hf
     simp only[Yrs,Yrv]at h
     obtain⟨rfl,rfl⟩:=h
     have k4:=Zj8 hd hk h2 g2 hf
     simp only at k4
     have hso:=Zin (P:=P) (o':=.map ((⟨es'⟩:Array MapEntry).push {key:=a.eval y,val:=a.eval z,born:=es'.length}) (es'.length+1)) g1 (by simp)
     refine Za4.skip (μ':=μ) (ws:=[i]) (w':={w with heap:=w.heap.setIfInBounds l.b (.map ((⟨es'⟩:Array MapEntry).push {key:=a.eval y,val:=a.eval z,born:=es'.length}) (es'.length+1))}) ?_ (Stp.setObj hh hl hes rfl ⟨es'++[{key:=a.eval y,val:=a.eval z,born:=es'.length}],?_,?_⟩)
     ·simp only[Instr.mapUpdate,Sem.run_bind,run_underlying ht,Result.andThen,h1,hgo,Zed hk,Instr.findKey,run_underlying hd,k4,Sem.run_pure,hso]
     ·rw[Zim,Yrw hb]
      simp
     ·exact g2.push h2 h3 (by simp)
    ·cases h
   ·cases h
  ·cases h
 ·cases h
def Zxi(hh:Zba P μ w st)(hr:RR μ r n a.tmps){ty:TypeId}{x:Operand}{s:Src}(hx:Zbe P x=some s)
  (h:Zdy s call r st=some (v,st')):Za4 P μ w st (do pure (.value (←Instr.next (a.eval x) true ty))) v st':=by
 unfold Zdy at h
 split at h
 ·rename_i i hm
  obtain⟨l,hl,h1⟩:=Zar hh hr hx hm
  split at h
  ·rename_i q pos hg
   obtain⟨g1,g2⟩:=hh.get hl hg
   rw[g2]at h1
   have hgo:=Zf3 (P:=P) g1 (by simp)
   have hb:l.b<w.heap.size:=(hh.dom i l hl).2
   have hsz:(⟨q.toArray⟩:ByteArray).size=q.length:=rfl
   split at h
   ·rename_i hp
    simp only[Yrs,Yrv]at h
    obtain⟨rfl,rfl⟩:=h
    have hso:=Zin (P:=P) (o':=.stringIter ⟨q.toArray⟩ (pos+(Utf8.decode ⟨q.toArray⟩ pos).2)) g1 (by simp)
    refine⟨.value (.tuple #[.bool true,.int .i64 pos,.int .i32 (Utf8.decode ⟨q.toArray⟩ pos).1]),_,_,μ,[i],?_,.inl rfl,?_,Stp.setObj hh hl hg rfl (ob:=.stringIter ⟨q.toArray⟩ (pos+(Utf8.decode ⟨q.toArray⟩ pos).2)) ⟨?_,g2⟩⟩
    ·simp[Instr.next,h1,hgo,Result.andThen,hsz,hp,hso,goInt, -ByteArray.size_data]
    ·simp only[VR];exact⟨_,rfl,by simp[VRs,VR]⟩
    ·rw[Zim,Yrw hb]
   ·rename_i hp
    simp only[Yrs,Yrv]at h
    obtain⟨rfl,rfl⟩:=h
    refine Za4.value hh (x:=.tuple #[.bool false]) ?_ (by simp only[VR];exact⟨_,rfl,by simp[VRs,VR]⟩)
    simp[Instr.next,h1,hgo,Result.andThen,hsz,hp, -ByteArray.size_data]
  ·cases h
 ·cases h
end
end Go.Mx
