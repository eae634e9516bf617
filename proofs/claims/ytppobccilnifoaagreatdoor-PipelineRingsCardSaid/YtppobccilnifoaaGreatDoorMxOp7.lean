/-
  The operations of M stand for the Go model's: rows that are made and written.
-/
import Derived.Test.YtppobccilnifoaaGreatDoorMxOp4
import Derived.Laws.IdiomStrings
import Derived.Lib.Bytealg
set_option linter.all false
namespace Go.Mx
open Go
section
variable {P:Program} {μ:Mu} {w:World} {st st':St} {r:T V} {n:Nat} {a:Act} {call:CallT} {v:V}
theorem zrep_length(zs:List V)(k:Nat):(zrep zs k).length=k*zs.length:=by simp[zrep]
theorem zrep_sim{zs:List V}{xs:List Value}(h:VRs μ zs xs)(k:Nat):VRs μ (zrep zs k) (madeCells ⟨xs⟩ (k*zs.length)).toList:=by
 have hl:=h.length
 refine VRs.of_get (by simp[zrep,madeCells]) fun j u hu=>?_
 have hj:j<k*zs.length:=by
  have:=(List.getElem?_eq_some_iff.1 hu).1
  simpa[zrep]using this
 have hz:0<zs.length:=by
  rcases Nat.eq_zero_or_pos zs.length with e|e
  ·rw[e]at hj;simp at hj
  ·exact e
 have hmod:j%zs.length<zs.length:=Nat.mod_lt _ hz
 simp only[zrep,List.getElem?_map,List.getElem?_range hj,Option.map_some,Option.some.injEq]at hu
 obtain⟨y,h1,h2⟩:=h.get (i:=j%zs.length) (v:=zs[j%zs.length]) (by simp[hmod])
 refine⟨y,?_,?_⟩
 ·simp only[madeCells,Array.toList_map,Array.toList_range,List.getElem?_map,List.getElem?_range hj,Option.map_some,Option.some.injEq]
  have h1':(⟨xs⟩:Array Value)[j%xs.length]?=some y:=by rw[hl];simpa using h1
  simp only[Array.size,getElem!_def,h1']
 ·rw[←hu]
  simpa[List.getD,hmod]using h2
theorem zrep_one{zs:List V}(h:zs.all V.one=true)(k:Nat):∀{xs:List Value},VRs μ (zrep zs k) xs→∀x∈xs,x.oneCell'=true:=by
 intro xs hx
 refine all_one hx ?_
 rw[List.all_eq_true]
 intro u hu
 simp only[zrep,List.mem_map,List.mem_range]at hu
 obtain⟨j,hj,rfl⟩:=hu
 have hz:0<zs.length:=by
  rcases Nat.eq_zero_or_pos zs.length with e|e
  ·rw[e]at hj;simp at hj
  ·exact e
 have hmod:j%zs.length<zs.length:=Nat.mod_lt _ hz
 rw[List.all_eq_true]at h
 simpa[List.getD,hmod]using h zs[j%zs.length] (by simp)
theorem bslice_ok(hh:HRel P μ w st)(hr:RR μ r n a.tmps){t e:TypeId}{s len:Nat}{z:V}{parts:Array (Nat×Operand)}{cps:List (Nat×Nat×Src)}
  (ht:P.underlying t=some (.slice e)) (hs:sizeP P e=some s) (hz:zeroP P e=some z) (hle:¬len*s > 2^24) (hzs:z.cells.length=s)
  (hc:cParts P (fun i=>some (i*s,s)) parts.toList=some cps) (h:op_bslice e s len (zrep z.cells len) cps call r st=some (v,st')):
  OpOk P μ w st (do pure (.value (←Instr.buildSlice t len (parts.map fun (i,x)=>(i,a.eval x))))) v st':=by
 unfold op_bslice at h
 split at h
 ·rename_i ps hps
  split at h
  ·rename_i l hl
   split at h
   ·rename_i hone
    simp only[Option.some.injEq,Prod.mk.injEq]at h
    obtain⟨rfl,rfl⟩:=h
    obtain⟨i,x,hi,hx,hzx⟩:=zeroP_info hz
    have hz1:=(hzx μ).cells
    have hsim:=zrep_sim hz1 len
    rw[hzs]at hsim
    obtain⟨l',h1,h2⟩:=fill_sim hh hr hc hps hsim hl
    have hll:=h2.length
    refine OpOk.newRow hh (v:=.slice st.n 0 len (some len) s) (xs:=l') (x:=.slice (some ⟨w.heap.size,0,none⟩) len len) ?_ h2 (all_one h2 hone) ?_
    ·have h1':Instr.fill (fun i=>some (i*s,s)) (madeCells x.cells (len*s)) (parts.map fun p=>(p.1,a.eval p.2)).toList=some ⟨l'⟩:=by
      rw[←h1]
      simp
     simp only[Instr.buildSlice,Sem.run_bind,run_underlying ht,Result.andThen,run_sizeP hs,if_neg hle]
     split
     ·rename_i e0
      have hcells:((Array.range (len*s)).map ((#[]:Array Value)[·%(#[]:Array Value).size]!))=madeCells x.cells (len*s):=by
       simp[madeCells,e0]
      simp only[Sem.run_bind,Sem.run_pure,Result.andThen,hcells]
      rw[h1']
      simp[Go.newRow,Result.andThen]
     ·have hcells:((Array.range (len*s)).map (x.cells[·%x.cells.size]!))=madeCells x.cells (len*s):=rfl
      simp only[zeroValue,typeInfo,Sem.run_bind,Sem.run_pure,Result.andThen,hi,hx,run_program]
      simp only[hcells]
      rw[h1']
      simp[Go.newRow,Result.andThen]
    ·have hfill:l.length=len*s:=by
      have:∀(ps:List (Nat×Nat×V)) (cs l:List V),fillV cs ps=some l→l.length=cs.length:=by
       intro ps
       induction ps with
       |nil=>intro cs l h;simp only[fillV,Option.some.injEq]at h;rw[h]
       |cons p ps ih=>
        intro cs l h
        obtain⟨o,s,u⟩:=p
        simp only[fillV]at h
        split at h
        ·rename_i hc
         rw[ih _ _ h,splice_length (by omega)]
        ·cases h
      rw[this ps _ l hl,zrep_length,hzs]
     simp only[VR]
     exact⟨⟨w.heap.size,0,l'.length⟩,len,by simp,by simp,Nat.le_refl _,by simp[hll,hfill],by simp,by simp⟩
   ·cases h
  ·cases h
 ·cases h
theorem mkslice_ok(hh:HRel P μ w st)(hr:RR μ r n a.tmps){t e:TypeId}{s b:Nat}{z:V}{x y:Operand}{sx sy:Src}(ht:P.underlying t=some (.slice e))(hs:sizeP P e=some s)(hb:bytesP P e=some b)(hz:zeroP P e=some z)
  (hone:z.cells.all V.one=true) (hx:cSrc P x=some sx) (hy:cSrc P y=some sy) (h:op_mkslice e s b z.cells sx sy call r st=some (v,st')):
  OpOk P μ w st (do pure (.value (←Instr.makeSlice t (a.eval x) (a.eval y)))) v st':=by
 unfold op_mkslice at h
 split at h
 ·rename_i k l k' c h1 h2
  have e1:=ev_sim hh hr hx h1
  have e2:=ev_sim hh hr hy h2
  simp only[VR]at e1 e2
  split at h
  ·rename_i hc
   obtain⟨hl0,hlc,hbc,hc62,hsz,hs0⟩:=hc
   simp only[Option.some.injEq,Prod.mk.injEq]at h
   obtain⟨rfl,rfl⟩:=h
   obtain⟨i,zx,hi,hzx,hzr⟩:=zeroP_info hz
   unfold sizeP at hs
   unfold bytesP at hb
   simp only[hi,Option.map_some,Option.some.injEq]at hs hb
   have hz1:=(hzr μ).cells
   have hsim:=zrep_sim hz1 c.toNat
   rw[←hsz]at hsim
   have hrun:=run_make (P:=P) w t e i zx ht hi hzx k k' l c hl0 hlc (by rw[hb];omega) (by omega)
   rw[hs]at hrun
   refine OpOk.newRow hh (v:=.slice st.n 0 l.toNat (some c.toNat) s) (xs:=(madeCells zx.cells (c.toNat*s)).toList) (x:=.slice (some ⟨w.heap.size,0,none⟩) l.toNat c.toNat) ?_ hsim (zrep_one hone c.toNat hsim) ?_
   ·rw[e1,e2,hrun]
   ·simp only[VR]
    exact⟨⟨w.heap.size,0,_⟩,c.toNat,by simp;rfl,by simp,by omega,by simp[madeCells],by simp,by simp⟩
  ·cases h
 ·cases h
theorem OpOk.newObj(hh:HRel P μ w st){s:Sem Value}{x:Value}{o:O}{ob:Obj}(hs:s.run P w=.ok x (w.alloc ob))
  (ho:OM P (fun i=>if i=st.n then some ⟨w.heap.size,0,0⟩ else μ i) (w.alloc ob) o ⟨w.heap.size,0,0⟩) (hv:VR (fun i=>if i=st.n then some ⟨w.heap.size,0,0⟩ else μ i) v x):
  OpOk P μ w st (do pure (.value (←s))) v (st.alloc o):=
 ⟨Next.value x,x,_,_,[],by simp[hs,Result.andThen],.inl rfl,hv,Stp.alloc hh o ob 0 0 ho⟩
theorem alloc_new(w:World)(o:Obj):(w.alloc o).heap[w.heap.size]?=some o:=by
 show (w.heap.push o)[w.heap.size]?=some o
 simp
theorem mkmap_ok(hh:HRel P μ w st){t:TypeId}(h:op_mkmap call r st=some (v,st')):OpOk P μ w st (do pure (.value (←Instr.makeMap t none))) v st':=by
 unfold op_mkmap at h
 simp only[Option.some.injEq,Prod.mk.injEq]at h
 obtain⟨rfl,rfl⟩:=h
 refine OpOk.newObj hh (v:=.map st.n) (x:=.map (some w.heap.size)) (ob:=.map #[] 0) ?_ ⟨[],by simpa using alloc_new w _,rfl⟩ ?_
 ·simp[Instr.makeMap,Result.andThen]
 ·simp only[VR];exact⟨⟨w.heap.size,0,0⟩,by simp,rfl⟩
theorem mkchan_ok(hh:HRel P μ w st)(hr:RR μ r n a.tmps){t e:TypeId}{d:ChanDir}{b:Nat}{x:Operand}{s:Src}(ht:P.underlying t=some (.chan d e))(hb:bytesP P e=some b)(hx:cSrc P x=some s)
  (h:op_mkchan b s call r st=some (v,st')):OpOk P μ w st (do pure (.value (←Instr.makeChan t (a.eval x)))) v st':=by
 unfold op_mkchan at h
 split at h
 ·rename_i q k hk
  have e1:=ev_sim hh hr hx hk
  simp only[VR]at e1
  split at h
  ·cases h
  ·rename_i hc
   simp only[Option.some.injEq,Prod.mk.injEq]at h
   obtain⟨rfl,rfl⟩:=h
   unfold bytesP at hb
   simp only[Option.map_eq_some_iff]at hb
   obtain⟨i,hi,rfl⟩:=hb
   refine OpOk.newObj hh (v:=.chan st.n) (x:=.chan (some w.heap.size)) (ob:=.chan k.toNat #[] false 0 0 false) ?_ ⟨[],0,0,by simpa using alloc_new w _,by simp[VRs]⟩ ?_
   ·simp only[Instr.makeChan,e1,asInt,asIntOf,run_underlying ht,typeInfo,hi,if_neg hc,Result.andThen,Sem.run_bind,Sem.run_pure,run_program,run_newObj]
    rfl
   ·simp only[VR];exact⟨⟨w.heap.size,0,0⟩,by simp,rfl⟩
 ·cases h
theorem rangeStr_ok(hh:HRel P μ w st)(hr:RR μ r n a.tmps){t:TypeId}{x:Operand}{s:Src}(ht:P.underlying t=some .string)(hx:cSrc P x=some s)
  (h:op_rangeStr s call r st=some (v,st')):OpOk P μ w st (do pure (.value (←Instr.range t (a.eval x)))) v st':=by
 unfold op_rangeStr at h
 split at h
 ·rename_i q hk
  have e1:=ev_sim hh hr hx hk
  simp only[VR]at e1
  simp only[Option.some.injEq,Prod.mk.injEq]at h
  obtain⟨rfl,rfl⟩:=h
  refine OpOk.newObj hh (v:=.ptr st.n 0) (x:=.pointer (some ⟨w.heap.size,0,none⟩)) (ob:=.stringIter ⟨q.toArray⟩ 0) ?_ (by simp only[OM];exact⟨alloc_new w _,trivial⟩) ?_
  ·simp[Instr.range,e1,run_underlying ht,Result.andThen]
  ·simp only[VR];exact⟨⟨w.heap.size,0,0⟩,by simp,rfl⟩
 ·cases h
theorem run_storeCells_row(g o:Nat)(t:TypeId)(lo hi:Nat):∀(vs:List Value) (i:Nat) (cur:List Value) (w:World),w.heap[g]?=some (.cells ⟨cur⟩ t (lo,hi))→o+i+vs.length≤cur.length→(∀v∈vs,v.oneCell'=true)→
  (∀j,o+i≤j→j<o+i+vs.length→¬(lo≤j∧j<hi))→(storeCells ⟨g,o,none⟩ vs i).run P w=.ok () (w.setRow g ⟨splice cur (o+i) vs⟩)
 |[],i,cur,w,hg,_,_,_=>by
  have e:splice cur (o+i) []=cur:=by simp[splice]
  rw[e,setRow_self w g _ t _ hg]
  simp[storeCells]
 |v::rest,i,cur,w,hg,hl,h1,hf=>by
  simp only[List.length_cons]at hl
  have hi':o+i<cur.length:=by omega
  have hcell:w.cell? ⟨g,o+i,none⟩=some cur[o+i]:=by simp[World.cell?,hg,hi']
  have hfro:w.frozen? ⟨g,o+i,none⟩=false:=by
   have:=hf (o+i) (Nat.le_refl _) (by simp)
   simp only[World.frozen?,hg]
   simp;omega
  have hst:(store ((⟨g,o,none⟩:Addr).add i) v).run P w=.ok () (w.setRow g ⟨cur.set (o+i) v⟩):=by
   rw[add_none,run_store P w _ v _ (h1 v (by simp)),hcell]
   simp[hfro,setCell_eq_setRow w g (o+i) _ t _ v hg]
  have ih:=run_storeCells_row g o t lo hi rest (i+1) (cur.set (o+i) v) (w.setRow g ⟨cur.set (o+i) v⟩) (setRow_heap w g _ _ t _ hg) (by simp;omega) (fun x hx=>h1 x (by simp[hx]))
   (fun j hj1 hj2=>hf j (by omega) (by simp only[List.length_cons];omega))
  simp only[storeCells,Sem.run_bind,hst,Result.andThen_ok,ih,setRow_setRow]
  rw[←Nat.add_assoc,splice_step _ _ _ _ hi']
theorem row_write(hh:HRel P μ w st){i o:Nat}{l:L}(hl:μ i=some l){c:List V}{e:TypeId}(hrow:st.row i=some (c,e,true)){vs:List V}{xs:List Value}(hv:VRs μ vs xs)(h1:∀x∈xs,x.oneCell'=true)
  (hlen:o+vs.length≤c.length):
  ∃w',(storeCells ⟨l.b,l.d+o,none⟩ xs).run P w=.ok () w'∧Stp P μ w st μ w' (st.write i (.cells (splice c o vs) e true)) [i]:=by
 obtain⟨c',lo,hi,g1,g2,g3,g4,g5,g6⟩:=hh.row hl hrow
 obtain⟨cur⟩:=c'
 have hxl:=hv.length
 simp only[List.size_toArray]at g2
 have hrun:=run_storeCells_row (P:=P) l.b (l.d+o) e lo hi xs 0 cur w g1 (by omega) h1 (fun j hj1 hj2=>by
  have:=(g6 rfl).2 (j-l.d) (by omega)
  rw[show l.d+(j-l.d)=j by omega]at this
  exact this)
 refine⟨_,hrun,?_⟩
 have hb:=setRow_heap w l.b _ (⟨splice cur (l.d+o+0) xs⟩:Array Value) e _ g1
 refine Stp.write hh hl (row_spec hrow) rfl rfl rfl rfl (by simp) (fun b hb=>setRow_other w l.b b _ hb) ⟨_,lo,hi,hb,?_,?_,?_,?_,g6⟩
 ·simp only[List.size_toArray]
  rw[splice_length (by omega)];exact g2
 ·rw[splice_length hlen];exact g3
 ·intro j u hu
  rw[splice_get hlen]at hu
  have e':∀k:Nat,(⟨splice cur (l.d+o+0) xs⟩:Array Value)[k]?=(splice cur (l.d+o+0) xs)[k]?:=fun k=>by simp
  rw[e',splice_get (by omega)]
  split at hu
  ·rename_i hj
   rw[if_pos (by omega)]
   obtain⟨y,hy,hr⟩:=hv.get hu
   exact⟨y,by rw[show l.d+j-(l.d+o+0)=j-o by omega];exact hy,hr⟩
  ·rename_i hj
   rw[if_neg (by omega)]
   obtain⟨y,hy,hr⟩:=g4 j u hu
   exact⟨y,by simpa using hy,hr⟩
 ·intro j x hlt hx
  have e':(⟨splice cur (l.d+o+0) xs⟩:Array Value)[l.d+j]?=(splice cur (l.d+o+0) xs)[l.d+j]?:=by simp
  rw[e',splice_get (by omega)]at hx
  split at hx
  ·exact h1 x (List.mem_of_getElem? hx)
  ·exact g5 j x hlt (by simpa using hx)
theorem store_ok(hh:HRel P μ w st)(hr:RR μ r n a.tmps){t:TypeId}{k:Nat}{x y:Operand}{sx sy:Src}(hk:sizeP P t=some k)(hx:cSrc P x=some sx)(hy:cSrc P y=some sy)
  (h:op_store k sx sy call r st=some (v,st')):OpOk P μ w st (do Instr.storeAt t (a.eval x) (a.eval y);pure .skip) v st':=by
 unfold op_store at h
 split at h
 ·rename_i i o u h1 h2
  obtain⟨l,hl,e1⟩:=ev_sim hh hr hx h1
  have e2:=ev_sim hh hr hy h2
  split at h
  ·rename_i c e hrow
   split at h
   ·rename_i hc
    simp only[Option.some.injEq,Prod.mk.injEq]at h
    obtain⟨rfl,rfl⟩:=h
    have hcl:=e2.cells
    have hlen:=hcl.length
    obtain⟨w',hw,hs⟩:=row_write hh hl hrow hcl (all_one hcl hc.2.2) (o:=o) (by omega)
    refine⟨.skip,undef,w',μ,[i],?_,.inr ⟨rfl,rfl⟩,⟨[],rfl,by simp[VRs]⟩,hs⟩
    have hsz:(a.eval y).cells.size=k:=by
     rw[←hc.1,←hlen];simp
    simp[Instr.storeAt,Instr.sureAddr,e1,storeVar,run_sizeP hk,hsz,hw,Result.andThen]
   ·cases h
  ·cases h
 ·cases h
end
end Go.Mx
namespace Go.Mx
open Go
section
variable {P:Program} {μ:Mu} {w:World} {st st':St} {r:T V} {n:Nat} {a:Act} {call:CallT} {v:V}
theorem HRel.drew'(h:HRel P μ w st):HRel P μ w.drew st:=h.drew (w.drawn+1)
theorem Stp.undrew{μ':Mu}{w':World}{ws:List Nat}(h:Stp P μ w.drew st μ' w' st' ws):Stp P μ w st μ' w' st' ws:=
 ⟨h.hr,h.ext,h.nle,h.wl,⟨h.chg.os,h.chg.tape,h.chg.output,h.chg.size,h.chg.block⟩,h.new,h.keep,h.grow,h.full,h.wrt⟩
theorem Stp.newRow(hh:HRel P μ w st){cs:List V}{xs:List Value}{e:TypeId}{lo hi:Nat}
  (hle:cs.length≤xs.length) (hc:∀(j:Nat) (u:V),cs[j]?=some u→∃x,xs[j]?=some x∧VR μ u x) (h1:∀x∈xs,x.oneCell'=true) (hf:xs.length≤lo∨hi≤lo):
  Stp P μ w st (fun i=>if i=st.n then some ⟨w.heap.size,0,xs.length⟩ else μ i) (w.alloc (.cells ⟨xs⟩ e (lo,hi))) (st.alloc (.cells cs e true)) []:=by
 have hmono:∀i l,μ i=some l→(fun i=>if i=st.n then some (⟨w.heap.size,0,xs.length⟩:L) else μ i) i=some l:=fun i l hl=>by
  have:=(hh.dom i l hl).1
  simp only
  rw[if_neg (by omega)];exact hl
 refine Stp.alloc hh (.cells cs e true) (.cells ⟨xs⟩ e (lo,hi)) 0 xs.length ⟨⟨xs⟩,lo,hi,?_,by simp,hle,fun j u hu=>?_,fun j y _ hy=>?_,fun _=>⟨rfl,fun j hj=>by simp only at hj ⊢;omega⟩⟩
 ·simp
 ·obtain⟨y,hy,hr⟩:=hc j u hu
  exact⟨y,by simpa using hy,VR.mono hmono u y hr⟩
 ·exact h1 y (List.mem_of_getElem? (by simpa using hy))
theorem OpOk.newRowD(hh:HRel P μ w st){s:Sem Value}{x:Value}{cs:List V}{xs:List Value}{e:TypeId}{lo hi:Nat}(hs:s.run P w=.ok x (w.drew.alloc (.cells ⟨xs⟩ e (lo,hi))))
  (hle:cs.length≤xs.length) (hc:∀(j:Nat) (u:V),cs[j]?=some u→∃x,xs[j]?=some x∧VR μ u x) (h1:∀x∈xs,x.oneCell'=true) (hf:xs.length≤lo∨hi≤lo)
  (hv:VR (fun i=>if i=st.n then some ⟨w.heap.size,0,xs.length⟩ else μ i) v x):
  OpOk P μ w st (do pure (.value (←s))) v (st.alloc (.cells cs e true)):=
 ⟨Next.value x,x,_,_,[],by simp only[Sem.run_bind,hs,Result.andThen,Sem.run_pure],.inl rfl,hv,(Stp.newRow hh.drew' hle hc h1 hf (hi:=hi)).undrew⟩
theorem strBytes_ok(hh:HRel P μ w st)(hr:RR μ r n a.tmps){src dst e:TypeId}{x:Operand}{s:Src}(hs:P.underlying src=some .string)(hd:P.underlying dst=some (.slice e))(he:P.underlying e=some (.int .u8))(hx:cSrc P x=some s)
  (h:op_strBytes e s call r st=some (v,st')):OpOk P μ w st (do pure (.value (←convert src dst (a.eval x)))) v st':=by
 unfold op_strBytes at h
 split at h
 ·rename_i m hm
  simp only[Option.some.injEq,Prod.mk.injEq]at h
  obtain⟨rfl,rfl⟩:=h
  have h1:=ev_sim hh hr hx hm
  simp only[VR]at h1
  have hrun:=run_bytes_of_string (P:=P) w src dst e ⟨m.toArray⟩ hs hd he
  rw[←h1]at hrun
  have hcap:=grownCap_ge w m.length 0 e
  have hsz:(⟨m.toArray⟩:ByteArray).size=m.length:=by simp[ByteArray.size]
  rw[hsz]at hrun
  have hl:(bytesRow ⟨m.toArray⟩ (grownCap w m.length 0 e)).toList=m.map (fun b=>Value.int .u8 b.toNat)++List.replicate (grownCap w m.length 0 e-m.length) (.int .u8 0):=by
   simp[bytesRow,hsz]
  have hsz':(bytesRow ⟨m.toArray⟩ (grownCap w m.length 0 e)).size=m.length+(grownCap w m.length 0 e-m.length):=by
   rw[←Array.length_toList,hl];simp
  refine OpOk.newRowD hh (v:=.slice st.n 0 m.length none 1) (xs:=(bytesRow ⟨m.toArray⟩ (grownCap w m.length 0 e)).toList) (lo:=_) (hi:=_) hrun ?_ ?_ ?_ (.inl (by simp)) ?_
  ·rw[hl];simp
  ·intro j u hu
   rw[hl]
   have hj:j<m.length:=by
    have:=(List.getElem?_eq_some_iff.1 hu).1
    simpa using this
   refine⟨_,List.getElem?_append_left (by simpa using hj) |>.trans (List.getElem?_map ..) |>.trans (by rw[List.getElem?_eq_getElem hj];rfl),?_⟩
   simp only[List.getElem?_map,List.getElem?_eq_getElem hj,Option.map_some,Option.some.injEq]at hu
   rw[←hu];simp[VR]
  ·intro y hy
   rw[hl]at hy
   simp only[List.mem_append,List.mem_map,List.mem_replicate]at hy
   rcases hy with⟨b,_,rfl⟩|⟨_,rfl⟩<;>rfl
  ·simp only[VR]
   refine⟨⟨w.heap.size,0,_⟩,grownCap w m.length 0 e,by simp;rfl,by simp,hcap,?_,by simp,fun _=>?_⟩
   ·simp only[hsz'];omega
   ·simp only[hsz'];omega
 ·cases h
theorem bytes_of{l:List V}{s:List UInt8}{xs:List Value}(h:VRs μ l xs)(hm:l.mapM (fun v=>match v with|.int .u8 n=>some (UInt8.ofNat n.toNat)|_=>none)=some s):
  ∃ns:List Int,xs=ns.map (Value.int .u8)∧s=ns.map (fun n=>UInt8.ofNat n.toNat):=by
 induction l generalizing s xs with
 |nil=>
  simp only[List.mapM_nil,pure,Option.some.injEq]at hm
  subst hm
  simp only[VRs]at h
  exact⟨[],by simp[h],rfl⟩
 |cons u l ih=>
  obtain⟨y,ys,rfl,h1,h2⟩:=VRs_cons.1 h
  simp only[List.mapM_cons]at hm
  cases u<;>simp only[bind,Option.bind,reduceCtorEq]at hm
  rename_i k q
  cases k<;>simp only[reduceCtorEq]at hm
  split at hm
  ·cases hm
  ·rename_i s' hs'
   simp only[pure,Option.some.injEq]at hm
   subst hm
   obtain⟨ns,rfl,rfl⟩:=ih h2 hs'
   simp only[VR]at h1
   exact⟨q::ns,by simp[h1],by simp⟩
theorem foldl_push_ints:∀(l:List Int) (r:ByteArray),l.foldl (fun r n=>r.push (UInt8.ofNat n.toNat)) r=⟨r.data++(l.map (fun n=>UInt8.ofNat n.toNat)).toArray⟩
 |[],r=>by simp
 |b::l,r=>by
  simp only[List.foldl_cons]
  rw[foldl_push_ints l]
  simp[ByteArray.push]
theorem bytesStr_ok(hh:HRel P μ w st)(hr:RR μ r n a.tmps){src dst e:TypeId}{x:Operand}{s:Src}(hs:P.underlying src=some (.slice e))(hd:P.underlying dst=some .string)(he:P.underlying e=some (.int .u8))(hx:cSrc P x=some s)
  (h:op_bytesStr s call r st=some (v,st')):OpOk P μ w st (do pure (.value (←convert src dst (a.eval x)))) v st':=by
 unfold op_bytesStr at h
 split at h
 ·rename_i hm
  simp only[Option.some.injEq,Prod.mk.injEq]at h
  obtain⟨rfl,rfl⟩:=h
  have h1:=ev_sim hh hr hx hm
  simp only[VR]at h1
  refine OpOk.value hh (x:=.string ByteArray.empty) ?_ (by simp only[VR];rfl)
  rw[h1,run_convert_bytes_string w src dst e none 0 0 hs he hd]
  simp[Conv.bytesToString]
 ·rename_i i o len cap hm
  obtain⟨l,c,hl,h1,_⟩:=ev_sim hh hr hx hm
  split at h
  ·rename_i cs e' rw' hrow
   split at h
   ·rename_i seg hseg
    split at h
    ·rename_i s' hmm
     simp only[Option.some.injEq,Prod.mk.injEq]at h
     obtain⟨rfl,rfl⟩:=h
     obtain⟨xs,hxs,hxl,hload,_,_⟩:=(hh.row hl hrow).seg hseg
     obtain⟨ns,rfl,rfl⟩:=bytes_of hxs hmm
     refine OpOk.value hh (x:=.string ⟨(ns.map (fun n=>UInt8.ofNat n.toNat)).toArray⟩) ?_ (by simp[VR])
     rw[h1,run_convert_bytes_string w src dst e _ _ _ hs he hd,run_bytesToString w _ len c ns hload,foldl_push_ints]
     have he0:ByteArray.empty.data=#[]:=rfl
     rw[he0];simp
    ·cases h
   ·cases h
  ·cases h
 ·cases h
theorem run_getObj'{i:Nat}{o:Obj}(h:w.heap[i]?=some o)(ho:∀c e f,o≠.cells c e f):(getObj i).run P w=.ok o w:=by
 simp only[getObj,Sem.run,h]
theorem MapR.length:∀{es:List (V×V)} {xs:List MapEntry} {i:Nat},MapR μ es xs i→xs.length=es.length
 |[],_,_,h=>by simp[MapR]at h;simp[h]
 |(k,u)::es,_,i,h=>by
  obtain⟨e,ys,rfl,_,_,_,h5⟩:=h
  simp[MapR.length h5]
theorem len_str_ok(hh:HRel P μ w st)(hr:RR μ r n a.tmps){t ty:TypeId}{x:Operand}{s:Src}(ht:P.underlying t=some .string)(hx:cSrc P x=some s)
  (h:op_len 0 s call r st=some (v,st')):OpOk P μ w st (do pure (.value (←Builtin.len_ #[t] ty #[a.eval x]))) v st':=by
 unfold op_len at h
 cases hm:s.ev r with
 |none=>simp[hm]at h
 |some q=>
  have h1:=ev_sim hh hr hx hm
  cases q<;>simp[hm]at h
  rename_i q
  obtain⟨rfl,rfl⟩:=h
  simp only[VR]at h1
  have h2:(⟨q.toArray⟩:ByteArray).size=q.length:=rfl
  exact OpOk.value hh (x:=.int .i64 q.length) (by simp[Builtin.len_,h1,run_underlying ht,goInt,h2, -ByteArray.size_data]) (by simp[VR])
theorem len_slice_ok(hh:HRel P μ w st)(hr:RR μ r n a.tmps){t ty e:TypeId}{x:Operand}{s:Src}(ht:P.underlying t=some (.slice e))(hx:cSrc P x=some s)
  (h:op_len 1 s call r st=some (v,st')):OpOk P μ w st (do pure (.value (←Builtin.len_ #[t] ty #[a.eval x]))) v st':=by
 unfold op_len at h
 cases hm:s.ev r with
 |none=>simp[hm]at h
 |some q=>
  have h1:=ev_sim hh hr hx hm
  cases q<;>simp[hm]at h
  case nilslice=>
   obtain⟨rfl,rfl⟩:=h
   simp only[VR]at h1
   exact OpOk.value hh (x:=.int .i64 0) (by simp[Builtin.len_,h1,run_underlying ht,goInt]) (by simp[VR])
  case empty=>
   obtain⟨rfl,rfl⟩:=h
   obtain⟨b,c,h1⟩:=h1
   exact OpOk.value hh (x:=.int .i64 0) (by simp[Builtin.len_,h1,run_underlying ht,goInt]) (by simp[VR])
  case slice i o len cap sz=>
   obtain⟨rfl,rfl⟩:=h
   obtain⟨l,c,_,h1,_⟩:=h1
   exact OpOk.value hh (x:=.int .i64 len) (by simp[Builtin.len_,h1,run_underlying ht,goInt]) (by simp[VR])
theorem len_map_ok(hh:HRel P μ w st)(hr:RR μ r n a.tmps){t ty k e:TypeId}{x:Operand}{s:Src}(ht:P.underlying t=some (.map k e))(hx:cSrc P x=some s)
  (h:op_len 2 s call r st=some (v,st')):OpOk P μ w st (do pure (.value (←Builtin.len_ #[t] ty #[a.eval x]))) v st':=by
 unfold op_len at h
 cases hm:s.ev r with
 |none=>simp[hm]at h
 |some q=>
  have h1:=ev_sim hh hr hx hm
  cases q<;>simp[hm]at h
  case nilmap=>
   obtain⟨rfl,rfl⟩:=h
   simp only[VR]at h1
   exact OpOk.value hh (x:=.int .i64 0) (by simp[Builtin.len_,h1,run_underlying ht,goInt]) (by simp[VR])
  case map i=>
   split at h
   ·rename_i es hes
    simp only[Option.some.injEq,Prod.mk.injEq]at h
    obtain⟨rfl,rfl⟩:=h
    obtain⟨l,hl,h1⟩:=h1
    obtain⟨es',g1,g2⟩:=hh.get hl hes
    have hg:=run_getObj' (P:=P) g1 (by simp)
    exact OpOk.value hh (x:=.int .i64 es.length) (by simp[Builtin.len_,h1,run_underlying ht,goInt,hg,Result.andThen,g2.length]) (by simp[VR])
   ·cases h
theorem lenArr_ok(hh:HRel P μ w st){t ty:TypeId}{k:Nat}{x:Value}(ht:(∃e,P.underlying t=some (.array k e))∨∃u e,P.underlying t=some (.pointer u)∧P.underlying u=some (.array k e))
  (h:op_lenArr k call r st=some (v,st')):OpOk P μ w st (do pure (.value (←Builtin.len_ #[t] ty #[x]))) v st':=by
 unfold op_lenArr at h
 simp only[Option.some.injEq,Prod.mk.injEq]at h
 obtain⟨rfl,rfl⟩:=h
 refine OpOk.value hh (x:=.int .i64 k) ?_ (by simp[VR])
 rcases ht with⟨e,h1⟩|⟨u,e,h1,h2⟩
 ·simp[Builtin.len_,run_underlying h1,goInt]
 ·simp[Builtin.len_,run_underlying h1,run_underlying h2,goInt]
theorem cap_ok(hh:HRel P μ w st)(hr:RR μ r n a.tmps){t ty e:TypeId}{x:Operand}{s:Src}(ht:P.underlying t=some (.slice e))(hx:cSrc P x=some s)
  (h:op_cap s call r st=some (v,st')):OpOk P μ w st (do pure (.value (←Builtin.cap_ #[t] ty #[a.eval x]))) v st':=by
 unfold op_cap at h
 split at h
 ·rename_i hm
  simp only[Option.some.injEq,Prod.mk.injEq]at h
  obtain⟨rfl,rfl⟩:=h
  have h1:=ev_sim hh hr hx hm
  simp only[VR]at h1
  exact OpOk.value hh (x:=.int .i64 0) (by simp[Builtin.cap_,h1,run_underlying ht,goInt]) (by simp[VR])
 ·rename_i i o len k sz hm
  simp only[Option.some.injEq,Prod.mk.injEq]at h
  obtain⟨rfl,rfl⟩:=h
  obtain⟨l,c,_,h1,_,_,h5,_⟩:=ev_sim hh hr hx hm
  have hk:=h5 k rfl
  subst hk
  exact OpOk.value hh (x:=.int .i64 c) (by simp[Builtin.cap_,h1,run_underlying ht,goInt]) (by simp[VR])
 ·cases h
theorem minV_fold:∀{l:List V} {u:V} {xs:List Value},minV (l)=some u→VRs μ l xs→∃y ys z,xs=y::ys∧(ys.foldlM Builtin.min2 y).run P w=.ok z w∧VR μ u z:=by
 intro l
 induction l using minV.induct<;>intro u xs h hx
 case case1=>simp[minV]at h
 case case2 x=>
  simp only[minV,Option.some.injEq]at h;subst h
  obtain⟨y,ys,rfl,h1,h2⟩:=VRs_cons.1 hx
  simp only[VRs]at h2;subst h2
  exact⟨y,[],y,rfl,by simp,h1⟩
 case case3 k p k' q rest ih=>
  simp only[minV]at h
  obtain⟨y,ys,rfl,h1,h2⟩:=VRs_cons.1 hx
  obtain⟨y',ys',rfl,h3,h4⟩:=VRs_cons.1 h2
  simp only[VR]at h1 h3
  subst h1;subst h3
  obtain⟨y,ys,z,e,hz,hv⟩:=ih h (xs:=.int k (if q<p then q else p)::ys') (VRs_cons.2 ⟨_,_,rfl,by simp[VR],h4⟩)
  simp only[List.cons.injEq]at e
  obtain⟨rfl,rfl⟩:=e
  exact⟨_,_,z,rfl,by simpa[Builtin.min2]using hz,hv⟩
 case case4 h1 h2 h3=>unfold minV at h;split at h<;>simp_all<;>exact absurd rfl (h3 _ _ _ _ _ rfl rfl rfl rfl)
theorem maxV_fold:∀{l:List V} {u:V} {xs:List Value},maxV (l)=some u→VRs μ l xs→∃y ys z,xs=y::ys∧(ys.foldlM Builtin.max2 y).run P w=.ok z w∧VR μ u z:=by
 intro l
 induction l using maxV.induct<;>intro u xs h hx
 case case1=>simp[maxV]at h
 case case2 x=>
  simp only[maxV,Option.some.injEq]at h;subst h
  obtain⟨y,ys,rfl,h1,h2⟩:=VRs_cons.1 hx
  simp only[VRs]at h2;subst h2
  exact⟨y,[],y,rfl,by simp,h1⟩
 case case3 k p k' q rest ih=>
  simp only[maxV]at h
  obtain⟨y,ys,rfl,h1,h2⟩:=VRs_cons.1 hx
  obtain⟨y',ys',rfl,h3,h4⟩:=VRs_cons.1 h2
  simp only[VR]at h1 h3
  subst h1;subst h3
  obtain⟨y,ys,z,e,hz,hv⟩:=ih h (xs:=.int k (if p<q then q else p)::ys') (VRs_cons.2 ⟨_,_,rfl,by simp[VR],h4⟩)
  simp only[List.cons.injEq]at e
  obtain⟨rfl,rfl⟩:=e
  exact⟨_,_,z,rfl,by simpa[Builtin.max2]using hz,hv⟩
 case case4 h1 h2 h3=>unfold maxV at h;split at h<;>simp_all<;>exact absurd rfl (h3 _ _ _ _ _ rfl rfl rfl rfl)
theorem mn_ok(hh:HRel P μ w st)(hr:RR μ r n a.tmps){ts:Array TypeId}{ty:TypeId}{xs:Array Operand}{ss:List Src}(hx:cSrcs P xs.toList=some ss)
  (h:op_mn ss call r st=some (v,st')):OpOk P μ w st (do pure (.value (←Builtin.min_ ts ty (xs.map a.eval)))) v st':=by
 unfold op_mn at h
 split at h
 ·rename_i l hl
  split at h
  ·rename_i u hu
   simp only[Option.some.injEq,Prod.mk.injEq]at h
   obtain⟨rfl,rfl⟩:=h
   obtain⟨y,ys,z,e,hz,hv⟩:=minV_fold (P:=P) (w:=w) (minO_eq l▸hu) (evAll_sim hh hr hx hl)
   refine OpOk.value hh (x:=z) ?_ hv
   simp only[Builtin.min_,Array.toList_map,e]
   exact hz
  ·cases h
 ·cases h
theorem mx_ok(hh:HRel P μ w st)(hr:RR μ r n a.tmps){ts:Array TypeId}{ty:TypeId}{xs:Array Operand}{ss:List Src}(hx:cSrcs P xs.toList=some ss)
  (h:op_mx ss call r st=some (v,st')):OpOk P μ w st (do pure (.value (←Builtin.max_ ts ty (xs.map a.eval)))) v st':=by
 unfold op_mx at h
 split at h
 ·rename_i l hl
  split at h
  ·rename_i u hu
   simp only[Option.some.injEq,Prod.mk.injEq]at h
   obtain⟨rfl,rfl⟩:=h
   obtain⟨y,ys,z,e,hz,hv⟩:=maxV_fold (P:=P) (w:=w) (maxO_eq l▸hu) (evAll_sim hh hr hx hl)
   refine OpOk.value hh (x:=z) ?_ hv
   simp only[Builtin.max_,Array.toList_map,e]
   exact hz
  ·cases h
 ·cases h
end
end Go.Mx
