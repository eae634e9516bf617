/-The operations of M stand for the Go mod-/
import Derived.Test.YtjjmkflbfpeagaaGreatDoorMxOp4
import Derived.Laws.IdiomStrings
import Derived.Lib.Bytealg
set_option linter.all false
namespace Go.Mx
open Go
section
variable {P:Program} {μ:Mu} {w:World} {st ax:St} {r:T V} {n:Nat} {a:Act} {call:cH} {v:V}
def ZE(zs:List V)(k:Nat):(df zs k).length=k*zs.length:=by simp[df]
def NH{zs:List V}{xs:List Value}(h:aP μ zs xs)(k:Nat):aP μ (df zs k) (madeCells ⟨xs⟩ (k*zs.length)).toList:=by
 have hl:=h.length
 refine aP.pd (by simp[df,madeCells]) fun j u hu=>?_
 have hj:j<k*zs.length:=by
  have:=(zo.1 hu).1
  simpa[df]using this
 have hz:0<zs.length:=by
  rcases IE zs.length with e|e
  ·rw[e]at hj;simp at hj
  ·exact e
 have AR:j%zs.length<zs.length:=jO _ hz
 simp only[df,ko,ID hj,Aq,ak]at hu
 obtain⟨y,h1,h2⟩:=h.get (i:=j%zs.length) (v:=zs[j%zs.length]) (by simp[AR])
 refine⟨y,?_,?_⟩
 ·simp only[madeCells,Array.toList_map,Array.toList_range,ko,ID hj,Aq,ak]
  have h_:(⟨xs⟩:Array Value)[j%xs.length]?=some y:=by rw[hl];simpa using h1
  simp only[Array.size,getElem!_def,h_]
 ·rw[<-hu]
  simpa[List.getD,AR]using h2
def S0{zs:List V}(h:zs.all V.one=true)(k:Nat):∀{xs:List Value},aP μ (df zs k) xs->∀x∈xs,x.oneCell'=true:=by
 intro xs hx
 refine Jx hx ?_
 rw[sJ]
 intro u hu
 simp only[df,tV,List.mem_range]at hu
 obtain⟨j,hj,rfl⟩:=hu
 have hz:0<zs.length:=by
  rcases IE zs.length with e|e
  ·rw[e]at hj;simp at hj
  ·exact e
 have AR:j%zs.length<zs.length:=jO _ hz
 rw[sJ]at h
 simpa[List.getD,AR]using h zs[j%zs.length] (by simp)
def Yd0(hh:a_ P μ w st)(hr:RR μ r n a.tmps){t e:TypeId}{s len:Nat}{z:V}{parts:Array (Nat×Operand)}{rD:List (Nat×Nat×Src)}
  (ht:P.underlying t=some (.slice e)) (hs:eD P e=some s) (hz:nv P e=some z) (hle:¬len*s > 2^24) (Jl:z.cells.length=s)
  (hc:zm P (fun i=>some (i*s,s)) parts.toList=some rD) (h:DC e s len (df z.cells len) rD call r st=some (v,ax)):
  aS P μ w st (do pure (.value (<-Instr.buildSlice t len (parts.map fun (i,x)=>(i,a.eval x))))) v ax:=by
 unfold DC at h
 split at h
 ·rename_i ps yb
  split at h
  ·rename_i l hl
   split at h
   ·rename_i cy
    simp only[ak,bh]at h
    obtain⟨rfl,rfl⟩:=h
    obtain⟨i,x,hi,hx,oF⟩:=Eh hz
    have yd:=(oF μ).cells
    have mS:=NH yd len
    rw[Jl]at mS
    obtain⟨l',h1,h2⟩:=Tf hh hr hc yb mS hl
    have El:=h2.length
    refine aS.newRow hh (v:=.slice st.n 0 len (some len) s) (xs:=l') (x:=.slice (some ⟨w.heap.size,0,none⟩) len len) ?_ h2 (Jx h2 cy) ?_
    ·have h_:Instr.fill (fun i=>some (i*s,s)) (madeCells x.cells (len*s)) (parts.map fun p=>(p.1,a.eval p.2)).toList=some ⟨l'⟩:=by
      rw[<-h1]
      simp
     simp only[Instr.buildSlice,Sem.run_bind,run_underlying ht,Result.andThen,vL hs,aq hle]
     split
     ·rename_i e0
      have gD:((Array.range (len*s)).map ((#[]:Array Value)[·%(#[]:Array Value).size]!))=madeCells x.cells (len*s):=by
       simp[madeCells,e0]
      simp only[Sem.run_bind,Sem.run_pure,Result.andThen,gD]
      rw[h_]
      simp[Go.newRow,Result.andThen]
     ·have gD:((Array.range (len*s)).map (x.cells[·%x.cells.size]!))=madeCells x.cells (len*s):=rfl
      simp only[zeroValue,typeInfo,Sem.run_bind,Sem.run_pure,Result.andThen,hi,hx,run_program]
      simp only[gD]
      rw[h_]
      simp[Go.newRow,Result.andThen]
    ·have Jy:l.length=len*s:=by
      have:∀(ps:List (Nat×Nat×V)) (cs l:List V),zt cs ps=some l->l.length=cs.length:=by
       intro ps
       induction ps with
       |nil=>intro cs l h;simp only[zt,ak]at h;rw[h]
       |cons p ps ih=>
        intro cs l h
        obtain⟨o,s,u⟩:=p
        simp only[zt]at h
        split at h
        ·rename_i hc
         rw[ih _ _ h,CZ (by omega)]
        ·cases h
      rw[this ps _ l hl,ZE,Jl]
     simp only[VR]
     exact⟨⟨w.heap.size,0,l'.length⟩,len,by simp,by simp,aR _,by simp[El,Jy],by simp,by simp⟩
   ·cases h
  ·cases h
 ·cases h
def Zx6(hh:a_ P μ w st)(hr:RR μ r n a.tmps){t e:TypeId}{s b:Nat}{z:V}{x y:Operand}{sx sy:Src}(ht:P.underlying t=some (.slice e))(hs:eD P e=some s)(hb:zl P e=some b)(hz:nv P e=some z)
  (cy:z.cells.all V.one=true) (hx:bk P x=some sx) (hy:bk P y=some sy) (h:Av e s b z.cells sx sy call r st=some (v,ax)):
  aS P μ w st (do pure (.value (<-Instr.makeSlice t (a.eval x) (a.eval y)))) v ax:=by
 unfold Av at h
 split at h
 ·rename_i k l k' c h1 h2
  have e1:=cE hh hr hx h1
  have e2:=cE hh hr hy h2
  simp only[VR]at e1 e2
  split at h
  ·rename_i hc
   obtain⟨rJ,zD,hbc,zat,jc,uI⟩:=hc
   simp only[ak,bh]at h
   obtain⟨rfl,rfl⟩:=h
   obtain⟨i,zx,hi,oF,Af⟩:=Eh hz
   unfold eD at hs
   unfold zl at hb
   simp only[hi,Aq,ak]at hs hb
   have yd:=(Af μ).cells
   have mS:=NH yd c.toNat
   rw[<-jc]at mS
   have bH:=run_make (P:=P) w t e i zx ht hi oF k k' l c rJ zD (by rw[hb];omega) (by omega)
   rw[hs]at bH
   refine aS.newRow hh (v:=.slice st.n 0 l.toNat (some c.toNat) s) (xs:=(madeCells zx.cells (c.toNat*s)).toList) (x:=.slice (some ⟨w.heap.size,0,none⟩) l.toNat c.toNat) ?_ mS (S0 cy c.toNat mS) ?_
   ·rw[e1,e2,bH]
   ·simp only[VR]
    exact⟨⟨w.heap.size,0,_⟩,c.toNat,by simp;rfl,by simp,by omega,by simp[madeCells],by simp,by simp⟩
  ·cases h
 ·cases h
def aS.newObj(hh:a_ P μ w st){s:Sem Value}{x:Value}{o:O}{ob:Obj}(hs:s.run P w=.ok x (w.alloc ob))
  (ho:OM P (fun i=>if i=st.n then some ⟨w.heap.size,0,0⟩ else μ i) (w.alloc ob) o ⟨w.heap.size,0,0⟩) (hv:VR (fun i=>if i=st.n then some ⟨w.heap.size,0,0⟩ else μ i) v x):
  aS P μ w st (do pure (.value (<-s))) v (st.alloc o):=
 ⟨Next.value x,x,_,_,[],by simp[hs,Result.andThen],.inl rfl,hv,bA.alloc hh o ob 0 0 ho⟩
def NK(w:World)(o:Obj):(w.alloc o).heap[w.heap.size]?=some o:=by
 show (w.heap.push o)[w.heap.size]?=some o
 simp
def Yf3(hh:a_ P μ w st){t:TypeId}(h:GI call r st=some (v,ax)):aS P μ w st (do pure (.value (<-Instr.makeMap t none))) v ax:=by
 unfold GI at h
 simp only[ak,bh]at h
 obtain⟨rfl,rfl⟩:=h
 refine aS.newObj hh (v:=.map st.n) (x:=.map (some w.heap.size)) (ob:=.map #[] 0) ?_ ⟨[],by simpa using NK w _,rfl⟩ ?_
 ·simp[Instr.makeMap,Result.andThen]
 ·simp only[VR];exact⟨⟨w.heap.size,0,0⟩,by simp,rfl⟩
def Ybz(hh:a_ P μ w st)(hr:RR μ r n a.tmps){t e:TypeId}{d:ChanDir}{b:Nat}{x:Operand}{s:Src}(ht:P.underlying t=some (.chan d e))(hb:zl P e=some b)(hx:bk P x=some s)
  (h:BU b s call r st=some (v,ax)):aS P μ w st (do pure (.value (<-Instr.makeChan t (a.eval x)))) v ax:=by
 unfold BU at h
 split at h
 ·rename_i q k hk
  have e1:=cE hh hr hx hk
  simp only[VR]at e1
  split at h
  ·cases h
  ·rename_i hc
   simp only[ak,bh]at h
   obtain⟨rfl,rfl⟩:=h
   unfold zl at hb
   simp only[fZ]at hb
   obtain⟨i,hi,rfl⟩:=hb
   refine aS.newObj hh (v:=.chan st.n) (x:=.chan (some w.heap.size)) (ob:=.chan k.toNat #[] false 0 0 false) ?_ ⟨[],0,0,by simpa using NK w _,by simp[aP]⟩ ?_
   ·simp only[Instr.makeChan,e1,asInt,asIntOf,run_underlying ht,typeInfo,hi,aq hc,Result.andThen,Sem.run_bind,Sem.run_pure,run_program,run_newObj]
    rfl
   ·simp only[VR];exact⟨⟨w.heap.size,0,0⟩,by simp,rfl⟩
 ·cases h
def Zte(hh:a_ P μ w st)(hr:RR μ r n a.tmps){t:TypeId}{x:Operand}{s:Src}(ht:P.underlying t=some .string)(hx:bk P x=some s)
  (h:DN s call r st=some (v,ax)):aS P μ w st (do pure (.value (<-Instr.range t (a.eval x)))) v ax:=by
 unfold DN at h
 split at h
 ·rename_i q hk
  have e1:=cE hh hr hx hk
  simp only[VR]at e1
  simp only[ak,bh]at h
  obtain⟨rfl,rfl⟩:=h
  refine aS.newObj hh (v:=.ptr st.n 0) (x:=.pointer (some ⟨w.heap.size,0,none⟩)) (ob:=.stringIter ⟨q.toArray⟩ 0) ?_ (by simp only[OM];exact⟨NK w _,trivial⟩) ?_
  ·simp[Instr.range,e1,run_underlying ht,Result.andThen]
  ·simp only[VR];exact⟨⟨w.heap.size,0,0⟩,by simp,rfl⟩
 ·cases h
def S6(g o:Nat)(t:TypeId)(lo hi:Nat):∀(vs:List Value) (i:Nat) (cur:List Value) (w:World),w.heap[g]?=some (.cells ⟨cur⟩ t (lo,hi))->o+i+vs.length<=cur.length->(∀v∈vs,v.oneCell'=true)->
  (∀j,o+i<=j->j<o+i+vs.length->¬(lo<=j/\j<hi))->(storeCells ⟨g,o,none⟩ vs i).run P w=.ok () (w.setRow g ⟨ag cur (o+i) vs⟩)
 |[],i,cur,w,hg,_,_,_=>by
  have e:ag cur (o+i) []=cur:=by simp[ag]
  rw[e,setRow_self w g _ t _ hg]
  simp[storeCells]
 |v::rest,i,cur,w,hg,hl,h1,hf=>by
  simp only[bf]at hl
  have iV:o+i<cur.length:=by omega
  have fO:w.cell? ⟨g,o+i,none⟩=some cur[o+i]:=by simp[World.cell?,hg,iV]
  have Tg:w.frozen? ⟨g,o+i,none⟩=false:=by
   have:=hf (o+i) (aR _) (by simp)
   simp only[World.frozen?,hg]
   simp;omega
  have ff:(store ((⟨g,o,none⟩:Addr).add i) v).run P w=.ok () (w.setRow g ⟨cur.set (o+i) v⟩):=by
   rw[uJ,run_store P w _ v _ (h1 v (by simp)),fO]
   simp[Tg,setCell_eq_setRow w g (o+i) _ t _ v hg]
  have ih:=S6 g o t lo hi rest (i+1) (cur.set (o+i) v) (w.setRow g ⟨cur.set (o+i) v⟩) (setRow_heap w g _ _ t _ hg) (by simp;omega) (fun x hx=>h1 x (by simp[hx]))
   (fun j B5 nH=>hf j (by omega) (by simp only[bf];omega))
  simp only[storeCells,Sem.run_bind,ff,Result.andThen_ok,ih,setRow_setRow]
  rw[<-pk,ZS _ _ _ _ iV]
def NG(hh:a_ P μ w st){i o:Nat}{l:L}(hl:μ i=some l){c:List V}{e:TypeId}(aE:st.row i=some (c,e,true)){vs:List V}{xs:List Value}(hv:aP μ vs xs)(h1:∀x∈xs,x.oneCell'=true)
  (hlen:o+vs.length<=c.length):
  ∃w',(storeCells ⟨l.b,l.d+o,none⟩ xs).run P w=.ok () w'/\bA P μ w st μ w' (st.write i (.cells (ag c o vs) e true)) [i]:=by
 obtain⟨c',lo,hi,g1,g2,g3,g4,g5,g6⟩:=hh.row hl aE
 obtain⟨cur⟩:=c'
 have AL:=hv.length
 simp only[List.size_toArray]at g2
 have bH:=S6 (P:=P) l.b (l.d+o) e lo hi xs 0 cur w g1 (by omega) h1 (fun j B5 nH=>by
  have:=(g6 rfl).2 (j-l.d) (by omega)
  rw[show l.d+(j-l.d)=j by omega]at this
  exact this)
 refine⟨_,bH,?_⟩
 have hb:=setRow_heap w l.b _ (⟨ag cur (l.d+o+0) xs⟩:Array Value) e _ g1
 refine bA.write hh hl (Jg aE) rfl rfl rfl rfl (by simp) (fun b hb=>setRow_other w l.b b _ hb) ⟨_,lo,hi,hb,?_,?_,?_,?_,g6⟩
 ·simp only[List.size_toArray]
  rw[CZ (by omega)];exact g2
 ·rw[CZ hlen];exact g3
 ·intro j u hu
  rw[GW hlen]at hu
  have e':∀k:Nat,(⟨ag cur (l.d+o+0) xs⟩:Array Value)[k]?=(ag cur (l.d+o+0) xs)[k]?:=fun k=>by simp
  rw[e',GW (by omega)]
  split at hu
  ·rename_i hj
   rw[aJ (by omega)]
   obtain⟨y,hy,hr⟩:=hv.get hu
   exact⟨y,by rw[show l.d+j-(l.d+o+0)=j-o by omega];exact hy,hr⟩
  ·rename_i hj
   rw[aq (by omega)]
   obtain⟨y,hy,hr⟩:=g4 j u hu
   exact⟨y,by simpa using hy,hr⟩
 ·intro j x aO hx
  have e':(⟨ag cur (l.d+o+0) xs⟩:Array Value)[l.d+j]?=(ag cur (l.d+o+0) xs)[l.d+j]?:=by simp
  rw[e',GW (by omega)]at hx
  split at hx
  ·exact h1 x (fW hx)
  ·exact g5 j x aO (by simpa using hx)
def Yew(hh:a_ P μ w st)(hr:RR μ r n a.tmps){t:TypeId}{k:Nat}{x y:Operand}{sx sy:Src}(hk:eD P t=some k)(hx:bk P x=some sx)(hy:bk P y=some sy)
  (h:BS k sx sy call r st=some (v,ax)):aS P μ w st (do Instr.storeAt t (a.eval x) (a.eval y);pure .skip) v ax:=by
 unfold BS at h
 split at h
 ·rename_i i o u h1 h2
  obtain⟨l,hl,e1⟩:=cE hh hr hx h1
  have e2:=cE hh hr hy h2
  split at h
  ·rename_i c e aE
   split at h
   ·rename_i hc
    simp only[ak,bh]at h
    obtain⟨rfl,rfl⟩:=h
    have dM:=e2.cells
    have hlen:=dM.length
    obtain⟨w',hw,hs⟩:=NG hh hl aE dM (Jx dM hc.2.2) (o:=o) (by omega)
    refine⟨.skip,undef,w',μ,[i],?_,.inr ⟨rfl,rfl⟩,⟨[],rfl,by simp[aP]⟩,hs⟩
    have jc:(a.eval y).cells.size=k:=by
     rw[<-hc.1,<-hlen];simp
    simp[Instr.storeAt,Instr.sureAddr,e1,storeVar,vL hk,jc,hw,Result.andThen]
   ·cases h
  ·cases h
 ·cases h
end
section
variable {P:Program} {μ:Mu} {w:World} {st ax:St} {r:T V} {n:Nat} {a:Act} {call:cH} {v:V}
def a_.Cg(h:a_ P μ w st):a_ P μ w.drew st:=h.drew (w.drawn+1)
def bA.x9{μ':Mu}{w':World}{ws:List Nat}(h:bA P μ w.drew st μ' w' ax ws):bA P μ w st μ' w' ax ws:=
 ⟨h.hr,h.ext,h.gJ,h.wl,⟨h.dV.os,h.dV.tape,h.dV.output,h.dV.size,h.dV.block⟩,h.new,h.ae,h.grow,h.full,h.wA⟩
def bA.newRow(hh:a_ P μ w st){cs:List V}{xs:List Value}{e:TypeId}{lo hi:Nat}
  (hle:cs.length<=xs.length) (hc:∀(j:Nat) (u:V),cs[j]?=some u->∃x,xs[j]?=some x/\VR μ u x) (h1:∀x∈xs,x.oneCell'=true) (hf:xs.length<=lo\/hi<=lo):
  bA P μ w st (fun i=>if i=st.n then some ⟨w.heap.size,0,xs.length⟩ else μ i) (w.alloc (.cells ⟨xs⟩ e (lo,hi))) (st.alloc (.cells cs e true)) []:=by
 have dr:∀i l,μ i=some l->(fun i=>if i=st.n then some (⟨w.heap.size,0,xs.length⟩:L) else μ i) i=some l:=fun i l hl=>by
  have:=(hh.cU i l hl).1
  simp only
  rw[aq (by omega)];exact hl
 refine bA.alloc hh (.cells cs e true) (.cells ⟨xs⟩ e (lo,hi)) 0 xs.length ⟨⟨xs⟩,lo,hi,?_,by simp,hle,fun j u hu=>?_,fun j y _ hy=>?_,fun _=>⟨rfl,fun j hj=>by simp only at hj ⊢;omega⟩⟩
 ·simp
 ·obtain⟨y,hy,hr⟩:=hc j u hu
  exact⟨y,by simpa using hy,VR.mono dr u y hr⟩
 ·exact h1 y (fW (by simpa using hy))
def aS.AS(hh:a_ P μ w st){s:Sem Value}{x:Value}{cs:List V}{xs:List Value}{e:TypeId}{lo hi:Nat}(hs:s.run P w=.ok x (w.drew.alloc (.cells ⟨xs⟩ e (lo,hi))))
  (hle:cs.length<=xs.length) (hc:∀(j:Nat) (u:V),cs[j]?=some u->∃x,xs[j]?=some x/\VR μ u x) (h1:∀x∈xs,x.oneCell'=true) (hf:xs.length<=lo\/hi<=lo)
  (hv:VR (fun i=>if i=st.n then some ⟨w.heap.size,0,xs.length⟩ else μ i) v x):
  aS P μ w st (do pure (.value (<-s))) v (st.alloc (.cells cs e true)):=
 ⟨Next.value x,x,_,_,[],by simp only[Sem.run_bind,hs,Result.andThen,Sem.run_pure],.inl rfl,hv,(bA.newRow hh.Cg hle hc h1 hf (hi:=hi)).x9⟩
def Zsy(hh:a_ P μ w st)(hr:RR μ r n a.tmps){src dst e:TypeId}{x:Operand}{s:Src}(hs:P.underlying src=some .string)(hd:P.underlying dst=some (.slice e))(he:P.underlying e=some (.int .u8))(hx:bk P x=some s)
  (h:BT e s call r st=some (v,ax)):aS P μ w st (do pure (.value (<-convert src dst (a.eval x)))) v ax:=by
 unfold BT at h
 split at h
 ·rename_i m hm
  simp only[ak,bh]at h
  obtain⟨rfl,rfl⟩:=h
  have h1:=cE hh hr hx hm
  simp only[VR]at h1
  have bH:=run_bytes_of_string (P:=P) w src dst e ⟨m.toArray⟩ hs hd he
  rw[<-h1]at bH
  have AM:=grownCap_ge w m.length 0 e
  have jc:(⟨m.toArray⟩:ByteArray).size=m.length:=by simp[ByteArray.size]
  rw[jc]at bH
  have hl:(bytesRow ⟨m.toArray⟩ (grownCap w m.length 0 e)).toList=m.map (fun b=>Value.int .u8 b.toNat)++List.replicate (grownCap w m.length 0 e-m.length) (.int .u8 0):=by
   simp[bytesRow,jc]
  have Jz:(bytesRow ⟨m.toArray⟩ (grownCap w m.length 0 e)).size=m.length+(grownCap w m.length 0 e-m.length):=by
   rw[<-Array.length_toList,hl];simp
  refine aS.AS hh (v:=.slice st.n 0 m.length none 1) (xs:=(bytesRow ⟨m.toArray⟩ (grownCap w m.length 0 e)).toList) (lo:=_) (hi:=_) bH ?_ ?_ ?_ (.inl (by simp)) ?_
  ·rw[hl];simp
  ·intro j u hu
   rw[hl]
   have hj:j<m.length:=by
    have:=(zo.1 hu).1
    simpa using this
   refine⟨_,nj (by simpa using hj) |>.trans (ko ..) |>.trans (by rw[dT hj];rfl),?_⟩
   simp only[ko,dT hj,Aq,ak]at hu
   rw[<-hu];simp[VR]
  ·intro y hy
   rw[hl]at hy
   simp only[kl,tV,GD]at hy
   rcases hy with⟨b,_,rfl⟩|⟨_,rfl⟩<;>rfl
  ·simp only[VR]
   refine⟨⟨w.heap.size,0,_⟩,grownCap w m.length 0 e,by simp;rfl,by simp,AM,?_,by simp,fun _=>?_⟩
   ·simp only[Jz];omega
   ·simp only[Jz];omega
 ·cases h
def Yg7{l:List V}{s:List UInt8}{xs:List Value}(h:aP μ l xs)(hm:l.mapM (fun v=>match v with|.int .u8 n=>some (UInt8.ofNat n.toNat)|_=>none)=some s):
  ∃ns:List Int,xs=ns.map (Value.int .u8)/\s=ns.map (fun n=>UInt8.ofNat n.toNat):=by
 induction l generalizing s xs with
 |nil=>
  simp only[List.mapM_nil,pure,ak]at hm
  subst hm
  simp only[aP]at h
  exact⟨[],by simp[h],rfl⟩
 |cons u l ih=>
  obtain⟨y,ys,rfl,h1,h2⟩:=fM.1 h
  simp only[List.mapM_cons]at hm
  cases u<;>simp only[bind,Option.bind,reduceCtorEq]at hm
  rename_i k q
  cases k<;>simp only[reduceCtorEq]at hm
  split at hm
  ·cases hm
  ·rename_i s' iU
   simp only[pure,ak]at hm
   subst hm
   obtain⟨ns,rfl,rfl⟩:=ih h2 iU
   simp only[VR]at h1
   exact⟨q::ns,by simp[h1],by simp⟩
def ZT:∀(l:List Int) (r:ByteArray),l.foldl (fun r n=>r.push (UInt8.ofNat n.toNat)) r=⟨r.data++(l.map (fun n=>UInt8.ofNat n.toNat)).toArray⟩
 |[],r=>by simp
 |b::l,r=>by
  simp only[List.foldl_cons]
  rw[ZT l]
  simp[ByteArray.push]
def Zup(hh:a_ P μ w st)(hr:RR μ r n a.tmps){src dst e:TypeId}{x:Operand}{s:Src}(hs:P.underlying src=some (.slice e))(hd:P.underlying dst=some .string)(he:P.underlying e=some (.int .u8))(hx:bk P x=some s)
  (h:DI s call r st=some (v,ax)):aS P μ w st (do pure (.value (<-convert src dst (a.eval x)))) v ax:=by
 unfold DI at h
 split at h
 ·rename_i hm
  simp only[ak,bh]at h
  obtain⟨rfl,rfl⟩:=h
  have h1:=cE hh hr hx hm
  simp only[VR]at h1
  refine aS.value hh (x:=.string ByteArray.empty) ?_ (by simp only[VR];rfl)
  rw[h1,run_convert_bytes_string w src dst e none 0 0 hs he hd]
  simp[Conv.bytesToString]
 ·rename_i i o len cap hm
  obtain⟨l,c,hl,h1,_⟩:=cE hh hr hx hm
  split at h
  ·rename_i cs e' AA aE
   split at h
   ·rename_i xH qI
    split at h
    ·rename_i s' S9
     simp only[ak,bh]at h
     obtain⟨rfl,rfl⟩:=h
     obtain⟨xs,oB,AL,uG,_,_⟩:=(hh.row hl aE).xH qI
     obtain⟨ns,rfl,rfl⟩:=Yg7 oB S9
     refine aS.value hh (x:=.string ⟨(ns.map (fun n=>UInt8.ofNat n.toNat)).toArray⟩) ?_ (by simp[VR])
     rw[h1,run_convert_bytes_string w src dst e _ _ _ hs he hd,run_bytesToString w _ len c ns uG,ZT]
     have JA:ByteArray.empty.data=#[]:=rfl
     rw[JA];simp
    ·cases h
   ·cases h
  ·cases h
 ·cases h
def Em{i:Nat}{o:Obj}(h:w.heap[i]?=some o)(ho:∀c e f,o≠.cells c e f):(getObj i).run P w=.ok o w:=by
 simp only[getObj,Sem.run,h]
def gR.length:∀{es:List (V×V)} {xs:List MapEntry} {i:Nat},gR μ es xs i->xs.length=es.length
 |[],_,_,h=>by simp[gR]at h;simp[h]
 |(k,u)::es,_,i,h=>by
  obtain⟨e,ys,rfl,_,_,_,h5⟩:=h
  simp[gR.length h5]
def Zyd(hh:a_ P μ w st)(hr:RR μ r n a.tmps){t ty:TypeId}{x:Operand}{s:Src}(ht:P.underlying t=some .string)(hx:bk P x=some s)
  (h:vC 0 s call r st=some (v,ax)):aS P μ w st (do pure (.value (<-Builtin.len_ #[t] ty #[a.eval x]))) v ax:=by
 unfold vC at h
 cases hm:s.ev r with
 |none=>simp[hm]at h
 |some q=>
  have h1:=cE hh hr hx hm
  cases q<;>simp[hm]at h
  rename_i q
  obtain⟨rfl,rfl⟩:=h
  simp only[VR]at h1
  have h2:(⟨q.toArray⟩:ByteArray).size=q.length:=rfl
  exact aS.value hh (x:=.int .i64 q.length) (by simp[Builtin.len_,h1,run_underlying ht,goInt,h2, -ByteArray.size_data]) (by simp[VR])
def Zrm(hh:a_ P μ w st)(hr:RR μ r n a.tmps){t ty e:TypeId}{x:Operand}{s:Src}(ht:P.underlying t=some (.slice e))(hx:bk P x=some s)
  (h:vC 1 s call r st=some (v,ax)):aS P μ w st (do pure (.value (<-Builtin.len_ #[t] ty #[a.eval x]))) v ax:=by
 unfold vC at h
 cases hm:s.ev r with
 |none=>simp[hm]at h
 |some q=>
  have h1:=cE hh hr hx hm
  cases q<;>simp[hm]at h
  case aa=>
   obtain⟨rfl,rfl⟩:=h
   simp only[VR]at h1
   exact aS.value hh (x:=.int .i64 0) (by simp[Builtin.len_,h1,run_underlying ht,goInt]) (by simp[VR])
  case empty=>
   obtain⟨rfl,rfl⟩:=h
   obtain⟨b,c,h1⟩:=h1
   exact aS.value hh (x:=.int .i64 0) (by simp[Builtin.len_,h1,run_underlying ht,goInt]) (by simp[VR])
  case slice i o len cap sz=>
   obtain⟨rfl,rfl⟩:=h
   obtain⟨l,c,_,h1,_⟩:=h1
   exact aS.value hh (x:=.int .i64 len) (by simp[Builtin.len_,h1,run_underlying ht,goInt]) (by simp[VR])
def Zye(hh:a_ P μ w st)(hr:RR μ r n a.tmps){t ty k e:TypeId}{x:Operand}{s:Src}(ht:P.underlying t=some (.map k e))(hx:bk P x=some s)
  (h:vC 2 s call r st=some (v,ax)):aS P μ w st (do pure (.value (<-Builtin.len_ #[t] ty #[a.eval x]))) v ax:=by
 unfold vC at h
 cases hm:s.ev r with
 |none=>simp[hm]at h
 |some q=>
  have h1:=cE hh hr hx hm
  cases q<;>simp[hm]at h
  case bL=>
   obtain⟨rfl,rfl⟩:=h
   simp only[VR]at h1
   exact aS.value hh (x:=.int .i64 0) (by simp[Builtin.len_,h1,run_underlying ht,goInt]) (by simp[VR])
  case map i=>
   split at h
   ·rename_i es mA
    simp only[ak,bh]at h
    obtain⟨rfl,rfl⟩:=h
    obtain⟨l,hl,h1⟩:=h1
    obtain⟨e_,g1,g2⟩:=hh.get hl mA
    have hg:=Em (P:=P) g1 (by simp)
    exact aS.value hh (x:=.int .i64 es.length) (by simp[Builtin.len_,h1,run_underlying ht,goInt,hg,Result.andThen,g2.length]) (by simp[VR])
   ·cases h
def ZM(hh:a_ P μ w st){t ty:TypeId}{k:Nat}{x:Value}(ht:(∃e,P.underlying t=some (.array k e))\/∃u e,P.underlying t=some (.pointer u)/\P.underlying u=some (.array k e))
  (h:IK k call r st=some (v,ax)):aS P μ w st (do pure (.value (<-Builtin.len_ #[t] ty #[x]))) v ax:=by
 unfold IK at h
 simp only[ak,bh]at h
 obtain⟨rfl,rfl⟩:=h
 refine aS.value hh (x:=.int .i64 k) ?_ (by simp[VR])
 rcases ht with⟨e,h1⟩|⟨u,e,h1,h2⟩
 ·simp[Builtin.len_,run_underlying h1,goInt]
 ·simp[Builtin.len_,run_underlying h1,run_underlying h2,goInt]
def Yoa(hh:a_ P μ w st)(hr:RR μ r n a.tmps){t ty e:TypeId}{x:Operand}{s:Src}(ht:P.underlying t=some (.slice e))(hx:bk P x=some s)
  (h:GK s call r st=some (v,ax)):aS P μ w st (do pure (.value (<-Builtin.cap_ #[t] ty #[a.eval x]))) v ax:=by
 unfold GK at h
 split at h
 ·rename_i hm
  simp only[ak,bh]at h
  obtain⟨rfl,rfl⟩:=h
  have h1:=cE hh hr hx hm
  simp only[VR]at h1
  exact aS.value hh (x:=.int .i64 0) (by simp[Builtin.cap_,h1,run_underlying ht,goInt]) (by simp[VR])
 ·rename_i i o len k sz hm
  simp only[ak,bh]at h
  obtain⟨rfl,rfl⟩:=h
  obtain⟨l,c,_,h1,_,_,h5,_⟩:=cE hh hr hx hm
  have hk:=h5 k rfl
  subst hk
  exact aS.value hh (x:=.int .i64 c) (by simp[Builtin.cap_,h1,run_underlying ht,goInt]) (by simp[VR])
 ·cases h
def Yb0:∀{l:List V} {u:V} {xs:List Value},uA (l)=some u->aP μ l xs->∃y ys z,xs=y::ys/\(ys.foldlM Builtin.min2 y).run P w=.ok z w/\VR μ u z:=by
 intro l
 induction l using uA.induct<;>intro u xs h hx
 case case1=>simp[uA]at h
 case case2 x=>
  simp only[uA,ak]at h;subst h
  obtain⟨y,ys,rfl,h1,h2⟩:=fM.1 hx
  simp only[aP]at h2;subst h2
  exact⟨y,[],y,rfl,by simp,h1⟩
 case case3 k p k' q rest ih=>
  simp only[uA]at h
  obtain⟨y,ys,rfl,h1,h2⟩:=fM.1 hx
  obtain⟨y',Th,rfl,h3,h4⟩:=fM.1 h2
  simp only[VR]at h1 h3
  subst h1;subst h3
  obtain⟨y,ys,z,e,hz,hv⟩:=ih h (xs:=.int k (if q<p then q else p)::Th) (fM.2 ⟨_,_,rfl,by simp[VR],h4⟩)
  simp only[iB]at e
  obtain⟨rfl,rfl⟩:=e
  exact⟨_,_,z,rfl,by simpa[Builtin.min2]using hz,hv⟩
 case case4 h1 h2 h3=>unfold uA at h;split at h<;>simp_all<;>exact absurd rfl (h3 _ _ _ _ _ rfl rfl rfl rfl)
def Yb3:∀{l:List V} {u:V} {xs:List Value},uB (l)=some u->aP μ l xs->∃y ys z,xs=y::ys/\(ys.foldlM Builtin.max2 y).run P w=.ok z w/\VR μ u z:=by
 intro l
 induction l using uB.induct<;>intro u xs h hx
 case case1=>simp[uB]at h
 case case2 x=>
  simp only[uB,ak]at h;subst h
  obtain⟨y,ys,rfl,h1,h2⟩:=fM.1 hx
  simp only[aP]at h2;subst h2
  exact⟨y,[],y,rfl,by simp,h1⟩
 case case3 k p k' q rest ih=>
  simp only[uB]at h
  obtain⟨y,ys,rfl,h1,h2⟩:=fM.1 hx
  obtain⟨y',Th,rfl,h3,h4⟩:=fM.1 h2
  simp only[VR]at h1 h3
  subst h1;subst h3
  obtain⟨y,ys,z,e,hz,hv⟩:=ih h (xs:=.int k (if p<q then q else p)::Th) (fM.2 ⟨_,_,rfl,by simp[VR],h4⟩)
  simp only[iB]at e
  obtain⟨rfl,rfl⟩:=e
  exact⟨_,_,z,rfl,by simpa[Builtin.max2]using hz,hv⟩
 case case4 h1 h2 h3=>unfold uB at h;split at h<;>simp_all<;>exact absurd rfl (h3 _ _ _ _ _ rfl rfl rfl rfl)
def Ypx(hh:a_ P μ w st)(hr:RR μ r n a.tmps){ts:Array TypeId}{ty:TypeId}{xs:Array Operand}{ss:List Src}(hx:sH P xs.toList=some ss)
  (h:wH ss call r st=some (v,ax)):aS P μ w st (do pure (.value (<-Builtin.min_ ts ty (xs.map a.eval)))) v ax:=by
 unfold wH at h
 split at h
 ·rename_i l hl
  split at h
  ·rename_i u hu
   simp only[ak,bh]at h
   obtain⟨rfl,rfl⟩:=h
   obtain⟨y,ys,z,e,hz,hv⟩:=Yb0 (P:=P) (w:=w) (Ykp l▸hu) (Ef hh hr hx hl)
   refine aS.value hh (x:=z) ?_ hv
   simp only[Builtin.min_,Array.toList_map,e]
   exact hz
  ·cases h
 ·cases h
def Ypw(hh:a_ P μ w st)(hr:RR μ r n a.tmps){ts:Array TypeId}{ty:TypeId}{xs:Array Operand}{ss:List Src}(hx:sH P xs.toList=some ss)
  (h:pr ss call r st=some (v,ax)):aS P μ w st (do pure (.value (<-Builtin.max_ ts ty (xs.map a.eval)))) v ax:=by
 unfold pr at h
 split at h
 ·rename_i l hl
  split at h
  ·rename_i u hu
   simp only[ak,bh]at h
   obtain⟨rfl,rfl⟩:=h
   obtain⟨y,ys,z,e,hz,hv⟩:=Yb3 (P:=P) (w:=w) (Yks l▸hu) (Ef hh hr hx hl)
   refine aS.value hh (x:=z) ?_ hv
   simp only[Builtin.max_,Array.toList_map,e]
   exact hz
  ·cases h
 ·cases h
end
end Go.Mx
