/-The operations of M stand for the Go mod-/
import Derived.Test.YtlfdeoomaccciaaGreatDoorMxOp4
import Derived.Laws.IdiomStrings
import Derived.Lib.Bytealg
import Derived.Shelf.Spec.BitsCarry
set_option linter.all false
namespace Go.Mx
open Go
section
variable {P:Program} {μ:Mu} {w:World} {st az:St} {r:T V} {n:Nat} {a:Act} {call:cD} {v:V}
def Zm0(zs:List V)(k:Nat):(dp zs k).length=k*zs.length:=by simp[dp]
def QI{zs:List V}{xs:List Value}(h:aS μ zs xs)(k:Nat):aS μ (dp zs k) (madeCells ⟨xs⟩ (k*zs.length)).toList:=by
 have hl:=h.length
 refine aS.qY (by simp[dp,madeCells]) fun j u hu=>?_
 have hj:j<k*zs.length:=by
  have:=(zH.1 hu).1
  simpa[dp]using this
 have hz:0<zs.length:=by
  rcases F4 zs.length with e|e
  ·rw[e]at hj;simp at hj
  ·exact e
 have CX:j%zs.length<zs.length:=kZ _ hz
 simp only[dp,fV,FF hj,xV,aq]at hu
 obtain⟨y,h1,h2⟩:=h.get (i:=j%zs.length) (v:=zs[j%zs.length]) (by simp[CX])
 refine⟨y,?_,?_⟩
 ·simp only[madeCells,Array.toList_map,Array.toList_range,fV,FF hj,xV,aq]
  have fL:(⟨xs⟩:Array Value)[j%xs.length]?=some y:=by rw[hl];simpa using h1
  simp only[Array.size,getElem!_def,fL]
 ·rw[<-hu]
  simpa[List.getD,CX]using h2
def Xd{zs:List V}(h:zs.all V.one=true)(k:Nat):∀{xs:List Value},aS μ (dp zs k) xs->∀x∈xs,x.oneCell'=true:=by
 intro xs hx
 refine LR hx ?_
 rw[l7]
 intro u hu
 simp only[dp,fv,zq]at hu
 obtain⟨j,hj,rfl⟩:=hu
 have hz:0<zs.length:=by
  rcases F4 zs.length with e|e
  ·rw[e]at hj;simp at hj
  ·exact e
 have CX:j%zs.length<zs.length:=kZ _ hz
 rw[l7]at h
 simpa[List.getD,CX]using h zs[j%zs.length] (by simp)
def Yfo(hh:bm P μ w st)(hr:RR μ r n a.tmps){t e:TypeId}{s len:Nat}{z:V}{parts:Array (Nat×Operand)}{uG:List (Nat×Nat×Src)}
  (ht:P.underlying t=some (.slice e)) (hs:eR P e=some s) (hz:qU P e=some z) (hle:¬len*s > 2^24) (LF:z.cells.length=s)
  (hc:Bj P (fun i=>some (i*s,s)) parts.toList=some uG) (h:Gt e s len (dp z.cells len) uG call r st=some (v,az)):
  ba P μ w st (do pure (.value (<-Instr.buildSlice t len (parts.map fun (i,x)=>(i,a.eval x))))) v az:=by
 unfold Gt at h
 split at h
 ·rename_i ps uy
  split at h
  ·rename_i l hl
   split at h
   ·rename_i gp
    simp only[aq,bs]at h
    obtain⟨rfl,rfl⟩:=h
    obtain⟨i,x,hi,hx,qk⟩:=Hc hz
    have yw:=(qk μ).cells
    have oJ:=QI yw len
    rw[LF]at oJ
    obtain⟨l',h1,h2⟩:=Xn hh hr hc uy oJ hl
    have sP:=h2.length
    refine ba.newRow hh (v:=.slice st.n 0 len (some len) s) (xs:=l') (x:=.slice (some ⟨w.heap.size,0,none⟩) len len) ?_ h2 (LR h2 gp) ?_
    ·have fL:Instr.fill (fun i=>some (i*s,s)) (madeCells x.cells (len*s)) (parts.map fun p=>(p.1,a.eval p.2)).toList=some ⟨l'⟩:=by
      rw[<-h1]
      simp
     simp only[Instr.buildSlice,Sem.run_bind,run_underlying ht,Result.andThen,yu hs,ak hle]
     split
     ·rename_i e0
      have ik:((Array.range (len*s)).map ((#[]:Array Value)[·%(#[]:Array Value).size]!))=madeCells x.cells (len*s):=by
       simp[madeCells,e0]
      simp only[Sem.run_bind,Sem.run_pure,Result.andThen,ik]
      rw[fL]
      simp[Go.newRow,Result.andThen]
     ·have ik:((Array.range (len*s)).map (x.cells[·%x.cells.size]!))=madeCells x.cells (len*s):=rfl
      simp only[zeroValue,typeInfo,Sem.run_bind,Sem.run_pure,Result.andThen,hi,hx,run_program]
      simp only[ik]
      rw[fL]
      simp[Go.newRow,Result.andThen]
    ·have LS:l.length=len*s:=by
      have:∀(ps:List (Nat×Nat×V)) (cs l:List V),Bn cs ps=some l->l.length=cs.length:=by
       intro ps
       induction ps with
       |nil=>intro cs l h;simp only[Bn,aq]at h;rw[h]
       |cons p ps ih=>
        intro cs l h
        obtain⟨o,s,u⟩:=p
        simp only[Bn]at h
        split at h
        ·rename_i hc
         rw[ih _ _ h,QK (by omega)]
        ·cases h
      rw[this ps _ l hl,Zm0,LF]
     simp only[VR]
     exact⟨⟨w.heap.size,0,l'.length⟩,len,by simp,by simp,aQ _,by simp[sP,LS],by simp,by simp⟩
   ·cases h
  ·cases h
 ·cases h
def Zzq(hh:bm P μ w st)(hr:RR μ r n a.tmps){t e:TypeId}{s b:Nat}{z:V}{x y:Operand}{sx sy:Src}(ht:P.underlying t=some (.slice e))(hs:eR P e=some s)(hb:Ci P e=some b)(hz:qU P e=some z)
  (gp:z.cells.all V.one=true) (hx:bB P x=some sx) (hy:bB P y=some sy) (h:Cv e s b z.cells sx sy call r st=some (v,az)):
  ba P μ w st (do pure (.value (<-Instr.makeSlice t (a.eval x) (a.eval y)))) v az:=by
 unfold Cv at h
 split at h
 ·rename_i k l k' c h1 h2
  have e1:=cQ hh hr hx h1
  have e2:=cQ hh hr hy h2
  simp only[VR]at e1 e2
  split at h
  ·rename_i hc
   obtain⟨gX,BE,hbc,zau,kX,tl⟩:=hc
   simp only[aq,bs]at h
   obtain⟨rfl,rfl⟩:=h
   obtain⟨i,zx,hi,qk,QM⟩:=Hc hz
   unfold eR at hs
   unfold Ci at hb
   simp only[hi,xV,aq]at hs hb
   have yw:=(QM μ).cells
   have oJ:=QI yw c.toNat
   rw[<-kX]at oJ
   have bM:=run_make (P:=P) w t e i zx ht hi qk k k' l c gX BE (by rw[hb];omega) (by omega)
   rw[hs]at bM
   refine ba.newRow hh (v:=.slice st.n 0 l.toNat (some c.toNat) s) (xs:=(madeCells zx.cells (c.toNat*s)).toList) (x:=.slice (some ⟨w.heap.size,0,none⟩) l.toNat c.toNat) ?_ oJ (Xd gp c.toNat oJ) ?_
   ·rw[e1,e2,bM]
   ·simp only[VR]
    exact⟨⟨w.heap.size,0,_⟩,c.toNat,by simp;rfl,by simp,by omega,by simp[madeCells],by simp,by simp⟩
  ·cases h
 ·cases h
def ba.newObj(hh:bm P μ w st){s:Sem Value}{x:Value}{o:O}{ob:Obj}(hs:s.run P w=.ok x (w.alloc ob))
  (ho:OM P (fun i=>if i=st.n then some ⟨w.heap.size,0,0⟩ else μ i) (w.alloc ob) o ⟨w.heap.size,0,0⟩) (hv:VR (fun i=>if i=st.n then some ⟨w.heap.size,0,0⟩ else μ i) v x):
  ba P μ w st (do pure (.value (<-s))) v (st.alloc o):=
 ⟨Next.value x,x,_,_,[],by simp[hs,Result.andThen],.inl rfl,hv,bH.alloc hh o ob 0 0 ho⟩
def Xo(w:World)(o:Obj):(w.alloc o).heap[w.heap.size]?=some o:=by
 show (w.heap.push o)[w.heap.size]?=some o
 simp
def Yh9(hh:bm P μ w st){t:TypeId}(h:Jn call r st=some (v,az)):ba P μ w st (do pure (.value (<-Instr.makeMap t none))) v az:=by
 unfold Jn at h
 simp only[aq,bs]at h
 obtain⟨rfl,rfl⟩:=h
 refine ba.newObj hh (v:=.map st.n) (x:=.map (some w.heap.size)) (ob:=.map #[] 0) ?_ ⟨[],by simpa using Xo w _,rfl⟩ ?_
 ·simp[Instr.makeMap,Result.andThen]
 ·simp only[VR];exact⟨⟨w.heap.size,0,0⟩,by simp,rfl⟩
def Yrk(hh:bm P μ w st)(hr:RR μ r n a.tmps){t e:TypeId}{d:ChanDir}{b:Nat}{x:Operand}{s:Src}(ht:P.underlying t=some (.chan d e))(hb:Ci P e=some b)(hx:bB P x=some s)
  (h:Ee b s call r st=some (v,az)):ba P μ w st (do pure (.value (<-Instr.makeChan t (a.eval x)))) v az:=by
 unfold Ee at h
 split at h
 ·rename_i q k hk
  have e1:=cQ hh hr hx hk
  simp only[VR]at e1
  split at h
  ·cases h
  ·rename_i hc
   simp only[aq,bs]at h
   obtain⟨rfl,rfl⟩:=h
   unfold Ci at hb
   simp only[kj]at hb
   obtain⟨i,hi,rfl⟩:=hb
   refine ba.newObj hh (v:=.chan st.n) (x:=.chan (some w.heap.size)) (ob:=.chan k.toNat #[] false 0 0 false) ?_ ⟨[],0,0,by simpa using Xo w _,by simp[aS]⟩ ?_
   ·simp only[Instr.makeChan,e1,asInt,asIntOf,run_underlying ht,typeInfo,hi,ak hc,Result.andThen,Sem.run_bind,Sem.run_pure,run_program,run_newObj]
    rfl
   ·simp only[VR];exact⟨⟨w.heap.size,0,0⟩,by simp,rfl⟩
 ·cases h
def Zuz(hh:bm P μ w st)(hr:RR μ r n a.tmps){t:TypeId}{x:Operand}{s:Src}(ht:P.underlying t=some .string)(hx:bB P x=some s)
  (h:GG s call r st=some (v,az)):ba P μ w st (do pure (.value (<-Instr.range t (a.eval x)))) v az:=by
 unfold GG at h
 split at h
 ·rename_i q hk
  have e1:=cQ hh hr hx hk
  simp only[VR]at e1
  simp only[aq,bs]at h
  obtain⟨rfl,rfl⟩:=h
  refine ba.newObj hh (v:=.ptr st.n 0) (x:=.pointer (some ⟨w.heap.size,0,none⟩)) (ob:=.stringIter ⟨q.toArray⟩ 0) ?_ (by simp only[OM];exact⟨Xo w _,trivial⟩) ?_
  ·simp[Instr.range,e1,run_underlying ht,Result.andThen]
  ·simp only[VR];exact⟨⟨w.heap.size,0,0⟩,by simp,rfl⟩
 ·cases h
def Xg(g o:Nat)(t:TypeId)(lo hi:Nat):∀(vs:List Value) (i:Nat) (cur:List Value) (w:World),w.heap[g]?=some (.cells ⟨cur⟩ t (lo,hi))->o+i+vs.length<=cur.length->(∀v∈vs,v.oneCell'=true)->
  (∀j,o+i<=j->j<o+i+vs.length->¬(lo<=j/\j<hi))->(storeCells ⟨g,o,none⟩ vs i).run P w=.ok () (w.setRow g ⟨ad cur (o+i) vs⟩)
 |[],i,cur,w,hg,_,_,_=>by
  have e:ad cur (o+i) []=cur:=by simp[ad]
  rw[e,setRow_self w g _ t _ hg]
  simp[storeCells]
 |v::rest,i,cur,w,hg,hl,h1,hf=>by
  simp only[bp]at hl
  have iK:o+i<cur.length:=by omega
  have fX:w.cell? ⟨g,o+i,none⟩=some cur[o+i]:=by simp[World.cell?,hg,iK]
  have Xp:w.frozen? ⟨g,o+i,none⟩=false:=by
   have:=hf (o+i) (aQ _) (by simp)
   simp only[World.frozen?,hg]
   simp;omega
  have dJ:(store ((⟨g,o,none⟩:Addr).add i) v).run P w=.ok () (w.setRow g ⟨cur.set (o+i) v⟩):=by
   rw[xx,run_store P w _ v _ (h1 v (by simp)),fX]
   simp[Xp,setCell_eq_setRow w g (o+i) _ t _ v hg]
  have ih:=Xg g o t lo hi rest (i+1) (cur.set (o+i) v) (w.setRow g ⟨cur.set (o+i) v⟩) (setRow_heap w g _ _ t _ hg) (by simp;omega) (fun x hx=>h1 x (by simp[hx]))
   (fun j yr n_=>hf j (by omega) (by simp only[bp];omega))
  simp only[storeCells,Sem.run_bind,dJ,Result.andThen_ok,ih,setRow_setRow]
  rw[<-pe,Znb _ _ _ _ iK]
def QH(hh:bm P μ w st){i o:Nat}{l:L}(hl:μ i=some l){c:List V}{e:TypeId}(al:st.row i=some (c,e,true)){vs:List V}{xs:List Value}(hv:aS μ vs xs)(h1:∀x∈xs,x.oneCell'=true)
  (hlen:o+vs.length<=c.length):
  ∃w',(storeCells ⟨l.b,l.d+o,none⟩ xs).run P w=.ok () w'/\bH P μ w st μ w' (st.write i (.cells (ad c o vs) e true)) [i]:=by
 obtain⟨c',lo,hi,g1,g2,g3,g4,g5,g6⟩:=hh.row hl al
 obtain⟨cur⟩:=c'
 have uf:=hv.length
 simp only[List.size_toArray]at g2
 have bM:=Xg (P:=P) l.b (l.d+o) e lo hi xs 0 cur w g1 (by omega) h1 (fun j yr n_=>by
  have:=(g6 rfl).2 (j-l.d) (by omega)
  rw[show l.d+(j-l.d)=j by omega]at this
  exact this)
 refine⟨_,bM,?_⟩
 have hb:=setRow_heap w l.b _ (⟨ad cur (l.d+o+0) xs⟩:Array Value) e _ g1
 refine bH.write hh hl (Lz al) rfl rfl rfl rfl (by simp) (fun b hb=>setRow_other w l.b b _ hb) ⟨_,lo,hi,hb,?_,?_,?_,?_,g6⟩
 ·simp only[List.size_toArray]
  rw[QK (by omega)];exact g2
 ·rw[QK hlen];exact g3
 ·intro j u hu
  rw[JI hlen]at hu
  have e':∀k:Nat,(⟨ad cur (l.d+o+0) xs⟩:Array Value)[k]?=(ad cur (l.d+o+0) xs)[k]?:=fun k=>by simp
  rw[e',JI (by omega)]
  split at hu
  ·rename_i hj
   rw[ay (by omega)]
   obtain⟨y,hy,hr⟩:=hv.get hu
   exact⟨y,by rw[show l.d+j-(l.d+o+0)=j-o by omega];exact hy,hr⟩
  ·rename_i hj
   rw[ak (by omega)]
   obtain⟨y,hy,hr⟩:=g4 j u hu
   exact⟨y,by simpa using hy,hr⟩
 ·intro j x ax hx
  have e':(⟨ad cur (l.d+o+0) xs⟩:Array Value)[l.d+j]?=(ad cur (l.d+o+0) xs)[l.d+j]?:=by simp
  rw[e',JI (by omega)]at hx
  split at hx
  ·exact h1 x (bU hx)
  ·exact g5 j x ax (by simpa using hx)
def Ygr(hh:bm P μ w st)(hr:RR μ r n a.tmps){t:TypeId}{k:Nat}{x y:Operand}{sx sy:Src}(hk:eR P t=some k)(hx:bB P x=some sx)(hy:bB P y=some sy)
  (h:Ec k sx sy call r st=some (v,az)):ba P μ w st (do Instr.storeAt t (a.eval x) (a.eval y);pure .skip) v az:=by
 unfold Ec at h
 split at h
 ·rename_i i o u h1 h2
  obtain⟨l,hl,e1⟩:=cQ hh hr hx h1
  have e2:=cQ hh hr hy h2
  split at h
  ·rename_i c e al
   split at h
   ·rename_i hc
    simp only[aq,bs]at h
    obtain⟨rfl,rfl⟩:=h
    have cO:=e2.cells
    have hlen:=cO.length
    obtain⟨w',hw,hs⟩:=QH hh hl al cO (LR cO hc.2.2) (o:=o) (by omega)
    refine⟨.skip,undef,w',μ,[i],?_,.inr ⟨rfl,rfl⟩,⟨[],rfl,by simp[aS]⟩,hs⟩
    have kX:(a.eval y).cells.size=k:=by
     rw[<-hc.1,<-hlen];simp
    simp[Instr.storeAt,Instr.sureAddr,e1,storeVar,yu hk,kX,hw,Result.andThen]
   ·cases h
  ·cases h
 ·cases h
end
section
variable {P:Program} {μ:Mu} {w:World} {st az:St} {r:T V} {n:Nat} {a:Act} {call:cD} {v:V}
def bm.EH(h:bm P μ w st):bm P μ w.drew st:=h.drew (w.drawn+1)
def bH.Ay{μ':Mu}{w':World}{ws:List Nat}(h:bH P μ w.drew st μ' w' az ws):bH P μ w st μ' w' az ws:=
 ⟨h.hr,h.ext,h.fh,h.wl,⟨h.ed.os,h.ed.tape,h.ed.output,h.ed.size,h.ed.block⟩,h.new,h.ae,h.grow,h.full,h.yX⟩
def bH.newRow(hh:bm P μ w st){cs:List V}{xs:List Value}{e:TypeId}{lo hi:Nat}
  (hle:cs.length<=xs.length) (hc:∀(j:Nat) (u:V),cs[j]?=some u->∃x,xs[j]?=some x/\VR μ u x) (h1:∀x∈xs,x.oneCell'=true) (hf:xs.length<=lo\/hi<=lo):
  bH P μ w st (fun i=>if i=st.n then some ⟨w.heap.size,0,xs.length⟩ else μ i) (w.alloc (.cells ⟨xs⟩ e (lo,hi))) (st.alloc (.cells cs e true)) []:=by
 have dr:∀i l,μ i=some l->(fun i=>if i=st.n then some (⟨w.heap.size,0,xs.length⟩:L) else μ i) i=some l:=fun i l hl=>by
  have:=(hh.c_ i l hl).1
  simp only
  rw[ak (by omega)];exact hl
 refine bH.alloc hh (.cells cs e true) (.cells ⟨xs⟩ e (lo,hi)) 0 xs.length ⟨⟨xs⟩,lo,hi,?_,by simp,hle,fun j u hu=>?_,fun j y _ hy=>?_,fun _=>⟨rfl,fun j hj=>by simp only at hj ⊢;omega⟩⟩
 ·simp
 ·obtain⟨y,hy,hr⟩:=hc j u hu
  exact⟨y,by simpa using hy,VR.mono dr u y hr⟩
 ·exact h1 y (bU (by simpa using hy))
def ba.CY(hh:bm P μ w st){s:Sem Value}{x:Value}{cs:List V}{xs:List Value}{e:TypeId}{lo hi:Nat}(hs:s.run P w=.ok x (w.drew.alloc (.cells ⟨xs⟩ e (lo,hi))))
  (hle:cs.length<=xs.length) (hc:∀(j:Nat) (u:V),cs[j]?=some u->∃x,xs[j]?=some x/\VR μ u x) (h1:∀x∈xs,x.oneCell'=true) (hf:xs.length<=lo\/hi<=lo)
  (hv:VR (fun i=>if i=st.n then some ⟨w.heap.size,0,xs.length⟩ else μ i) v x):
  ba P μ w st (do pure (.value (<-s))) v (st.alloc (.cells cs e true)):=
 ⟨Next.value x,x,_,_,[],by simp only[Sem.run_bind,hs,Result.andThen,Sem.run_pure],.inl rfl,hv,(bH.newRow hh.EH hle hc h1 hf (hi:=hi)).Ay⟩
def Zum(hh:bm P μ w st)(hr:RR μ r n a.tmps){src dst e:TypeId}{x:Operand}{s:Src}(hs:P.underlying src=some .string)(hd:P.underlying dst=some (.slice e))(he:P.underlying e=some (.int .u8))(hx:bB P x=some s)
  (h:Ed e s call r st=some (v,az)):ba P μ w st (do pure (.value (<-convert src dst (a.eval x)))) v az:=by
 unfold Ed at h
 split at h
 ·rename_i m hm
  simp only[aq,bs]at h
  obtain⟨rfl,rfl⟩:=h
  have h1:=cQ hh hr hx hm
  simp only[VR]at h1
  have bM:=run_bytes_of_string (P:=P) w src dst e ⟨m.toArray⟩ hs hd he
  rw[<-h1]at bM
  have CS:=grownCap_ge w m.length 0 e
  have kX:(⟨m.toArray⟩:ByteArray).size=m.length:=by simp[ByteArray.size]
  rw[kX]at bM
  have hl:(bytesRow ⟨m.toArray⟩ (grownCap w m.length 0 e)).toList=m.map (fun b=>Value.int .u8 b.toNat)++List.replicate (grownCap w m.length 0 e-m.length) (.int .u8 0):=by
   simp[bytesRow,kX]
  have LU:(bytesRow ⟨m.toArray⟩ (grownCap w m.length 0 e)).size=m.length+(grownCap w m.length 0 e-m.length):=by
   rw[<-Array.length_toList,hl];simp
  refine ba.CY hh (v:=.slice st.n 0 m.length none 1) (xs:=(bytesRow ⟨m.toArray⟩ (grownCap w m.length 0 e)).toList) (lo:=_) (hi:=_) bM ?_ ?_ ?_ (.inl (by simp)) ?_
  ·rw[hl];simp
  ·intro j u hu
   rw[hl]
   have hj:j<m.length:=by
    have:=(zH.1 hu).1
    simpa using this
   refine⟨_,kJ (by simpa using hj) |>.trans (fV ..) |>.trans (by rw[c9 hj];rfl),?_⟩
   simp only[fV,c9 hj,xV,aq]at hu
   rw[<-hu];simp[VR]
  ·intro y hy
   rw[hl]at hy
   simp only[kh,fv,Jh]at hy
   rcases hy with⟨b,_,rfl⟩|⟨_,rfl⟩<;>rfl
  ·simp only[VR]
   refine⟨⟨w.heap.size,0,_⟩,grownCap w m.length 0 e,by simp;rfl,by simp,CS,?_,by simp,fun _=>?_⟩
   ·simp only[LU];omega
   ·simp only[LU];omega
 ·cases h
def Yjy{l:List V}{s:List UInt8}{xs:List Value}(h:aS μ l xs)(hm:l.mapM (fun v=>match v with|.int .u8 n=>some (UInt8.ofNat n.toNat)|_=>none)=some s):
  ∃ns:List Int,xs=ns.map (Value.int .u8)/\s=ns.map (fun n=>UInt8.ofNat n.toNat):=by
 induction l generalizing s xs with
 |nil=>
  simp only[List.mapM_nil,pure,aq]at hm
  subst hm
  simp only[aS]at h
  exact⟨[],by simp[h],rfl⟩
 |cons u l ih=>
  obtain⟨y,ys,rfl,h1,h2⟩:=kW.1 h
  simp only[List.mapM_cons]at hm
  cases u<;>simp only[bind,Option.bind,reduceCtorEq]at hm
  rename_i k q
  cases k<;>simp only[reduceCtorEq]at hm
  split at hm
  ·cases hm
  ·rename_i s' jl
   simp only[pure,aq]at hm
   subst hm
   obtain⟨ns,rfl,rfl⟩:=ih h2 jl
   simp only[VR]at h1
   exact⟨q::ns,by simp[h1],by simp⟩
def Zhz:∀(l:List Int) (r:ByteArray),l.foldl (fun r n=>r.push (UInt8.ofNat n.toNat)) r=⟨r.data++(l.map (fun n=>UInt8.ofNat n.toNat)).toArray⟩
 |[],r=>by simp
 |b::l,r=>by
  simp only[List.foldl_cons]
  rw[Zhz l]
  simp[ByteArray.push]
def Zwc(hh:bm P μ w st)(hr:RR μ r n a.tmps){src dst e:TypeId}{x:Operand}{s:Src}(hs:P.underlying src=some (.slice e))(hd:P.underlying dst=some .string)(he:P.underlying e=some (.int .u8))(hx:bB P x=some s)
  (h:GA s call r st=some (v,az)):ba P μ w st (do pure (.value (<-convert src dst (a.eval x)))) v az:=by
 unfold GA at h
 split at h
 ·rename_i hm
  simp only[aq,bs]at h
  obtain⟨rfl,rfl⟩:=h
  have h1:=cQ hh hr hx hm
  simp only[VR]at h1
  refine ba.value hh (x:=.string ByteArray.empty) ?_ (by simp only[VR];rfl)
  rw[h1,run_convert_bytes_string w src dst e none 0 0 hs he hd]
  simp[Conv.bytesToString]
 ·rename_i i o len cap hm
  obtain⟨l,c,hl,h1,_⟩:=cQ hh hr hx hm
  split at h
  ·rename_i cs e' pn al
   split at h
   ·rename_i Aa tI
    split at h
    ·rename_i s' hmm
     simp only[aq,bs]at h
     obtain⟨rfl,rfl⟩:=h
     obtain⟨xs,qi,uf,xw,_,_⟩:=(hh.row hl al).Aa tI
     obtain⟨ns,rfl,rfl⟩:=Yjy qi hmm
     refine ba.value hh (x:=.string ⟨(ns.map (fun n=>UInt8.ofNat n.toNat)).toArray⟩) ?_ (by simp[VR])
     rw[h1,run_convert_bytes_string w src dst e _ _ _ hs he hd,run_bytesToString w _ len c ns xw,Zhz]
     have LV:ByteArray.empty.data=#[]:=rfl
     rw[LV];simp
    ·cases h
   ·cases h
  ·cases h
 ·cases h
def QN{i:Nat}{o:Obj}(h:w.heap[i]?=some o)(ho:∀c e f,o≠.cells c e f):(getObj i).run P w=.ok o w:=by
 simp only[getObj,Sem.run,h]
def iP.length:∀{es:List (V×V)} {xs:List MapEntry} {i:Nat},iP μ es xs i->xs.length=es.length
 |[],_,_,h=>by simp[iP]at h;simp[h]
 |(k,u)::es,_,i,h=>by
  obtain⟨e,ys,rfl,_,_,_,h5⟩:=h
  simp[iP.length h5]
def Zzy(hh:bm P μ w st)(hr:RR μ r n a.tmps){t ty:TypeId}{x:Operand}{s:Src}(ht:P.underlying t=some .string)(hx:bB P x=some s)
  (h:ym 0 s call r st=some (v,az)):ba P μ w st (do pure (.value (<-Builtin.len_ #[t] ty #[a.eval x]))) v az:=by
 unfold ym at h
 cases hm:s.ev r with
 |none=>simp[hm]at h
 |some q=>
  have h1:=cQ hh hr hx hm
  cases q<;>simp[hm]at h
  rename_i q
  obtain⟨rfl,rfl⟩:=h
  simp only[VR]at h1
  have h2:(⟨q.toArray⟩:ByteArray).size=q.length:=rfl
  exact ba.value hh (x:=.int .i64 q.length) (by simp[Builtin.len_,h1,run_underlying ht,goInt,h2, -ByteArray.size_data]) (by simp[VR])
def Zta(hh:bm P μ w st)(hr:RR μ r n a.tmps){t ty e:TypeId}{x:Operand}{s:Src}(ht:P.underlying t=some (.slice e))(hx:bB P x=some s)
  (h:ym 1 s call r st=some (v,az)):ba P μ w st (do pure (.value (<-Builtin.len_ #[t] ty #[a.eval x]))) v az:=by
 unfold ym at h
 cases hm:s.ev r with
 |none=>simp[hm]at h
 |some q=>
  have h1:=cQ hh hr hx hm
  cases q<;>simp[hm]at h
  case aa=>
   obtain⟨rfl,rfl⟩:=h
   simp only[VR]at h1
   exact ba.value hh (x:=.int .i64 0) (by simp[Builtin.len_,h1,run_underlying ht,goInt]) (by simp[VR])
  case empty=>
   obtain⟨rfl,rfl⟩:=h
   obtain⟨b,c,h1⟩:=h1
   exact ba.value hh (x:=.int .i64 0) (by simp[Builtin.len_,h1,run_underlying ht,goInt]) (by simp[VR])
  case slice i o len cap sz=>
   obtain⟨rfl,rfl⟩:=h
   obtain⟨l,c,_,h1,_⟩:=h1
   exact ba.value hh (x:=.int .i64 len) (by simp[Builtin.len_,h1,run_underlying ht,goInt]) (by simp[VR])
def Zzz(hh:bm P μ w st)(hr:RR μ r n a.tmps){t ty k e:TypeId}{x:Operand}{s:Src}(ht:P.underlying t=some (.map k e))(hx:bB P x=some s)
  (h:ym 2 s call r st=some (v,az)):ba P μ w st (do pure (.value (<-Builtin.len_ #[t] ty #[a.eval x]))) v az:=by
 unfold ym at h
 cases hm:s.ev r with
 |none=>simp[hm]at h
 |some q=>
  have h1:=cQ hh hr hx hm
  cases q<;>simp[hm]at h
  case bN=>
   obtain⟨rfl,rfl⟩:=h
   simp only[VR]at h1
   exact ba.value hh (x:=.int .i64 0) (by simp[Builtin.len_,h1,run_underlying ht,goInt]) (by simp[VR])
  case map i=>
   split at h
   ·rename_i es BG
    simp only[aq,bs]at h
    obtain⟨rfl,rfl⟩:=h
    obtain⟨l,hl,h1⟩:=h1
    obtain⟨gZ,g1,g2⟩:=hh.get hl BG
    have hg:=QN (P:=P) g1 (by simp)
    exact ba.value hh (x:=.int .i64 es.length) (by simp[Builtin.len_,h1,run_underlying ht,goInt,hg,Result.andThen,g2.length]) (by simp[VR])
   ·cases h
def Yrm(hh:bm P μ w st){t ty:TypeId}{k:Nat}{x:Value}(ht:(∃e,P.underlying t=some (.array k e))\/∃u e,P.underlying t=some (.pointer u)/\P.underlying u=some (.array k e))
  (h:K6 k call r st=some (v,az)):ba P μ w st (do pure (.value (<-Builtin.len_ #[t] ty #[x]))) v az:=by
 unfold K6 at h
 simp only[aq,bs]at h
 obtain⟨rfl,rfl⟩:=h
 refine ba.value hh (x:=.int .i64 k) ?_ (by simp[VR])
 rcases ht with⟨e,h1⟩|⟨u,e,h1,h2⟩
 ·simp[Builtin.len_,run_underlying h1,goInt]
 ·simp[Builtin.len_,run_underlying h1,run_underlying h2,goInt]
def Ysk(hh:bm P μ w st)(hr:RR μ r n a.tmps){t ty e:TypeId}{x:Operand}{s:Src}(ht:P.underlying t=some (.slice e))(hx:bB P x=some s)
  (h:Jp s call r st=some (v,az)):ba P μ w st (do pure (.value (<-Builtin.cap_ #[t] ty #[a.eval x]))) v az:=by
 unfold Jp at h
 split at h
 ·rename_i hm
  simp only[aq,bs]at h
  obtain⟨rfl,rfl⟩:=h
  have h1:=cQ hh hr hx hm
  simp only[VR]at h1
  exact ba.value hh (x:=.int .i64 0) (by simp[Builtin.cap_,h1,run_underlying ht,goInt]) (by simp[VR])
 ·rename_i i o len k sz hm
  simp only[aq,bs]at h
  obtain⟨rfl,rfl⟩:=h
  obtain⟨l,c,_,h1,_,_,h5,_⟩:=cQ hh hr hx hm
  have hk:=h5 k rfl
  subst hk
  exact ba.value hh (x:=.int .i64 c) (by simp[Builtin.cap_,h1,run_underlying ht,goInt]) (by simp[VR])
 ·cases h
def Ydk:∀{l:List V} {u:V} {xs:List Value},xl (l)=some u->aS μ l xs->∃y ys z,xs=y::ys/\(ys.foldlM Builtin.min2 y).run P w=.ok z w/\VR μ u z:=by
 intro l
 induction l using xl.induct<;>intro u xs h hx
 case case1=>simp[xl]at h
 case case2 x=>
  simp only[xl,aq]at h;subst h
  obtain⟨y,ys,rfl,h1,h2⟩:=kW.1 hx
  simp only[aS]at h2;subst h2
  exact⟨y,[],y,rfl,by simp,h1⟩
 case case3 k p k' q rest ih=>
  simp only[xl]at h
  obtain⟨y,ys,rfl,h1,h2⟩:=kW.1 hx
  obtain⟨y',Xq,rfl,h3,h4⟩:=kW.1 h2
  simp only[VR]at h1 h3
  subst h1;subst h3
  obtain⟨y,ys,z,e,hz,hv⟩:=ih h (xs:=.int k (if q<p then q else p)::Xq) (kW.2 ⟨_,_,rfl,by simp[VR],h4⟩)
  simp only[iY]at e
  obtain⟨rfl,rfl⟩:=e
  exact⟨_,_,z,rfl,by simpa[Builtin.min2]using hz,hv⟩
 case case4 h1 h2 h3=>unfold xl at h;split at h<;>simp_all<;>exact absurd rfl (h3 _ _ _ _ _ rfl rfl rfl rfl)
def Ydm:∀{l:List V} {u:V} {xs:List Value},xm (l)=some u->aS μ l xs->∃y ys z,xs=y::ys/\(ys.foldlM Builtin.max2 y).run P w=.ok z w/\VR μ u z:=by
 intro l
 induction l using xm.induct<;>intro u xs h hx
 case case1=>simp[xm]at h
 case case2 x=>
  simp only[xm,aq]at h;subst h
  obtain⟨y,ys,rfl,h1,h2⟩:=kW.1 hx
  simp only[aS]at h2;subst h2
  exact⟨y,[],y,rfl,by simp,h1⟩
 case case3 k p k' q rest ih=>
  simp only[xm]at h
  obtain⟨y,ys,rfl,h1,h2⟩:=kW.1 hx
  obtain⟨y',Xq,rfl,h3,h4⟩:=kW.1 h2
  simp only[VR]at h1 h3
  subst h1;subst h3
  obtain⟨y,ys,z,e,hz,hv⟩:=ih h (xs:=.int k (if p<q then q else p)::Xq) (kW.2 ⟨_,_,rfl,by simp[VR],h4⟩)
  simp only[iY]at e
  obtain⟨rfl,rfl⟩:=e
  exact⟨_,_,z,rfl,by simpa[Builtin.max2]using hz,hv⟩
 case case4 h1 h2 h3=>unfold xm at h;split at h<;>simp_all<;>exact absurd rfl (h3 _ _ _ _ _ rfl rfl rfl rfl)
def Yua(hh:bm P μ w st)(hr:RR μ r n a.tmps){ts:Array TypeId}{ty:TypeId}{xs:Array Operand}{ss:List Src}(hx:vj P xs.toList=some ss)
  (h:zb ss call r st=some (v,az)):ba P μ w st (do pure (.value (<-Builtin.min_ ts ty (xs.map a.eval)))) v az:=by
 unfold zb at h
 split at h
 ·rename_i l hl
  split at h
  ·rename_i u hu
   simp only[aq,bs]at h
   obtain⟨rfl,rfl⟩:=h
   obtain⟨y,ys,z,e,hz,hv⟩:=Ydk (P:=P) (w:=w) (Ynv l▸hu) (Hb hh hr hx hl)
   refine ba.value hh (x:=z) ?_ hv
   simp only[Builtin.min_,Array.toList_map,e]
   exact hz
  ·cases h
 ·cases h
def Yt9(hh:bm P μ w st)(hr:RR μ r n a.tmps){ts:Array TypeId}{ty:TypeId}{xs:Array Operand}{ss:List Src}(hx:vj P xs.toList=some ss)
  (h:rb ss call r st=some (v,az)):ba P μ w st (do pure (.value (<-Builtin.max_ ts ty (xs.map a.eval)))) v az:=by
 unfold rb at h
 split at h
 ·rename_i l hl
  split at h
  ·rename_i u hu
   simp only[aq,bs]at h
   obtain⟨rfl,rfl⟩:=h
   obtain⟨y,ys,z,e,hz,hv⟩:=Ydm (P:=P) (w:=w) (Yny l▸hu) (Hb hh hr hx hl)
   refine ba.value hh (x:=z) ?_ hv
   simp only[Builtin.max_,Array.toList_map,e]
   exact hz
  ·cases h
 ·cases h
end
section
variable {P:Program} {μ:Mu} {w:World} {st az:St} {r:T V} {n:Nat} {a:Act} {call:cD} {v:V}
def Xr{t:TypeId}{kd:kV}(h:zP P t=some kd):(∃k,kd=.int k/\P.underlying t=some (.int k))\/(kd=.str/\P.underlying t=some .string):=by
 unfold zP at h
 split at h
 ·simp only[aq]at h;subst h;rename_i k hk;exact .inl ⟨k,rfl,hk⟩
 ·simp only[aq]at h;subst h;rename_i hk;exact .inr ⟨rfl,hk⟩
 ·cases h
def Ztb{t:TypeId}{kd:kV}{d:TypeDesc}(hd:P.underlying t=some d)(h:zP P t=some kd){k q:V}{x y:Value}(hx:VR μ k x)(hy:VR μ q y){b:Bool}(hb:Qc kd k q=some b):
  Instr.sameNow d x y=some b/\(b=true->x=y/\Instr.sameBits 10000 y x=true):=by
 rcases Xr h with⟨kk,rfl,h1⟩|⟨rfl,h1⟩
 ·rw[hd,aq]at h1;subst h1
  cases k<;>cases q<;>simp only[Qc,reduceCtorEq]at hb
  split at hb
  ·rename_i hc
   obtain⟨rfl,rfl⟩:=hc
   simp only[aq]at hb;subst hb
   simp only[VR]at hx hy
   subst hx;subst hy
   refine⟨by simp[Instr.sameNow],fun hb=>?_⟩
   simp only[beq_iff_eq]at hb
   subst hb
   simp[Instr.sameBits]
  ·cases hb
 ·rw[hd,aq]at h1;subst h1
  cases k<;>cases q<;>simp only[Qc,reduceCtorEq]at hb
  rename_i s s'
  simp only[aq]at hb;subst hb
  simp only[VR]at hx hy
  subst hx;subst hy
  have e:((⟨s.toArray⟩:ByteArray)==⟨s'.toArray⟩)=(s==s'):=by
   show (s.toArray==s'.toArray)=(s==s')
   simp
  refine⟨by simp only[Instr.sameNow,e],fun hb=>?_⟩
  simp only[beq_iff_eq]at hb
  subst hb
  exact⟨rfl,by simp only[Instr.sameBits];rw[e];simp⟩
def QO{t:TypeId}{kd:kV}{d:TypeDesc}(hd:P.underlying t=some d)(h:zP P t=some kd){k:V}{x:Value}(hx:VR μ k x):
  ∀{es:List (V×V)} {xs:List MapEntry} {i b:Nat} {o:Option (Nat×V)},iP μ es xs b->fb kd k es i=some o->
   match o with
   |none=>Instr.findNow d x xs i=some none
   |some (j,u)=>∃e:MapEntry,i<=j/\xs[j-i]?=some e/\VR μ u e.val/\Instr.findNow d x xs i=some (some (j,e.val))/\x=e.key/\Instr.sameBits 10000 e.key x=true:=by
 intro es
 induction es with
 |nil=>
  intro xs i b o hm hf
  simp only[iP]at hm;subst hm
  simp only[fb,aq]at hf;subst hf
  simp[Instr.findNow]
 |cons p es ih=>
  intro xs i b o hm hf
  obtain⟨q,u⟩:=p
  obtain⟨e,ys,rfl,h1,h2,h3,h4⟩:=hm
  simp only[fb]at hf
  split at hf
  ·rename_i hb
   simp only[aq]at hf;subst hf
   obtain⟨g1,g2⟩:=Ztb hd h hx h1 hb
   exact⟨e,aQ _,by simp,h2,by simp[Instr.findNow,g1],(g2 rfl).1,(g2 rfl).2⟩
  ·rename_i hb
   obtain⟨g1,_⟩:=Ztb hd h hx h1 hb
   have:=ih h4 hf
   cases o with
   |none=>simpa[Instr.findNow,g1]using this
   |some ju=>
    obtain⟨j,u'⟩:=ju
    obtain⟨e',k1,k2,k3,k4,k5⟩:=this
    refine⟨e',by omega,?_,k3,by simpa[Instr.findNow,g1]using k4,k5⟩
    rw[show j-i=(j-(i+1))+1 by omega]
    simpa using k2
  ·cases hf
def Zqx{t:TypeId}{kd:kV}(h:zP P t=some kd){b:Bool}{x:Value}(q:Nat):(Instr.checkKey b (q+1) t x).run P w=.ok () w:=by
 rcases Xr h with⟨kk,rfl,h1⟩|⟨rfl,h1⟩
 ·cases x<;>simp only[Instr.checkKey,Sem.run_bind,run_underlying h1,Result.andThen_ok,Sem.run_pure]
 ·cases x<;>simp only[Instr.checkKey,Sem.run_bind,run_underlying h1,Result.andThen_ok,Sem.run_pure]
def LW{t:TypeId}{kd:kV}(h:zP P t=some kd){b:Bool}{x:Value}:(Instr.checkKey b 10000 t x).run P w=.ok () w:=Zqx h 9999
def Zxl{t:TypeId}{kd:kV}(h:zP P t=some kd):∃d,P.underlying t=some d:=by
 rcases Xr h with⟨kk,_,h1⟩|⟨_,h1⟩<;>exact⟨_,h1⟩
def Ydp(hh:bm P μ w st)(hr:RR μ r n a.tmps){t kt e:TypeId}{x y:Operand}{sm sk:Src}{kd:kV}{z:V}{ok:Bool}(ht:P.underlying t=some (.map kt e))(hk:zP P kt=some kd)(hz:qU P e=some z)
  (hx:bB P x=some sm) (hy:bB P y=some sk) (h:GF kd z sm sk ok call r st=some (v,az)):
  ba P μ w st (do pure (.value (<-Instr.lookup t (a.eval x) (a.eval y) ok))) v az:=by
 unfold GF at h
 split at h
 ·rename_i m k hm qT
  have h1:=cQ hh hr hx hm
  have h2:=cQ hh hr hy qT
  obtain⟨d,hd⟩:=Zxl hk
  obtain⟨zx,QM,BF⟩:=Yca (w:=w) hz
  split at h
  ·cases m<;>simp at h
   case bN=>
    simp only[VR]at h1
    simp only[fb,aq,bs]at h
    obtain⟨rfl,rfl⟩:=h
    refine ba.value hh (x:=if ok then .tuple #[zx,.bool false] else zx) ?_ ?_
    ·simp[Instr.lookup,run_underlying ht,h1,LW hk,Instr.findKey,run_underlying hd,Instr.findNow,QM,Result.andThen]
    ·cases ok
     ·simpa using BF μ
     ·simp only[if_true,VR];exact⟨_,rfl,by simp[aS,VR];exact BF μ⟩
   case map i=>
    obtain⟨l,hl,h1⟩:=h1
    split at h
    ·rename_i es BG
     split at BG
     ·rename_i es0 hg
      simp only[aq]at BG;subst BG
      obtain⟨gZ,g1,g2⟩:=hh.get hl hg
      have tM:=QN (P:=P) g1 (by simp)
      split at h
      ·rename_i j u ho
       simp only[aq,bs]at h
       obtain⟨rfl,rfl⟩:=h
       obtain⟨en,_,_,k3,k4,_⟩:=QO hd hk h2 g2 ho
       refine ba.value hh (x:=if ok then .tuple #[en.val,.bool true] else en.val) ?_ ?_
       ·simp[Instr.lookup,run_underlying ht,h1,tM,LW hk,Instr.findKey,run_underlying hd,k4,Result.andThen]
       ·cases ok
        ·simpa using k3
        ·simp only[if_true,VR];exact⟨_,rfl,by simp[aS,VR];exact k3⟩
      ·rename_i ho
       simp only[aq,bs]at h
       obtain⟨rfl,rfl⟩:=h
       have k4:=QO hd hk h2 g2 ho
       simp only at k4
       refine ba.value hh (x:=if ok then .tuple #[zx,.bool false] else zx) ?_ ?_
       ·simp[Instr.lookup,run_underlying ht,h1,tM,LW hk,Instr.findKey,run_underlying hd,k4,QM,Result.andThen]
       ·cases ok
        ·simpa using BF μ
        ·simp only[if_true,VR];exact⟨_,rfl,by simp[aS,VR];exact BF μ⟩
      ·cases h
     ·cases BG
    ·cases h
  ·cases h
 ·cases h
def Xs(w:World)(b:Nat)(o:Obj):({w with heap:=w.heap.setIfInBounds b o}:World).heap[b]?=if b<w.heap.size then some o else none:=by
 show (w.heap.setIfInBounds b o)[b]?=_
 rw[Array.getElem?_setIfInBounds]
 simp
def Xt{i:Nat}{o o':Obj}(h:w.heap[i]?=some o)(ho:∀c e f,o≠.cells c e f):(setObj i o').run P w=.ok () {w with heap:=w.heap.setIfInBounds i o'}:=by
 simp only[setObj,Sem.run,h]
def bH.setObj(hh:bm P μ w st){i:Nat}{l:L}(hl:μ i=some l){o o':O}(hg:st.h.get i=some o)(hw:o.wr=true){ob:Obj}
  (hm:OM P μ {w with heap:=w.heap.setIfInBounds l.b ob} o' l):bH P μ w st μ {w with heap:=w.heap.setIfInBounds l.b ob} (st.write i o') [i]:=
 bH.write hh hl hg hw rfl rfl rfl (by simp) (fun b hb=>by
  show (w.heap.setIfInBounds l.b ob)[b]?=_
  rw[P3 (Ne.symm hb)]) hm
def iP.set:∀{es:List (V×V)} {xs:List MapEntry} {b:Nat},iP μ es xs b->∀{j:Nat} {k u:V} {x y:Value},VR μ k x->VR μ u y->∀{e:MapEntry},xs[j]?=some e->
  iP μ (es.set j (k,u)) (xs.set j {e with key:=x,val:=y}) b
 |[],xs,b,h,j,k,u,x,y,_,_,e,he=>by simp[iP]at h;subst h;simp at he
 |(k0,u0)::es,xs,b,h,j,k,u,x,y,h1,h2,e,he=>by
  obtain⟨e0,ys,rfl,g1,g2,g3,g4⟩:=h
  cases j with
  |zero=>simp at he;subst he;exact⟨_,_,rfl,h1,h2,g3,g4⟩
  |succ j=>exact⟨e0,_,rfl,g1,g2,g3,iP.set g4 h1 h2 (by simpa using he)⟩
def iP.push:∀{es:List (V×V)} {xs:List MapEntry} {b:Nat},iP μ es xs b->∀{k u:V} {x y:Value},VR μ k x->VR μ u y->∀{c:Nat},c=b+xs.length->
  iP μ (es++[(k,u)]) (xs++[{key:=x,val:=y,born:=c}]) b
 |[],xs,b,h,k,u,x,y,h1,h2,c,hc=>by simp[iP]at h;subst h;exact⟨_,_,rfl,h1,h2,by simpa using hc,rfl⟩
 |(k0,u0)::es,xs,b,h,k,u,x,y,h1,h2,c,hc=>by
  obtain⟨e0,ys,rfl,g1,g2,g3,g4⟩:=h
  exact⟨e0,_,rfl,g1,g2,g3,iP.push g4 h1 h2 (by simp at hc;omega)⟩
def ba.skip{s:Sem Unit}{w':World}{μ':Mu}{ws:List Nat}(hs:s.run P w=.ok () w')(h:bH P μ w st μ' w' az ws):ba P μ w st (do s;pure .skip) (.aV []) az:=
 ⟨.skip,undef,w',μ',ws,by simp[hs,Result.andThen],.inr ⟨rfl,rfl⟩,⟨[],rfl,by simp[aS]⟩,h⟩
def Zs8(hh:bm P μ w st)(hr:RR μ r n a.tmps){t kt e:TypeId}{x y z:Operand}{sm sk sv:Src}{kd:kV}(ht:P.underlying t=some (.map kt e))(hk:zP P kt=some kd)
  (hx:bB P x=some sm) (hy:bB P y=some sk) (hz:bB P z=some sv) (h:Eh kd sm sk sv call r st=some (v,az)):
  ba P μ w st (do Instr.mapUpdate t (a.eval x) (a.eval y) (a.eval z);pure .skip) v az:=by
 unfold Eh at h
 split at h
 ·rename_i i k u hm qT hu
  obtain⟨l,hl,h1⟩:=cQ hh hr hx hm
  have h2:=cQ hh hr hy qT
  have h3:=cQ hh hr hz hu
  obtain⟨d,hd⟩:=Zxl hk
  split at h
  ·split at h
   ·rename_i es BG
    obtain⟨gZ,g1,g2⟩:=hh.get hl BG
    have tM:=QN (P:=P) g1 (by simp)
    have hb:l.b<w.heap.size:=(hh.c_ i l hl).2
    split at h
    ·rename_i j _ hf
     simp only[aq,bs]at h
     obtain⟨rfl,rfl⟩:=h
     obtain⟨en,k1,k2,k3,k4,k5,k6⟩:=QO hd hk h2 g2 hf
     simp only[Nat.sub_zero]at k2
     have LX:=Xt (P:=P) (o':=.map ((⟨gZ⟩:Array MapEntry).modify j fun e=>{e with key:=a.eval y,val:=a.eval z}) gZ.length) g1 (by simp)
     refine ba.skip (μ':=μ) (ws:=[i]) (w':={w with heap:=w.heap.setIfInBounds l.b (.map ((⟨gZ⟩:Array MapEntry).modify j fun e=>{e with key:=a.eval y,val:=a.eval z}) gZ.length)}) ?_ (bH.setObj hh hl BG rfl ⟨gZ.set j {en with key:=a.eval y,val:=a.eval z},?_,?_⟩)
     ·have LY:(Instr.keyThatStays en.key (a.eval y)).run P w=.ok (a.eval y) w:=by
       simp[Instr.keyThatStays,k6]
      have cK:(((⟨gZ⟩:Array MapEntry)[j]?).map (·.key)).getD (a.eval y)=en.key:=by simp[k2]
      simp only[Instr.mapUpdate,Sem.run_bind,run_underlying ht,Result.andThen,h1,tM,LW hk,Instr.findKey,run_underlying hd,k4,Sem.run_pure,cK,LY,LX]
     ·rw[Xs,ay hb]
      congr 2
      ·apply Array.ext'
       apply oe
       intro q
       rw[Ck,Array.getElem?_modify]
       by_cases e:j=q
       ·subst e
        obtain⟨hj,hje⟩:=zH.1 k2
        simp[hj,hje]
       ·simp[e,dW e]
      ·simp
     ·exact g2.set h2 h3 k2
    ·rename_i hf
     simp only[aq,bs]at h
     obtain⟨rfl,rfl⟩:=h
     have k4:=QO hd hk h2 g2 hf
     simp only at k4
     have LX:=Xt (P:=P) (o':=.map ((⟨gZ⟩:Array MapEntry).push {key:=a.eval y,val:=a.eval z,born:=gZ.length}) (gZ.length+1)) g1 (by simp)
     refine ba.skip (μ':=μ) (ws:=[i]) (w':={w with heap:=w.heap.setIfInBounds l.b (.map ((⟨gZ⟩:Array MapEntry).push {key:=a.eval y,val:=a.eval z,born:=gZ.length}) (gZ.length+1))}) ?_ (bH.setObj hh hl BG rfl ⟨gZ++[{key:=a.eval y,val:=a.eval z,born:=gZ.length}],?_,?_⟩)
     ·simp only[Instr.mapUpdate,Sem.run_bind,run_underlying ht,Result.andThen,h1,tM,LW hk,Instr.findKey,run_underlying hd,k4,Sem.run_pure,LX]
     ·rw[Xs,ay hb]
      simp
     ·exact g2.push h2 h3 (by simp)
    ·cases h
   ·cases h
  ·cases h
 ·cases h
def Zzd(hh:bm P μ w st)(hr:RR μ r n a.tmps){ty:TypeId}{x:Operand}{s:Src}(hx:bB P x=some s)
  (h:GH s call r st=some (v,az)):ba P μ w st (do pure (.value (<-Instr.next (a.eval x) true ty))) v az:=by
 unfold GH at h
 split at h
 ·rename_i i hm
  obtain⟨l,hl,h1⟩:=cQ hh hr hx hm
  split at h
  ·rename_i q pos hg
   obtain⟨g1,g2⟩:=hh.get hl hg
   rw[g2]at h1
   have tM:=QN (P:=P) g1 (by simp)
   have hb:l.b<w.heap.size:=(hh.c_ i l hl).2
   have kX:(⟨q.toArray⟩:ByteArray).size=q.length:=rfl
   split at h
   ·rename_i hp
    simp only[aq,bs]at h
    obtain⟨rfl,rfl⟩:=h
    have LX:=Xt (P:=P) (o':=.stringIter ⟨q.toArray⟩ (pos+(Utf8.decode ⟨q.toArray⟩ pos).2)) g1 (by simp)
    refine⟨.value (.tuple #[.bool true,.int .i64 pos,.int .i32 (Utf8.decode ⟨q.toArray⟩ pos).1]),_,_,μ,[i],?_,.inl rfl,?_,bH.setObj hh hl hg rfl (ob:=.stringIter ⟨q.toArray⟩ (pos+(Utf8.decode ⟨q.toArray⟩ pos).2)) ⟨?_,g2⟩⟩
    ·simp[Instr.next,h1,tM,Result.andThen,kX,hp,LX,goInt, -ByteArray.size_data]
    ·simp only[VR];exact⟨_,rfl,by simp[aS,VR]⟩
    ·rw[Xs,ay hb]
   ·rename_i hp
    simp only[aq,bs]at h
    obtain⟨rfl,rfl⟩:=h
    refine ba.value hh (x:=.tuple #[.bool false]) ?_ (by simp only[VR];exact⟨_,rfl,by simp[aS,VR]⟩)
    simp[Instr.next,h1,tM,Result.andThen,kX,hp, -ByteArray.size_data]
  ·cases h
 ·cases h
end
end Go.Mx
