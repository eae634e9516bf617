/-The operations of M stand for the Go mod-/
import Derived.Test.YteojhfjdbpdolaaGreatDoorMxOp4
import Derived.Laws.IdiomStrings
import Derived.Lib.Bytealg
import Derived.Shelf.Spec.BitsCarry
set_option linter.all false
namespace Go.Mx
open Go
section
variable {P:Program} {μ:Mu} {w:World} {st aC:St} {r:T V} {n:Nat} {a:Act} {call:cI} {v:V}
def Zno(zs:List V)(k:Nat):(cU zs k).length=k*zs.length:=by simp[cU]
def QV{zs:List V}{xs:List Value}(h:aV μ zs xs)(k:Nat):aV μ (cU zs k) (madeCells ⟨xs⟩ (k*zs.length)).toList:=by
 have hl:=h.length
 refine aV.q_ (by simp[cU,madeCells]) fun j u hu=>?_
 have hj:j<k*zs.length:=by
  have:=(wP.1 hu).1
  simpa[cU]using this
 have hz:0<zs.length:=by
  rcases Gd zs.length with e|e
  ·rw[e]at hj;simp at hj
  ·exact e
 have C0:j%zs.length<zs.length:=kO _ hz
 simp only[cU,eY,DT hj,pL,al]at hu
 obtain⟨y,h1,h2⟩:=h.get (i:=j%zs.length) (v:=zs[j%zs.length]) (by simp[C0])
 refine⟨y,?_,?_⟩
 ·simp only[madeCells,Array.toList_map,Array.toList_range,eY,DT hj,pL,al]
  have fI:(⟨xs⟩:Array Value)[j%xs.length]?=some y:=by rw[hl];simpa using h1
  simp only[Array.size,getElem!_def,fI]
 ·rw[<-hu]
  simpa[List.getD,C0]using h2
def Xq{zs:List V}(h:zs.all V.one=true)(k:Nat):∀{xs:List Value},aV μ (cU zs k) xs->∀x∈xs,x.oneCell'=true:=by
 intro xs hx
 refine LX hx ?_
 rw[lB]
 intro u hu
 simp only[cU,dt,u9]at hu
 obtain⟨j,hj,rfl⟩:=hu
 have hz:0<zs.length:=by
  rcases Gd zs.length with e|e
  ·rw[e]at hj;simp at hj
  ·exact e
 have C0:j%zs.length<zs.length:=kO _ hz
 rw[lB]at h
 simpa[List.getD,C0]using h zs[j%zs.length] (by simp)
def Yg7(hh:bm P μ w st)(hr:RR μ r n a.tmps){t e:TypeId}{s len:Nat}{z:V}{parts:Array (Nat×Operand)}{uA:List (Nat×Nat×Src)}
  (ht:P.underlying t=some (.slice e)) (hs:e_ P e=some s) (hz:qX P e=some z) (hle:¬len*s > 2^24) (LM:z.cells.length=s)
  (hc:Bi P (fun i=>some (i*s,s)) parts.toList=some uA) (h:Gm e s len (cU z.cells len) uA call r st=some (v,aC)):
  ba P μ w st (do pure (.value (<-Instr.buildSlice t len (parts.map fun (i,x)=>(i,a.eval x))))) v aC:=by
 unfold Gm at h
 split at h
 ·rename_i ps qw
  split at h
  ·rename_i l hl
   split at h
   ·rename_i gl
    simp only[al,bu]at h
    obtain⟨rfl,rfl⟩:=h
    obtain⟨i,x,hi,hx,qa⟩:=G8 hz
    have uT:=(qa μ).cells
    have oo:=QV uT len
    rw[LM]at oo
    obtain⟨l',h1,h2⟩:=XA hh hr hc qw oo hl
    have ue:=h2.length
    refine ba.newRow hh (v:=.slice st.n 0 len (some len) s) (xs:=l') (x:=.slice (some ⟨w.heap.size,0,none⟩) len len) ?_ h2 (LX h2 gl) ?_
    ·have fI:Instr.fill (fun i=>some (i*s,s)) (madeCells x.cells (len*s)) (parts.map fun p=>(p.1,a.eval p.2)).toList=some ⟨l'⟩:=by
      rw[<-h1]
      simp
     simp only[Instr.buildSlice,Sem.run_bind,run_underlying ht,Result.andThen,yv hs,ak hle]
     split
     ·rename_i e0
      have gW:((Array.range (len*s)).map ((#[]:Array Value)[·%(#[]:Array Value).size]!))=madeCells x.cells (len*s):=by
       simp[madeCells,e0]
      simp only[Sem.run_bind,Sem.run_pure,Result.andThen,gW]
      rw[fI]
      simp[Go.newRow,Result.andThen]
     ·have gW:((Array.range (len*s)).map (x.cells[·%x.cells.size]!))=madeCells x.cells (len*s):=rfl
      simp only[zeroValue,typeInfo,Sem.run_bind,Sem.run_pure,Result.andThen,hi,hx,run_program]
      simp only[gW]
      rw[fI]
      simp[Go.newRow,Result.andThen]
    ·have LY:l.length=len*s:=by
      have:∀(ps:List (Nat×Nat×V)) (cs l:List V),Bn cs ps=some l->l.length=cs.length:=by
       intro ps
       induction ps with
       |nil=>intro cs l h;simp only[Bn,al]at h;rw[h]
       |cons p ps ih=>
        intro cs l h
        obtain⟨o,s,u⟩:=p
        simp only[Bn]at h
        split at h
        ·rename_i hc
         rw[ih _ _ h,QX (by omega)]
        ·cases h
      rw[this ps _ l hl,Zno,LM]
     simp only[VR]
     exact⟨⟨w.heap.size,0,l'.length⟩,len,by simp,by simp,aM _,by simp[ue,LY],by simp,by simp⟩
   ·cases h
  ·cases h
 ·cases h
def Yau(hh:bm P μ w st)(hr:RR μ r n a.tmps){t e:TypeId}{s b:Nat}{z:V}{x y:Operand}{sx sy:Src}(ht:P.underlying t=some (.slice e))(hs:e_ P e=some s)(hb:Ci P e=some b)(hz:qX P e=some z)
  (gl:z.cells.all V.one=true) (hx:bB P x=some sx) (hy:bB P y=some sy) (h:Cv e s b z.cells sx sy call r st=some (v,aC)):
  ba P μ w st (do pure (.value (<-Instr.makeSlice t (a.eval x) (a.eval y)))) v aC:=by
 unfold Cv at h
 split at h
 ·rename_i k l k' c h1 h2
  have e1:=cX hh hr hx h1
  have e2:=cX hh hr hy h2
  simp only[VR]at e1 e2
  split at h
  ·rename_i hc
   obtain⟨gb,zm,hbc,zaE,kM,ui⟩:=hc
   simp only[al,bu]at h
   obtain⟨rfl,rfl⟩:=h
   obtain⟨i,zx,hi,qa,QZ⟩:=G8 hz
   unfold e_ at hs
   unfold Ci at hb
   simp only[hi,pL,al]at hs hb
   have uT:=(QZ μ).cells
   have oo:=QV uT c.toNat
   rw[<-kM]at oo
   have bO:=run_make (P:=P) w t e i zx ht hi qa k k' l c gb zm (by rw[hb];omega) (by omega)
   rw[hs]at bO
   refine ba.newRow hh (v:=.slice st.n 0 l.toNat (some c.toNat) s) (xs:=(madeCells zx.cells (c.toNat*s)).toList) (x:=.slice (some ⟨w.heap.size,0,none⟩) l.toNat c.toNat) ?_ oo (Xq gl c.toNat oo) ?_
   ·rw[e1,e2,bO]
   ·simp only[VR]
    exact⟨⟨w.heap.size,0,_⟩,c.toNat,by simp;rfl,by simp,by omega,by simp[madeCells],by simp,by simp⟩
  ·cases h
 ·cases h
def ba.newObj(hh:bm P μ w st){s:Sem Value}{x:Value}{o:O}{ob:Obj}(hs:s.run P w=.ok x (w.alloc ob))
  (ho:OM P (fun i=>if i=st.n then some ⟨w.heap.size,0,0⟩ else μ i) (w.alloc ob) o ⟨w.heap.size,0,0⟩) (hv:VR (fun i=>if i=st.n then some ⟨w.heap.size,0,0⟩ else μ i) v x):
  ba P μ w st (do pure (.value (<-s))) v (st.alloc o):=
 ⟨Next.value x,x,_,_,[],by simp[hs,Result.andThen],.inl rfl,hv,bH.alloc hh o ob 0 0 ho⟩
def XB(w:World)(o:Obj):(w.alloc o).heap[w.heap.size]?=some o:=by
 show (w.heap.push o)[w.heap.size]?=some o
 simp
def Yjp(hh:bm P μ w st){t:TypeId}(h:Jl call r st=some (v,aC)):ba P μ w st (do pure (.value (<-Instr.makeMap t none))) v aC:=by
 unfold Jl at h
 simp only[al,bu]at h
 obtain⟨rfl,rfl⟩:=h
 refine ba.newObj hh (v:=.map st.n) (x:=.map (some w.heap.size)) (ob:=.map #[] 0) ?_ ⟨[],by simpa using XB w _,rfl⟩ ?_
 ·simp[Instr.makeMap,Result.andThen]
 ·simp only[VR];exact⟨⟨w.heap.size,0,0⟩,by simp,rfl⟩
def Ys5(hh:bm P μ w st)(hr:RR μ r n a.tmps){t e:TypeId}{d:ChanDir}{b:Nat}{x:Operand}{s:Src}(ht:P.underlying t=some (.chan d e))(hb:Ci P e=some b)(hx:bB P x=some s)
  (h:Ef b s call r st=some (v,aC)):ba P μ w st (do pure (.value (<-Instr.makeChan t (a.eval x)))) v aC:=by
 unfold Ef at h
 split at h
 ·rename_i q k hk
  have e1:=cX hh hr hx hk
  simp only[VR]at e1
  split at h
  ·cases h
  ·rename_i hc
   simp only[al,bu]at h
   obtain⟨rfl,rfl⟩:=h
   unfold Ci at hb
   simp only[ki]at hb
   obtain⟨i,hi,rfl⟩:=hb
   refine ba.newObj hh (v:=.chan st.n) (x:=.chan (some w.heap.size)) (ob:=.chan k.toNat #[] false 0 0 false) ?_ ⟨[],0,0,by simpa using XB w _,by simp[aV]⟩ ?_
   ·simp only[Instr.makeChan,e1,asInt,asIntOf,run_underlying ht,typeInfo,hi,ak hc,Result.andThen,Sem.run_bind,Sem.run_pure,run_program,run_newObj]
    rfl
   ·simp only[VR];exact⟨⟨w.heap.size,0,0⟩,by simp,rfl⟩
 ·cases h
def Zvp(hh:bm P μ w st)(hr:RR μ r n a.tmps){t:TypeId}{x:Operand}{s:Src}(ht:P.underlying t=some .string)(hx:bB P x=some s)
  (h:GA s call r st=some (v,aC)):ba P μ w st (do pure (.value (<-Instr.range t (a.eval x)))) v aC:=by
 unfold GA at h
 split at h
 ·rename_i q hk
  have e1:=cX hh hr hx hk
  simp only[VR]at e1
  simp only[al,bu]at h
  obtain⟨rfl,rfl⟩:=h
  refine ba.newObj hh (v:=.ptr st.n 0) (x:=.pointer (some ⟨w.heap.size,0,none⟩)) (ob:=.stringIter ⟨q.toArray⟩ 0) ?_ (by simp only[OM];exact⟨XB w _,trivial⟩) ?_
  ·simp[Instr.range,e1,run_underlying ht,Result.andThen]
  ·simp only[VR];exact⟨⟨w.heap.size,0,0⟩,by simp,rfl⟩
 ·cases h
def Xt(g o:Nat)(t:TypeId)(lo hi:Nat):∀(vs:List Value) (i:Nat) (cur:List Value) (w:World),w.heap[g]?=some (.cells ⟨cur⟩ t (lo,hi))->o+i+vs.length<=cur.length->(∀v∈vs,v.oneCell'=true)->
  (∀j,o+i<=j->j<o+i+vs.length->¬(lo<=j/\j<hi))->(storeCells ⟨g,o,none⟩ vs i).run P w=.ok () (w.setRow g ⟨ad cur (o+i) vs⟩)
 |[],i,cur,w,hg,_,_,_=>by
  have e:ad cur (o+i) []=cur:=by simp[ad]
  rw[e,setRow_self w g _ t _ hg]
  simp[storeCells]
 |v::rest,i,cur,w,hg,hl,h1,hf=>by
  simp only[bo]at hl
  have iB:o+i<cur.length:=by omega
  have fW:w.cell? ⟨g,o+i,none⟩=some cur[o+i]:=by simp[World.cell?,hg,iB]
  have XC:w.frozen? ⟨g,o+i,none⟩=false:=by
   have:=hf (o+i) (aM _) (by simp)
   simp only[World.frozen?,hg]
   simp;omega
  have dM:(store ((⟨g,o,none⟩:Addr).add i) v).run P w=.ok () (w.setRow g ⟨cur.set (o+i) v⟩):=by
   rw[xz,run_store P w _ v _ (h1 v (by simp)),fW]
   simp[XC,setCell_eq_setRow w g (o+i) _ t _ v hg]
  have ih:=Xt g o t lo hi rest (i+1) (cur.set (o+i) v) (w.setRow g ⟨cur.set (o+i) v⟩) (setRow_heap w g _ _ t _ hg) (by simp;omega) (fun x hx=>h1 x (by simp[hx]))
   (fun j CQ od=>hf j (by omega) (by simp only[bo];omega))
  simp only[storeCells,Sem.run_bind,dM,Result.andThen_ok,ih,setRow_setRow]
  rw[<-oW,Znz _ _ _ _ iB]
def QU(hh:bm P μ w st){i o:Nat}{l:L}(hl:μ i=some l){c:List V}{e:TypeId}(aq:st.row i=some (c,e,true)){vs:List V}{xs:List Value}(hv:aV μ vs xs)(h1:∀x∈xs,x.oneCell'=true)
  (hlen:o+vs.length<=c.length):
  ∃w',(storeCells ⟨l.b,l.d+o,none⟩ xs).run P w=.ok () w'/\bH P μ w st μ w' (st.write i (.cells (ad c o vs) e true)) [i]:=by
 obtain⟨c',lo,hi,g1,g2,g3,g4,g5,g6⟩:=hh.row hl aq
 obtain⟨cur⟩:=c'
 have yS:=hv.length
 simp only[List.size_toArray]at g2
 have bO:=Xt (P:=P) l.b (l.d+o) e lo hi xs 0 cur w g1 (by omega) h1 (fun j CQ od=>by
  have:=(g6 rfl).2 (j-l.d) (by omega)
  rw[show l.d+(j-l.d)=j by omega]at this
  exact this)
 refine⟨_,bO,?_⟩
 have hb:=setRow_heap w l.b _ (⟨ad cur (l.d+o+0) xs⟩:Array Value) e _ g1
 refine bH.write hh hl (LH aq) rfl rfl rfl rfl (by simp) (fun b hb=>setRow_other w l.b b _ hb) ⟨_,lo,hi,hb,?_,?_,?_,?_,g6⟩
 ·simp only[List.size_toArray]
  rw[QX (by omega)];exact g2
 ·rw[QX hlen];exact g3
 ·intro j u hu
  rw[JH hlen]at hu
  have e':∀k:Nat,(⟨ad cur (l.d+o+0) xs⟩:Array Value)[k]?=(ad cur (l.d+o+0) xs)[k]?:=fun k=>by simp
  rw[e',JH (by omega)]
  split at hu
  ·rename_i hj
   rw[av (by omega)]
   obtain⟨y,hy,hr⟩:=hv.get hu
   exact⟨y,by rw[show l.d+j-(l.d+o+0)=j-o by omega];exact hy,hr⟩
  ·rename_i hj
   rw[ak (by omega)]
   obtain⟨y,hy,hr⟩:=g4 j u hu
   exact⟨y,by simpa using hy,hr⟩
 ·intro j x ay hx
  have e':(⟨ad cur (l.d+o+0) xs⟩:Array Value)[l.d+j]?=(ad cur (l.d+o+0) xs)[l.d+j]?:=by simp
  rw[e',JH (by omega)]at hx
  split at hx
  ·exact h1 x (cG hx)
  ·exact g5 j x ay (by simpa using hx)
def Yib(hh:bm P μ w st)(hr:RR μ r n a.tmps){t:TypeId}{k:Nat}{x y:Operand}{sx sy:Src}(hk:e_ P t=some k)(hx:bB P x=some sx)(hy:bB P y=some sy)
  (h:Ed k sx sy call r st=some (v,aC)):ba P μ w st (do Instr.storeAt t (a.eval x) (a.eval y);pure .skip) v aC:=by
 unfold Ed at h
 split at h
 ·rename_i i o u h1 h2
  obtain⟨l,hl,e1⟩:=cX hh hr hx h1
  have e2:=cX hh hr hy h2
  split at h
  ·rename_i c e aq
   split at h
   ·rename_i hc
    simp only[al,bu]at h
    obtain⟨rfl,rfl⟩:=h
    have cN:=e2.cells
    have hlen:=cN.length
    obtain⟨w',hw,hs⟩:=QU hh hl aq cN (LX cN hc.2.2) (o:=o) (by omega)
    refine⟨.skip,undef,w',μ,[i],?_,.inr ⟨rfl,rfl⟩,⟨[],rfl,by simp[aV]⟩,hs⟩
    have kM:(a.eval y).cells.size=k:=by
     rw[<-hc.1,<-hlen];simp
    simp[Instr.storeAt,Instr.sureAddr,e1,storeVar,yv hk,kM,hw,Result.andThen]
   ·cases h
  ·cases h
 ·cases h
end
section
variable {P:Program} {μ:Mu} {w:World} {st aC:St} {r:T V} {n:Nat} {a:Act} {call:cI} {v:V}
def bm.EG(h:bm P μ w st):bm P μ w.drew st:=h.drew (w.drawn+1)
def bH.AA{μ':Mu}{w':World}{ws:List Nat}(h:bH P μ w.drew st μ' w' aC ws):bH P μ w st μ' w' aC ws:=
 ⟨h.hr,h.ext,h.fx,h.wl,⟨h.eg.os,h.eg.tape,h.eg.output,h.eg.size,h.eg.block⟩,h.new,h.ae,h.grow,h.full,h.yW⟩
def bH.newRow(hh:bm P μ w st){cs:List V}{xs:List Value}{e:TypeId}{lo hi:Nat}
  (hle:cs.length<=xs.length) (hc:∀(j:Nat) (u:V),cs[j]?=some u->∃x,xs[j]?=some x/\VR μ u x) (h1:∀x∈xs,x.oneCell'=true) (hf:xs.length<=lo\/hi<=lo):
  bH P μ w st (fun i=>if i=st.n then some ⟨w.heap.size,0,xs.length⟩ else μ i) (w.alloc (.cells ⟨xs⟩ e (lo,hi))) (st.alloc (.cells cs e true)) []:=by
 have dC:∀i l,μ i=some l->(fun i=>if i=st.n then some (⟨w.heap.size,0,xs.length⟩:L) else μ i) i=some l:=fun i l hl=>by
  have:=(hh.dc i l hl).1
  simp only
  rw[ak (by omega)];exact hl
 refine bH.alloc hh (.cells cs e true) (.cells ⟨xs⟩ e (lo,hi)) 0 xs.length ⟨⟨xs⟩,lo,hi,?_,by simp,hle,fun j u hu=>?_,fun j y _ hy=>?_,fun _=>⟨rfl,fun j hj=>by simp only at hj ⊢;omega⟩⟩
 ·simp
 ·obtain⟨y,hy,hr⟩:=hc j u hu
  exact⟨y,by simpa using hy,VR.mono dC u y hr⟩
 ·exact h1 y (cG (by simpa using hy))
def ba.C1(hh:bm P μ w st){s:Sem Value}{x:Value}{cs:List V}{xs:List Value}{e:TypeId}{lo hi:Nat}(hs:s.run P w=.ok x (w.drew.alloc (.cells ⟨xs⟩ e (lo,hi))))
  (hle:cs.length<=xs.length) (hc:∀(j:Nat) (u:V),cs[j]?=some u->∃x,xs[j]?=some x/\VR μ u x) (h1:∀x∈xs,x.oneCell'=true) (hf:xs.length<=lo\/hi<=lo)
  (hv:VR (fun i=>if i=st.n then some ⟨w.heap.size,0,xs.length⟩ else μ i) v x):
  ba P μ w st (do pure (.value (<-s))) v (st.alloc (.cells cs e true)):=
 ⟨Next.value x,x,_,_,[],by simp only[Sem.run_bind,hs,Result.andThen,Sem.run_pure],.inl rfl,hv,(bH.newRow hh.EG hle hc h1 hf (hi:=hi)).AA⟩
def Zu9(hh:bm P μ w st)(hr:RR μ r n a.tmps){src dst e:TypeId}{x:Operand}{s:Src}(hs:P.underlying src=some .string)(hd:P.underlying dst=some (.slice e))(he:P.underlying e=some (.int .u8))(hx:bB P x=some s)
  (h:Ee e s call r st=some (v,aC)):ba P μ w st (do pure (.value (<-convert src dst (a.eval x)))) v aC:=by
 unfold Ee at h
 split at h
 ·rename_i m hm
  simp only[al,bu]at h
  obtain⟨rfl,rfl⟩:=h
  have h1:=cX hh hr hx hm
  simp only[VR]at h1
  have bO:=run_bytes_of_string (P:=P) w src dst e ⟨m.toArray⟩ hs hd he
  rw[<-h1]at bO
  have CX:=grownCap_ge w m.length 0 e
  have kM:(⟨m.toArray⟩:ByteArray).size=m.length:=by simp[ByteArray.size]
  rw[kM]at bO
  have hl:(bytesRow ⟨m.toArray⟩ (grownCap w m.length 0 e)).toList=m.map (fun b=>Value.int .u8 b.toNat)++List.replicate (grownCap w m.length 0 e-m.length) (.int .u8 0):=by
   simp[bytesRow,kM]
  have LZ:(bytesRow ⟨m.toArray⟩ (grownCap w m.length 0 e)).size=m.length+(grownCap w m.length 0 e-m.length):=by
   rw[<-Array.length_toList,hl];simp
  refine ba.C1 hh (v:=.slice st.n 0 m.length none 1) (xs:=(bytesRow ⟨m.toArray⟩ (grownCap w m.length 0 e)).toList) (lo:=_) (hi:=_) bO ?_ ?_ ?_ (.inl (by simp)) ?_
  ·rw[hl];simp
  ·intro j u hu
   rw[hl]
   have hj:j<m.length:=by
    have:=(wP.1 hu).1
    simpa using this
   refine⟨_,iM (by simpa using hj) |>.trans (eY ..) |>.trans (by rw[cy hj];rfl),?_⟩
   simp only[eY,cy hj,pL,al]at hu
   rw[<-hu];simp[VR]
  ·intro y hy
   rw[hl]at hy
   simp only[mE,dt,Ge]at hy
   rcases hy with⟨b,_,rfl⟩|⟨_,rfl⟩<;>rfl
  ·simp only[VR]
   refine⟨⟨w.heap.size,0,_⟩,grownCap w m.length 0 e,by simp;rfl,by simp,CX,?_,by simp,fun _=>?_⟩
   ·simp only[LZ];omega
   ·simp only[LZ];omega
 ·cases h
def Yld{l:List V}{s:List UInt8}{xs:List Value}(h:aV μ l xs)(hm:l.mapM (fun v=>match v with|.int .u8 n=>some (UInt8.ofNat n.toNat)|_=>none)=some s):
  ∃ns:List Int,xs=ns.map (Value.int .u8)/\s=ns.map (fun n=>UInt8.ofNat n.toNat):=by
 induction l generalizing s xs with
 |nil=>
  simp only[List.mapM_nil,pure,al]at hm
  subst hm
  simp only[aV]at h
  exact⟨[],by simp[h],rfl⟩
 |cons u l ih=>
  obtain⟨y,ys,rfl,h1,h2⟩:=lD.1 h
  simp only[List.mapM_cons]at hm
  cases u<;>simp only[bind,Option.bind,reduceCtorEq]at hm
  rename_i k q
  cases k<;>simp only[reduceCtorEq]at hm
  split at hm
  ·cases hm
  ·rename_i s' jq
   simp only[pure,al]at hm
   subst hm
   obtain⟨ns,rfl,rfl⟩:=ih h2 jq
   simp only[VR]at h1
   exact⟨q::ns,by simp[h1],by simp⟩
def Zic:∀(l:List Int) (r:ByteArray),l.foldl (fun r n=>r.push (UInt8.ofNat n.toNat)) r=⟨r.data++(l.map (fun n=>UInt8.ofNat n.toNat)).toArray⟩
 |[],r=>by simp
 |b::l,r=>by
  simp only[List.foldl_cons]
  rw[Zic l]
  simp[ByteArray.push]
def Zw6(hh:bm P μ w st)(hr:RR μ r n a.tmps){src dst e:TypeId}{x:Operand}{s:Src}(hs:P.underlying src=some (.slice e))(hd:P.underlying dst=some .string)(he:P.underlying e=some (.int .u8))(hx:bB P x=some s)
  (h:Gu s call r st=some (v,aC)):ba P μ w st (do pure (.value (<-convert src dst (a.eval x)))) v aC:=by
 unfold Gu at h
 split at h
 ·rename_i hm
  simp only[al,bu]at h
  obtain⟨rfl,rfl⟩:=h
  have h1:=cX hh hr hx hm
  simp only[VR]at h1
  refine ba.value hh (x:=.string ByteArray.empty) ?_ (by simp only[VR];rfl)
  rw[h1,run_convert_bytes_string w src dst e none 0 0 hs he hd]
  simp[Conv.bytesToString]
 ·rename_i i o len cap hm
  obtain⟨l,c,hl,h1,_⟩:=cX hh hr hx hm
  split at h
  ·rename_i cs e' pO aq
   split at h
   ·rename_i Ad tA
    split at h
    ·rename_i s' hmm
     simp only[al,bu]at h
     obtain⟨rfl,rfl⟩:=h
     obtain⟨xs,p9,yS,xw,_,_⟩:=(hh.row hl aq).Ad tA
     obtain⟨ns,rfl,rfl⟩:=Yld p9 hmm
     refine ba.value hh (x:=.string ⟨(ns.map (fun n=>UInt8.ofNat n.toNat)).toArray⟩) ?_ (by simp[VR])
     rw[h1,run_convert_bytes_string w src dst e _ _ _ hs he hd,run_bytesToString w _ len c ns xw,Zic]
     have Ma:ByteArray.empty.data=#[]:=rfl
     rw[Ma];simp
    ·cases h
   ·cases h
  ·cases h
 ·cases h
def Q0{i:Nat}{o:Obj}(h:w.heap[i]?=some o)(ho:∀c e f,o≠.cells c e f):(getObj i).run P w=.ok o w:=by
 simp only[getObj,Sem.run,h]
def iG.length:∀{es:List (V×V)} {xs:List MapEntry} {i:Nat},iG μ es xs i->xs.length=es.length
 |[],_,_,h=>by simp[iG]at h;simp[h]
 |(k,u)::es,_,i,h=>by
  obtain⟨e,ys,rfl,_,_,_,h5⟩:=h
  simp[iG.length h5]
def Ya2(hh:bm P μ w st)(hr:RR μ r n a.tmps){t ty:TypeId}{x:Operand}{s:Src}(ht:P.underlying t=some .string)(hx:bB P x=some s)
  (h:yp 0 s call r st=some (v,aC)):ba P μ w st (do pure (.value (<-Builtin.len_ #[t] ty #[a.eval x]))) v aC:=by
 unfold yp at h
 cases hm:s.ev r with
 |none=>simp[hm]at h
 |some q=>
  have h1:=cX hh hr hx hm
  cases q<;>simp[hm]at h
  rename_i q
  obtain⟨rfl,rfl⟩:=h
  simp only[VR]at h1
  have h2:(⟨q.toArray⟩:ByteArray).size=q.length:=rfl
  exact ba.value hh (x:=.int .i64 q.length) (by simp[Builtin.len_,h1,run_underlying ht,goInt,h2, -ByteArray.size_data]) (by simp[VR])
def Ztx(hh:bm P μ w st)(hr:RR μ r n a.tmps){t ty e:TypeId}{x:Operand}{s:Src}(ht:P.underlying t=some (.slice e))(hx:bB P x=some s)
  (h:yp 1 s call r st=some (v,aC)):ba P μ w st (do pure (.value (<-Builtin.len_ #[t] ty #[a.eval x]))) v aC:=by
 unfold yp at h
 cases hm:s.ev r with
 |none=>simp[hm]at h
 |some q=>
  have h1:=cX hh hr hx hm
  cases q<;>simp[hm]at h
  case aa=>
   obtain⟨rfl,rfl⟩:=h
   simp only[VR]at h1
   exact ba.value hh (x:=.int .i64 0) (by simp[Builtin.len_,h1,run_underlying ht,goInt]) (by simp[VR])
  case empty=>
   obtain⟨rfl,rfl⟩:=h
   obtain⟨b,c,h1⟩:=h1
   exact ba.value hh (x:=.int .i64 0) (by simp[Builtin.len_,h1,run_underlying ht,goInt]) (by simp[VR])
  case slice i o len cap sz=>
   obtain⟨rfl,rfl⟩:=h
   obtain⟨l,c,_,h1,_⟩:=h1
   exact ba.value hh (x:=.int .i64 len) (by simp[Builtin.len_,h1,run_underlying ht,goInt]) (by simp[VR])
def Ya3(hh:bm P μ w st)(hr:RR μ r n a.tmps){t ty k e:TypeId}{x:Operand}{s:Src}(ht:P.underlying t=some (.map k e))(hx:bB P x=some s)
  (h:yp 2 s call r st=some (v,aC)):ba P μ w st (do pure (.value (<-Builtin.len_ #[t] ty #[a.eval x]))) v aC:=by
 unfold yp at h
 cases hm:s.ev r with
 |none=>simp[hm]at h
 |some q=>
  have h1:=cX hh hr hx hm
  cases q<;>simp[hm]at h
  case bN=>
   obtain⟨rfl,rfl⟩:=h
   simp only[VR]at h1
   exact ba.value hh (x:=.int .i64 0) (by simp[Builtin.len_,h1,run_underlying ht,goInt]) (by simp[VR])
  case map i=>
   split at h
   ·rename_i es BG
    simp only[al,bu]at h
    obtain⟨rfl,rfl⟩:=h
    obtain⟨l,hl,h1⟩:=h1
    obtain⟨gJ,g1,g2⟩:=hh.get hl BG
    have hg:=Q0 (P:=P) g1 (by simp)
    exact ba.value hh (x:=.int .i64 es.length) (by simp[Builtin.len_,h1,run_underlying ht,goInt,hg,Result.andThen,g2.length]) (by simp[VR])
   ·cases h
def Ys7(hh:bm P μ w st){t ty:TypeId}{k:Nat}{x:Value}(ht:(∃e,P.underlying t=some (.array k e))\/∃u e,P.underlying t=some (.pointer u)/\P.underlying u=some (.array k e))
  (h:K9 k call r st=some (v,aC)):ba P μ w st (do pure (.value (<-Builtin.len_ #[t] ty #[x]))) v aC:=by
 unfold K9 at h
 simp only[al,bu]at h
 obtain⟨rfl,rfl⟩:=h
 refine ba.value hh (x:=.int .i64 k) ?_ (by simp[VR])
 rcases ht with⟨e,h1⟩|⟨u,e,h1,h2⟩
 ·simp[Builtin.len_,run_underlying h1,goInt]
 ·simp[Builtin.len_,run_underlying h1,run_underlying h2,goInt]
def Yub(hh:bm P μ w st)(hr:RR μ r n a.tmps){t ty e:TypeId}{x:Operand}{s:Src}(ht:P.underlying t=some (.slice e))(hx:bB P x=some s)
  (h:Jn s call r st=some (v,aC)):ba P μ w st (do pure (.value (<-Builtin.cap_ #[t] ty #[a.eval x]))) v aC:=by
 unfold Jn at h
 split at h
 ·rename_i hm
  simp only[al,bu]at h
  obtain⟨rfl,rfl⟩:=h
  have h1:=cX hh hr hx hm
  simp only[VR]at h1
  exact ba.value hh (x:=.int .i64 0) (by simp[Builtin.cap_,h1,run_underlying ht,goInt]) (by simp[VR])
 ·rename_i i o len k sz hm
  simp only[al,bu]at h
  obtain⟨rfl,rfl⟩:=h
  obtain⟨l,c,_,h1,_,_,h5,_⟩:=cX hh hr hx hm
  have hk:=h5 k rfl
  subst hk
  exact ba.value hh (x:=.int .i64 c) (by simp[Builtin.cap_,h1,run_underlying ht,goInt]) (by simp[VR])
 ·cases h
def Yez:∀{l:List V} {u:V} {xs:List Value},xl (l)=some u->aV μ l xs->∃y ys z,xs=y::ys/\(ys.foldlM Builtin.min2 y).run P w=.ok z w/\VR μ u z:=by
 intro l
 induction l using xl.induct<;>intro u xs h hx
 case case1=>simp[xl]at h
 case case2 x=>
  simp only[xl,al]at h;subst h
  obtain⟨y,ys,rfl,h1,h2⟩:=lD.1 hx
  simp only[aV]at h2;subst h2
  exact⟨y,[],y,rfl,by simp,h1⟩
 case case3 k p k' q rest ih=>
  simp only[xl]at h
  obtain⟨y,ys,rfl,h1,h2⟩:=lD.1 hx
  obtain⟨y',XD,rfl,h3,h4⟩:=lD.1 h2
  simp only[VR]at h1 h3
  subst h1;subst h3
  obtain⟨y,ys,z,e,hz,hv⟩:=ih h (xs:=.int k (if q<p then q else p)::XD) (lD.2 ⟨_,_,rfl,by simp[VR],h4⟩)
  simp only[iQ]at e
  obtain⟨rfl,rfl⟩:=e
  exact⟨_,_,z,rfl,by simpa[Builtin.min2]using hz,hv⟩
 case case4 h1 h2 h3=>unfold xl at h;split at h<;>simp_all<;>exact absurd rfl (h3 _ _ _ _ _ rfl rfl rfl rfl)
def Ye1:∀{l:List V} {u:V} {xs:List Value},xm (l)=some u->aV μ l xs->∃y ys z,xs=y::ys/\(ys.foldlM Builtin.max2 y).run P w=.ok z w/\VR μ u z:=by
 intro l
 induction l using xm.induct<;>intro u xs h hx
 case case1=>simp[xm]at h
 case case2 x=>
  simp only[xm,al]at h;subst h
  obtain⟨y,ys,rfl,h1,h2⟩:=lD.1 hx
  simp only[aV]at h2;subst h2
  exact⟨y,[],y,rfl,by simp,h1⟩
 case case3 k p k' q rest ih=>
  simp only[xm]at h
  obtain⟨y,ys,rfl,h1,h2⟩:=lD.1 hx
  obtain⟨y',XD,rfl,h3,h4⟩:=lD.1 h2
  simp only[VR]at h1 h3
  subst h1;subst h3
  obtain⟨y,ys,z,e,hz,hv⟩:=ih h (xs:=.int k (if p<q then q else p)::XD) (lD.2 ⟨_,_,rfl,by simp[VR],h4⟩)
  simp only[iQ]at e
  obtain⟨rfl,rfl⟩:=e
  exact⟨_,_,z,rfl,by simpa[Builtin.max2]using hz,hv⟩
 case case4 h1 h2 h3=>unfold xm at h;split at h<;>simp_all<;>exact absurd rfl (h3 _ _ _ _ _ rfl rfl rfl rfl)
def Yvz(hh:bm P μ w st)(hr:RR μ r n a.tmps){ts:Array TypeId}{ty:TypeId}{xs:Array Operand}{ss:List Src}(hx:vg P xs.toList=some ss)
  (h:zc ss call r st=some (v,aC)):ba P μ w st (do pure (.value (<-Builtin.min_ ts ty (xs.map a.eval)))) v aC:=by
 unfold zc at h
 split at h
 ·rename_i l hl
  split at h
  ·rename_i u hu
   simp only[al,bu]at h
   obtain⟨rfl,rfl⟩:=h
   obtain⟨y,ys,z,e,hz,hv⟩:=Yez (P:=P) (w:=w) (Yph l▸hu) (G6 hh hr hx hl)
   refine ba.value hh (x:=z) ?_ hv
   simp only[Builtin.min_,Array.toList_map,e]
   exact hz
  ·cases h
 ·cases h
def Yvy(hh:bm P μ w st)(hr:RR μ r n a.tmps){ts:Array TypeId}{ty:TypeId}{xs:Array Operand}{ss:List Src}(hx:vg P xs.toList=some ss)
  (h:ri ss call r st=some (v,aC)):ba P μ w st (do pure (.value (<-Builtin.max_ ts ty (xs.map a.eval)))) v aC:=by
 unfold ri at h
 split at h
 ·rename_i l hl
  split at h
  ·rename_i u hu
   simp only[al,bu]at h
   obtain⟨rfl,rfl⟩:=h
   obtain⟨y,ys,z,e,hz,hv⟩:=Ye1 (P:=P) (w:=w) (Ypk l▸hu) (G6 hh hr hx hl)
   refine ba.value hh (x:=z) ?_ hv
   simp only[Builtin.max_,Array.toList_map,e]
   exact hz
  ·cases h
 ·cases h
end
section
variable {P:Program} {μ:Mu} {w:World} {st aC:St} {r:T V} {n:Nat} {a:Act} {call:cI} {v:V}
def XE{t:TypeId}{kd:kL}(h:zT P t=some kd):(∃k,kd=.int k/\P.underlying t=some (.int k))\/(kd=.str/\P.underlying t=some .string):=by
 unfold zT at h
 split at h
 ·simp only[al]at h;subst h;rename_i k hk;exact .inl ⟨k,rfl,hk⟩
 ·simp only[al]at h;subst h;rename_i hk;exact .inr ⟨rfl,hk⟩
 ·cases h
def Ztz{t:TypeId}{kd:kL}{d:TypeDesc}(hd:P.underlying t=some d)(h:zT P t=some kd){k q:V}{x y:Value}(hx:VR μ k x)(hy:VR μ q y){b:Bool}(hb:Qp kd k q=some b):
  Instr.sameNow d x y=some b/\(b=true->x=y/\Instr.sameBits 10000 y x=true):=by
 rcases XE h with⟨kk,rfl,h1⟩|⟨rfl,h1⟩
 ·rw[hd,al]at h1;subst h1
  cases k<;>cases q<;>simp only[Qp,reduceCtorEq]at hb
  split at hb
  ·rename_i hc
   obtain⟨rfl,rfl⟩:=hc
   simp only[al]at hb;subst hb
   simp only[VR]at hx hy
   subst hx;subst hy
   refine⟨by simp[Instr.sameNow],fun hb=>?_⟩
   simp only[beq_iff_eq]at hb
   subst hb
   simp[Instr.sameBits]
  ·cases hb
 ·rw[hd,al]at h1;subst h1
  cases k<;>cases q<;>simp only[Qp,reduceCtorEq]at hb
  rename_i s s'
  simp only[al]at hb;subst hb
  simp only[VR]at hx hy
  subst hx;subst hy
  have e:((⟨s.toArray⟩:ByteArray)==⟨s'.toArray⟩)=(s==s'):=by
   show (s.toArray==s'.toArray)=(s==s')
   simp
  refine⟨by simp only[Instr.sameNow,e],fun hb=>?_⟩
  simp only[beq_iff_eq]at hb
  subst hb
  exact⟨rfl,by simp only[Instr.sameBits];rw[e];simp⟩
def Q1{t:TypeId}{kd:kL}{d:TypeDesc}(hd:P.underlying t=some d)(h:zT P t=some kd){k:V}{x:Value}(hx:VR μ k x):
  ∀{es:List (V×V)} {xs:List MapEntry} {i b:Nat} {o:Option (Nat×V)},iG μ es xs b->fi kd k es i=some o->
   match o with
   |none=>Instr.findNow d x xs i=some none
   |some (j,u)=>∃e:MapEntry,i<=j/\xs[j-i]?=some e/\VR μ u e.val/\Instr.findNow d x xs i=some (some (j,e.val))/\x=e.key/\Instr.sameBits 10000 e.key x=true:=by
 intro es
 induction es with
 |nil=>
  intro xs i b o hm hf
  simp only[iG]at hm;subst hm
  simp only[fi,al]at hf;subst hf
  simp[Instr.findNow]
 |cons p es ih=>
  intro xs i b o hm hf
  obtain⟨q,u⟩:=p
  obtain⟨e,ys,rfl,h1,h2,h3,h4⟩:=hm
  simp only[fi]at hf
  split at hf
  ·rename_i hb
   simp only[al]at hf;subst hf
   obtain⟨g1,g2⟩:=Ztz hd h hx h1 hb
   exact⟨e,aM _,by simp,h2,by simp[Instr.findNow,g1],(g2 rfl).1,(g2 rfl).2⟩
  ·rename_i hb
   obtain⟨g1,_⟩:=Ztz hd h hx h1 hb
   have:=ih h4 hf
   cases o with
   |none=>simpa[Instr.findNow,g1]using this
   |some ju=>
    obtain⟨j,u'⟩:=ju
    obtain⟨e',k1,k2,k3,k4,k5⟩:=this
    refine⟨e',by omega,?_,k3,by simpa[Instr.findNow,g1]using k4,k5⟩
    rw[show j-i=(j-(i+1))+1 by omega]
    simpa using k2
  ·cases hf
def Zrp{t:TypeId}{kd:kL}(h:zT P t=some kd){b:Bool}{x:Value}(q:Nat):(Instr.checkKey b (q+1) t x).run P w=.ok () w:=by
 rcases XE h with⟨kk,rfl,h1⟩|⟨rfl,h1⟩
 ·cases x<;>simp only[Instr.checkKey,Sem.run_bind,run_underlying h1,Result.andThen_ok,Sem.run_pure]
 ·cases x<;>simp only[Instr.checkKey,Sem.run_bind,run_underlying h1,Result.andThen_ok,Sem.run_pure]
def Mb{t:TypeId}{kd:kL}(h:zT P t=some kd){b:Bool}{x:Value}:(Instr.checkKey b 10000 t x).run P w=.ok () w:=Zrp h 9999
def Zyo{t:TypeId}{kd:kL}(h:zT P t=some kd):∃d,P.underlying t=some d:=by
 rcases XE h with⟨kk,_,h1⟩|⟨_,h1⟩<;>exact⟨_,h1⟩
def Ye7(hh:bm P μ w st)(hr:RR μ r n a.tmps){t kt e:TypeId}{x y:Operand}{sm sk:Src}{kd:kL}{z:V}{ok:Bool}(ht:P.underlying t=some (.map kt e))(hk:zT P kt=some kd)(hz:qX P e=some z)
  (hx:bB P x=some sm) (hy:bB P y=some sk) (h:Gz kd z sm sk ok call r st=some (v,aC)):
  ba P μ w st (do pure (.value (<-Instr.lookup t (a.eval x) (a.eval y) ok))) v aC:=by
 unfold Gz at h
 split at h
 ·rename_i m k hm AE
  have h1:=cX hh hr hx hm
  have h2:=cX hh hr hy AE
  obtain⟨d,hd⟩:=Zyo hk
  obtain⟨zx,QZ,BF⟩:=Ydh (w:=w) hz
  split at h
  ·cases m<;>simp at h
   case bN=>
    simp only[VR]at h1
    simp only[fi,al,bu]at h
    obtain⟨rfl,rfl⟩:=h
    refine ba.value hh (x:=if ok then .tuple #[zx,.bool false] else zx) ?_ ?_
    ·simp[Instr.lookup,run_underlying ht,h1,Mb hk,Instr.findKey,run_underlying hd,Instr.findNow,QZ,Result.andThen]
    ·cases ok
     ·simpa using BF μ
     ·simp only[if_true,VR];exact⟨_,rfl,by simp[aV,VR];exact BF μ⟩
   case map i=>
    obtain⟨l,hl,h1⟩:=h1
    split at h
    ·rename_i es BG
     split at BG
     ·rename_i es0 hg
      simp only[al]at BG;subst BG
      obtain⟨gJ,g1,g2⟩:=hh.get hl hg
      have tE:=Q0 (P:=P) g1 (by simp)
      split at h
      ·rename_i j u ho
       simp only[al,bu]at h
       obtain⟨rfl,rfl⟩:=h
       obtain⟨en,_,_,k3,k4,_⟩:=Q1 hd hk h2 g2 ho
       refine ba.value hh (x:=if ok then .tuple #[en.val,.bool true] else en.val) ?_ ?_
       ·simp[Instr.lookup,run_underlying ht,h1,tE,Mb hk,Instr.findKey,run_underlying hd,k4,Result.andThen]
       ·cases ok
        ·simpa using k3
        ·simp only[if_true,VR];exact⟨_,rfl,by simp[aV,VR];exact k3⟩
      ·rename_i ho
       simp only[al,bu]at h
       obtain⟨rfl,rfl⟩:=h
       have k4:=Q1 hd hk h2 g2 ho
       simp only at k4
       refine ba.value hh (x:=if ok then .tuple #[zx,.bool false] else zx) ?_ ?_
       ·simp[Instr.lookup,run_underlying ht,h1,tE,Mb hk,Instr.findKey,run_underlying hd,k4,QZ,Result.andThen]
       ·cases ok
        ·simpa using BF μ
        ·simp only[if_true,VR];exact⟨_,rfl,by simp[aV,VR];exact BF μ⟩
      ·cases h
     ·cases BG
    ·cases h
  ·cases h
 ·cases h
def XF(w:World)(b:Nat)(o:Obj):({w with heap:=w.heap.setIfInBounds b o}:World).heap[b]?=if b<w.heap.size then some o else none:=by
 show (w.heap.setIfInBounds b o)[b]?=_
 rw[Array.getElem?_setIfInBounds]
 simp
def XG{i:Nat}{o o':Obj}(h:w.heap[i]?=some o)(ho:∀c e f,o≠.cells c e f):(setObj i o').run P w=.ok () {w with heap:=w.heap.setIfInBounds i o'}:=by
 simp only[setObj,Sem.run,h]
def bH.setObj(hh:bm P μ w st){i:Nat}{l:L}(hl:μ i=some l){o o':O}(hg:st.h.get i=some o)(hw:o.wr=true){ob:Obj}
  (hm:OM P μ {w with heap:=w.heap.setIfInBounds l.b ob} o' l):bH P μ w st μ {w with heap:=w.heap.setIfInBounds l.b ob} (st.write i o') [i]:=
 bH.write hh hl hg hw rfl rfl rfl (by simp) (fun b hb=>by
  show (w.heap.setIfInBounds l.b ob)[b]?=_
  rw[Qf (Ne.symm hb)]) hm
def iG.set:∀{es:List (V×V)} {xs:List MapEntry} {b:Nat},iG μ es xs b->∀{j:Nat} {k u:V} {x y:Value},VR μ k x->VR μ u y->∀{e:MapEntry},xs[j]?=some e->
  iG μ (es.set j (k,u)) (xs.set j {e with key:=x,val:=y}) b
 |[],xs,b,h,j,k,u,x,y,_,_,e,he=>by simp[iG]at h;subst h;simp at he
 |(k0,u0)::es,xs,b,h,j,k,u,x,y,h1,h2,e,he=>by
  obtain⟨e0,ys,rfl,g1,g2,g3,g4⟩:=h
  cases j with
  |zero=>simp at he;subst he;exact⟨_,_,rfl,h1,h2,g3,g4⟩
  |succ j=>exact⟨e0,_,rfl,g1,g2,g3,iG.set g4 h1 h2 (by simpa using he)⟩
def iG.push:∀{es:List (V×V)} {xs:List MapEntry} {b:Nat},iG μ es xs b->∀{k u:V} {x y:Value},VR μ k x->VR μ u y->∀{c:Nat},c=b+xs.length->
  iG μ (es++[(k,u)]) (xs++[{key:=x,val:=y,born:=c}]) b
 |[],xs,b,h,k,u,x,y,h1,h2,c,hc=>by simp[iG]at h;subst h;exact⟨_,_,rfl,h1,h2,by simpa using hc,rfl⟩
 |(k0,u0)::es,xs,b,h,k,u,x,y,h1,h2,c,hc=>by
  obtain⟨e0,ys,rfl,g1,g2,g3,g4⟩:=h
  exact⟨e0,_,rfl,g1,g2,g3,iG.push g4 h1 h2 (by simp at hc;omega)⟩
def ba.skip{s:Sem Unit}{w':World}{μ':Mu}{ws:List Nat}(hs:s.run P w=.ok () w')(h:bH P μ w st μ' w' aC ws):ba P μ w st (do s;pure .skip) (.aX []) aC:=
 ⟨.skip,undef,w',μ',ws,by simp[hs,Result.andThen],.inr ⟨rfl,rfl⟩,⟨[],rfl,by simp[aV]⟩,h⟩
def Ztv(hh:bm P μ w st)(hr:RR μ r n a.tmps){t kt e:TypeId}{x y z:Operand}{sm sk sv:Src}{kd:kL}(ht:P.underlying t=some (.map kt e))(hk:zT P kt=some kd)
  (hx:bB P x=some sm) (hy:bB P y=some sk) (hz:bB P z=some sv) (h:Ei kd sm sk sv call r st=some (v,aC)):
  ba P μ w st (do Instr.mapUpdate t (a.eval x) (a.eval y) (a.eval z);pure .skip) v aC:=by
 unfold Ei at h
 split at h
 ·rename_i i k u hm AE hu
  obtain⟨l,hl,h1⟩:=cX hh hr hx hm
  have h2:=cX hh hr hy AE
  have h3:=cX hh hr hz hu
  obtain⟨d,hd⟩:=Zyo hk
  split at h
  ·split at h
   ·rename_i es BG
    obtain⟨gJ,g1,g2⟩:=hh.get hl BG
    have tE:=Q0 (P:=P) g1 (by simp)
    have hb:l.b<w.heap.size:=(hh.dc i l hl).2
    split at h
    ·rename_i j _ hf
     simp only[al,bu]at h
     obtain⟨rfl,rfl⟩:=h
     obtain⟨en,k1,k2,k3,k4,k5,k6⟩:=Q1 hd hk h2 g2 hf
     simp only[Nat.sub_zero]at k2
     have Mc:=XG (P:=P) (o':=.map ((⟨gJ⟩:Array MapEntry).modify j fun e=>{e with key:=a.eval y,val:=a.eval z}) gJ.length) g1 (by simp)
     refine ba.skip (μ':=μ) (ws:=[i]) (w':={w with heap:=w.heap.setIfInBounds l.b (.map ((⟨gJ⟩:Array MapEntry).modify j fun e=>{e with key:=a.eval y,val:=a.eval z}) gJ.length)}) ?_ (bH.setObj hh hl BG rfl ⟨gJ.set j {en with key:=a.eval y,val:=a.eval z},?_,?_⟩)
     ·have Md:(Instr.keyThatStays en.key (a.eval y)).run P w=.ok (a.eval y) w:=by
       simp[Instr.keyThatStays,k6]
      have cO:(((⟨gJ⟩:Array MapEntry)[j]?).map (·.key)).getD (a.eval y)=en.key:=by simp[k2]
      simp only[Instr.mapUpdate,Sem.run_bind,run_underlying ht,Result.andThen,h1,tE,Mb hk,Instr.findKey,run_underlying hd,k4,Sem.run_pure,cO,Md,Mc]
     ·rw[XF,av hb]
      congr 2
      ·apply Array.ext'
       apply lA
       intro q
       rw[Ck,Array.getElem?_modify]
       by_cases e:j=q
       ·subst e
        obtain⟨hj,hje⟩:=wP.1 k2
        simp[hj,hje]
       ·simp[e,d_ e]
      ·simp
     ·exact g2.set h2 h3 k2
    ·rename_i hf
     simp only[al,bu]at h
     obtain⟨rfl,rfl⟩:=h
     have k4:=Q1 hd hk h2 g2 hf
     simp only at k4
     have Mc:=XG (P:=P) (o':=.map ((⟨gJ⟩:Array MapEntry).push {key:=a.eval y,val:=a.eval z,born:=gJ.length}) (gJ.length+1)) g1 (by simp)
     refine ba.skip (μ':=μ) (ws:=[i]) (w':={w with heap:=w.heap.setIfInBounds l.b (.map ((⟨gJ⟩:Array MapEntry).push {key:=a.eval y,val:=a.eval z,born:=gJ.length}) (gJ.length+1))}) ?_ (bH.setObj hh hl BG rfl ⟨gJ++[{key:=a.eval y,val:=a.eval z,born:=gJ.length}],?_,?_⟩)
     ·simp only[Instr.mapUpdate,Sem.run_bind,run_underlying ht,Result.andThen,h1,tE,Mb hk,Instr.findKey,run_underlying hd,k4,Sem.run_pure,Mc]
     ·rw[XF,av hb]
      simp
     ·exact g2.push h2 h3 (by simp)
    ·cases h
   ·cases h
  ·cases h
 ·cases h
def Yah(hh:bm P μ w st)(hr:RR μ r n a.tmps){ty:TypeId}{x:Operand}{s:Src}(hx:bB P x=some s)
  (h:GB s call r st=some (v,aC)):ba P μ w st (do pure (.value (<-Instr.next (a.eval x) true ty))) v aC:=by
 unfold GB at h
 split at h
 ·rename_i i hm
  obtain⟨l,hl,h1⟩:=cX hh hr hx hm
  split at h
  ·rename_i q pos hg
   obtain⟨g1,g2⟩:=hh.get hl hg
   rw[g2]at h1
   have tE:=Q0 (P:=P) g1 (by simp)
   have hb:l.b<w.heap.size:=(hh.dc i l hl).2
   have kM:(⟨q.toArray⟩:ByteArray).size=q.length:=rfl
   split at h
   ·rename_i hp
    simp only[al,bu]at h
    obtain⟨rfl,rfl⟩:=h
    have Mc:=XG (P:=P) (o':=.stringIter ⟨q.toArray⟩ (pos+(Utf8.decode ⟨q.toArray⟩ pos).2)) g1 (by simp)
    refine⟨.value (.tuple #[.bool true,.int .i64 pos,.int .i32 (Utf8.decode ⟨q.toArray⟩ pos).1]),_,_,μ,[i],?_,.inl rfl,?_,bH.setObj hh hl hg rfl (ob:=.stringIter ⟨q.toArray⟩ (pos+(Utf8.decode ⟨q.toArray⟩ pos).2)) ⟨?_,g2⟩⟩
    ·simp[Instr.next,h1,tE,Result.andThen,kM,hp,Mc,goInt, -ByteArray.size_data]
    ·simp only[VR];exact⟨_,rfl,by simp[aV,VR]⟩
    ·rw[XF,av hb]
   ·rename_i hp
    simp only[al,bu]at h
    obtain⟨rfl,rfl⟩:=h
    refine ba.value hh (x:=.tuple #[.bool false]) ?_ (by simp only[VR];exact⟨_,rfl,by simp[aV,VR]⟩)
    simp[Instr.next,h1,tE,Result.andThen,kM,hp, -ByteArray.size_data]
  ·cases h
 ·cases h
end
end Go.Mx
