/-The operations of M stand for the Go mod-/
import Derived.Test.YteoackkadadmdaaGreatDoorMxOp3
import Derived.Laws.IdiomStrings
import Derived.Lib.Bytealg
import Derived.Shelf.Spec.BitsCarry
set_option linter.all false
namespace Go.Mx
open Go
section
variable {P:Program} {μ:Mu} {w:World} {st aB:St} {r:T V} {n:Nat} {a:Act} {call:cG} {v:V}
def Zm1(zs:List V)(k:Nat):(dr zs k).length=k*zs.length:=by simp[dr]
def OZ{zs:List V}{xs:List Value}(h:bb μ zs xs)(k:Nat):bb μ (dr zs k) (madeCells ⟨xs⟩ (k*zs.length)).toList:=by
 have hl:=h.length
 refine bb.qq (by simp[dr,madeCells]) fun j u hu=>?_
 have hj:j<k*zs.length:=by
  have:=(y8.1 hu).1
  simpa[dr]using this
 have hz:0<zs.length:=by
  rcases FI zs.length with e|e
  ·rw[e]at hj;simp at hj
  ·exact e
 have Cq:j%zs.length<zs.length:=kh _ hz
 simp only[dr,gG,FG hj,xz,al]at hu
 obtain⟨y,h1,h2⟩:=h.get (i:=j%zs.length) (v:=zs[j%zs.length]) (by simp[Cq])
 refine⟨y,?_,?_⟩
 ·simp only[madeCells,Array.toList_map,Array.toList_range,gG,FG hj,xz,al]
  have fH:(⟨xs⟩:Array Value)[j%xs.length]?=some y:=by rw[hl];simpa using h1
  simp only[Array.size,getElem!_def,fH]
 ·rw[<-hu]
  simpa[List.getD,Cq]using h2
def UZ{zs:List V}(h:zs.all V.one=true)(k:Nat):∀{xs:List Value},bb μ (dr zs k) xs->∀x∈xs,x.oneCell'=true:=by
 intro xs hx
 refine K4 hx ?_
 rw[lA]
 intro u hu
 simp only[dr,eM,yb]at hu
 obtain⟨j,hj,rfl⟩:=hu
 have hz:0<zs.length:=by
  rcases FI zs.length with e|e
  ·rw[e]at hj;simp at hj
  ·exact e
 have Cq:j%zs.length<zs.length:=kh _ hz
 rw[lA]at h
 simpa[List.getD,Cq]using h zs[j%zs.length] (by simp)
def Yfi(hh:bA P μ w st)(hr:RR μ r n a.tmps){t e:TypeId}{s len:Nat}{z:V}{parts:Array (Nat×Operand)}{tQ:List (Nat×Nat×Src)}
  (ht:P.underlying t=some (.slice e)) (hs:eR P e=some s) (hz:ql P e=some z) (hle:¬len*s > 2^24) (KP:z.cells.length=s)
  (hc:AI P (fun i=>some (i*s,s)) parts.toList=some tQ) (h:FU e s len (dr z.cells len) tQ call r st=some (v,aB)):
  bm P μ w st (do pure (.value (<-Instr.buildSlice t len (parts.map fun (i,x)=>(i,a.eval x))))) v aB:=by
 unfold FU at h
 split at h
 ·rename_i ps tI
  split at h
  ·rename_i l hl
   split at h
   ·rename_i f_
    simp only[al,bF]at h
    obtain⟨rfl,rfl⟩:=h
    obtain⟨i,x,hi,hx,pL⟩:=Gt hz
    have vj:=(pL μ).cells
    have nP:=OZ vj len
    rw[KP]at nP
    obtain⟨l',h1,h2⟩:=Vd hh hr hc tI nP hl
    have xx:=h2.length
    refine bm.newRow hh (v:=.slice st.n 0 len (some len) s) (xs:=l') (x:=.slice (some ⟨w.heap.size,0,none⟩) len len) ?_ h2 (K4 h2 f_) ?_
    ·have fH:Instr.fill (fun i=>some (i*s,s)) (madeCells x.cells (len*s)) (parts.map fun p=>(p.1,a.eval p.2)).toList=some ⟨l'⟩:=by
      rw[<-h1]
      simp
     simp only[Instr.buildSlice,Sem.run_bind,run_underlying ht,Result.andThen,xH hs,ar hle]
     split
     ·rename_i e0
      have gW:((Array.range (len*s)).map ((#[]:Array Value)[·%(#[]:Array Value).size]!))=madeCells x.cells (len*s):=by
       simp[madeCells,e0]
      simp only[Sem.run_bind,Sem.run_pure,Result.andThen,gW]
      rw[fH]
      simp[Go.newRow,Result.andThen]
     ·have gW:((Array.range (len*s)).map (x.cells[·%x.cells.size]!))=madeCells x.cells (len*s):=rfl
      simp only[zeroValue,typeInfo,Sem.run_bind,Sem.run_pure,Result.andThen,hi,hx,run_program]
      simp only[gW]
      rw[fH]
      simp[Go.newRow,Result.andThen]
    ·have K6:l.length=len*s:=by
      have:∀(ps:List (Nat×Nat×V)) (cs l:List V),AM cs ps=some l->l.length=cs.length:=by
       intro ps
       induction ps with
       |nil=>intro cs l h;simp only[AM,al]at h;rw[h]
       |cons p ps ih=>
        intro cs l h
        obtain⟨o,s,u⟩:=p
        simp only[AM]at h
        split at h
        ·rename_i hc
         rw[ih _ _ h,O3 (by omega)]
        ·cases h
      rw[this ps _ l hl,Zm1,KP]
     simp only[VR]
     exact⟨⟨w.heap.size,0,l'.length⟩,len,by simp,by simp,aW _,by simp[xx,K6],by simp,by simp⟩
   ·cases h
  ·cases h
 ·cases h
def Zzc(hh:bA P μ w st)(hr:RR μ r n a.tmps){t e:TypeId}{s b:Nat}{z:V}{x y:Operand}{sx sy:Src}(ht:P.underlying t=some (.slice e))(hs:eR P e=some s)(hb:BH P e=some b)(hz:ql P e=some z)
  (f_:z.cells.all V.one=true) (hx:bJ P x=some sx) (hy:bJ P y=some sy) (h:BW e s b z.cells sx sy call r st=some (v,aB)):
  bm P μ w st (do pure (.value (<-Instr.makeSlice t (a.eval x) (a.eval y)))) v aB:=by
 unfold BW at h
 split at h
 ·rename_i k l k' c h1 h2
  have e1:=cU hh hr hx h1
  have e2:=cU hh hr hy h2
  simp only[VR]at e1 e2
  split at h
  ·rename_i hc
   obtain⟨fj,A5,hbc,zar,kf,lZ⟩:=hc
   simp only[al,bF]at h
   obtain⟨rfl,rfl⟩:=h
   obtain⟨i,zx,hi,pL,O8⟩:=Gt hz
   unfold eR at hs
   unfold BH at hb
   simp only[hi,xz,al]at hs hb
   have vj:=(O8 μ).cells
   have nP:=OZ vj c.toNat
   rw[<-kf]at nP
   have bX:=run_make (P:=P) w t e i zx ht hi pL k k' l c fj A5 (by rw[hb];omega) (by omega)
   rw[hs]at bX
   refine bm.newRow hh (v:=.slice st.n 0 l.toNat (some c.toNat) s) (xs:=(madeCells zx.cells (c.toNat*s)).toList) (x:=.slice (some ⟨w.heap.size,0,none⟩) l.toNat c.toNat) ?_ nP (UZ f_ c.toNat nP) ?_
   ·rw[e1,e2,bX]
   ·simp only[VR]
    exact⟨⟨w.heap.size,0,_⟩,c.toNat,by simp;rfl,by simp,by omega,by simp[madeCells],by simp,by simp⟩
  ·cases h
 ·cases h
def bm.newObj(hh:bA P μ w st){s:Sem Value}{x:Value}{o:O}{ob:Obj}(hs:s.run P w=.ok x (w.alloc ob))
  (ho:OM P (fun i=>if i=st.n then some ⟨w.heap.size,0,0⟩ else μ i) (w.alloc ob) o ⟨w.heap.size,0,0⟩) (hv:VR (fun i=>if i=st.n then some ⟨w.heap.size,0,0⟩ else μ i) v x):
  bm P μ w st (do pure (.value (<-s))) v (st.alloc o):=
 ⟨Next.value x,x,_,_,[],by simp[hs,Result.andThen],.inl rfl,hv,bQ.alloc hh o ob 0 0 ho⟩
def Ve(w:World)(o:Obj):(w.alloc o).heap[w.heap.size]?=some o:=by
 show (w.heap.push o)[w.heap.size]?=some o
 simp
def Ymp(hh:bA P μ w st){t:TypeId}(h:Iw call r st=some (v,aB)):bm P μ w st (do pure (.value (<-Instr.makeMap t none))) v aB:=by
 unfold Iw at h
 simp only[al,bF]at h
 obtain⟨rfl,rfl⟩:=h
 refine bm.newObj hh (v:=.map st.n) (x:=.map (some w.heap.size)) (ob:=.map #[] 0) ?_ ⟨[],by simpa using Ve w _,rfl⟩ ?_
 ·simp[Instr.makeMap,Result.andThen]
 ·simp only[VR];exact⟨⟨w.heap.size,0,0⟩,by simp,rfl⟩
def Zun(hh:bA P μ w st)(hr:RR μ r n a.tmps){t:TypeId}{x:Operand}{s:Src}(ht:P.underlying t=some .string)(hx:bJ P x=some s)
  (h:F7 s call r st=some (v,aB)):bm P μ w st (do pure (.value (<-Instr.range t (a.eval x)))) v aB:=by
 unfold F7 at h
 split at h
 ·rename_i q hk
  have e1:=cU hh hr hx hk
  simp only[VR]at e1
  simp only[al,bF]at h
  obtain⟨rfl,rfl⟩:=h
  refine bm.newObj hh (v:=.ptr st.n 0) (x:=.pointer (some ⟨w.heap.size,0,none⟩)) (ob:=.stringIter ⟨q.toArray⟩ 0) ?_ (by simp only[OM];exact⟨Ve w _,trivial⟩) ?_
  ·simp[Instr.range,e1,run_underlying ht,Result.andThen]
  ·simp only[VR];exact⟨⟨w.heap.size,0,0⟩,by simp,rfl⟩
 ·cases h
def U6(g o:Nat)(t:TypeId)(lo hi:Nat):∀(vs:List Value) (i:Nat) (cur:List Value) (w:World),w.heap[g]?=some (.cells ⟨cur⟩ t (lo,hi))->o+i+vs.length<=cur.length->(∀v∈vs,v.oneCell'=true)->
  (∀j,o+i<=j->j<o+i+vs.length->¬(lo<=j/\j<hi))->(storeCells ⟨g,o,none⟩ vs i).run P w=.ok () (w.setRow g ⟨ad cur (o+i) vs⟩)
 |[],i,cur,w,hg,_,_,_=>by
  have e:ad cur (o+i) []=cur:=by simp[ad]
  rw[e,setRow_self w g _ t _ hg]
  simp[storeCells]
 |v::rest,i,cur,w,hg,hl,h1,hf=>by
  simp only[bD]at hl
  have iF:o+i<cur.length:=by omega
  have fS:w.cell? ⟨g,o+i,none⟩=some cur[o+i]:=by simp[World.cell?,hg,iF]
  have Vg:w.frozen? ⟨g,o+i,none⟩=false:=by
   have:=hf (o+i) (aW _) (by simp)
   simp only[World.frozen?,hg]
   simp;omega
  have dH:(store ((⟨g,o,none⟩:Addr).add i) v).run P w=.ok () (w.setRow g ⟨cur.set (o+i) v⟩):=by
   rw[wJ,run_store P w _ v _ (h1 v (by simp)),fS]
   simp[Vg,setCell_eq_setRow w g (o+i) _ t _ v hg]
  have ih:=U6 g o t lo hi rest (i+1) (cur.set (o+i) v) (w.setRow g ⟨cur.set (o+i) v⟩) (setRow_heap w g _ _ t _ hg) (by simp;omega) (fun x hx=>h1 x (by simp[hx]))
   (fun j xR nM=>hf j (by omega) (by simp only[bD];omega))
  simp only[storeCells,Sem.run_bind,dH,Result.andThen_ok,ih,setRow_setRow]
  rw[<-pw,Zne _ _ _ _ iF]
def OY(hh:bA P μ w st){i o:Nat}{l:L}(hl:μ i=some l){c:List V}{e:TypeId}(ak:st.row i=some (c,e,true)){vs:List V}{xs:List Value}(hv:bb μ vs xs)(h1:∀x∈xs,x.oneCell'=true)
  (hlen:o+vs.length<=c.length):
  ∃w',(storeCells ⟨l.b,l.d+o,none⟩ xs).run P w=.ok () w'/\bQ P μ w st μ w' (st.write i (.cells (ad c o vs) e true)) [i]:=by
 obtain⟨c',lo,hi,g1,g2,g3,g4,g5,g6⟩:=hh.row hl ak
 obtain⟨cur⟩:=c'
 have A2:=hv.length
 simp only[List.size_toArray]at g2
 have bX:=U6 (P:=P) l.b (l.d+o) e lo hi xs 0 cur w g1 (by omega) h1 (fun j xR nM=>by
  have:=(g6 rfl).2 (j-l.d) (by omega)
  rw[show l.d+(j-l.d)=j by omega]at this
  exact this)
 refine⟨_,bX,?_⟩
 have hb:=setRow_heap w l.b _ (⟨ad cur (l.d+o+0) xs⟩:Array Value) e _ g1
 refine bQ.write hh hl (KV ak) rfl rfl rfl rfl (by simp) (fun b hb=>setRow_other w l.b b _ hb) ⟨_,lo,hi,hb,?_,?_,?_,?_,g6⟩
 ·simp only[List.size_toArray]
  rw[O3 (by omega)];exact g2
 ·rw[O3 hlen];exact g3
 ·intro j u hu
  rw[IS hlen]at hu
  have e':∀k:Nat,(⟨ad cur (l.d+o+0) xs⟩:Array Value)[k]?=(ad cur (l.d+o+0) xs)[k]?:=fun k=>by simp
  rw[e',IS (by omega)]
  split at hu
  ·rename_i hj
   rw[aF (by omega)]
   obtain⟨y,hy,hr⟩:=hv.get hu
   exact⟨y,by rw[show l.d+j-(l.d+o+0)=j-o by omega];exact hy,hr⟩
  ·rename_i hj
   rw[ar (by omega)]
   obtain⟨y,hy,hr⟩:=g4 j u hu
   exact⟨y,by simpa using hy,hr⟩
 ·intro j x ay hx
  have e':(⟨ad cur (l.d+o+0) xs⟩:Array Value)[l.d+j]?=(ad cur (l.d+o+0) xs)[l.d+j]?:=by simp
  rw[e',IS (by omega)]at hx
  split at hx
  ·exact h1 x (cm hx)
  ·exact g5 j x ay (by simpa using hx)
def Ygl(hh:bA P μ w st)(hr:RR μ r n a.tmps){t:TypeId}{k:Nat}{x y:Operand}{sx sy:Src}(hk:eR P t=some k)(hx:bJ P x=some sx)(hy:bJ P y=some sy)
  (h:DE k sx sy call r st=some (v,aB)):bm P μ w st (do Instr.storeAt t (a.eval x) (a.eval y);pure .skip) v aB:=by
 unfold DE at h
 split at h
 ·rename_i i o u h1 h2
  obtain⟨l,hl,e1⟩:=cU hh hr hx h1
  have e2:=cU hh hr hy h2
  split at h
  ·rename_i c e ak
   split at h
   ·rename_i hc
    simp only[al,bF]at h
    obtain⟨rfl,rfl⟩:=h
    have cO:=e2.cells
    have hlen:=cO.length
    obtain⟨w',hw,hs⟩:=OY hh hl ak cO (K4 cO hc.2.2) (o:=o) (by omega)
    refine⟨.skip,undef,w',μ,[i],?_,.inr ⟨rfl,rfl⟩,⟨[],rfl,by simp[bb]⟩,hs⟩
    have kf:(a.eval y).cells.size=k:=by
     rw[<-hc.1,<-hlen];simp
    simp[Instr.storeAt,Instr.sureAddr,e1,storeVar,xH hk,kf,hw,Result.andThen]
   ·cases h
  ·cases h
 ·cases h
end
section
variable {P:Program} {μ:Mu} {w:World} {st aB:St} {r:T V} {n:Nat} {a:Act} {call:cG} {v:V}
def bA.Eb(h:bA P μ w st):bA P μ w.drew st:=h.drew (w.drawn+1)
def bQ.zT{μ':Mu}{w':World}{ws:List Nat}(h:bQ P μ w.drew st μ' w' aB ws):bQ P μ w st μ' w' aB ws:=
 ⟨h.hr,h.ext,h.fi,h.wl,⟨h.d_.os,h.d_.tape,h.d_.output,h.d_.size,h.d_.block⟩,h.new,h.ae,h.grow,h.full,h.yo⟩
def bQ.newRow(hh:bA P μ w st){cs:List V}{xs:List Value}{e:TypeId}{lo hi:Nat}
  (hle:cs.length<=xs.length) (hc:∀(j:Nat) (u:V),cs[j]?=some u->∃x,xs[j]?=some x/\VR μ u x) (h1:∀x∈xs,x.oneCell'=true) (hf:xs.length<=lo\/hi<=lo):
  bQ P μ w st (fun i=>if i=st.n then some ⟨w.heap.size,0,xs.length⟩ else μ i) (w.alloc (.cells ⟨xs⟩ e (lo,hi))) (st.alloc (.cells cs e true)) []:=by
 have dw:∀i l,μ i=some l->(fun i=>if i=st.n then some (⟨w.heap.size,0,xs.length⟩:L) else μ i) i=some l:=fun i l hl=>by
  have:=(hh.df i l hl).1
  simp only
  rw[ar (by omega)];exact hl
 refine bQ.alloc hh (.cells cs e true) (.cells ⟨xs⟩ e (lo,hi)) 0 xs.length ⟨⟨xs⟩,lo,hi,?_,by simp,hle,fun j u hu=>?_,fun j y _ hy=>?_,fun _=>⟨rfl,fun j hj=>by simp only at hj ⊢;omega⟩⟩
 ·simp
 ·obtain⟨y,hy,hr⟩:=hc j u hu
  exact⟨y,by simpa using hy,VR.mono dw u y hr⟩
 ·exact h1 y (cm (by simpa using hy))
def bm.Cr(hh:bA P μ w st){s:Sem Value}{x:Value}{cs:List V}{xs:List Value}{e:TypeId}{lo hi:Nat}(hs:s.run P w=.ok x (w.drew.alloc (.cells ⟨xs⟩ e (lo,hi))))
  (hle:cs.length<=xs.length) (hc:∀(j:Nat) (u:V),cs[j]?=some u->∃x,xs[j]?=some x/\VR μ u x) (h1:∀x∈xs,x.oneCell'=true) (hf:xs.length<=lo\/hi<=lo)
  (hv:VR (fun i=>if i=st.n then some ⟨w.heap.size,0,xs.length⟩ else μ i) v x):
  bm P μ w st (do pure (.value (<-s))) v (st.alloc (.cells cs e true)):=
 ⟨Next.value x,x,_,_,[],by simp only[Sem.run_bind,hs,Result.andThen,Sem.run_pure],.inl rfl,hv,(bQ.newRow hh.Eb hle hc h1 hf (hi:=hi)).zT⟩
def Zua(hh:bA P μ w st)(hr:RR μ r n a.tmps){src dst e:TypeId}{x:Operand}{s:Src}(hs:P.underlying src=some .string)(hd:P.underlying dst=some (.slice e))(he:P.underlying e=some (.int .u8))(hx:bJ P x=some s)
  (h:DF e s call r st=some (v,aB)):bm P μ w st (do pure (.value (<-convert src dst (a.eval x)))) v aB:=by
 unfold DF at h
 split at h
 ·rename_i m hm
  simp only[al,bF]at h
  obtain⟨rfl,rfl⟩:=h
  have h1:=cU hh hr hx hm
  simp only[VR]at h1
  have bX:=run_bytes_of_string (P:=P) w src dst e ⟨m.toArray⟩ hs hd he
  rw[<-h1]at bX
  have Ck:=grownCap_ge w m.length 0 e
  have kf:(⟨m.toArray⟩:ByteArray).size=m.length:=by simp[ByteArray.size]
  rw[kf]at bX
  have hl:(bytesRow ⟨m.toArray⟩ (grownCap w m.length 0 e)).toList=m.map (fun b=>Value.int .u8 b.toNat)++List.replicate (grownCap w m.length 0 e-m.length) (.int .u8 0):=by
   simp[bytesRow,kf]
  have K7:(bytesRow ⟨m.toArray⟩ (grownCap w m.length 0 e)).size=m.length+(grownCap w m.length 0 e-m.length):=by
   rw[<-Array.length_toList,hl];simp
  refine bm.Cr hh (v:=.slice st.n 0 m.length none 1) (xs:=(bytesRow ⟨m.toArray⟩ (grownCap w m.length 0 e)).toList) (lo:=_) (hi:=_) bX ?_ ?_ ?_ (.inl (by simp)) ?_
  ·rw[hl];simp
  ·intro j u hu
   rw[hl]
   have hj:j<m.length:=by
    have:=(y8.1 hu).1
    simpa using this
   refine⟨_,lE (by simpa using hj) |>.trans (gG ..) |>.trans (by rw[cZ hj];rfl),?_⟩
   simp only[gG,cZ hj,xz,al]at hu
   rw[<-hu];simp[VR]
  ·intro y hy
   rw[hl]at hy
   simp only[kb,eM,Io]at hy
   rcases hy with⟨b,_,rfl⟩|⟨_,rfl⟩<;>rfl
  ·simp only[VR]
   refine⟨⟨w.heap.size,0,_⟩,grownCap w m.length 0 e,by simp;rfl,by simp,Ck,?_,by simp,fun _=>?_⟩
   ·simp only[K7];omega
   ·simp only[K7];omega
 ·cases h
def Yjh{l:List V}{s:List UInt8}{xs:List Value}(h:bb μ l xs)(hm:l.mapM (fun v=>match v with|.int .u8 n=>some (UInt8.ofNat n.toNat)|_=>none)=some s):
  ∃ns:List Int,xs=ns.map (Value.int .u8)/\s=ns.map (fun n=>UInt8.ofNat n.toNat):=by
 induction l generalizing s xs with
 |nil=>
  simp only[List.mapM_nil,pure,al]at hm
  subst hm
  simp only[bb]at h
  exact⟨[],by simp[h],rfl⟩
 |cons u l ih=>
  obtain⟨y,ys,rfl,h1,h2⟩:=ke.1 h
  simp only[List.mapM_cons]at hm
  cases u<;>simp only[bind,Option.bind,reduceCtorEq]at hm
  rename_i k q
  cases k<;>simp only[reduceCtorEq]at hm
  split at hm
  ·cases hm
  ·rename_i s' iY
   simp only[pure,al]at hm
   subst hm
   obtain⟨ns,rfl,rfl⟩:=ih h2 iY
   simp only[VR]at h1
   exact⟨q::ns,by simp[h1],by simp⟩
def Zht:∀(l:List Int) (r:ByteArray),l.foldl (fun r n=>r.push (UInt8.ofNat n.toNat)) r=⟨r.data++(l.map (fun n=>UInt8.ofNat n.toNat)).toArray⟩
 |[],r=>by simp
 |b::l,r=>by
  simp only[List.foldl_cons]
  rw[Zht l]
  simp[ByteArray.push]
def Zvv(hh:bA P μ w st)(hr:RR μ r n a.tmps){src dst e:TypeId}{x:Operand}{s:Src}(hs:P.underlying src=some (.slice e))(hd:P.underlying dst=some .string)(he:P.underlying e=some (.int .u8))(hx:bJ P x=some s)
  (h:F0 s call r st=some (v,aB)):bm P μ w st (do pure (.value (<-convert src dst (a.eval x)))) v aB:=by
 unfold F0 at h
 split at h
 ·rename_i hm
  simp only[al,bF]at h
  obtain⟨rfl,rfl⟩:=h
  have h1:=cU hh hr hx hm
  simp only[VR]at h1
  refine bm.value hh (x:=.string ByteArray.empty) ?_ (by simp only[VR];rfl)
  rw[h1,run_convert_bytes_string w src dst e none 0 0 hs he hd]
  simp[Conv.bytesToString]
 ·rename_i i o len cap hm
  obtain⟨l,c,hl,h1,_⟩:=cU hh hr hx hm
  split at h
  ·rename_i cs e' oC ak
   split at h
   ·rename_i zi sY
    split at h
    ·rename_i s' hmm
     simp only[al,bF]at h
     obtain⟨rfl,rfl⟩:=h
     obtain⟨xs,px,A2,wX,_,_⟩:=(hh.row hl ak).zi sY
     obtain⟨ns,rfl,rfl⟩:=Yjh px hmm
     refine bm.value hh (x:=.string ⟨(ns.map (fun n=>UInt8.ofNat n.toNat)).toArray⟩) ?_ (by simp[VR])
     rw[h1,run_convert_bytes_string w src dst e _ _ _ hs he hd,run_bytesToString w _ len c ns wX,Zht]
     have K8:ByteArray.empty.data=#[]:=rfl
     rw[K8];simp
    ·cases h
   ·cases h
  ·cases h
 ·cases h
def O9{i:Nat}{o:Obj}(h:w.heap[i]?=some o)(ho:∀c e f,o≠.cells c e f):(getObj i).run P w=.ok o w:=by
 simp only[getObj,Sem.run,h]
def iD.length:∀{es:List (V×V)} {xs:List MapEntry} {i:Nat},iD μ es xs i->xs.length=es.length
 |[],_,_,h=>by simp[iD]at h;simp[h]
 |(k,u)::es,_,i,h=>by
  obtain⟨e,ys,rfl,_,_,_,h5⟩:=h
  simp[iD.length h5]
def Zzk(hh:bA P μ w st)(hr:RR μ r n a.tmps){t ty:TypeId}{x:Operand}{s:Src}(ht:P.underlying t=some .string)(hx:bJ P x=some s)
  (h:xL 0 s call r st=some (v,aB)):bm P μ w st (do pure (.value (<-Builtin.len_ #[t] ty #[a.eval x]))) v aB:=by
 unfold xL at h
 cases hm:s.ev r with
 |none=>simp[hm]at h
 |some q=>
  have h1:=cU hh hr hx hm
  cases q<;>simp[hm]at h
  rename_i q
  obtain⟨rfl,rfl⟩:=h
  simp only[VR]at h1
  have h2:(⟨q.toArray⟩:ByteArray).size=q.length:=rfl
  exact bm.value hh (x:=.int .i64 q.length) (by simp[Builtin.len_,h1,run_underlying ht,goInt,h2, -ByteArray.size_data]) (by simp[VR])
def Zsy(hh:bA P μ w st)(hr:RR μ r n a.tmps){t ty e:TypeId}{x:Operand}{s:Src}(ht:P.underlying t=some (.slice e))(hx:bJ P x=some s)
  (h:xL 1 s call r st=some (v,aB)):bm P μ w st (do pure (.value (<-Builtin.len_ #[t] ty #[a.eval x]))) v aB:=by
 unfold xL at h
 cases hm:s.ev r with
 |none=>simp[hm]at h
 |some q=>
  have h1:=cU hh hr hx hm
  cases q<;>simp[hm]at h
  case aa=>
   obtain⟨rfl,rfl⟩:=h
   simp only[VR]at h1
   exact bm.value hh (x:=.int .i64 0) (by simp[Builtin.len_,h1,run_underlying ht,goInt]) (by simp[VR])
  case empty=>
   obtain⟨rfl,rfl⟩:=h
   obtain⟨b,c,h1⟩:=h1
   exact bm.value hh (x:=.int .i64 0) (by simp[Builtin.len_,h1,run_underlying ht,goInt]) (by simp[VR])
  case slice i o len cap sz=>
   obtain⟨rfl,rfl⟩:=h
   obtain⟨l,c,_,h1,_⟩:=h1
   exact bm.value hh (x:=.int .i64 len) (by simp[Builtin.len_,h1,run_underlying ht,goInt]) (by simp[VR])
def Ybx(hh:bA P μ w st)(hr:RR μ r n a.tmps){t ty k e:TypeId}{x:Operand}{s:Src}(ht:P.underlying t=some (.map k e))(hx:bJ P x=some s)
  (h:xL 2 s call r st=some (v,aB)):bm P μ w st (do pure (.value (<-Builtin.len_ #[t] ty #[a.eval x]))) v aB:=by
 unfold xL at h
 cases hm:s.ev r with
 |none=>simp[hm]at h
 |some q=>
  have h1:=cU hh hr hx hm
  cases q<;>simp[hm]at h
  case bW=>
   obtain⟨rfl,rfl⟩:=h
   simp only[VR]at h1
   exact bm.value hh (x:=.int .i64 0) (by simp[Builtin.len_,h1,run_underlying ht,goInt]) (by simp[VR])
  case map i=>
   split at h
   ·rename_i es Pf
    simp only[al,bF]at h
    obtain⟨rfl,rfl⟩:=h
    obtain⟨l,hl,h1⟩:=h1
    obtain⟨gJ,g1,g2⟩:=hh.get hl Pf
    have hg:=O9 (P:=P) g1 (by simp)
    exact bm.value hh (x:=.int .i64 es.length) (by simp[Builtin.len_,h1,run_underlying ht,goInt,hg,Result.andThen,g2.length]) (by simp[VR])
   ·cases h
def Yru(hh:bA P μ w st)(hr:RR μ r n a.tmps){t ty e:TypeId}{x:Operand}{s:Src}(ht:P.underlying t=some (.slice e))(hx:bJ P x=some s)
  (h:Iy s call r st=some (v,aB)):bm P μ w st (do pure (.value (<-Builtin.cap_ #[t] ty #[a.eval x]))) v aB:=by
 unfold Iy at h
 split at h
 ·rename_i hm
  simp only[al,bF]at h
  obtain⟨rfl,rfl⟩:=h
  have h1:=cU hh hr hx hm
  simp only[VR]at h1
  exact bm.value hh (x:=.int .i64 0) (by simp[Builtin.cap_,h1,run_underlying ht,goInt]) (by simp[VR])
 ·rename_i i o len k sz hm
  simp only[al,bF]at h
  obtain⟨rfl,rfl⟩:=h
  obtain⟨l,c,_,h1,_,_,h5,_⟩:=cU hh hr hx hm
  have hk:=h5 k rfl
  subst hk
  exact bm.value hh (x:=.int .i64 c) (by simp[Builtin.cap_,h1,run_underlying ht,goInt]) (by simp[VR])
 ·cases h
def Yc8:∀{l:List V} {u:V} {xs:List Value},wN (l)=some u->bb μ l xs->∃y ys z,xs=y::ys/\(ys.foldlM Builtin.min2 y).run P w=.ok z w/\VR μ u z:=by
 intro l
 induction l using wN.induct<;>intro u xs h hx
 case case1=>simp[wN]at h
 case case2 x=>
  simp only[wN,al]at h;subst h
  obtain⟨y,ys,rfl,h1,h2⟩:=ke.1 hx
  simp only[bb]at h2;subst h2
  exact⟨y,[],y,rfl,by simp,h1⟩
 case case3 k p k' q rest ih=>
  simp only[wN]at h
  obtain⟨y,ys,rfl,h1,h2⟩:=ke.1 hx
  obtain⟨y',Vh,rfl,h3,h4⟩:=ke.1 h2
  simp only[VR]at h1 h3
  subst h1;subst h3
  obtain⟨y,ys,z,e,hz,hv⟩:=ih h (xs:=.int k (if q<p then q else p)::Vh) (ke.2 ⟨_,_,rfl,by simp[VR],h4⟩)
  simp only[iO]at e
  obtain⟨rfl,rfl⟩:=e
  exact⟨_,_,z,rfl,by simpa[Builtin.min2]using hz,hv⟩
 case case4 h1 h2 h3=>unfold wN at h;split at h<;>simp_all<;>exact absurd rfl (h3 _ _ _ _ _ rfl rfl rfl rfl)
def Ydc:∀{l:List V} {u:V} {xs:List Value},wO (l)=some u->bb μ l xs->∃y ys z,xs=y::ys/\(ys.foldlM Builtin.max2 y).run P w=.ok z w/\VR μ u z:=by
 intro l
 induction l using wO.induct<;>intro u xs h hx
 case case1=>simp[wO]at h
 case case2 x=>
  simp only[wO,al]at h;subst h
  obtain⟨y,ys,rfl,h1,h2⟩:=ke.1 hx
  simp only[bb]at h2;subst h2
  exact⟨y,[],y,rfl,by simp,h1⟩
 case case3 k p k' q rest ih=>
  simp only[wO]at h
  obtain⟨y,ys,rfl,h1,h2⟩:=ke.1 hx
  obtain⟨y',Vh,rfl,h3,h4⟩:=ke.1 h2
  simp only[VR]at h1 h3
  subst h1;subst h3
  obtain⟨y,ys,z,e,hz,hv⟩:=ih h (xs:=.int k (if p<q then q else p)::Vh) (ke.2 ⟨_,_,rfl,by simp[VR],h4⟩)
  simp only[iO]at e
  obtain⟨rfl,rfl⟩:=e
  exact⟨_,_,z,rfl,by simpa[Builtin.max2]using hz,hv⟩
 case case4 h1 h2 h3=>unfold wO at h;split at h<;>simp_all<;>exact absurd rfl (h3 _ _ _ _ _ rfl rfl rfl rfl)
def Ytl(hh:bA P μ w st)(hr:RR μ r n a.tmps){ts:Array TypeId}{ty:TypeId}{xs:Array Operand}{ss:List Src}(hx:uC P xs.toList=some ss)
  (h:yu ss call r st=some (v,aB)):bm P μ w st (do pure (.value (<-Builtin.min_ ts ty (xs.map a.eval)))) v aB:=by
 unfold yu at h
 split at h
 ·rename_i l hl
  split at h
  ·rename_i u hu
   simp only[al,bF]at h
   obtain⟨rfl,rfl⟩:=h
   obtain⟨y,ys,z,e,hz,hv⟩:=Yc8 (P:=P) (w:=w) (Ynf l▸hu) (FF hh hr hx hl)
   refine bm.value hh (x:=z) ?_ hv
   simp only[Builtin.min_,Array.toList_map,e]
   exact hz
  ·cases h
 ·cases h
def Ytk(hh:bA P μ w st)(hr:RR μ r n a.tmps){ts:Array TypeId}{ty:TypeId}{xs:Array Operand}{ss:List Src}(hx:uC P xs.toList=some ss)
  (h:qy ss call r st=some (v,aB)):bm P μ w st (do pure (.value (<-Builtin.max_ ts ty (xs.map a.eval)))) v aB:=by
 unfold qy at h
 split at h
 ·rename_i l hl
  split at h
  ·rename_i u hu
   simp only[al,bF]at h
   obtain⟨rfl,rfl⟩:=h
   obtain⟨y,ys,z,e,hz,hv⟩:=Ydc (P:=P) (w:=w) (Yni l▸hu) (FF hh hr hx hl)
   refine bm.value hh (x:=z) ?_ hv
   simp only[Builtin.max_,Array.toList_map,e]
   exact hz
  ·cases h
 ·cases h
end
section
variable {P:Program} {μ:Mu} {w:World} {st aB:St} {r:T V} {n:Nat} {a:Act} {call:cG} {v:V}
def Zqr{t:TypeId}{kd:kc}(h:ze P t=some kd):(∃k,kd=.int k/\P.underlying t=some (.int k))\/(kd=.str/\P.underlying t=some .string):=by
 unfold ze at h
 split at h
 ·simp only[al]at h;subst h;rename_i k hk;exact .inl ⟨k,rfl,hk⟩
 ·simp only[al]at h;subst h;rename_i hk;exact .inr ⟨rfl,hk⟩
 ·cases h
def Zw7{t:TypeId}{kd:kc}{d:TypeDesc}(hd:P.underlying t=some d)(h:ze P t=some kd){k q:V}{x y:Value}(hx:VR μ k x)(hy:VR μ q y){b:Bool}(hb:Oz kd k q=some b):
  Instr.sameNow d x y=some b/\(b=true->x=y/\Instr.sameBits 10000 y x=true):=by
 rcases Zqr h with⟨kk,rfl,h1⟩|⟨rfl,h1⟩
 ·rw[hd,al]at h1;subst h1
  cases k<;>cases q<;>simp only[Oz,reduceCtorEq]at hb
  split at hb
  ·rename_i hc
   obtain⟨rfl,rfl⟩:=hc
   simp only[al]at hb;subst hb
   simp only[VR]at hx hy
   subst hx;subst hy
   refine⟨by simp[Instr.sameNow],fun hb=>?_⟩
   simp only[beq_iff_eq]at hb
   subst hb
   simp[Instr.sameBits]
  ·cases hb
 ·rw[hd,al]at h1;subst h1
  cases k<;>cases q<;>simp only[Oz,reduceCtorEq]at hb
  rename_i s s'
  simp only[al]at hb;subst hb
  simp only[VR]at hx hy
  subst hx;subst hy
  have e:((⟨s.toArray⟩:ByteArray)==⟨s'.toArray⟩)=(s==s'):=by
   show (s.toArray==s'.toArray)=(s==s')
   simp
  refine⟨by simp only[Instr.sameNow,e],fun hb=>?_⟩
  simp only[beq_iff_eq]at hb
  subst hb
  exact⟨rfl,by simp only[Instr.sameBits];rw[e];simp⟩
def Zn7{t:TypeId}{kd:kc}{d:TypeDesc}(hd:P.underlying t=some d)(h:ze P t=some kd){k:V}{x:Value}(hx:VR μ k x):
  ∀{es:List (V×V)} {xs:List MapEntry} {i b:Nat} {o:Option (Nat×V)},iD μ es xs b->fb kd k es i=some o->
   match o with
   |none=>Instr.findNow d x xs i=some none
   |some (j,u)=>∃e:MapEntry,i<=j/\xs[j-i]?=some e/\VR μ u e.val/\Instr.findNow d x xs i=some (some (j,e.val))/\x=e.key/\Instr.sameBits 10000 e.key x=true:=by
 intro es
 induction es with
 |nil=>
  intro xs i b o hm hf
  simp only[iD]at hm;subst hm
  simp only[fb,al]at hf;subst hf
  simp[Instr.findNow]
 |cons p es ih=>
  intro xs i b o hm hf
  obtain⟨q,u⟩:=p
  obtain⟨e,ys,rfl,h1,h2,h3,h4⟩:=hm
  simp only[fb]at hf
  split at hf
  ·rename_i hb
   simp only[al]at hf;subst hf
   obtain⟨g1,g2⟩:=Zw7 hd h hx h1 hb
   exact⟨e,aW _,by simp,h2,by simp[Instr.findNow,g1],(g2 rfl).1,(g2 rfl).2⟩
  ·rename_i hb
   obtain⟨g1,_⟩:=Zw7 hd h hx h1 hb
   have:=ih h4 hf
   cases o with
   |none=>simpa[Instr.findNow,g1]using this
   |some ju=>
    obtain⟨j,u'⟩:=ju
    obtain⟨e',k1,k2,k3,k4,k5⟩:=this
    refine⟨e',by omega,?_,k3,by simpa[Instr.findNow,g1]using k4,k5⟩
    rw[show j-i=(j-(i+1))+1 by omega]
    simpa using k2
  ·cases hf
def Zsw{t:TypeId}{kd:kc}(h:ze P t=some kd){b:Bool}{x:Value}(q:Nat):(Instr.checkKey b (q+1) t x).run P w=.ok () w:=by
 rcases Zqr h with⟨kk,rfl,h1⟩|⟨rfl,h1⟩
 ·cases x<;>simp only[Instr.checkKey,Sem.run_bind,run_underlying h1,Result.andThen_ok,Sem.run_pure]
 ·cases x<;>simp only[Instr.checkKey,Sem.run_bind,run_underlying h1,Result.andThen_ok,Sem.run_pure]
def Pg{t:TypeId}{kd:kc}(h:ze P t=some kd){b:Bool}{x:Value}:(Instr.checkKey b 10000 t x).run P w=.ok () w:=Zsw h 9999
def Zzl{t:TypeId}{kd:kc}(h:ze P t=some kd):∃d,P.underlying t=some d:=by
 rcases Zqr h with⟨kk,_,h1⟩|⟨_,h1⟩<;>exact⟨_,h1⟩
def Yh2(hh:bA P μ w st)(hr:RR μ r n a.tmps){t kt e:TypeId}{x y:Operand}{sm sk:Src}{kd:kc}{z:V}{ok:Bool}(ht:P.underlying t=some (.map kt e))(hk:ze P kt=some kd)(hz:ql P e=some z)
  (hx:bJ P x=some sm) (hy:bJ P y=some sk) (h:F6 kd z sm sk ok call r st=some (v,aB)):
  bm P μ w st (do pure (.value (<-Instr.lookup t (a.eval x) (a.eval y) ok))) v aB:=by
 unfold F6 at h
 split at h
 ·rename_i m k hm zV
  have h1:=cU hh hr hx hm
  have h2:=cU hh hr hy zV
  obtain⟨d,hd⟩:=Zzl hk
  obtain⟨zx,O8,A6⟩:=Ydh (w:=w) hz
  split at h
  ·cases m<;>simp at h
   case bW=>
    simp only[VR]at h1
    simp only[fb,al,bF]at h
    obtain⟨rfl,rfl⟩:=h
    refine bm.value hh (x:=if ok then .tuple #[zx,.bool false] else zx) ?_ ?_
    ·simp[Instr.lookup,run_underlying ht,h1,Pg hk,Instr.findKey,run_underlying hd,Instr.findNow,O8,Result.andThen]
    ·cases ok
     ·simpa using A6 μ
     ·simp only[if_true,VR];exact⟨_,rfl,by simp[bb,VR];exact A6 μ⟩
   case map i=>
    obtain⟨l,hl,h1⟩:=h1
    split at h
    ·rename_i es Pf
     split at Pf
     ·rename_i es0 hg
      simp only[al]at Pf;subst Pf
      obtain⟨gJ,g1,g2⟩:=hh.get hl hg
      have tc:=O9 (P:=P) g1 (by simp)
      split at h
      ·rename_i j u ho
       simp only[al,bF]at h
       obtain⟨rfl,rfl⟩:=h
       obtain⟨en,_,_,k3,k4,_⟩:=Zn7 hd hk h2 g2 ho
       refine bm.value hh (x:=if ok then .tuple #[en.val,.bool true] else en.val) ?_ ?_
       ·simp[Instr.lookup,run_underlying ht,h1,tc,Pg hk,Instr.findKey,run_underlying hd,k4,Result.andThen]
       ·cases ok
        ·simpa using k3
        ·simp only[if_true,VR];exact⟨_,rfl,by simp[bb,VR];exact k3⟩
      ·rename_i ho
       simp only[al,bF]at h
       obtain⟨rfl,rfl⟩:=h
       have k4:=Zn7 hd hk h2 g2 ho
       simp only at k4
       refine bm.value hh (x:=if ok then .tuple #[zx,.bool false] else zx) ?_ ?_
       ·simp[Instr.lookup,run_underlying ht,h1,tc,Pg hk,Instr.findKey,run_underlying hd,k4,O8,Result.andThen]
       ·cases ok
        ·simpa using A6 μ
        ·simp only[if_true,VR];exact⟨_,rfl,by simp[bb,VR];exact A6 μ⟩
      ·cases h
     ·cases Pf
    ·cases h
  ·cases h
 ·cases h
def Vj(w:World)(b:Nat)(o:Obj):({w with heap:=w.heap.setIfInBounds b o}:World).heap[b]?=if b<w.heap.size then some o else none:=by
 show (w.heap.setIfInBounds b o)[b]?=_
 rw[Array.getElem?_setIfInBounds]
 simp
def Vk{i:Nat}{o o':Obj}(h:w.heap[i]?=some o)(ho:∀c e f,o≠.cells c e f):(setObj i o').run P w=.ok () {w with heap:=w.heap.setIfInBounds i o'}:=by
 simp only[setObj,Sem.run,h]
def bQ.setObj(hh:bA P μ w st){i:Nat}{l:L}(hl:μ i=some l){o o':O}(hg:st.h.get i=some o)(hw:o.wr=true){ob:Obj}
  (hm:OM P μ {w with heap:=w.heap.setIfInBounds l.b ob} o' l):bQ P μ w st μ {w with heap:=w.heap.setIfInBounds l.b ob} (st.write i o') [i]:=
 bQ.write hh hl hg hw rfl rfl rfl (by simp) (fun b hb=>by
  show (w.heap.setIfInBounds l.b ob)[b]?=_
  rw[Om (Ne.symm hb)]) hm
def iD.set:∀{es:List (V×V)} {xs:List MapEntry} {b:Nat},iD μ es xs b->∀{j:Nat} {k u:V} {x y:Value},VR μ k x->VR μ u y->∀{e:MapEntry},xs[j]?=some e->
  iD μ (es.set j (k,u)) (xs.set j {e with key:=x,val:=y}) b
 |[],xs,b,h,j,k,u,x,y,_,_,e,he=>by simp[iD]at h;subst h;simp at he
 |(k0,u0)::es,xs,b,h,j,k,u,x,y,h1,h2,e,he=>by
  obtain⟨e0,ys,rfl,g1,g2,g3,g4⟩:=h
  cases j with
  |zero=>simp at he;subst he;exact⟨_,_,rfl,h1,h2,g3,g4⟩
  |succ j=>exact⟨e0,_,rfl,g1,g2,g3,iD.set g4 h1 h2 (by simpa using he)⟩
def iD.push:∀{es:List (V×V)} {xs:List MapEntry} {b:Nat},iD μ es xs b->∀{k u:V} {x y:Value},VR μ k x->VR μ u y->∀{c:Nat},c=b+xs.length->
  iD μ (es++[(k,u)]) (xs++[{key:=x,val:=y,born:=c}]) b
 |[],xs,b,h,k,u,x,y,h1,h2,c,hc=>by simp[iD]at h;subst h;exact⟨_,_,rfl,h1,h2,by simpa using hc,rfl⟩
 |(k0,u0)::es,xs,b,h,k,u,x,y,h1,h2,c,hc=>by
  obtain⟨e0,ys,rfl,g1,g2,g3,g4⟩:=h
  exact⟨e0,_,rfl,g1,g2,g3,iD.push g4 h1 h2 (by simp at hc;omega)⟩
def bm.skip{s:Sem Unit}{w':World}{μ':Mu}{ws:List Nat}(hs:s.run P w=.ok () w')(h:bQ P μ w st μ' w' aB ws):bm P μ w st (do s;pure .skip) (.bg []) aB:=
 ⟨.skip,undef,w',μ',ws,by simp[hs,Result.andThen],.inr ⟨rfl,rfl⟩,⟨[],rfl,by simp[bb]⟩,h⟩
def Zsz(hh:bA P μ w st)(hr:RR μ r n a.tmps){t kt e:TypeId}{x y z:Operand}{sm sk sv:Src}{kd:kc}(ht:P.underlying t=some (.map kt e))(hk:ze P kt=some kd)
  (hx:bJ P x=some sm) (hy:bJ P y=some sk) (hz:bJ P z=some sv) (h:DJ kd sm sk sv call r st=some (v,aB)):
  bm P μ w st (do Instr.mapUpdate t (a.eval x) (a.eval y) (a.eval z);pure .skip) v aB:=by
 unfold DJ at h
 split at h
 ·rename_i i k u hm zV hu
  obtain⟨l,hl,h1⟩:=cU hh hr hx hm
  have h2:=cU hh hr hy zV
  have h3:=cU hh hr hz hu
  obtain⟨d,hd⟩:=Zzl hk
  split at h
  ·split at h
   ·rename_i es Pf
    obtain⟨gJ,g1,g2⟩:=hh.get hl Pf
    have tc:=O9 (P:=P) g1 (by simp)
    have hb:l.b<w.heap.size:=(hh.df i l hl).2
    split at h
    ·rename_i j _ hf
     simp only[al,bF]at h
     obtain⟨rfl,rfl⟩:=h
     obtain⟨en,k1,k2,k3,k4,k5,k6⟩:=Zn7 hd hk h2 g2 hf
     simp only[Nat.sub_zero]at k2
     have La:=Vk (P:=P) (o':=.map ((⟨gJ⟩:Array MapEntry).modify j fun e=>{e with key:=a.eval y,val:=a.eval z}) gJ.length) g1 (by simp)
     refine bm.skip (μ':=μ) (ws:=[i]) (w':={w with heap:=w.heap.setIfInBounds l.b (.map ((⟨gJ⟩:Array MapEntry).modify j fun e=>{e with key:=a.eval y,val:=a.eval z}) gJ.length)}) ?_ (bQ.setObj hh hl Pf rfl ⟨gJ.set j {en with key:=a.eval y,val:=a.eval z},?_,?_⟩)
     ·have zaZ:(Instr.keyThatStays en.key (a.eval y)).run P w=.ok (a.eval y) w:=by
       simp[Instr.keyThatStays,k6]
      have cL:(((⟨gJ⟩:Array MapEntry)[j]?).map (·.key)).getD (a.eval y)=en.key:=by simp[k2]
      simp only[Instr.mapUpdate,Sem.run_bind,run_underlying ht,Result.andThen,h1,tc,Pg hk,Instr.findKey,run_underlying hd,k4,Sem.run_pure,cL,zaZ,La]
     ·rw[Vj,aF hb]
      congr 2
      ·apply Array.ext'
       apply nD
       intro q
       rw[BK,Array.getElem?_modify]
       by_cases e:j=q
       ·subst e
        obtain⟨hj,hje⟩:=y8.1 k2
        simp[hj,hje]
       ·simp[e,ec e]
      ·simp
     ·exact g2.set h2 h3 k2
    ·rename_i hf
     simp only[al,bF]at h
     obtain⟨rfl,rfl⟩:=h
     have k4:=Zn7 hd hk h2 g2 hf
     simp only at k4
     have La:=Vk (P:=P) (o':=.map ((⟨gJ⟩:Array MapEntry).push {key:=a.eval y,val:=a.eval z,born:=gJ.length}) (gJ.length+1)) g1 (by simp)
     refine bm.skip (μ':=μ) (ws:=[i]) (w':={w with heap:=w.heap.setIfInBounds l.b (.map ((⟨gJ⟩:Array MapEntry).push {key:=a.eval y,val:=a.eval z,born:=gJ.length}) (gJ.length+1))}) ?_ (bQ.setObj hh hl Pf rfl ⟨gJ++[{key:=a.eval y,val:=a.eval z,born:=gJ.length}],?_,?_⟩)
     ·simp only[Instr.mapUpdate,Sem.run_bind,run_underlying ht,Result.andThen,h1,tc,Pg hk,Instr.findKey,run_underlying hd,k4,Sem.run_pure,La]
     ·rw[Vj,aF hb]
      simp
     ·exact g2.push h2 h3 (by simp)
    ·cases h
   ·cases h
  ·cases h
 ·cases h
def Zyz(hh:bA P μ w st)(hr:RR μ r n a.tmps){ty:TypeId}{x:Operand}{s:Src}(hx:bJ P x=some s)
  (h:F8 s call r st=some (v,aB)):bm P μ w st (do pure (.value (<-Instr.next (a.eval x) true ty))) v aB:=by
 unfold F8 at h
 split at h
 ·rename_i i hm
  obtain⟨l,hl,h1⟩:=cU hh hr hx hm
  split at h
  ·rename_i q pos hg
   obtain⟨g1,g2⟩:=hh.get hl hg
   rw[g2]at h1
   have tc:=O9 (P:=P) g1 (by simp)
   have hb:l.b<w.heap.size:=(hh.df i l hl).2
   have kf:(⟨q.toArray⟩:ByteArray).size=q.length:=rfl
   split at h
   ·rename_i hp
    simp only[al,bF]at h
    obtain⟨rfl,rfl⟩:=h
    have La:=Vk (P:=P) (o':=.stringIter ⟨q.toArray⟩ (pos+(Utf8.decode ⟨q.toArray⟩ pos).2)) g1 (by simp)
    refine⟨.value (.tuple #[.bool true,.int .i64 pos,.int .i32 (Utf8.decode ⟨q.toArray⟩ pos).1]),_,_,μ,[i],?_,.inl rfl,?_,bQ.setObj hh hl hg rfl (ob:=.stringIter ⟨q.toArray⟩ (pos+(Utf8.decode ⟨q.toArray⟩ pos).2)) ⟨?_,g2⟩⟩
    ·simp[Instr.next,h1,tc,Result.andThen,kf,hp,La,goInt, -ByteArray.size_data]
    ·simp only[VR];exact⟨_,rfl,by simp[bb,VR]⟩
    ·rw[Vj,aF hb]
   ·rename_i hp
    simp only[al,bF]at h
    obtain⟨rfl,rfl⟩:=h
    refine bm.value hh (x:=.tuple #[.bool false]) ?_ (by simp only[VR];exact⟨_,rfl,by simp[bb,VR]⟩)
    simp[Instr.next,h1,tc,Result.andThen,kf,hp, -ByteArray.size_data]
  ·cases h
 ·cases h
end
end Go.Mx
