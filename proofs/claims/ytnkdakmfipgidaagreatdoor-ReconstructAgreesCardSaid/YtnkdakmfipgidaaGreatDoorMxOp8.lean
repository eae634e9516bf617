/-The operations of M stand for the Go mod-/
import Derived.Test.YtnkdakmfipgidaaGreatDoorMxOp5
import Derived.Laws.IdiomStrings
import Derived.Lib.Bytealg
import Derived.Shelf.Spec.BitsCarry
set_option linter.all false
namespace Go.Mx
open Go
section
variable {P:Program} {μ:Mu} {w:World} {st aA:St} {r:T V} {n:Nat} {a:Act} {call:cM} {v:V}
def bn.G6(h:bn P μ w st):bn P μ w.drew st:=h.drew (w.drawn+1)
def bI.B1{μ':Mu}{w':World}{ws:List Nat}(h:bI P μ w.drew st μ' w' aA ws):bI P μ w st μ' w' aA ws:=
 ⟨h.hr,h.ext,h.iG,h.wl,⟨h.eF.os,h.eF.tape,h.eF.output,h.eF.size,h.eF.block⟩,h.new,h.ad,h.grow,h.full,h.Ai⟩
def bI.newRow(hh:bn P μ w st){cs:List V}{xs:List Value}{e:TypeId}{lo hi:Nat}
  (hle:cs.length<=xs.length) (hc:∀(j:Nat) (u:V),cs[j]?=some u->∃x,xs[j]?=some x/\VR μ u x) (h1:∀x∈xs,x.oneCell'=true) (hf:xs.length<=lo\/hi<=lo):
  bI P μ w st (fun i=>if i=st.n then some ⟨w.heap.size,0,xs.length⟩ else μ i) (w.alloc (.cells ⟨xs⟩ e (lo,hi))) (st.alloc (.cells cs e true)) []:=by
 have dN:∀i l,μ i=some l->(fun i=>if i=st.n then some (⟨w.heap.size,0,xs.length⟩:L) else μ i) i=some l:=fun i l hl=>by have:=(hh.dt i l hl).1;simp only;rw[ak (by omega)];exact hl
 refine bI.alloc hh (.cells cs e true) (.cells ⟨xs⟩ e (lo,hi)) 0 xs.length ⟨⟨xs⟩,lo,hi,?_,by simp,hle,fun j u hu=>?_,fun j y _ hy=>?_,fun _=>⟨rfl,fun j hj=>by simp only at hj ⊢;omega⟩⟩
 ·simp
 ·obtain⟨y,hy,hr⟩:=hc j u hu;exact⟨y,by simpa using hy,VR.mono dN u y hr⟩
 exact h1 y (cF (by simpa using hy))
def a_.EZ(hh:bn P μ w st){s:Sem Value}{x:Value}{cs:List V}{xs:List Value}{e:TypeId}{lo hi:Nat}(hs:s.run P w=.ok x (w.drew.alloc (.cells ⟨xs⟩ e (lo,hi))))
  (hle:cs.length<=xs.length) (hc:∀(j:Nat) (u:V),cs[j]?=some u->∃x,xs[j]?=some x/\VR μ u x) (h1:∀x∈xs,x.oneCell'=true) (hf:xs.length<=lo\/hi<=lo)
  (hv:VR (fun i=>if i=st.n then some ⟨w.heap.size,0,xs.length⟩ else μ i) v x):
  a_ P μ w st (do pure (.value (<-s))) v (st.alloc (.cells cs e true)):=
 ⟨Next.value x,x,_,_,[],by simp only[Sem.run_bind,hs,Result.andThen,Sem.run_pure],.inl rfl,hv,(bI.newRow hh.G6 hle hc h1 hf (hi:=hi)).B1⟩
def Zv8(hh:bn P μ w st)(hr:RR μ r n a.tmps){src dst e:TypeId}{x:Operand}{s:Src}(hs:P.underlying src=some .string)(hd:P.underlying dst=some (.slice e))(he:P.underlying e=some (.int .u8))(hx:bE P x=some s)
  (h:Gy e s call r st=some (v,aA)):a_ P μ w st (do pure (.value (<-convert src dst (a.eval x)))) v aA:=by
 unfold Gy at h;split at h
 ·rename_i m hm;simp only[aq,bB]at h;obtain⟨rfl,rfl⟩:=h;have h1:=di hh hr hx hm;simp only[VR]at h1;have bP:=run_bytes_of_string (P:=P) w src dst e ⟨m.toArray⟩ hs hd he;rw[<-h1]at bP;have EV:=grownCap_ge w m.length 0 e;have mL:(⟨m.toArray⟩:ByteArray).size=m.length:=by simp[ByteArray.size]
  rw[mL]at bP;have hl:(bytesRow ⟨m.toArray⟩ (grownCap w m.length 0 e)).toList=m.map (fun b=>Value.int .u8 b.toNat)++List.replicate (grownCap w m.length 0 e-m.length) (.int .u8 0):=by simp[bytesRow,mL]
  have Pq:(bytesRow ⟨m.toArray⟩ (grownCap w m.length 0 e)).size=m.length+(grownCap w m.length 0 e-m.length):=by rw[<-Array.length_toList,hl];simp
  refine a_.EZ hh (v:=.slice st.n 0 m.length none 1) (xs:=(bytesRow ⟨m.toArray⟩ (grownCap w m.length 0 e)).toList) (lo:=_) (hi:=_) bP ?_ ?_ ?_ (.inl (by simp)) ?_
  ·rw[hl];simp
  ·intro j u hu;rw[hl];have hj:j<m.length:=by have:=(wj.1 hu).1;simpa using this
   refine⟨_,mj (by simpa using hj) |>.trans (eG ..) |>.trans (by rw[bV hj];rfl),?_⟩;simp only[eG,bV hj,qc,aq]at hu;rw[<-hu];simp[VR]
  ·intro y hy;rw[hl]at hy;simp only[jB,bF,Ia]at hy;rcases hy with⟨b,_,rfl⟩|⟨_,rfl⟩<;>rfl
  simp only[VR];refine⟨⟨w.heap.size,0,_⟩,grownCap w m.length 0 e,by simp;rfl,by simp,EV,?_,by simp,fun _=>?_⟩
  ·simp only[Pq];omega
  simp only[Pq];omega
 cases h
def Ym6{l:List V}{s:List UInt8}{xs:List Value}(h:aU μ l xs)(hm:l.mapM (fun v=>match v with|.int .u8 n=>some (UInt8.ofNat n.toNat)|_=>none)=some s):
  ∃ns:List Int,xs=ns.map (Value.int .u8)/\s=ns.map (fun n=>UInt8.ofNat n.toNat):=by
 induction l generalizing s xs with
 |nil=> simp only[List.mapM_nil,pure,aq]at hm;subst hm;simp only[aU]at h;exact⟨[],by simp[h],rfl⟩
 |cons u l ih=>
  obtain⟨y,ys,rfl,h1,h2⟩:=kb.1 h;simp only[List.mapM_cons]at hm;cases u<;>simp only[bind,Option.bind,reduceCtorEq]at hm;rename_i k q;cases k<;>simp only[reduceCtorEq]at hm;split at hm
  ·cases hm
  rename_i s' iY;simp only[pure,aq]at hm;subst hm;obtain⟨ns,rfl,rfl⟩:=ih h2 iY;simp only[VR]at h1;exact⟨q::ns,by simp[h1],by simp⟩
def Ziz:∀(l:List Int) (r:ByteArray),l.foldl (fun r n=>r.push (UInt8.ofNat n.toNat)) r=⟨r.data++(l.map (fun n=>UInt8.ofNat n.toNat)).toArray⟩
 |[],r=>by simp
 |b::l,r=>by
  simp only[List.foldl_cons]
  rw[Ziz l]
  simp[ByteArray.push]
def Zx7(hh:bn P μ w st)(hr:RR μ r n a.tmps){src dst e:TypeId}{x:Operand}{s:Src}(hs:P.underlying src=some (.slice e))(hd:P.underlying dst=some .string)(he:P.underlying e=some (.int .u8))(hx:bE P x=some s)
  (h:Jg s call r st=some (v,aA)):a_ P μ w st (do pure (.value (<-convert src dst (a.eval x)))) v aA:=by
 unfold Jg at h;split at h
 ·rename_i hm;simp only[aq,bB]at h;obtain⟨rfl,rfl⟩:=h;have h1:=di hh hr hx hm;simp only[VR]at h1;refine a_.value hh (x:=.string ByteArray.empty) ?_ (by simp only[VR];rfl);rw[h1,run_convert_bytes_string w src dst e none 0 0 hs he hd];simp[Conv.bytesToString]
 ·rename_i i o len cap hm;obtain⟨l,c,hl,h1,_⟩:=di hh hr hx hm;split at h
  ·rename_i cs e' rQ az;split at h
   ·rename_i Bq uT;split at h
    ·rename_i s' hmm;simp only[aq,bB]at h;obtain⟨rfl,rfl⟩:=h;obtain⟨xs,ri,zo,yO,_,_⟩:=(hh.row hl az).Bq uT;obtain⟨ns,rfl,rfl⟩:=Ym6 ri hmm;refine a_.value hh (x:=.string ⟨(ns.map (fun n=>UInt8.ofNat n.toNat)).toArray⟩) ?_ (by simp[VR]);rw[h1,run_convert_bytes_string w src dst e _ _ _ hs he hd,run_bytesToString w _ len c ns yO,Ziz];have OZ:ByteArray.empty.data=#[]:=rfl;rw[OZ];simp
    cases h
   cases h
  cases h
 cases h
def Ul{i:Nat}{o:Obj}(h:w.heap[i]?=some o)(ho:∀c e f,o≠.cells c e f):(getObj i).run P w=.ok o w:=by simp only[getObj,Sem.run,h]
def js.length:∀{es:List (V×V)} {xs:List MapEntry} {i:Nat},js μ es xs i->xs.length=es.length
 |[],_,_,h=>by simp[js]at h;simp[h]
 |(k,u)::es,_,i,h=>by
  obtain⟨e,ys,rfl,_,_,_,h5⟩:=h
  simp[js.length h5]
def Ycg(hh:bn P μ w st)(hr:RR μ r n a.tmps){t ty:TypeId}{x:Operand}{s:Src}(ht:P.underlying t=some .string)(hx:bE P x=some s)
  (h:zE 0 s call r st=some (v,aA)):a_ P μ w st (do pure (.value (<-Builtin.len_ #[t] ty #[a.eval x]))) v aA:=by
 unfold zE at h;cases hm:s.ev r with
 |none=>simp[hm]at h
 |some q=> have h1:=di hh hr hx hm;cases q<;>simp[hm]at h;rename_i q;obtain⟨rfl,rfl⟩:=h;simp only[VR]at h1;have h2:(⟨q.toArray⟩:ByteArray).size=q.length:=rfl;exact a_.value hh (x:=.int .i64 q.length) (by simp[Builtin.len_,h1,run_underlying ht,goInt,h2, -ByteArray.size_data]) (by simp[VR])
def Zus(hh:bn P μ w st)(hr:RR μ r n a.tmps){t ty e:TypeId}{x:Operand}{s:Src}(ht:P.underlying t=some (.slice e))(hx:bE P x=some s)
  (h:zE 1 s call r st=some (v,aA)):a_ P μ w st (do pure (.value (<-Builtin.len_ #[t] ty #[a.eval x]))) v aA:=by
 unfold zE at h;cases hm:s.ev r with
 |none=>simp[hm]at h
 |some q=>
  have h1:=di hh hr hx hm;cases q<;>simp[hm]at h;case aa=>
   obtain⟨rfl,rfl⟩:=h
   simp only[VR]at h1
   exact a_.value hh (x:=.int .i64 0) (by simp[Builtin.len_,h1,run_underlying ht,goInt]) (by simp[VR])
  case empty=>
   obtain⟨rfl,rfl⟩:=h
   obtain⟨b,c,h1⟩:=h1
   exact a_.value hh (x:=.int .i64 0) (by simp[Builtin.len_,h1,run_underlying ht,goInt]) (by simp[VR])
  case slice i o len cap sz=>
   obtain⟨rfl,rfl⟩:=h
   obtain⟨l,c,_,h1,_⟩:=h1
   exact a_.value hh (x:=.int .i64 len) (by simp[Builtin.len_,h1,run_underlying ht,goInt]) (by simp[VR])
def Ych(hh:bn P μ w st)(hr:RR μ r n a.tmps){t ty k e:TypeId}{x:Operand}{s:Src}(ht:P.underlying t=some (.map k e))(hx:bE P x=some s)
  (h:zE 2 s call r st=some (v,aA)):a_ P μ w st (do pure (.value (<-Builtin.len_ #[t] ty #[a.eval x]))) v aA:=by
 unfold zE at h;cases hm:s.ev r with
 |none=>simp[hm]at h
 |some q=>
  have h1:=di hh hr hx hm;cases q<;>simp[hm]at h;case bQ=>
   obtain⟨rfl,rfl⟩:=h
   simp only[VR]at h1
   exact a_.value hh (x:=.int .i64 0) (by simp[Builtin.len_,h1,run_underlying ht,goInt]) (by simp[VR])
  case map i=>
   split at h
   ·rename_i es Ds
    simp only[aq,bB]at h
    obtain⟨rfl,rfl⟩:=h
    obtain⟨l,hl,h1⟩:=h1
    obtain⟨iM,g1,g2⟩:=hh.get hl Ds
    have hg:=Ul (P:=P) g1 (by simp)
    exact a_.value hh (x:=.int .i64 es.length) (by simp[Builtin.len_,h1,run_underlying ht,goInt,hg,Result.andThen,g2.length]) (by simp[VR])
   ·cases h
def Yvp(hh:bn P μ w st){t ty:TypeId}{k:Nat}{x:Value}(ht:(∃e,P.underlying t=some (.array k e))\/∃u e,P.underlying t=some (.pointer u)/\P.underlying u=some (.array k e))
  (h:Om k call r st=some (v,aA)):a_ P μ w st (do pure (.value (<-Builtin.len_ #[t] ty #[x]))) v aA:=by
 unfold Om at h;simp only[aq,bB]at h;obtain⟨rfl,rfl⟩:=h;refine a_.value hh (x:=.int .i64 k) ?_ (by simp[VR]);rcases ht with⟨e,h1⟩|⟨u,e,h1,h2⟩
 ·simp[Builtin.len_,run_underlying h1,goInt]
 simp[Builtin.len_,run_underlying h1,run_underlying h2,goInt]
def Yws(hh:bn P μ w st)(hr:RR μ r n a.tmps){t ty e:TypeId}{x:Operand}{s:Src}(ht:P.underlying t=some (.slice e))(hx:bE P x=some s)
  (h:LR s call r st=some (v,aA)):a_ P μ w st (do pure (.value (<-Builtin.cap_ #[t] ty #[a.eval x]))) v aA:=by
 unfold LR at h;split at h
 ·rename_i hm;simp only[aq,bB]at h;obtain⟨rfl,rfl⟩:=h;have h1:=di hh hr hx hm;simp only[VR]at h1;exact a_.value hh (x:=.int .i64 0) (by simp[Builtin.cap_,h1,run_underlying ht,goInt]) (by simp[VR])
 ·rename_i i o len k sz hm;simp only[aq,bB]at h;obtain⟨rfl,rfl⟩:=h;obtain⟨l,c,_,h1,_,_,h5,_⟩:=di hh hr hx hm;have hk:=h5 k rfl;subst hk;exact a_.value hh (x:=.int .i64 c) (by simp[Builtin.cap_,h1,run_underlying ht,goInt]) (by simp[VR])
 cases h
def Yge:∀{l:List V} {u:V} {xs:List Value},yG (l)=some u->aU μ l xs->∃y ys z,xs=y::ys/\(ys.foldlM Builtin.min2 y).run P w=.ok z w/\VR μ u z:=by
 intro l;induction l using yG.induct<;>intro u xs h hx
 case case1=>simp[yG]at h
 case case2 x=>
  simp only[yG,aq]at h;subst h
  obtain⟨y,ys,rfl,h1,h2⟩:=kb.1 hx
  simp only[aU]at h2;subst h2
  exact⟨y,[],y,rfl,by simp,h1⟩
 case case3 k p k' q rest ih=>
  simp only[yG]at h
  obtain⟨y,ys,rfl,h1,h2⟩:=kb.1 hx
  obtain⟨y',ys',rfl,h3,h4⟩:=kb.1 h2
  simp only[VR]at h1 h3
  subst h1;subst h3
  obtain⟨y,ys,z,e,hz,hv⟩:=ih h (xs:=.int k (if q<p then q else p)::ys') (kb.2 ⟨_,_,rfl,by simp[VR],h4⟩)
  simp only[iH]at e
  obtain⟨rfl,rfl⟩:=e
  exact⟨_,_,z,rfl,by simpa[Builtin.min2]using hz,hv⟩
 case case4 h1 h2 h3=>unfold yG at h;split at h<;>simp_all<;>exact absurd rfl (h3 _ _ _ _ _ rfl rfl rfl rfl)
def Ygj:∀{l:List V} {u:V} {xs:List Value},yH (l)=some u->aU μ l xs->∃y ys z,xs=y::ys/\(ys.foldlM Builtin.max2 y).run P w=.ok z w/\VR μ u z:=by
 intro l;induction l using yH.induct<;>intro u xs h hx
 case case1=>simp[yH]at h
 case case2 x=>
  simp only[yH,aq]at h;subst h
  obtain⟨y,ys,rfl,h1,h2⟩:=kb.1 hx
  simp only[aU]at h2;subst h2
  exact⟨y,[],y,rfl,by simp,h1⟩
 case case3 k p k' q rest ih=>
  simp only[yH]at h
  obtain⟨y,ys,rfl,h1,h2⟩:=kb.1 hx
  obtain⟨y',ys',rfl,h3,h4⟩:=kb.1 h2
  simp only[VR]at h1 h3
  subst h1;subst h3
  obtain⟨y,ys,z,e,hz,hv⟩:=ih h (xs:=.int k (if p<q then q else p)::ys') (kb.2 ⟨_,_,rfl,by simp[VR],h4⟩)
  simp only[iH]at e
  obtain⟨rfl,rfl⟩:=e
  exact⟨_,_,z,rfl,by simpa[Builtin.max2]using hz,hv⟩
 case case4 h1 h2 h3=>unfold yH at h;split at h<;>simp_all<;>exact absurd rfl (h3 _ _ _ _ _ rfl rfl rfl rfl)
def Yys(hh:bn P μ w st)(hr:RR μ r n a.tmps){ts:Array TypeId}{ty:TypeId}{xs:Array Operand}{ss:List Src}(hx:wL P xs.toList=some ss)
  (h:Am ss call r st=some (v,aA)):a_ P μ w st (do pure (.value (<-Builtin.min_ ts ty (xs.map a.eval)))) v aA:=by
 unfold Am at h;split at h
 ·rename_i l hl;split at h
  ·rename_i u hu;simp only[aq,bB]at h;obtain⟨rfl,rfl⟩:=h;obtain⟨y,ys,z,e,hz,hv⟩:=Yge (P:=P) (w:=w) (Yrg l▸hu) (IX hh hr hx hl);refine a_.value hh (x:=z) ?_ hv;simp only[Builtin.min_,Array.toList_map,e];exact hz
  cases h
 cases h
def Yyq(hh:bn P μ w st)(hr:RR μ r n a.tmps){ts:Array TypeId}{ty:TypeId}{xs:Array Operand}{ss:List Src}(hx:wL P xs.toList=some ss)
  (h:sL ss call r st=some (v,aA)):a_ P μ w st (do pure (.value (<-Builtin.max_ ts ty (xs.map a.eval)))) v aA:=by
 unfold sL at h;split at h
 ·rename_i l hl;split at h
  ·rename_i u hu;simp only[aq,bB]at h;obtain⟨rfl,rfl⟩:=h;obtain⟨y,ys,z,e,hz,hv⟩:=Ygj (P:=P) (w:=w) (Yrl l▸hu) (IX hh hr hx hl);refine a_.value hh (x:=z) ?_ hv;simp only[Builtin.max_,Array.toList_map,e];exact hz
  cases h
 cases h
end
section
variable {P:Program} {μ:Mu} {w:World} {st aA:St} {r:T V} {n:Nat} {a:Act} {call:cM} {v:V}
def Zpk{t:TypeId}{kd:mK}(h:Bl P t=some kd):(∃k,kd=.int k/\P.underlying t=some (.int k))\/(kd=.str/\P.underlying t=some .string):=by
 unfold Bl at h;split at h
 ·simp only[aq]at h;subst h;rename_i k hk;exact .inl ⟨k,rfl,hk⟩
 ·simp only[aq]at h;subst h;rename_i hk;exact .inr ⟨rfl,hk⟩
 cases h
def Zut{t:TypeId}{kd:mK}{d:TypeDesc}(hd:P.underlying t=some d)(h:Bl P t=some kd){k q:V}{x y:Value}(hx:VR μ k x)(hy:VR μ q y){b:Bool}(hb:TE kd k q=some b):
  Instr.sameNow d x y=some b/\(b=true->x=y/\Instr.sameBits 10000 y x=true):=by
 rcases Zpk h with⟨kk,rfl,h1⟩|⟨rfl,h1⟩
 ·rw[hd,aq]at h1;subst h1;cases k<;>cases q<;>simp only[TE,reduceCtorEq]at hb;split at hb
  ·rename_i hc;obtain⟨rfl,rfl⟩:=hc;simp only[aq]at hb;subst hb;simp only[VR]at hx hy;subst hx;subst hy;refine⟨by simp[Instr.sameNow],fun hb=>?_⟩;simp only[beq_iff_eq]at hb;subst hb;simp[Instr.sameBits]
  cases hb
 rw[hd,aq]at h1;subst h1;cases k<;>cases q<;>simp only[TE,reduceCtorEq]at hb;rename_i s s';simp only[aq]at hb;subst hb;simp only[VR]at hx hy;subst hx;subst hy;have e:((⟨s.toArray⟩:ByteArray)==⟨s'.toArray⟩)=(s==s'):=by show (s.toArray==s'.toArray)=(s==s');simp
 refine⟨by simp only[Instr.sameNow,e],fun hb=>?_⟩;simp only[beq_iff_eq]at hb;subst hb;exact⟨rfl,by simp only[Instr.sameBits];rw[e];simp⟩
def Um{t:TypeId}{kd:mK}{d:TypeDesc}(hd:P.underlying t=some d)(h:Bl P t=some kd){k:V}{x:Value}(hx:VR μ k x):
  ∀{es:List (V×V)} {xs:List MapEntry} {i b:Nat} {o:Option (Nat×V)},js μ es xs b->fI kd k es i=some o->
   match o with
   |none=>Instr.findNow d x xs i=some none
   |some (j,u)=>∃e:MapEntry,i<=j/\xs[j-i]?=some e/\VR μ u e.val/\Instr.findNow d x xs i=some (some (j,e.val))/\x=e.key/\Instr.sameBits 10000 e.key x=true:=by
 intro es;induction es with
 |nil=> intro xs i b o hm hf;simp only[js]at hm;subst hm;simp only[fI,aq]at hf;subst hf;simp[Instr.findNow]
 |cons p es ih=>
  intro xs i b o hm hf;obtain⟨q,u⟩:=p;obtain⟨e,ys,rfl,h1,h2,h3,h4⟩:=hm;simp only[fI]at hf;split at hf
  ·rename_i hb;simp only[aq]at hf;subst hf;obtain⟨g1,g2⟩:=Zut hd h hx h1 hb;exact⟨e,aO _,by simp,h2,by simp[Instr.findNow,g1],(g2 rfl).1,(g2 rfl).2⟩
  ·rename_i hb;obtain⟨g1,_⟩:=Zut hd h hx h1 hb;have:=ih h4 hf;cases o with
   |none=>simpa[Instr.findNow,g1]using this
   |some ju=> obtain⟨j,u'⟩:=ju;obtain⟨e',k1,k2,k3,k4,k5⟩:=this;refine⟨e',by omega,?_,k3,by simpa[Instr.findNow,g1]using k4,k5⟩;rw[show j-i=(j-(i+1))+1 by omega];simpa using k2
  cases hf
def Zr6{t:TypeId}{kd:mK}(h:Bl P t=some kd){b:Bool}{x:Value}(q:Nat):(Instr.checkKey b (q+1) t x).run P w=.ok () w:=by
 rcases Zpk h with⟨kk,rfl,h1⟩|⟨rfl,h1⟩
 ·cases x<;>simp only[Instr.checkKey,Sem.run_bind,run_underlying h1,Result.andThen_ok,Sem.run_pure]
 cases x<;>simp only[Instr.checkKey,Sem.run_bind,run_underlying h1,Result.andThen_ok,Sem.run_pure]
def Pr{t:TypeId}{kd:mK}(h:Bl P t=some kd){b:Bool}{x:Value}:(Instr.checkKey b 10000 t x).run P w=.ok () w:=Zr6 h 9999
def Zzs{t:TypeId}{kd:mK}(h:Bl P t=some kd):∃d,P.underlying t=some d:=by rcases Zpk h with⟨kk,_,h1⟩|⟨_,h1⟩<;>exact⟨_,h1⟩
def Ygo(hh:bn P μ w st)(hr:RR μ r n a.tmps){t kt e:TypeId}{x y:Operand}{sm sk:Src}{kd:mK}{z:V}{ok:Bool}(ht:P.underlying t=some (.map kt e))(hk:Bl P kt=some kd)(hz:su P e=some z)
  (hx:bE P x=some sm) (hy:bE P y=some sk) (h:Jk kd z sm sk ok call r st=some (v,aA)):
  a_ P μ w st (do pure (.value (<-Instr.lookup t (a.eval x) (a.eval y) ok))) v aA:=by
 unfold Jk at h;split at h
 ·rename_i m k hm AD;have h1:=di hh hr hx hm;have h2:=di hh hr hy AD;obtain⟨d,hd⟩:=Zzs hk;obtain⟨zx,Uk,Dr⟩:=Yex (w:=w) hz;split at h
  ·cases m<;>simp at h;case bQ=>
    simp only[VR]at h1
    simp only[fI,aq,bB]at h
    obtain⟨rfl,rfl⟩:=h
    refine a_.value hh (x:=if ok then .tuple #[zx,.bool false] else zx) ?_ ?_
    ·simp[Instr.lookup,run_underlying ht,h1,Pr hk,Instr.findKey,run_underlying hd,Instr.findNow,Uk,Result.andThen]
    ·cases ok
     ·simpa using Dr μ
     ·simp only[if_true,VR];exact⟨_,rfl,by simp[aU,VR];exact Dr μ⟩
   case map i=>
    obtain⟨l,hl,h1⟩:=h1
    split at h
    ·rename_i es Ds
     split at Ds
     ·rename_i es0 hg
      simp only[aq]at Ds;subst Ds
      obtain⟨iM,g1,g2⟩:=hh.get hl hg
      have uX:=Ul (P:=P) g1 (by simp)
      split at h
      ·rename_i j u ho
       simp only[aq,bB]at h
       obtain⟨rfl,rfl⟩:=h
       obtain⟨en,_,_,k3,k4,_⟩:=Um hd hk h2 g2 ho
       refine a_.value hh (x:=if ok then .tuple #[en.val,.bool true] else en.val) ?_ ?_
       ·simp[Instr.lookup,run_underlying ht,h1,uX,Pr hk,Instr.findKey,run_underlying hd,k4,Result.andThen]
       ·cases ok
        ·simpa using k3
        ·simp only[if_true,VR];exact⟨_,rfl,by simp[aU,VR];exact k3⟩
      ·rename_i ho
       simp only[aq,bB]at h
       obtain⟨rfl,rfl⟩:=h
       have k4:=Um hd hk h2 g2 ho
       simp only at k4
       refine a_.value hh (x:=if ok then .tuple #[zx,.bool false] else zx) ?_ ?_
       ·simp[Instr.lookup,run_underlying ht,h1,uX,Pr hk,Instr.findKey,run_underlying hd,k4,Uk,Result.andThen]
       ·cases ok
        ·simpa using Dr μ
        ·simp only[if_true,VR];exact⟨_,rfl,by simp[aU,VR];exact Dr μ⟩
      ·cases h
     ·cases Ds
    ·cases h
  cases h
 cases h
def Zkd(w:World)(b:Nat)(o:Obj):({w with heap:=w.heap.setIfInBounds b o}:World).heap[b]?=if b<w.heap.size then some o else none:=by show (w.heap.setIfInBounds b o)[b]?=_;rw[Array.getElem?_setIfInBounds];simp
def Zke{i:Nat}{o o':Obj}(h:w.heap[i]?=some o)(ho:∀c e f,o≠.cells c e f):(setObj i o').run P w=.ok () {w with heap:=w.heap.setIfInBounds i o'}:=by simp only[setObj,Sem.run,h]
def bI.setObj(hh:bn P μ w st){i:Nat}{l:L}(hl:μ i=some l){o o':O}(hg:st.h.get i=some o)(hw:o.wr=true){ob:Obj}
  (hm:OM P μ {w with heap:=w.heap.setIfInBounds l.b ob} o' l):bI P μ w st μ {w with heap:=w.heap.setIfInBounds l.b ob} (st.write i o') [i]:=
 bI.write hh hl hg hw rfl rfl rfl (by simp) (fun b hb=>by
  show (w.heap.setIfInBounds l.b ob)[b]?=_
  rw[Tr (Ne.symm hb)]) hm
def js.set:∀{es:List (V×V)} {xs:List MapEntry} {b:Nat},js μ es xs b->∀{j:Nat} {k u:V} {x y:Value},VR μ k x->VR μ u y->∀{e:MapEntry},xs[j]?=some e->
  js μ (es.set j (k,u)) (xs.set j {e with key:=x,val:=y}) b
 |[],xs,b,h,j,k,u,x,y,_,_,e,he=>by simp[js]at h;subst h;simp at he
 |(k0,u0)::es,xs,b,h,j,k,u,x,y,h1,h2,e,he=>by
  obtain⟨e0,ys,rfl,g1,g2,g3,g4⟩:=h
  cases j with
  |zero=>simp at he;subst he;exact⟨_,_,rfl,h1,h2,g3,g4⟩
  |succ j=>exact⟨e0,_,rfl,g1,g2,g3,js.set g4 h1 h2 (by simpa using he)⟩
def js.push:∀{es:List (V×V)} {xs:List MapEntry} {b:Nat},js μ es xs b->∀{k u:V} {x y:Value},VR μ k x->VR μ u y->∀{c:Nat},c=b+xs.length->
  js μ (es++[(k,u)]) (xs++[{key:=x,val:=y,born:=c}]) b
 |[],xs,b,h,k,u,x,y,h1,h2,c,hc=>by simp[js]at h;subst h;exact⟨_,_,rfl,h1,h2,by simpa using hc,rfl⟩
 |(k0,u0)::es,xs,b,h,k,u,x,y,h1,h2,c,hc=>by
  obtain⟨e0,ys,rfl,g1,g2,g3,g4⟩:=h
  exact⟨e0,_,rfl,g1,g2,g3,js.push g4 h1 h2 (by simp at hc;omega)⟩
def a_.skip{s:Sem Unit}{w':World}{μ':Mu}{ws:List Nat}(hs:s.run P w=.ok () w')(h:bI P μ w st μ' w' aA ws):a_ P μ w st (do s;pure .skip) (.aV []) aA:=
 ⟨.skip,undef,w',μ',ws,by simp[hs,Result.andThen],.inr ⟨rfl,rfl⟩,⟨[],rfl,by simp[aU]⟩,h⟩
def Zuq(hh:bn P μ w st)(hr:RR μ r n a.tmps){t kt e:TypeId}{x y z:Operand}{sm sk sv:Src}{kd:mK}(ht:P.underlying t=some (.map kt e))(hk:Bl P kt=some kd)
  (hx:bE P x=some sm) (hy:bE P y=some sk) (hz:bE P z=some sv) (h:GC kd sm sk sv call r st=some (v,aA)):
  a_ P μ w st (do Instr.mapUpdate t (a.eval x) (a.eval y) (a.eval z);pure .skip) v aA:=by
 unfold GC at h;split at h
 ·rename_i i k u hm AD hu;obtain⟨l,hl,h1⟩:=di hh hr hx hm;have h2:=di hh hr hy AD;have h3:=di hh hr hz hu;obtain⟨d,hd⟩:=Zzs hk;split at h
  ·split at h
   ·rename_i es Ds;obtain⟨iM,g1,g2⟩:=hh.get hl Ds;have uX:=Ul (P:=P) g1 (by simp);have hb:l.b<w.heap.size:=(hh.dt i l hl).2;split at h
    ·rename_i j _ hf;simp only[aq,bB]at h;obtain⟨rfl,rfl⟩:=h;obtain⟨en,k1,k2,k3,k4,k5,k6⟩:=Um hd hk h2 g2 hf;simp only[Nat.sub_zero]at k2;have Ps:=Zke (P:=P) (o':=.map ((⟨iM⟩:Array MapEntry).modify j fun e=>{e with key:=a.eval y,val:=a.eval z}) iM.length) g1 (by simp);refine a_.skip (μ':=μ) (ws:=[i]) (w':={w with heap:=w.heap.setIfInBounds l.b (.map ((⟨iM⟩:Array MapEntry).modify j fun e=>{e with key:=a.eval y,val:=a.eval z}) iM.length)}) ?_ (bI.setObj hh hl Ds rfl ⟨iM.set j {en with key:=a.eval y,val:=a.eval z},?_,?_⟩)
     ·have Pt:(Instr.keyThatStays en.key (a.eval y)).run P w=.ok (a.eval y) w:=by simp[Instr.keyThatStays,k6]
      have cZ:(((⟨iM⟩:Array MapEntry)[j]?).map (·.key)).getD (a.eval y)=en.key:=by simp[k2]
      simp only[Instr.mapUpdate,Sem.run_bind,run_underlying ht,Result.andThen,h1,uX,Pr hk,Instr.findKey,run_underlying hd,k4,Sem.run_pure,cZ,Pt,Ps]
     ·rw[Zkd,ar hb];congr 2
      ·apply Array.ext';apply ph;intro q;rw[Em,Array.getElem?_modify];by_cases e:j=q
       ·subst e;obtain⟨hj,hje⟩:=wj.1 k2;simp[hj,hje]
       simp[e,eX e]
      simp
     exact g2.set h2 h3 k2
    ·rename_i hf;simp only[aq,bB]at h;obtain⟨rfl,rfl⟩:=h;have k4:=Um hd hk h2 g2 hf;simp only at k4;have Ps:=Zke (P:=P) (o':=.map ((⟨iM⟩:Array MapEntry).push {key:=a.eval y,val:=a.eval z,born:=iM.length}) (iM.length+1)) g1 (by simp);refine a_.skip (μ':=μ) (ws:=[i]) (w':={w with heap:=w.heap.setIfInBounds l.b (.map ((⟨iM⟩:Array MapEntry).push {key:=a.eval y,val:=a.eval z,born:=iM.length}) (iM.length+1))}) ?_ (bI.setObj hh hl Ds rfl ⟨iM++[{key:=a.eval y,val:=a.eval z,born:=iM.length}],?_,?_⟩)
     ·simp only[Instr.mapUpdate,Sem.run_bind,run_underlying ht,Result.andThen,h1,uX,Pr hk,Instr.findKey,run_underlying hd,k4,Sem.run_pure,Ps]
     ·rw[Zkd,ar hb];simp
     exact g2.push h2 h3 (by simp)
    cases h
   cases h
  cases h
 cases h
def Ybu(hh:bn P μ w st)(hr:RR μ r n a.tmps){ty:TypeId}{x:Operand}{s:Src}(hx:bE P x=some s)
  (h:Jm s call r st=some (v,aA)):a_ P μ w st (do pure (.value (<-Instr.next (a.eval x) true ty))) v aA:=by
 unfold Jm at h;split at h
 ·rename_i i hm;obtain⟨l,hl,h1⟩:=di hh hr hx hm;split at h
  ·rename_i q pos hg;obtain⟨g1,g2⟩:=hh.get hl hg;rw[g2]at h1;have uX:=Ul (P:=P) g1 (by simp);have hb:l.b<w.heap.size:=(hh.dt i l hl).2;have mL:(⟨q.toArray⟩:ByteArray).size=q.length:=rfl;split at h
   ·rename_i hp;simp only[aq,bB]at h;obtain⟨rfl,rfl⟩:=h;have Ps:=Zke (P:=P) (o':=.stringIter ⟨q.toArray⟩ (pos+(Utf8.decode ⟨q.toArray⟩ pos).2)) g1 (by simp);refine⟨.value (.tuple #[.bool true,.int .i64 pos,.int .i32 (Utf8.decode ⟨q.toArray⟩ pos).1]),_,_,μ,[i],?_,.inl rfl,?_,bI.setObj hh hl hg rfl (ob:=.stringIter ⟨q.toArray⟩ (pos+(Utf8.decode ⟨q.toArray⟩ pos).2)) ⟨?_,g2⟩⟩
    ·simp[Instr.next,h1,uX,Result.andThen,mL,hp,Ps,goInt, -ByteArray.size_data]
    ·simp only[VR];exact⟨_,rfl,by simp[aU,VR]⟩
    rw[Zkd,ar hb]
   rename_i hp;simp only[aq,bB]at h;obtain⟨rfl,rfl⟩:=h;refine a_.value hh (x:=.tuple #[.bool false]) ?_ (by simp only[VR];exact⟨_,rfl,by simp[aU,VR]⟩);simp[Instr.next,h1,uX,Result.andThen,mL,hp, -ByteArray.size_data]
  cases h
 cases h
end
end Go.Mx
