/-The operations of M stand for the Go mod-/
import Derived.Test.YtgccnjdneojagaaGreatDoorMxOp5
import Derived.Laws.IdiomStrings
import Derived.Lib.Bytealg
import Derived.Shelf.Spec.BitsCarry
set_option linter.all false
namespace Go.Mx
open Go
section
variable {P:Program} {μ:Mu} {w:World} {st aB:St} {r:T V} {n:Nat} {a:Act} {call:cO} {v:V}
def bp.GP(h:bp P μ w st):bp P μ w.drew st:=h.drew (w.drawn+1)
def bL.B3{μ':Mu}{w':World}{ws:List Nat}(h:bL P μ w.drew st μ' w' aB ws):bL P μ w st μ' w' aB ws:=
 ⟨h.hr,h.ext,h.ij,h.wl,⟨h.eR.os,h.eR.tape,h.eR.output,h.eR.size,h.eR.block⟩,h.new,h.ad,h.grow,h.full,h.AF⟩
def bL.newRow(hh:bp P μ w st){cs:List V}{xs:List Value}{e:TypeId}{lo hi:Nat}
  (hle:cs.length<=xs.length) (hc:∀(j:Nat) (u:V),cs[j]?=some u->∃x,xs[j]?=some x/\VR μ u x) (h1:∀x∈xs,x.oneCell'=true) (hf:xs.length<=lo\/hi<=lo):
  bL P μ w st (fun i=>if i=st.n then some ⟨w.heap.size,0,xs.length⟩ else μ i) (w.alloc (.cells ⟨xs⟩ e (lo,hi))) (st.alloc (.cells cs e true)) []:=by
 have dT:∀i l,μ i=some l->(fun i=>if i=st.n then some (⟨w.heap.size,0,xs.length⟩:L) else μ i) i=some l:=fun i l hl=>by have:=(hh.dq i l hl).1;simp only;rw[ak (by omega)];exact hl
 refine bL.alloc hh (.cells cs e true) (.cells ⟨xs⟩ e (lo,hi)) 0 xs.length ⟨⟨xs⟩,lo,hi,?_,by simp,hle,fun j u hu=>?_,fun j y _ hy=>?_,fun _=>⟨rfl,fun j hj=>by simp only at hj ⊢;omega⟩⟩
 ·simp
 ·obtain⟨y,hy,hr⟩:=hc j u hu;exact⟨y,by simpa using hy,VR.mono dT u y hr⟩
 exact h1 y (cy (by simpa using hy))
def bg.EX(hh:bp P μ w st){s:Sem Value}{x:Value}{cs:List V}{xs:List Value}{e:TypeId}{lo hi:Nat}(hs:s.run P w=.ok x (w.drew.alloc (.cells ⟨xs⟩ e (lo,hi))))
  (hle:cs.length<=xs.length) (hc:∀(j:Nat) (u:V),cs[j]?=some u->∃x,xs[j]?=some x/\VR μ u x) (h1:∀x∈xs,x.oneCell'=true) (hf:xs.length<=lo\/hi<=lo)
  (hv:VR (fun i=>if i=st.n then some ⟨w.heap.size,0,xs.length⟩ else μ i) v x):
  bg P μ w st (do pure (.value (<-s))) v (st.alloc (.cells cs e true)):=
 ⟨Next.value x,x,_,_,[],by simp only[Sem.run_bind,hs,Result.andThen,Sem.run_pure],.inl rfl,hv,(bL.newRow hh.GP hle hc h1 hf (hi:=hi)).B3⟩
def Zxb(hh:bp P μ w st)(hr:RR μ r n a.tmps){src dst e:TypeId}{x:Operand}{s:Src}(hs:P.underlying src=some .string)(hd:P.underlying dst=some (.slice e))(he:P.underlying e=some (.int .u8))(hx:bI P x=some s)
  (h:Gs e s call r st=some (v,aB)):bg P μ w st (do pure (.value (<-convert src dst (a.eval x)))) v aB:=by
 unfold Gs at h;split at h
 ·rename_i m hm;simp only[au,bD]at h;obtain⟨rfl,rfl⟩:=h;have h1:=dk hh hr hx hm;simp only[VR]at h1;have bU:=run_bytes_of_string (P:=P) w src dst e ⟨m.toArray⟩ hs hd he;rw[<-h1]at bU;have EV:=grownCap_ge w m.length 0 e;have m7:(⟨m.toArray⟩:ByteArray).size=m.length:=by simp[ByteArray.size]
  rw[m7]at bU;have hl:(bytesRow ⟨m.toArray⟩ (grownCap w m.length 0 e)).toList=m.map (fun b=>Value.int .u8 b.toNat)++List.replicate (grownCap w m.length 0 e-m.length) (.int .u8 0):=by simp[bytesRow,m7]
  have Pn:(bytesRow ⟨m.toArray⟩ (grownCap w m.length 0 e)).size=m.length+(grownCap w m.length 0 e-m.length):=by rw[<-Array.length_toList,hl];simp
  refine bg.EX hh (v:=.slice st.n 0 m.length none 1) (xs:=(bytesRow ⟨m.toArray⟩ (grownCap w m.length 0 e)).toList) (lo:=_) (hi:=_) bU ?_ ?_ ?_ (.inl (by simp)) ?_
  ·rw[hl];simp
  ·intro j u hu;rw[hl];have hj:j<m.length:=by have:=(yK.1 hu).1;simpa using this
   refine⟨_,mH (by simpa using hj) |>.trans (eH ..) |>.trans (by rw[ct hj];rfl),?_⟩;simp only[eH,ct hj,qO,au]at hu;rw[<-hu];simp[VR]
  ·intro y hy;rw[hl]at hy;simp only[jn,bK,Im]at hy;rcases hy with⟨b,_,rfl⟩|⟨_,rfl⟩<;>rfl
  simp only[VR];refine⟨⟨w.heap.size,0,_⟩,grownCap w m.length 0 e,by simp;rfl,by simp,EV,?_,by simp,fun _=>?_⟩
  ·simp only[Pn];omega
  simp only[Pn];omega
 cases h
def Yor{l:List V}{s:List UInt8}{xs:List Value}(h:aY μ l xs)(hm:l.mapM (fun v=>match v with|.int .u8 n=>some (UInt8.ofNat n.toNat)|_=>none)=some s):
  ∃ns:List Int,xs=ns.map (Value.int .u8)/\s=ns.map (fun n=>UInt8.ofNat n.toNat):=by
 induction l generalizing s xs with
 |nil=> simp only[List.mapM_nil,pure,au]at hm;subst hm;simp only[aY]at h;exact⟨[],by simp[h],rfl⟩
 |cons u l ih=>
  obtain⟨y,ys,rfl,h1,h2⟩:=kO.1 h;simp only[List.mapM_cons]at hm;cases u<;>simp only[bind,Option.bind,reduceCtorEq]at hm;rename_i k q;cases k<;>simp only[reduceCtorEq]at hm;split at hm
  ·cases hm
  rename_i s' jv;simp only[pure,au]at hm;subst hm;obtain⟨ns,rfl,rfl⟩:=ih h2 jv;simp only[VR]at h1;exact⟨q::ns,by simp[h1],by simp⟩
def Zi3:∀(l:List Int) (r:ByteArray),l.foldl (fun r n=>r.push (UInt8.ofNat n.toNat)) r=⟨r.data++(l.map (fun n=>UInt8.ofNat n.toNat)).toArray⟩
 |[],r=>by simp
 |b::l,r=>by
  simp only[List.foldl_cons]
  rw[Zi3 l]
  simp[ByteArray.push]
def Zze(hh:bp P μ w st)(hr:RR μ r n a.tmps){src dst e:TypeId}{x:Operand}{s:Src}(hs:P.underlying src=some (.slice e))(hd:P.underlying dst=some .string)(he:P.underlying e=some (.int .u8))(hx:bI P x=some s)
  (h:Jg s call r st=some (v,aB)):bg P μ w st (do pure (.value (<-convert src dst (a.eval x)))) v aB:=by
 unfold Jg at h;split at h
 ·rename_i hm;simp only[au,bD]at h;obtain⟨rfl,rfl⟩:=h;have h1:=dk hh hr hx hm;simp only[VR]at h1;refine bg.value hh (x:=.string ByteArray.empty) ?_ (by simp only[VR];rfl);rw[h1,run_convert_bytes_string w src dst e none 0 0 hs he hd];simp[Conv.bytesToString]
 ·rename_i i o len cap hm;obtain⟨l,c,hl,h1,_⟩:=dk hh hr hx hm;split at h
  ·rename_i cs e' rj aA;split at h
   ·rename_i Bz vO;split at h
    ·rename_i s' hmm;simp only[au,bD]at h;obtain⟨rfl,rfl⟩:=h;obtain⟨xs,si,rM,zi,_,_⟩:=(hh.row hl aA).Bz vO;obtain⟨ns,rfl,rfl⟩:=Yor si hmm;refine bg.value hh (x:=.string ⟨(ns.map (fun n=>UInt8.ofNat n.toNat)).toArray⟩) ?_ (by simp[VR]);rw[h1,run_convert_bytes_string w src dst e _ _ _ hs he hd,run_bytesToString w _ len c ns zi,Zi3];have Po:ByteArray.empty.data=#[]:=rfl;rw[Po];simp
    cases h
   cases h
  cases h
 cases h
def Uv{i:Nat}{o:Obj}(h:w.heap[i]?=some o)(ho:∀c e f,o≠.cells c e f):(getObj i).run P w=.ok o w:=by simp only[getObj,Sem.run,h]
def jD.length:∀{es:List (V×V)} {xs:List MapEntry} {i:Nat},jD μ es xs i->xs.length=es.length
 |[],_,_,h=>by simp[jD]at h;simp[h]
 |(k,u)::es,_,i,h=>by
  obtain⟨e,ys,rfl,_,_,_,h5⟩:=h
  simp[jD.length h5]
def Ydj(hh:bp P μ w st)(hr:RR μ r n a.tmps){t ty:TypeId}{x:Operand}{s:Src}(ht:P.underlying t=some .string)(hx:bI P x=some s)
  (h:Ab 0 s call r st=some (v,aB)):bg P μ w st (do pure (.value (<-Builtin.len_ #[t] ty #[a.eval x]))) v aB:=by
 unfold Ab at h;cases hm:s.ev r with
 |none=>simp[hm]at h
 |some q=> have h1:=dk hh hr hx hm;cases q<;>simp[hm]at h;rename_i q;obtain⟨rfl,rfl⟩:=h;simp only[VR]at h1;have h2:(⟨q.toArray⟩:ByteArray).size=q.length:=rfl;exact bg.value hh (x:=.int .i64 q.length) (by simp[Builtin.len_,h1,run_underlying ht,goInt,h2, -ByteArray.size_data]) (by simp[VR])
def Zvt(hh:bp P μ w st)(hr:RR μ r n a.tmps){t ty e:TypeId}{x:Operand}{s:Src}(ht:P.underlying t=some (.slice e))(hx:bI P x=some s)
  (h:Ab 1 s call r st=some (v,aB)):bg P μ w st (do pure (.value (<-Builtin.len_ #[t] ty #[a.eval x]))) v aB:=by
 unfold Ab at h;cases hm:s.ev r with
 |none=>simp[hm]at h
 |some q=>
  have h1:=dk hh hr hx hm;cases q<;>simp[hm]at h;case aa=>
   obtain⟨rfl,rfl⟩:=h
   simp only[VR]at h1
   exact bg.value hh (x:=.int .i64 0) (by simp[Builtin.len_,h1,run_underlying ht,goInt]) (by simp[VR])
  case empty=>
   obtain⟨rfl,rfl⟩:=h
   obtain⟨b,c,h1⟩:=h1
   exact bg.value hh (x:=.int .i64 0) (by simp[Builtin.len_,h1,run_underlying ht,goInt]) (by simp[VR])
  case slice i o len cap sz=>
   obtain⟨rfl,rfl⟩:=h
   obtain⟨l,c,_,h1,_⟩:=h1
   exact bg.value hh (x:=.int .i64 len) (by simp[Builtin.len_,h1,run_underlying ht,goInt]) (by simp[VR])
def Ydk(hh:bp P μ w st)(hr:RR μ r n a.tmps){t ty k e:TypeId}{x:Operand}{s:Src}(ht:P.underlying t=some (.map k e))(hx:bI P x=some s)
  (h:Ab 2 s call r st=some (v,aB)):bg P μ w st (do pure (.value (<-Builtin.len_ #[t] ty #[a.eval x]))) v aB:=by
 unfold Ab at h;cases hm:s.ev r with
 |none=>simp[hm]at h
 |some q=>
  have h1:=dk hh hr hx hm;cases q<;>simp[hm]at h;case bV=>
   obtain⟨rfl,rfl⟩:=h
   simp only[VR]at h1
   exact bg.value hh (x:=.int .i64 0) (by simp[Builtin.len_,h1,run_underlying ht,goInt]) (by simp[VR])
  case map i=>
   split at h
   ·rename_i es DG
    simp only[au,bD]at h
    obtain⟨rfl,rfl⟩:=h
    obtain⟨l,hl,h1⟩:=h1
    obtain⟨iQ,g1,g2⟩:=hh.get hl DG
    have hg:=Uv (P:=P) g1 (by simp)
    exact bg.value hh (x:=.int .i64 es.length) (by simp[Builtin.len_,h1,run_underlying ht,goInt,hg,Result.andThen,g2.length]) (by simp[VR])
   ·cases h
def Yxp(hh:bp P μ w st){t ty:TypeId}{k:Nat}{x:Value}(ht:(∃e,P.underlying t=some (.array k e))\/∃u e,P.underlying t=some (.pointer u)/\P.underlying u=some (.array k e))
  (h:Oz k call r st=some (v,aB)):bg P μ w st (do pure (.value (<-Builtin.len_ #[t] ty #[x]))) v aB:=by
 unfold Oz at h;simp only[au,bD]at h;obtain⟨rfl,rfl⟩:=h;refine bg.value hh (x:=.int .i64 k) ?_ (by simp[VR]);rcases ht with⟨e,h1⟩|⟨u,e,h1,h2⟩
 ·simp[Builtin.len_,run_underlying h1,goInt]
 simp[Builtin.len_,run_underlying h1,run_underlying h2,goInt]
def Yyr(hh:bp P μ w st)(hr:RR μ r n a.tmps){t ty e:TypeId}{x:Operand}{s:Src}(ht:P.underlying t=some (.slice e))(hx:bI P x=some s)
  (h:LW s call r st=some (v,aB)):bg P μ w st (do pure (.value (<-Builtin.cap_ #[t] ty #[a.eval x]))) v aB:=by
 unfold LW at h;split at h
 ·rename_i hm;simp only[au,bD]at h;obtain⟨rfl,rfl⟩:=h;have h1:=dk hh hr hx hm;simp only[VR]at h1;exact bg.value hh (x:=.int .i64 0) (by simp[Builtin.cap_,h1,run_underlying ht,goInt]) (by simp[VR])
 ·rename_i i o len k sz hm;simp only[au,bD]at h;obtain⟨rfl,rfl⟩:=h;obtain⟨l,c,_,h1,_,_,h5,_⟩:=dk hh hr hx hm;have hk:=h5 k rfl;subst hk;exact bg.value hh (x:=.int .i64 c) (by simp[Builtin.cap_,h1,run_underlying ht,goInt]) (by simp[VR])
 cases h
def Yhp:∀{l:List V} {u:V} {xs:List Value},y_ (l)=some u->aY μ l xs->∃y ys z,xs=y::ys/\(ys.foldlM Builtin.min2 y).run P w=.ok z w/\VR μ u z:=by
 intro l;induction l using y_.induct<;>intro u xs h hx
 case case1=>simp[y_]at h
 case case2 x=>
  simp only[y_,au]at h;subst h
  obtain⟨y,ys,rfl,h1,h2⟩:=kO.1 hx
  simp only[aY]at h2;subst h2
  exact⟨y,[],y,rfl,by simp,h1⟩
 case case3 k p k' q rest ih=>
  simp only[y_]at h
  obtain⟨y,ys,rfl,h1,h2⟩:=kO.1 hx
  obtain⟨y',ys',rfl,h3,h4⟩:=kO.1 h2
  simp only[VR]at h1 h3
  subst h1;subst h3
  obtain⟨y,ys,z,e,hz,hv⟩:=ih h (xs:=.int k (if q<p then q else p)::ys') (kO.2 ⟨_,_,rfl,by simp[VR],h4⟩)
  simp only[jc]at e
  obtain⟨rfl,rfl⟩:=e
  exact⟨_,_,z,rfl,by simpa[Builtin.min2]using hz,hv⟩
 case case4 h1 h2 h3=>unfold y_ at h;split at h<;>simp_all<;>exact absurd rfl (h3 _ _ _ _ _ rfl rfl rfl rfl)
def Yhs:∀{l:List V} {u:V} {xs:List Value},za (l)=some u->aY μ l xs->∃y ys z,xs=y::ys/\(ys.foldlM Builtin.max2 y).run P w=.ok z w/\VR μ u z:=by
 intro l;induction l using za.induct<;>intro u xs h hx
 case case1=>simp[za]at h
 case case2 x=>
  simp only[za,au]at h;subst h
  obtain⟨y,ys,rfl,h1,h2⟩:=kO.1 hx
  simp only[aY]at h2;subst h2
  exact⟨y,[],y,rfl,by simp,h1⟩
 case case3 k p k' q rest ih=>
  simp only[za]at h
  obtain⟨y,ys,rfl,h1,h2⟩:=kO.1 hx
  obtain⟨y',ys',rfl,h3,h4⟩:=kO.1 h2
  simp only[VR]at h1 h3
  subst h1;subst h3
  obtain⟨y,ys,z,e,hz,hv⟩:=ih h (xs:=.int k (if p<q then q else p)::ys') (kO.2 ⟨_,_,rfl,by simp[VR],h4⟩)
  simp only[jc]at e
  obtain⟨rfl,rfl⟩:=e
  exact⟨_,_,z,rfl,by simpa[Builtin.max2]using hz,hv⟩
 case case4 h1 h2 h3=>unfold za at h;split at h<;>simp_all<;>exact absurd rfl (h3 _ _ _ _ _ rfl rfl rfl rfl)
def Xah(hh:bp P μ w st)(hr:RR μ r n a.tmps){ts:Array TypeId}{ty:TypeId}{xs:Array Operand}{ss:List Src}(hx:xz P xs.toList=some ss)
  (h:AL ss call r st=some (v,aB)):bg P μ w st (do pure (.value (<-Builtin.min_ ts ty (xs.map a.eval)))) v aB:=by
 unfold AL at h;split at h
 ·rename_i l hl;split at h
  ·rename_i u hu;simp only[au,bD]at h;obtain⟨rfl,rfl⟩:=h;obtain⟨y,ys,z,e,hz,hv⟩:=Yhp (P:=P) (w:=w) (Yth l▸hu) (IX hh hr hx hl);refine bg.value hh (x:=z) ?_ hv;simp only[Builtin.min_,Array.toList_map,e];exact hz
  cases h
 cases h
def Xag(hh:bp P μ w st)(hr:RR μ r n a.tmps){ts:Array TypeId}{ty:TypeId}{xs:Array Operand}{ss:List Src}(hx:xz P xs.toList=some ss)
  (h:tE ss call r st=some (v,aB)):bg P μ w st (do pure (.value (<-Builtin.max_ ts ty (xs.map a.eval)))) v aB:=by
 unfold tE at h;split at h
 ·rename_i l hl;split at h
  ·rename_i u hu;simp only[au,bD]at h;obtain⟨rfl,rfl⟩:=h;obtain⟨y,ys,z,e,hz,hv⟩:=Yhs (P:=P) (w:=w) (Ytl l▸hu) (IX hh hr hx hl);refine bg.value hh (x:=z) ?_ hv;simp only[Builtin.max_,Array.toList_map,e];exact hz
  cases h
 cases h
end
section
variable {P:Program} {μ:Mu} {w:World} {st aB:St} {r:T V} {n:Nat} {a:Act} {call:cO} {v:V}
def Zp5{t:TypeId}{kd:mZ}(h:Bu P t=some kd):(∃k,kd=.int k/\P.underlying t=some (.int k))\/(kd=.str/\P.underlying t=some .string):=by
 unfold Bu at h;split at h
 ·simp only[au]at h;subst h;rename_i k hk;exact .inl ⟨k,rfl,hk⟩
 ·simp only[au]at h;subst h;rename_i hk;exact .inr ⟨rfl,hk⟩
 cases h
def Zvu{t:TypeId}{kd:mZ}{d:TypeDesc}(hd:P.underlying t=some d)(h:Bu P t=some kd){k q:V}{x y:Value}(hx:VR μ k x)(hy:VR μ q y){b:Bool}(hb:TW kd k q=some b):
  Instr.sameNow d x y=some b/\(b=true->x=y/\Instr.sameBits 10000 y x=true):=by
 rcases Zp5 h with⟨kk,rfl,h1⟩|⟨rfl,h1⟩
 ·rw[hd,au]at h1;subst h1;cases k<;>cases q<;>simp only[TW,reduceCtorEq]at hb;split at hb
  ·rename_i hc;obtain⟨rfl,rfl⟩:=hc;simp only[au]at hb;subst hb;simp only[VR]at hx hy;subst hx;subst hy;refine⟨by simp[Instr.sameNow],fun hb=>?_⟩;simp only[beq_iff_eq]at hb;subst hb;simp[Instr.sameBits]
  cases hb
 rw[hd,au]at h1;subst h1;cases k<;>cases q<;>simp only[TW,reduceCtorEq]at hb;rename_i s s';simp only[au]at hb;subst hb;simp only[VR]at hx hy;subst hx;subst hy;have e:((⟨s.toArray⟩:ByteArray)==⟨s'.toArray⟩)=(s==s'):=by show (s.toArray==s'.toArray)=(s==s');simp
 refine⟨by simp only[Instr.sameNow,e],fun hb=>?_⟩;simp only[beq_iff_eq]at hb;subst hb;exact⟨rfl,by simp only[Instr.sameBits];rw[e];simp⟩
def Uw{t:TypeId}{kd:mZ}{d:TypeDesc}(hd:P.underlying t=some d)(h:Bu P t=some kd){k:V}{x:Value}(hx:VR μ k x):
  ∀{es:List (V×V)} {xs:List MapEntry} {i b:Nat} {o:Option (Nat×V)},jD μ es xs b->fK kd k es i=some o->
   match o with
   |none=>Instr.findNow d x xs i=some none
   |some (j,u)=>∃e:MapEntry,i<=j/\xs[j-i]?=some e/\VR μ u e.val/\Instr.findNow d x xs i=some (some (j,e.val))/\x=e.key/\Instr.sameBits 10000 e.key x=true:=by
 intro es;induction es with
 |nil=> intro xs i b o hm hf;simp only[jD]at hm;subst hm;simp only[fK,au]at hf;subst hf;simp[Instr.findNow]
 |cons p es ih=>
  intro xs i b o hm hf;obtain⟨q,u⟩:=p;obtain⟨e,ys,rfl,h1,h2,h3,h4⟩:=hm;simp only[fK]at hf;split at hf
  ·rename_i hb;simp only[au]at hf;subst hf;obtain⟨g1,g2⟩:=Zvu hd h hx h1 hb;exact⟨e,aM _,by simp,h2,by simp[Instr.findNow,g1],(g2 rfl).1,(g2 rfl).2⟩
  ·rename_i hb;obtain⟨g1,_⟩:=Zvu hd h hx h1 hb;have:=ih h4 hf;cases o with
   |none=>simpa[Instr.findNow,g1]using this
   |some ju=> obtain⟨j,u'⟩:=ju;obtain⟨e',k1,k2,k3,k4,k5⟩:=this;refine⟨e',by omega,?_,k3,by simpa[Instr.findNow,g1]using k4,k5⟩;rw[show j-i=(j-(i+1))+1 by omega];simpa using k2
  cases hf
def Zs5{t:TypeId}{kd:mZ}(h:Bu P t=some kd){b:Bool}{x:Value}(q:Nat):(Instr.checkKey b (q+1) t x).run P w=.ok () w:=by
 rcases Zp5 h with⟨kk,rfl,h1⟩|⟨rfl,h1⟩
 ·cases x<;>simp only[Instr.checkKey,Sem.run_bind,run_underlying h1,Result.andThen_ok,Sem.run_pure]
 cases x<;>simp only[Instr.checkKey,Sem.run_bind,run_underlying h1,Result.andThen_ok,Sem.run_pure]
def Pp{t:TypeId}{kd:mZ}(h:Bu P t=some kd){b:Bool}{x:Value}:(Instr.checkKey b 10000 t x).run P w=.ok () w:=Zs5 h 9999
def Ya4{t:TypeId}{kd:mZ}(h:Bu P t=some kd):∃d,P.underlying t=some d:=by rcases Zp5 h with⟨kk,_,h1⟩|⟨_,h1⟩<;>exact⟨_,h1⟩
def Yhz(hh:bp P μ w st)(hr:RR μ r n a.tmps){t kt e:TypeId}{x y:Operand}{sm sk:Src}{kd:mZ}{z:V}{ok:Bool}(ht:P.underlying t=some (.map kt e))(hk:Bu P kt=some kd)(hz:tm P e=some z)
  (hx:bI P x=some sm) (hy:bI P y=some sk) (h:Jk kd z sm sk ok call r st=some (v,aB)):
  bg P μ w st (do pure (.value (<-Instr.lookup t (a.eval x) (a.eval y) ok))) v aB:=by
 unfold Jk at h;split at h
 ·rename_i m k hm A2;have h1:=dk hh hr hx hm;have h2:=dk hh hr hy A2;obtain⟨d,hd⟩:=Ya4 hk;obtain⟨zx,Uu,DF⟩:=Yf4 (w:=w) hz;split at h
  ·cases m<;>simp at h;case bV=>
    simp only[VR]at h1
    simp only[fK,au,bD]at h
    obtain⟨rfl,rfl⟩:=h
    refine bg.value hh (x:=if ok then .tuple #[zx,.bool false] else zx) ?_ ?_
    ·simp[Instr.lookup,run_underlying ht,h1,Pp hk,Instr.findKey,run_underlying hd,Instr.findNow,Uu,Result.andThen]
    ·cases ok
     ·simpa using DF μ
     ·simp only[if_true,VR];exact⟨_,rfl,by simp[aY,VR];exact DF μ⟩
   case map i=>
    obtain⟨l,hl,h1⟩:=h1
    split at h
    ·rename_i es DG
     split at DG
     ·rename_i es0 hg
      simp only[au]at DG;subst DG
      obtain⟨iQ,g1,g2⟩:=hh.get hl hg
      have vT:=Uv (P:=P) g1 (by simp)
      split at h
      ·rename_i j u ho
       simp only[au,bD]at h
       obtain⟨rfl,rfl⟩:=h
       obtain⟨en,_,_,k3,k4,_⟩:=Uw hd hk h2 g2 ho
       refine bg.value hh (x:=if ok then .tuple #[en.val,.bool true] else en.val) ?_ ?_
       ·simp[Instr.lookup,run_underlying ht,h1,vT,Pp hk,Instr.findKey,run_underlying hd,k4,Result.andThen]
       ·cases ok
        ·simpa using k3
        ·simp only[if_true,VR];exact⟨_,rfl,by simp[aY,VR];exact k3⟩
      ·rename_i ho
       simp only[au,bD]at h
       obtain⟨rfl,rfl⟩:=h
       have k4:=Uw hd hk h2 g2 ho
       simp only at k4
       refine bg.value hh (x:=if ok then .tuple #[zx,.bool false] else zx) ?_ ?_
       ·simp[Instr.lookup,run_underlying ht,h1,vT,Pp hk,Instr.findKey,run_underlying hd,k4,Uu,Result.andThen]
       ·cases ok
        ·simpa using DF μ
        ·simp only[if_true,VR];exact⟨_,rfl,by simp[aY,VR];exact DF μ⟩
      ·cases h
     ·cases DG
    ·cases h
  cases h
 cases h
def Zko(w:World)(b:Nat)(o:Obj):({w with heap:=w.heap.setIfInBounds b o}:World).heap[b]?=if b<w.heap.size then some o else none:=by show (w.heap.setIfInBounds b o)[b]?=_;rw[Array.getElem?_setIfInBounds];simp
def Zkp{i:Nat}{o o':Obj}(h:w.heap[i]?=some o)(ho:∀c e f,o≠.cells c e f):(setObj i o').run P w=.ok () {w with heap:=w.heap.setIfInBounds i o'}:=by simp only[setObj,Sem.run,h]
def bL.setObj(hh:bp P μ w st){i:Nat}{l:L}(hl:μ i=some l){o o':O}(hg:st.h.get i=some o)(hw:o.wr=true){ob:Obj}
  (hm:OM P μ {w with heap:=w.heap.setIfInBounds l.b ob} o' l):bL P μ w st μ {w with heap:=w.heap.setIfInBounds l.b ob} (st.write i o') [i]:=
 bL.write hh hl hg hw rfl rfl rfl (by simp) (fun b hb=>by
  show (w.heap.setIfInBounds l.b ob)[b]?=_
  rw[TK (Ne.symm hb)]) hm
def jD.set:∀{es:List (V×V)} {xs:List MapEntry} {b:Nat},jD μ es xs b->∀{j:Nat} {k u:V} {x y:Value},VR μ k x->VR μ u y->∀{e:MapEntry},xs[j]?=some e->
  jD μ (es.set j (k,u)) (xs.set j {e with key:=x,val:=y}) b
 |[],xs,b,h,j,k,u,x,y,_,_,e,he=>by simp[jD]at h;subst h;simp at he
 |(k0,u0)::es,xs,b,h,j,k,u,x,y,h1,h2,e,he=>by
  obtain⟨e0,ys,rfl,g1,g2,g3,g4⟩:=h
  cases j with
  |zero=>simp at he;subst he;exact⟨_,_,rfl,h1,h2,g3,g4⟩
  |succ j=>exact⟨e0,_,rfl,g1,g2,g3,jD.set g4 h1 h2 (by simpa using he)⟩
def jD.push:∀{es:List (V×V)} {xs:List MapEntry} {b:Nat},jD μ es xs b->∀{k u:V} {x y:Value},VR μ k x->VR μ u y->∀{c:Nat},c=b+xs.length->
  jD μ (es++[(k,u)]) (xs++[{key:=x,val:=y,born:=c}]) b
 |[],xs,b,h,k,u,x,y,h1,h2,c,hc=>by simp[jD]at h;subst h;exact⟨_,_,rfl,h1,h2,by simpa using hc,rfl⟩
 |(k0,u0)::es,xs,b,h,k,u,x,y,h1,h2,c,hc=>by
  obtain⟨e0,ys,rfl,g1,g2,g3,g4⟩:=h
  exact⟨e0,_,rfl,g1,g2,g3,jD.push g4 h1 h2 (by simp at hc;omega)⟩
def bg.skip{s:Sem Unit}{w':World}{μ':Mu}{ws:List Nat}(hs:s.run P w=.ok () w')(h:bL P μ w st μ' w' aB ws):bg P μ w st (do s;pure .skip) (.aX []) aB:=
 ⟨.skip,undef,w',μ',ws,by simp[hs,Result.andThen],.inr ⟨rfl,rfl⟩,⟨[],rfl,by simp[aY]⟩,h⟩
def Zvr(hh:bp P μ w st)(hr:RR μ r n a.tmps){t kt e:TypeId}{x y z:Operand}{sm sk sv:Src}{kd:mZ}(ht:P.underlying t=some (.map kt e))(hk:Bu P kt=some kd)
  (hx:bI P x=some sm) (hy:bI P y=some sk) (hz:bI P z=some sv) (h:Gx kd sm sk sv call r st=some (v,aB)):
  bg P μ w st (do Instr.mapUpdate t (a.eval x) (a.eval y) (a.eval z);pure .skip) v aB:=by
 unfold Gx at h;split at h
 ·rename_i i k u hm A2 hu;obtain⟨l,hl,h1⟩:=dk hh hr hx hm;have h2:=dk hh hr hy A2;have h3:=dk hh hr hz hu;obtain⟨d,hd⟩:=Ya4 hk;split at h
  ·split at h
   ·rename_i es DG;obtain⟨iQ,g1,g2⟩:=hh.get hl DG;have vT:=Uv (P:=P) g1 (by simp);have hb:l.b<w.heap.size:=(hh.dq i l hl).2;split at h
    ·rename_i j _ hf;simp only[au,bD]at h;obtain⟨rfl,rfl⟩:=h;obtain⟨en,k1,k2,k3,k4,k5,k6⟩:=Uw hd hk h2 g2 hf;simp only[Nat.sub_zero]at k2;have Pq:=Zkp (P:=P) (o':=.map ((⟨iQ⟩:Array MapEntry).modify j fun e=>{e with key:=a.eval y,val:=a.eval z}) iQ.length) g1 (by simp);refine bg.skip (μ':=μ) (ws:=[i]) (w':={w with heap:=w.heap.setIfInBounds l.b (.map ((⟨iQ⟩:Array MapEntry).modify j fun e=>{e with key:=a.eval y,val:=a.eval z}) iQ.length)}) ?_ (bL.setObj hh hl DG rfl ⟨iQ.set j {en with key:=a.eval y,val:=a.eval z},?_,?_⟩)
     ·have Pr:(Instr.keyThatStays en.key (a.eval y)).run P w=.ok (a.eval y) w:=by simp[Instr.keyThatStays,k6]
      have cZ:(((⟨iQ⟩:Array MapEntry)[j]?).map (·.key)).getD (a.eval y)=en.key:=by simp[k2]
      simp only[Instr.mapUpdate,Sem.run_bind,run_underlying ht,Result.andThen,h1,vT,Pp hk,Instr.findKey,run_underlying hd,k4,Sem.run_pure,cZ,Pr,Pq]
     ·rw[Zko,av hb];congr 2
      ·apply Array.ext';apply nN;intro q;rw[Ew,Array.getElem?_modify];by_cases e:j=q
       ·subst e;obtain⟨hj,hje⟩:=yK.1 k2;simp[hj,hje]
       simp[e,eW e]
      simp
     exact g2.set h2 h3 k2
    ·rename_i hf;simp only[au,bD]at h;obtain⟨rfl,rfl⟩:=h;have k4:=Uw hd hk h2 g2 hf;simp only at k4;have Pq:=Zkp (P:=P) (o':=.map ((⟨iQ⟩:Array MapEntry).push {key:=a.eval y,val:=a.eval z,born:=iQ.length}) (iQ.length+1)) g1 (by simp);refine bg.skip (μ':=μ) (ws:=[i]) (w':={w with heap:=w.heap.setIfInBounds l.b (.map ((⟨iQ⟩:Array MapEntry).push {key:=a.eval y,val:=a.eval z,born:=iQ.length}) (iQ.length+1))}) ?_ (bL.setObj hh hl DG rfl ⟨iQ++[{key:=a.eval y,val:=a.eval z,born:=iQ.length}],?_,?_⟩)
     ·simp only[Instr.mapUpdate,Sem.run_bind,run_underlying ht,Result.andThen,h1,vT,Pp hk,Instr.findKey,run_underlying hd,k4,Sem.run_pure,Pq]
     ·rw[Zko,av hb];simp
     exact g2.push h2 h3 (by simp)
    cases h
   cases h
  cases h
 cases h
def Ycy(hh:bp P μ w st)(hr:RR μ r n a.tmps){ty:TypeId}{x:Operand}{s:Src}(hx:bI P x=some s)
  (h:Jm s call r st=some (v,aB)):bg P μ w st (do pure (.value (<-Instr.next (a.eval x) true ty))) v aB:=by
 unfold Jm at h;split at h
 ·rename_i i hm;obtain⟨l,hl,h1⟩:=dk hh hr hx hm;split at h
  ·rename_i q pos hg;obtain⟨g1,g2⟩:=hh.get hl hg;rw[g2]at h1;have vT:=Uv (P:=P) g1 (by simp);have hb:l.b<w.heap.size:=(hh.dq i l hl).2;have m7:(⟨q.toArray⟩:ByteArray).size=q.length:=rfl;split at h
   ·rename_i hp;simp only[au,bD]at h;obtain⟨rfl,rfl⟩:=h;have Pq:=Zkp (P:=P) (o':=.stringIter ⟨q.toArray⟩ (pos+(Utf8.decode ⟨q.toArray⟩ pos).2)) g1 (by simp);refine⟨.value (.tuple #[.bool true,.int .i64 pos,.int .i32 (Utf8.decode ⟨q.toArray⟩ pos).1]),_,_,μ,[i],?_,.inl rfl,?_,bL.setObj hh hl hg rfl (ob:=.stringIter ⟨q.toArray⟩ (pos+(Utf8.decode ⟨q.toArray⟩ pos).2)) ⟨?_,g2⟩⟩
    ·simp[Instr.next,h1,vT,Result.andThen,m7,hp,Pq,goInt, -ByteArray.size_data]
    ·simp only[VR];exact⟨_,rfl,by simp[aY,VR]⟩
    rw[Zko,av hb]
   rename_i hp;simp only[au,bD]at h;obtain⟨rfl,rfl⟩:=h;refine bg.value hh (x:=.tuple #[.bool false]) ?_ (by simp only[VR];exact⟨_,rfl,by simp[aY,VR]⟩);simp[Instr.next,h1,vT,Result.andThen,m7,hp, -ByteArray.size_data]
  cases h
 cases h
end
end Go.Mx
