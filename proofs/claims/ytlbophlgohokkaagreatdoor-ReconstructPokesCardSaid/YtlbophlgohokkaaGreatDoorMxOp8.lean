/-
  The operations of M stand for the Go model's: strings and bytes; the builtins that only read.
-/
import Derived.Test.YtlbophlgohokkaaGreatDoorMxOp5
import Derived.Laws.IdiomStrings
import Derived.Lib.Bytealg
import Derived.Shelf.Spec.BitsCarry
set_option linter.all false
namespace Go.Mx
open Go
section
variable {P:Program} {μ:Mu} {w:World} {st av:St} {r:T V} {n:Nat} {a:Act} {call:cm} {v:V}
theorem bo.BY(h:bo P μ w st):bo P μ w.drew st:=h.drew (w.drawn+1)
theorem bB.xH{μ':Mu}{w':World}{ws:List Nat}(h:bB P μ w.drew st μ' w' av ws):bB P μ w st μ' w' av ws:=
 ⟨h.hr,h.ext,h.eX,h.wl,⟨h.c_.os,h.c_.tape,h.c_.output,h.c_.size,h.c_.block⟩,h.new,h.ae,h.grow,h.full,h.tK⟩
theorem bB.newRow(hh:bo P μ w st){cs:List V}{xs:List Value}{e:TypeId}{lo hi:Nat}
  (hle:cs.length<=xs.length) (hc:∀(j:Nat) (u:V),cs[j]?=some u->∃x,xs[j]?=some x/\VR μ u x) (h1:∀x∈xs,x.oneCell'=true) (hf:xs.length<=lo\/hi<=lo):
  bB P μ w st (fun i=>if i=st.n then some ⟨w.heap.size,0,xs.length⟩ else μ i) (w.alloc (.cells ⟨xs⟩ e (lo,hi))) (st.alloc (.cells cs e true)) []:=by
 have cQ:∀i l,μ i=some l->(fun i=>if i=st.n then some (⟨w.heap.size,0,xs.length⟩:L) else μ i) i=some l:=fun i l hl=>by
  have:=(hh.cG i l hl).1
  simp only
  rw[au (by omega)];exact hl
 refine bB.alloc hh (.cells cs e true) (.cells ⟨xs⟩ e (lo,hi)) 0 xs.length ⟨⟨xs⟩,lo,hi,?_,by simp,hle,fun j u hu=>?_,fun j y _ hy=>?_,fun _=>⟨rfl,fun j hj=>by simp only at hj ⊢;omega⟩⟩
 ·simp
 ·obtain⟨y,hy,hr⟩:=hc j u hu
  exact⟨y,by simpa using hy,VR.mono cQ u y hr⟩
 ·exact h1 y (du (by simpa using hy))
theorem bg.As(hh:bo P μ w st){s:Sem Value}{x:Value}{cs:List V}{xs:List Value}{e:TypeId}{lo hi:Nat}(hs:s.run P w=.ok x (w.drew.alloc (.cells ⟨xs⟩ e (lo,hi))))
  (hle:cs.length<=xs.length) (hc:∀(j:Nat) (u:V),cs[j]?=some u->∃x,xs[j]?=some x/\VR μ u x) (h1:∀x∈xs,x.oneCell'=true) (hf:xs.length<=lo\/hi<=lo)
  (hv:VR (fun i=>if i=st.n then some ⟨w.heap.size,0,xs.length⟩ else μ i) v x):
  bg P μ w st (do pure (.value (<-s))) v (st.alloc (.cells cs e true)):=
 ⟨Next.value x,x,_,_,[],by simp only[Sem.run_bind,hs,Result.andThen,Sem.run_pure],.inl rfl,hv,(bB.newRow hh.BY hle hc h1 hf (hi:=hi)).xH⟩
theorem Zs7(hh:bo P μ w st)(hr:RR μ r n a.tmps){src dst e:TypeId}{x:Operand}{s:Src}(hs:P.underlying src=some .string)(hd:P.underlying dst=some (.slice e))(he:P.underlying e=some (.int .u8))(hx:bu P x=some s)
  (h:Bu e s call r st=some (v,av)):bg P μ w st (do pure (.value (<-convert src dst (a.eval x)))) v av:=by
 unfold Bu at h
 split at h
 ·rename_i m hm
  simp only[aj,bq]at h
  obtain⟨rfl,rfl⟩:=h
  have h1:=cF hh hr hx hm
  simp only[VR]at h1
  have bI:=run_bytes_of_string (P:=P) w src dst e ⟨m.toArray⟩ hs hd he
  rw[<-h1]at bI
  have An:=grownCap_ge w m.length 0 e
  have fz:(⟨m.toArray⟩:ByteArray).size=m.length:=by simp[ByteArray.size]
  rw[fz]at bI
  have hl:(bytesRow ⟨m.toArray⟩ (grownCap w m.length 0 e)).toList=m.map (fun b=>Value.int .u8 b.toNat)++List.replicate (grownCap w m.length 0 e-m.length) (.int .u8 0):=by
   simp[bytesRow,fz]
  have IT:(bytesRow ⟨m.toArray⟩ (grownCap w m.length 0 e)).size=m.length+(grownCap w m.length 0 e-m.length):=by
   rw[<-Array.length_toList,hl];simp
  refine bg.As hh (v:=.slice st.n 0 m.length none 1) (xs:=(bytesRow ⟨m.toArray⟩ (grownCap w m.length 0 e)).toList) (lo:=_) (hi:=_) bI ?_ ?_ ?_ (.inl (by simp)) ?_
  ·rw[hl];simp
  ·intro j u hu
   rw[hl]
   have hj:j<m.length:=by
    have:=(yB.1 hu).1
    simpa using this
   refine⟨_,lX (by simpa using hj) |>.trans (jf ..) |>.trans (by rw[dk hj];rfl),?_⟩
   simp only[jf,dk hj,wK,aj]at hu
   rw[<-hu];simp[VR]
  ·intro y hy
   rw[hl]at hy
   simp only[oF,iy,FV]at hy
   rcases hy with⟨b,_,rfl⟩|⟨_,rfl⟩<;>rfl
  ·simp only[VR]
   refine⟨⟨w.heap.size,0,_⟩,grownCap w m.length 0 e,by simp;rfl,by simp,An,?_,by simp,fun _=>?_⟩
   ·simp only[IT];omega
   ·simp only[IT];omega
 ·cases h
theorem Yhh{l:List V}{s:List UInt8}{xs:List Value}(h:aX μ l xs)(hm:l.mapM (fun v=>match v with|.int .u8 n=>some (UInt8.ofNat n.toNat)|_=>none)=some s):
  ∃ns:List Int,xs=ns.map (Value.int .u8)/\s=ns.map (fun n=>UInt8.ofNat n.toNat):=by
 induction l generalizing s xs with
 |nil=>
  simp only[List.mapM_nil,pure,aj]at hm
  subst hm
  simp only[aX]at h
  exact⟨[],by simp[h],rfl⟩
 |cons u l ih=>
  obtain⟨y,ys,rfl,h1,h2⟩:=fO.1 h
  simp only[List.mapM_cons]at hm
  cases u<;>simp only[bind,Option.bind,reduceCtorEq]at hm
  rename_i k q
  cases k<;>simp only[reduceCtorEq]at hm
  split at hm
  ·cases hm
  ·rename_i s' iA
   simp only[pure,aj]at hm
   subst hm
   obtain⟨ns,rfl,rfl⟩:=ih h2 iA
   simp only[VR]at h1
   exact⟨q::ns,by simp[h1],by simp⟩
theorem Yo:∀(l:List Int) (r:ByteArray),l.foldl (fun r n=>r.push (UInt8.ofNat n.toNat)) r=⟨r.data++(l.map (fun n=>UInt8.ofNat n.toNat)).toArray⟩
 |[],r=>by simp
 |b::l,r=>by
  simp only[List.foldl_cons]
  rw[Yo l]
  simp[ByteArray.push]
theorem Zux(hh:bo P μ w st)(hr:RR μ r n a.tmps){src dst e:TypeId}{x:Operand}{s:Src}(hs:P.underlying src=some (.slice e))(hd:P.underlying dst=some .string)(he:P.underlying e=some (.int .u8))(hx:bu P x=some s)
  (h:Dd s call r st=some (v,av)):bg P μ w st (do pure (.value (<-convert src dst (a.eval x)))) v av:=by
 unfold Dd at h
 split at h
 ·rename_i hm
  simp only[aj,bq]at h
  obtain⟨rfl,rfl⟩:=h
  have h1:=cF hh hr hx hm
  simp only[VR]at h1
  refine bg.value hh (x:=.string ByteArray.empty) ?_ (by simp only[VR];rfl)
  rw[h1,run_convert_bytes_string w src dst e none 0 0 hs he hd]
  simp[Conv.bytesToString]
 ·rename_i i o len cap hm
  obtain⟨l,c,hl,h1,_⟩:=cF hh hr hx hm
  split at h
  ·rename_i cs e' vf ar
   split at h
   ·rename_i xc qL
    split at h
    ·rename_i s' hmm
     simp only[aj,bq]at h
     obtain⟨rfl,rfl⟩:=h
     obtain⟨xs,nJ,Ah,ue,_,_⟩:=(hh.row hl ar).xc qL
     obtain⟨ns,rfl,rfl⟩:=Yhh nJ hmm
     refine bg.value hh (x:=.string ⟨(ns.map (fun n=>UInt8.ofNat n.toNat)).toArray⟩) ?_ (by simp[VR])
     rw[h1,run_convert_bytes_string w src dst e _ _ _ hs he hd,run_bytesToString w _ len c ns ue,Yo]
     have IU:ByteArray.empty.data=#[]:=rfl
     rw[IU];simp
    ·cases h
   ·cases h
  ·cases h
 ·cases h
theorem Mz{i:Nat}{o:Obj}(h:w.heap[i]?=some o)(ho:∀c e f,o≠.cells c e f):(getObj i).run P w=.ok o w:=by
 simp only[getObj,Sem.run,h]
theorem gH.length:∀{es:List (V×V)} {xs:List MapEntry} {i:Nat},gH μ es xs i->xs.length=es.length
 |[],_,_,h=>by simp[gH]at h;simp[h]
 |(k,u)::es,_,i,h=>by
  obtain⟨e,ys,rfl,_,_,_,h5⟩:=h
  simp[gH.length h5]
theorem Zx7(hh:bo P μ w st)(hr:RR μ r n a.tmps){t ty:TypeId}{x:Operand}{s:Src}(ht:P.underlying t=some .string)(hx:bu P x=some s)
  (h:uY 0 s call r st=some (v,av)):bg P μ w st (do pure (.value (<-Builtin.len_ #[t] ty #[a.eval x]))) v av:=by
 unfold uY at h
 cases hm:s.ev r with
 |none=>simp[hm]at h
 |some q=>
  have h1:=cF hh hr hx hm
  cases q<;>simp[hm]at h
  rename_i q
  obtain⟨rfl,rfl⟩:=h
  simp only[VR]at h1
  have h2:(⟨q.toArray⟩:ByteArray).size=q.length:=rfl
  exact bg.value hh (x:=.int .i64 q.length) (by simp[Builtin.len_,h1,run_underlying ht,goInt,h2, -ByteArray.size_data]) (by simp[VR])
theorem Zrx(hh:bo P μ w st)(hr:RR μ r n a.tmps){t ty e:TypeId}{x:Operand}{s:Src}(ht:P.underlying t=some (.slice e))(hx:bu P x=some s)
  (h:uY 1 s call r st=some (v,av)):bg P μ w st (do pure (.value (<-Builtin.len_ #[t] ty #[a.eval x]))) v av:=by
 unfold uY at h
 cases hm:s.ev r with
 |none=>simp[hm]at h
 |some q=>
  have h1:=cF hh hr hx hm
  cases q<;>simp[hm]at h
  case aa=>
   obtain⟨rfl,rfl⟩:=h
   simp only[VR]at h1
   exact bg.value hh (x:=.int .i64 0) (by simp[Builtin.len_,h1,run_underlying ht,goInt]) (by simp[VR])
  case empty=>
   obtain⟨rfl,rfl⟩:=h
   obtain⟨b,c,h1⟩:=h1
   exact bg.value hh (x:=.int .i64 0) (by simp[Builtin.len_,h1,run_underlying ht,goInt]) (by simp[VR])
  case slice i o len cap sz=>
   obtain⟨rfl,rfl⟩:=h
   obtain⟨l,c,_,h1,_⟩:=h1
   exact bg.value hh (x:=.int .i64 len) (by simp[Builtin.len_,h1,run_underlying ht,goInt]) (by simp[VR])
theorem Zx8(hh:bo P μ w st)(hr:RR μ r n a.tmps){t ty k e:TypeId}{x:Operand}{s:Src}(ht:P.underlying t=some (.map k e))(hx:bu P x=some s)
  (h:uY 2 s call r st=some (v,av)):bg P μ w st (do pure (.value (<-Builtin.len_ #[t] ty #[a.eval x]))) v av:=by
 unfold uY at h
 cases hm:s.ev r with
 |none=>simp[hm]at h
 |some q=>
  have h1:=cF hh hr hx hm
  cases q<;>simp[hm]at h
  case bH=>
   obtain⟨rfl,rfl⟩:=h
   simp only[VR]at h1
   exact bg.value hh (x:=.int .i64 0) (by simp[Builtin.len_,h1,run_underlying ht,goInt]) (by simp[VR])
  case map i=>
   split at h
   ·rename_i es zd
    simp only[aj,bq]at h
    obtain⟨rfl,rfl⟩:=h
    obtain⟨l,hl,h1⟩:=h1
    obtain⟨fP,g1,g2⟩:=hh.get hl zd
    have hg:=Mz (P:=P) g1 (by simp)
    exact bg.value hh (x:=.int .i64 es.length) (by simp[Builtin.len_,h1,run_underlying ht,goInt,hg,Result.andThen,g2.length]) (by simp[VR])
   ·cases h
theorem Yp(hh:bo P μ w st){t ty:TypeId}{k:Nat}{x:Value}(ht:(∃e,P.underlying t=some (.array k e))\/∃u e,P.underlying t=some (.pointer u)/\P.underlying u=some (.array k e))
  (h:HQ k call r st=some (v,av)):bg P μ w st (do pure (.value (<-Builtin.len_ #[t] ty #[x]))) v av:=by
 unfold HQ at h
 simp only[aj,bq]at h
 obtain⟨rfl,rfl⟩:=h
 refine bg.value hh (x:=.int .i64 k) ?_ (by simp[VR])
 rcases ht with⟨e,h1⟩|⟨u,e,h1,h2⟩
 ·simp[Builtin.len_,run_underlying h1,goInt]
 ·simp[Builtin.len_,run_underlying h1,run_underlying h2,goInt]
theorem Yo0(hh:bo P μ w st)(hr:RR μ r n a.tmps){t ty e:TypeId}{x:Operand}{s:Src}(ht:P.underlying t=some (.slice e))(hx:bu P x=some s)
  (h:F7 s call r st=some (v,av)):bg P μ w st (do pure (.value (<-Builtin.cap_ #[t] ty #[a.eval x]))) v av:=by
 unfold F7 at h
 split at h
 ·rename_i hm
  simp only[aj,bq]at h
  obtain⟨rfl,rfl⟩:=h
  have h1:=cF hh hr hx hm
  simp only[VR]at h1
  exact bg.value hh (x:=.int .i64 0) (by simp[Builtin.cap_,h1,run_underlying ht,goInt]) (by simp[VR])
 ·rename_i i o len k sz hm
  simp only[aj,bq]at h
  obtain⟨rfl,rfl⟩:=h
  obtain⟨l,c,_,h1,_,_,h5,_⟩:=cF hh hr hx hm
  have hk:=h5 k rfl
  subst hk
  exact bg.value hh (x:=.int .i64 c) (by simp[Builtin.cap_,h1,run_underlying ht,goInt]) (by simp[VR])
 ·cases h
theorem Ybt:∀{l:List V} {u:V} {xs:List Value},tU (l)=some u->aX μ l xs->∃y ys z,xs=y::ys/\(ys.foldlM Builtin.min2 y).run P w=.ok z w/\VR μ u z:=by
 intro l
 induction l using tU.induct<;>intro u xs h hx
 case case1=>simp[tU]at h
 case case2 x=>
  simp only[tU,aj]at h;subst h
  obtain⟨y,ys,rfl,h1,h2⟩:=fO.1 hx
  simp only[aX]at h2;subst h2
  exact⟨y,[],y,rfl,by simp,h1⟩
 case case3 k p k' q rest ih=>
  simp only[tU]at h
  obtain⟨y,ys,rfl,h1,h2⟩:=fO.1 hx
  obtain⟨y',SE,rfl,h3,h4⟩:=fO.1 h2
  simp only[VR]at h1 h3
  subst h1;subst h3
  obtain⟨y,ys,z,e,hz,hv⟩:=ih h (xs:=.int k (if q<p then q else p)::SE) (fO.2 ⟨_,_,rfl,by simp[VR],h4⟩)
  simp only[gK]at e
  obtain⟨rfl,rfl⟩:=e
  exact⟨_,_,z,rfl,by simpa[Builtin.min2]using hz,hv⟩
 case case4 h1 h2 h3=>unfold tU at h;split at h<;>simp_all<;>exact absurd rfl (h3 _ _ _ _ _ rfl rfl rfl rfl)
theorem Ybw:∀{l:List V} {u:V} {xs:List Value},tV (l)=some u->aX μ l xs->∃y ys z,xs=y::ys/\(ys.foldlM Builtin.max2 y).run P w=.ok z w/\VR μ u z:=by
 intro l
 induction l using tV.induct<;>intro u xs h hx
 case case1=>simp[tV]at h
 case case2 x=>
  simp only[tV,aj]at h;subst h
  obtain⟨y,ys,rfl,h1,h2⟩:=fO.1 hx
  simp only[aX]at h2;subst h2
  exact⟨y,[],y,rfl,by simp,h1⟩
 case case3 k p k' q rest ih=>
  simp only[tV]at h
  obtain⟨y,ys,rfl,h1,h2⟩:=fO.1 hx
  obtain⟨y',SE,rfl,h3,h4⟩:=fO.1 h2
  simp only[VR]at h1 h3
  subst h1;subst h3
  obtain⟨y,ys,z,e,hz,hv⟩:=ih h (xs:=.int k (if p<q then q else p)::SE) (fO.2 ⟨_,_,rfl,by simp[VR],h4⟩)
  simp only[gK]at e
  obtain⟨rfl,rfl⟩:=e
  exact⟨_,_,z,rfl,by simpa[Builtin.max2]using hz,hv⟩
 case case4 h1 h2 h3=>unfold tV at h;split at h<;>simp_all<;>exact absurd rfl (h3 _ _ _ _ _ rfl rfl rfl rfl)
theorem Yqp(hh:bo P μ w st)(hr:RR μ r n a.tmps){ts:Array TypeId}{ty:TypeId}{xs:Array Operand}{ss:List Src}(hx:rN P xs.toList=some ss)
  (h:vU ss call r st=some (v,av)):bg P μ w st (do pure (.value (<-Builtin.min_ ts ty (xs.map a.eval)))) v av:=by
 unfold vU at h
 split at h
 ·rename_i l hl
  split at h
  ·rename_i u hu
   simp only[aj,bq]at h
   obtain⟨rfl,rfl⟩:=h
   obtain⟨y,ys,z,e,hz,hv⟩:=Ybt (P:=P) (w:=w) (Yky l▸hu) (DO hh hr hx hl)
   refine bg.value hh (x:=z) ?_ hv
   simp only[Builtin.min_,Array.toList_map,e]
   exact hz
  ·cases h
 ·cases h
theorem Yqn(hh:bo P μ w st)(hr:RR μ r n a.tmps){ts:Array TypeId}{ty:TypeId}{xs:Array Operand}{ss:List Src}(hx:rN P xs.toList=some ss)
  (h:oL ss call r st=some (v,av)):bg P μ w st (do pure (.value (<-Builtin.max_ ts ty (xs.map a.eval)))) v av:=by
 unfold oL at h
 split at h
 ·rename_i l hl
  split at h
  ·rename_i u hu
   simp only[aj,bq]at h
   obtain⟨rfl,rfl⟩:=h
   obtain⟨y,ys,z,e,hz,hv⟩:=Ybw (P:=P) (w:=w) (Yk1 l▸hu) (DO hh hr hx hl)
   refine bg.value hh (x:=z) ?_ hv
   simp only[Builtin.max_,Array.toList_map,e]
   exact hz
  ·cases h
 ·cases h
end
section
variable {P:Program} {μ:Mu} {w:World} {st av:St} {r:T V} {n:Nat} {a:Act} {call:cm} {v:V}
theorem SF{t:TypeId}{kd:gU}(h:wO P t=some kd):(∃k,kd=.int k/\P.underlying t=some (.int k))\/(kd=.str/\P.underlying t=some .string):=by
 unfold wO at h
 split at h
 ·simp only[aj]at h;subst h;rename_i k hk;exact .inl ⟨k,rfl,hk⟩
 ·simp only[aj]at h;subst h;rename_i hk;exact .inr ⟨rfl,hk⟩
 ·cases h
theorem Yq{t:TypeId}{kd:gU}{d:TypeDesc}(hd:P.underlying t=some d)(h:wO P t=some kd){k q:V}{x y:Value}(hx:VR μ k x)(hy:VR μ q y){b:Bool}(hb:FZ kd k q=some b):
  Instr.sameNow d x y=some b/\(b=true->x=y/\Instr.sameBits 10000 y x=true):=by
 rcases SF h with⟨kk,rfl,h1⟩|⟨rfl,h1⟩
 ·rw[hd,aj]at h1;subst h1
  cases k<;>cases q<;>simp only[FZ,reduceCtorEq]at hb
  split at hb
  ·rename_i hc
   obtain⟨rfl,rfl⟩:=hc
   simp only[aj]at hb;subst hb
   simp only[VR]at hx hy
   subst hx;subst hy
   refine⟨by simp[Instr.sameNow],fun hb=>?_⟩
   simp only[beq_iff_eq]at hb
   subst hb
   simp[Instr.sameBits]
  ·cases hb
 ·rw[hd,aj]at h1;subst h1
  cases k<;>cases q<;>simp only[FZ,reduceCtorEq]at hb
  rename_i s s'
  simp only[aj]at hb;subst hb
  simp only[VR]at hx hy
  subst hx;subst hy
  have e:((⟨s.toArray⟩:ByteArray)==⟨s'.toArray⟩)=(s==s'):=by
   show (s.toArray==s'.toArray)=(s==s')
   simp
  refine⟨by simp only[Instr.sameNow,e],fun hb=>?_⟩
  simp only[beq_iff_eq]at hb
  subst hb
  exact⟨rfl,by simp only[Instr.sameBits];rw[e];simp⟩
theorem MA{t:TypeId}{kd:gU}{d:TypeDesc}(hd:P.underlying t=some d)(h:wO P t=some kd){k:V}{x:Value}(hx:VR μ k x):
  ∀{es:List (V×V)} {xs:List MapEntry} {i b:Nat} {o:Option (Nat×V)},gH μ es xs b->dV kd k es i=some o->
   match o with
   |none=>Instr.findNow d x xs i=some none
   |some (j,u)=>∃e:MapEntry,i<=j/\xs[j-i]?=some e/\VR μ u e.val/\Instr.findNow d x xs i=some (some (j,e.val))/\x=e.key/\Instr.sameBits 10000 e.key x=true:=by
 intro es
 induction es with
 |nil=>
  intro xs i b o hm hf
  simp only[gH]at hm;subst hm
  simp only[dV,aj]at hf;subst hf
  simp[Instr.findNow]
 |cons p es ih=>
  intro xs i b o hm hf
  obtain⟨q,u⟩:=p
  obtain⟨e,ys,rfl,h1,h2,h3,h4⟩:=hm
  simp only[dV]at hf
  split at hf
  ·rename_i hb
   simp only[aj]at hf;subst hf
   obtain⟨g1,g2⟩:=Yq hd h hx h1 hb
   exact⟨e,aS _,by simp,h2,by simp[Instr.findNow,g1],(g2 rfl).1,(g2 rfl).2⟩
  ·rename_i hb
   obtain⟨g1,_⟩:=Yq hd h hx h1 hb
   have:=ih h4 hf
   cases o with
   |none=>simpa[Instr.findNow,g1]using this
   |some ju=>
    obtain⟨j,u'⟩:=ju
    obtain⟨e',k1,k2,k3,k4,k5⟩:=this
    refine⟨e',by omega,?_,k3,by simpa[Instr.findNow,g1]using k4,k5⟩
    rw[show j-i=(j-(i+1))+1 by omega]
    simpa using k2
  ·cases hf
theorem Zpr{t:TypeId}{kd:gU}(h:wO P t=some kd){b:Bool}{x:Value}(q:Nat):(Instr.checkKey b (q+1) t x).run P w=.ok () w:=by
 rcases SF h with⟨kk,rfl,h1⟩|⟨rfl,h1⟩
 ·cases x<;>simp only[Instr.checkKey,Sem.run_bind,run_underlying h1,Result.andThen_ok,Sem.run_pure]
 ·cases x<;>simp only[Instr.checkKey,Sem.run_bind,run_underlying h1,Result.andThen_ok,Sem.run_pure]
theorem IV{t:TypeId}{kd:gU}(h:wO P t=some kd){b:Bool}{x:Value}:(Instr.checkKey b 10000 t x).run P w=.ok () w:=Zpr h 9999
theorem Yr{t:TypeId}{kd:gU}(h:wO P t=some kd):∃d,P.underlying t=some d:=by
 rcases SF h with⟨kk,_,h1⟩|⟨_,h1⟩<;>exact⟨_,h1⟩
theorem Ybz(hh:bo P μ w st)(hr:RR μ r n a.tmps){t kt e:TypeId}{x y:Operand}{sm sk:Src}{kd:gU}{z:V}{ok:Bool}(ht:P.underlying t=some (.map kt e))(hk:wO P kt=some kd)(hz:mK P e=some z)
  (hx:bu P x=some sm) (hy:bu P y=some sk) (h:Dj kd z sm sk ok call r st=some (v,av)):
  bg P μ w st (do pure (.value (<-Instr.lookup t (a.eval x) (a.eval y) ok))) v av:=by
 unfold Dj at h
 split at h
 ·rename_i m k hm At
  have h1:=cF hh hr hx hm
  have h2:=cF hh hr hy At
  obtain⟨d,hd⟩:=Yr hk
  obtain⟨zx,Gw,wc⟩:=XD (w:=w) hz
  split at h
  ·cases m<;>simp at h
   case bH=>
    simp only[VR]at h1
    simp only[dV,aj,bq]at h
    obtain⟨rfl,rfl⟩:=h
    refine bg.value hh (x:=if ok then .tuple #[zx,.bool false] else zx) ?_ ?_
    ·simp[Instr.lookup,run_underlying ht,h1,IV hk,Instr.findKey,run_underlying hd,Instr.findNow,Gw,Result.andThen]
    ·cases ok
     ·simpa using wc μ
     ·simp only[if_true,VR];exact⟨_,rfl,by simp[aX,VR];exact wc μ⟩
   case map i=>
    obtain⟨l,hl,h1⟩:=h1
    split at h
    ·rename_i es zd
     split at zd
     ·rename_i es0 hg
      simp only[aj]at zd;subst zd
      obtain⟨fP,g1,g2⟩:=hh.get hl hg
      have qP:=Mz (P:=P) g1 (by simp)
      split at h
      ·rename_i j u ho
       simp only[aj,bq]at h
       obtain⟨rfl,rfl⟩:=h
       obtain⟨en,_,_,k3,k4,_⟩:=MA hd hk h2 g2 ho
       refine bg.value hh (x:=if ok then .tuple #[en.val,.bool true] else en.val) ?_ ?_
       ·simp[Instr.lookup,run_underlying ht,h1,qP,IV hk,Instr.findKey,run_underlying hd,k4,Result.andThen]
       ·cases ok
        ·simpa using k3
        ·simp only[if_true,VR];exact⟨_,rfl,by simp[aX,VR];exact k3⟩
      ·rename_i ho
       simp only[aj,bq]at h
       obtain⟨rfl,rfl⟩:=h
       have k4:=MA hd hk h2 g2 ho
       simp only at k4
       refine bg.value hh (x:=if ok then .tuple #[zx,.bool false] else zx) ?_ ?_
       ·simp[Instr.lookup,run_underlying ht,h1,qP,IV hk,Instr.findKey,run_underlying hd,k4,Gw,Result.andThen]
       ·cases ok
        ·simpa using wc μ
        ·simp only[if_true,VR];exact⟨_,rfl,by simp[aX,VR];exact wc μ⟩
      ·cases h
     ·cases zd
    ·cases h
  ·cases h
 ·cases h
theorem SG(w:World)(b:Nat)(o:Obj):({w with heap:=w.heap.setIfInBounds b o}:World).heap[b]?=if b<w.heap.size then some o else none:=by
 show (w.heap.setIfInBounds b o)[b]?=_
 rw[Array.getElem?_setIfInBounds]
 simp
theorem SH{i:Nat}{o o':Obj}(h:w.heap[i]?=some o)(ho:∀c e f,o≠.cells c e f):(setObj i o').run P w=.ok () {w with heap:=w.heap.setIfInBounds i o'}:=by
 simp only[setObj,Sem.run,h]
theorem bB.setObj(hh:bo P μ w st){i:Nat}{l:L}(hl:μ i=some l){o o':O}(hg:st.h.get i=some o)(hw:o.wr=true){ob:Obj}
  (hm:OM P μ {w with heap:=w.heap.setIfInBounds l.b ob} o' l):bB P μ w st μ {w with heap:=w.heap.setIfInBounds l.b ob} (st.write i o') [i]:=
 bB.write hh hl hg hw rfl rfl rfl (by simp) (fun b hb=>by
  show (w.heap.setIfInBounds l.b ob)[b]?=_
  rw[FO (Ne.symm hb)]) hm
theorem gH.set:∀{es:List (V×V)} {xs:List MapEntry} {b:Nat},gH μ es xs b->∀{j:Nat} {k u:V} {x y:Value},VR μ k x->VR μ u y->∀{e:MapEntry},xs[j]?=some e->
  gH μ (es.set j (k,u)) (xs.set j {e with key:=x,val:=y}) b
 |[],xs,b,h,j,k,u,x,y,_,_,e,he=>by simp[gH]at h;subst h;simp at he
 |(k0,u0)::es,xs,b,h,j,k,u,x,y,h1,h2,e,he=>by
  obtain⟨e0,ys,rfl,g1,g2,g3,g4⟩:=h
  cases j with
  |zero=>simp at he;subst he;exact⟨_,_,rfl,h1,h2,g3,g4⟩
  |succ j=>exact⟨e0,_,rfl,g1,g2,g3,gH.set g4 h1 h2 (by simpa using he)⟩
theorem gH.push:∀{es:List (V×V)} {xs:List MapEntry} {b:Nat},gH μ es xs b->∀{k u:V} {x y:Value},VR μ k x->VR μ u y->∀{c:Nat},c=b+xs.length->
  gH μ (es++[(k,u)]) (xs++[{key:=x,val:=y,born:=c}]) b
 |[],xs,b,h,k,u,x,y,h1,h2,c,hc=>by simp[gH]at h;subst h;exact⟨_,_,rfl,h1,h2,by simpa using hc,rfl⟩
 |(k0,u0)::es,xs,b,h,k,u,x,y,h1,h2,c,hc=>by
  obtain⟨e0,ys,rfl,g1,g2,g3,g4⟩:=h
  exact⟨e0,_,rfl,g1,g2,g3,gH.push g4 h1 h2 (by simp at hc;omega)⟩
theorem bg.skip{s:Sem Unit}{w':World}{μ':Mu}{ws:List Nat}(hs:s.run P w=.ok () w')(h:bB P μ w st μ' w' av ws):bg P μ w st (do s;pure .skip) (.aZ []) av:=
 ⟨.skip,undef,w',μ',ws,by simp[hs,Result.andThen],.inr ⟨rfl,rfl⟩,⟨[],rfl,by simp[aX]⟩,h⟩
theorem Ys(hh:bo P μ w st)(hr:RR μ r n a.tmps){t kt e:TypeId}{x y z:Operand}{sm sk sv:Src}{kd:gU}(ht:P.underlying t=some (.map kt e))(hk:wO P kt=some kd)
  (hx:bu P x=some sm) (hy:bu P y=some sk) (hz:bu P z=some sv) (h:By kd sm sk sv call r st=some (v,av)):
  bg P μ w st (do Instr.mapUpdate t (a.eval x) (a.eval y) (a.eval z);pure .skip) v av:=by
 unfold By at h
 split at h
 ·rename_i i k u hm At hu
  obtain⟨l,hl,h1⟩:=cF hh hr hx hm
  have h2:=cF hh hr hy At
  have h3:=cF hh hr hz hu
  obtain⟨d,hd⟩:=Yr hk
  split at h
  ·split at h
   ·rename_i es zd
    obtain⟨fP,g1,g2⟩:=hh.get hl zd
    have qP:=Mz (P:=P) g1 (by simp)
    have hb:l.b<w.heap.size:=(hh.cG i l hl).2
    split at h
    ·rename_i j _ hf
     simp only[aj,bq]at h
     obtain⟨rfl,rfl⟩:=h
     obtain⟨en,k1,k2,k3,k4,k5,k6⟩:=MA hd hk h2 g2 hf
     simp only[Nat.sub_zero]at k2
     have IW:=SH (P:=P) (o':=.map ((⟨fP⟩:Array MapEntry).modify j fun e=>{e with key:=a.eval y,val:=a.eval z}) fP.length) g1 (by simp)
     refine bg.skip (μ':=μ) (ws:=[i]) (w':={w with heap:=w.heap.setIfInBounds l.b (.map ((⟨fP⟩:Array MapEntry).modify j fun e=>{e with key:=a.eval y,val:=a.eval z}) fP.length)}) ?_ (bB.setObj hh hl zd rfl ⟨fP.set j {en with key:=a.eval y,val:=a.eval z},?_,?_⟩)
     ·have IX:(Instr.keyThatStays en.key (a.eval y)).run P w=.ok (a.eval y) w:=by
       simp[Instr.keyThatStays,k6]
      have cC:(((⟨fP⟩:Array MapEntry)[j]?).map (·.key)).getD (a.eval y)=en.key:=by simp[k2]
      simp only[Instr.mapUpdate,Sem.run_bind,run_underlying ht,Result.andThen,h1,qP,IV hk,Instr.findKey,run_underlying hd,k4,Sem.run_pure,cC,IX,IW]
     ·rw[SG,aF hb]
      congr 2
      ·apply wZ
       apply m7
       intro q
       rw[wV,Array.getElem?_modify]
       by_cases e:j=q
       ·subst e
        obtain⟨hj,hje⟩:=yB.1 k2
        simp[hj,hje]
       ·simp[e,eI e]
      ·simp
     ·exact g2.set h2 h3 k2
    ·rename_i hf
     simp only[aj,bq]at h
     obtain⟨rfl,rfl⟩:=h
     have k4:=MA hd hk h2 g2 hf
     simp only at k4
     have IW:=SH (P:=P) (o':=.map ((⟨fP⟩:Array MapEntry).push {key:=a.eval y,val:=a.eval z,born:=fP.length}) (fP.length+1)) g1 (by simp)
     refine bg.skip (μ':=μ) (ws:=[i]) (w':={w with heap:=w.heap.setIfInBounds l.b (.map ((⟨fP⟩:Array MapEntry).push {key:=a.eval y,val:=a.eval z,born:=fP.length}) (fP.length+1))}) ?_ (bB.setObj hh hl zd rfl ⟨fP++[{key:=a.eval y,val:=a.eval z,born:=fP.length}],?_,?_⟩)
     ·simp only[Instr.mapUpdate,Sem.run_bind,run_underlying ht,Result.andThen,h1,qP,IV hk,Instr.findKey,run_underlying hd,k4,Sem.run_pure,IW]
     ·rw[SG,aF hb]
      simp
     ·exact g2.push h2 h3 (by simp)
    ·cases h
   ·cases h
  ·cases h
 ·cases h
theorem Zxn(hh:bo P μ w st)(hr:RR μ r n a.tmps){ty:TypeId}{x:Operand}{s:Src}(hx:bu P x=some s)
  (h:Dl s call r st=some (v,av)):bg P μ w st (do pure (.value (<-Instr.next (a.eval x) true ty))) v av:=by
 unfold Dl at h
 split at h
 ·rename_i i hm
  obtain⟨l,hl,h1⟩:=cF hh hr hx hm
  split at h
  ·rename_i q pos hg
   obtain⟨g1,g2⟩:=hh.get hl hg
   rw[g2]at h1
   have qP:=Mz (P:=P) g1 (by simp)
   have hb:l.b<w.heap.size:=(hh.cG i l hl).2
   have fz:(⟨q.toArray⟩:ByteArray).size=q.length:=rfl
   split at h
   ·rename_i hp
    simp only[aj,bq]at h
    obtain⟨rfl,rfl⟩:=h
    have IW:=SH (P:=P) (o':=.stringIter ⟨q.toArray⟩ (pos+(Utf8.decode ⟨q.toArray⟩ pos).2)) g1 (by simp)
    refine⟨.value (.tuple #[.bool true,.int .i64 pos,.int .i32 (Utf8.decode ⟨q.toArray⟩ pos).1]),_,_,μ,[i],?_,.inl rfl,?_,bB.setObj hh hl hg rfl (ob:=.stringIter ⟨q.toArray⟩ (pos+(Utf8.decode ⟨q.toArray⟩ pos).2)) ⟨?_,g2⟩⟩
    ·simp[Instr.next,h1,qP,Result.andThen,fz,hp,IW,goInt, -ByteArray.size_data]
    ·simp only[VR];exact⟨_,rfl,by simp[aX,VR]⟩
    ·rw[SG,aF hb]
   ·rename_i hp
    simp only[aj,bq]at h
    obtain⟨rfl,rfl⟩:=h
    refine bg.value hh (x:=.tuple #[.bool false]) ?_ (by simp only[VR];exact⟨_,rfl,by simp[aX,VR]⟩)
    simp[Instr.next,h1,qP,Result.andThen,fz,hp, -ByteArray.size_data]
  ·cases h
 ·cases h
end
end Go.Mx
