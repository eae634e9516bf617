/-
  The operations of M stand for the Go model's: strings and bytes; the builtins that only read.
-/
import Derived.Test.YtlbophlgohokkaaGreatDoorMxOp5
import Derived.Laws.IdiomStrings
import Derived.Lib.Bytealg
import Derived.Shelf.Spec.BitsCarry
set_option linter.all false
namespace Go.Mx
open Go
section
variable {P:Program} {μ:Mu} {w:World} {st av:St} {r:T V} {n:Nat} {a:Act} {call:cA} {v:V}
theorem bm.Ao(h:bm P μ w st):bm P μ w.drew st:=h.drew (w.drawn+1)
theorem bB.vF{μ':Mu}{w':World}{ws:List Nat}(h:bB P μ w.drew st μ' w' av ws):bB P μ w st μ' w' av ws:=
 ⟨h.hr,h.ext,h.fi,h.wl,⟨h.dk.os,h.dk.tape,h.dk.output,h.dk.size,h.dk.block⟩,h.new,h.ad,h.grow,h.full,h.rk⟩
theorem bB.newRow(hh:bm P μ w st){cs:List V}{xs:List Value}{e:TypeId}{lo hi:Nat}
  (hle:cs.length<=xs.length) (hc:∀(j:Nat) (u:V),cs[j]?=some u->∃x,xs[j]?=some x/\VR μ u x) (h1:∀x∈xs,x.oneCell'=true) (hf:xs.length<=lo\/hi<=lo):
  bB P μ w st (fun i=>if i=st.n then some ⟨w.heap.size,0,xs.length⟩ else μ i) (w.alloc (.cells ⟨xs⟩ e (lo,hi))) (st.alloc (.cells cs e true)) []:=by
 have dc:∀i l,μ i=some l->(fun i=>if i=st.n then some (⟨w.heap.size,0,xs.length⟩:L) else μ i) i=some l:=fun i l hl=>by
  have:=(hh.cK i l hl).1
  simp only
  rw[ar (by omega)];exact hl
 refine bB.alloc hh (.cells cs e true) (.cells ⟨xs⟩ e (lo,hi)) 0 xs.length ⟨⟨xs⟩,lo,hi,?_,by simp,hle,fun j u hu=>?_,fun j y _ hy=>?_,fun _=>⟨rfl,fun j hj=>by simp only at hj ⊢;omega⟩⟩
 ·simp
 ·obtain⟨y,hy,hr⟩:=hc j u hu
  exact⟨y,by simpa using hy,VR.mono dc u y hr⟩
 ·exact h1 y (cm (by simpa using hy))
theorem bf.yH(hh:bm P μ w st){s:Sem Value}{x:Value}{cs:List V}{xs:List Value}{e:TypeId}{lo hi:Nat}(hs:s.run P w=.ok x (w.drew.alloc (.cells ⟨xs⟩ e (lo,hi))))
  (hle:cs.length<=xs.length) (hc:∀(j:Nat) (u:V),cs[j]?=some u->∃x,xs[j]?=some x/\VR μ u x) (h1:∀x∈xs,x.oneCell'=true) (hf:xs.length<=lo\/hi<=lo)
  (hv:VR (fun i=>if i=st.n then some ⟨w.heap.size,0,xs.length⟩ else μ i) v x):
  bf P μ w st (do pure (.value (<-s))) v (st.alloc (.cells cs e true)):=
 ⟨Next.value x,x,_,_,[],by simp only[Sem.run_bind,hs,Result.andThen,Sem.run_pure],.inl rfl,hv,(bB.newRow hh.Ao hle hc h1 hf (hi:=hi)).vF⟩
theorem Ztd(hh:bm P μ w st)(hr:RR μ r n a.tmps){src dst e:TypeId}{x:Operand}{s:Src}(hs:P.underlying src=some .string)(hd:P.underlying dst=some (.slice e))(he:P.underlying e=some (.int .u8))(hx:bu P x=some s)
  (h:zO e s call r st=some (v,av)):bf P μ w st (do pure (.value (<-convert src dst (a.eval x)))) v av:=by
 unfold zO at h
 split at h
 ·rename_i m hm
  simp only[ai,bo]at h
  obtain⟨rfl,rfl⟩:=h
  have h1:=cJ hh hr hx hm
  simp only[VR]at h1
  have bI:=run_bytes_of_string (P:=P) w src dst e ⟨m.toArray⟩ hs hd he
  rw[<-h1]at bI
  have yF:=grownCap_ge w m.length 0 e
  have iz:(⟨m.toArray⟩:ByteArray).size=m.length:=by simp[ByteArray.size]
  rw[iz]at bI
  have hl:(bytesRow ⟨m.toArray⟩ (grownCap w m.length 0 e)).toList=m.map (fun b=>Value.int .u8 b.toNat)++List.replicate (grownCap w m.length 0 e-m.length) (.int .u8 0):=by
   simp[bytesRow,iz]
  have GK:(bytesRow ⟨m.toArray⟩ (grownCap w m.length 0 e)).size=m.length+(grownCap w m.length 0 e-m.length):=by
   rw[<-Array.length_toList,hl];simp
  refine bf.yH hh (v:=.slice st.n 0 m.length none 1) (xs:=(bytesRow ⟨m.toArray⟩ (grownCap w m.length 0 e)).toList) (lo:=_) (hi:=_) bI ?_ ?_ ?_ (.inl (by simp)) ?_
  ·rw[hl];simp
  ·intro j u hu
   rw[hl]
   have hj:j<m.length:=by
    have:=(tn.1 hu).1
    simpa using this
   refine⟨_,jO (by simpa using hj) |>.trans (iX ..) |>.trans (by rw[cW hj];rfl),?_⟩
   simp only[iX,cW hj,wE,ai]at hu
   rw[<-hu];simp[VR]
  ·intro y hy
   rw[hl]at hy
   simp only[pw,jk,DS]at hy
   rcases hy with⟨b,_,rfl⟩|⟨_,rfl⟩<;>rfl
  ·simp only[VR]
   refine⟨⟨w.heap.size,0,_⟩,grownCap w m.length 0 e,by simp;rfl,by simp,yF,?_,by simp,fun _=>?_⟩
   ·simp only[GK];omega
   ·simp only[GK];omega
 ·cases h
theorem Yh2{l:List V}{s:List UInt8}{xs:List Value}(h:aW μ l xs)(hm:l.mapM (fun v=>match v with|.int .u8 n=>some (UInt8.ofNat n.toNat)|_=>none)=some s):
  ∃ns:List Int,xs=ns.map (Value.int .u8)/\s=ns.map (fun n=>UInt8.ofNat n.toNat):=by
 induction l generalizing s xs with
 |nil=>
  simp only[List.mapM_nil,pure,ai]at hm
  subst hm
  simp only[aW]at h
  exact⟨[],by simp[h],rfl⟩
 |cons u l ih=>
  obtain⟨y,ys,rfl,h1,h2⟩:=gg.1 h
  simp only[List.mapM_cons]at hm
  cases u<;>simp only[bind,Option.bind,reduceCtorEq]at hm
  rename_i k q
  cases k<;>simp only[reduceCtorEq]at hm
  split at hm
  ·cases hm
  ·rename_i s' im
   simp only[pure,ai]at hm
   subst hm
   obtain⟨ns,rfl,rfl⟩:=ih h2 im
   simp only[VR]at h1
   exact⟨q::ns,by simp[h1],by simp⟩
theorem Vn:∀(l:List Int) (r:ByteArray),l.foldl (fun r n=>r.push (UInt8.ofNat n.toNat)) r=⟨r.data++(l.map (fun n=>UInt8.ofNat n.toNat)).toArray⟩
 |[],r=>by simp
 |b::l,r=>by
  simp only[List.foldl_cons]
  rw[Vn l]
  simp[ByteArray.push]
theorem Zu4(hh:bm P μ w st)(hr:RR μ r n a.tmps){src dst e:TypeId}{x:Operand}{s:Src}(hs:P.underlying src=some (.slice e))(hd:P.underlying dst=some .string)(he:P.underlying e=some (.int .u8))(hx:bu P x=some s)
  (h:BD s call r st=some (v,av)):bf P μ w st (do pure (.value (<-convert src dst (a.eval x)))) v av:=by
 unfold BD at h
 split at h
 ·rename_i hm
  simp only[ai,bo]at h
  obtain⟨rfl,rfl⟩:=h
  have h1:=cJ hh hr hx hm
  simp only[VR]at h1
  refine bf.value hh (x:=.string ByteArray.empty) ?_ (by simp only[VR];rfl)
  rw[h1,run_convert_bytes_string w src dst e none 0 0 hs he hd]
  simp[Conv.bytesToString]
 ·rename_i i o len cap hm
  obtain⟨l,c,hl,h1,_⟩:=cJ hh hr hx hm
  split at h
  ·rename_i cs e' oD aj
   split at h
   ·rename_i uR oW
    split at h
    ·rename_i s' hmm
     simp only[ai,bo]at h
     obtain⟨rfl,rfl⟩:=h
     obtain⟨xs,mE,yB,rI,_,_⟩:=(hh.row hl aj).uR oW
     obtain⟨ns,rfl,rfl⟩:=Yh2 mE hmm
     refine bf.value hh (x:=.string ⟨(ns.map (fun n=>UInt8.ofNat n.toNat)).toArray⟩) ?_ (by simp[VR])
     rw[h1,run_convert_bytes_string w src dst e _ _ _ hs he hd,run_bytesToString w _ len c ns rI,Vn]
     have GL:ByteArray.empty.data=#[]:=rfl
     rw[GL];simp
    ·cases h
   ·cases h
  ·cases h
 ·cases h
theorem Ko{i:Nat}{o:Obj}(h:w.heap[i]?=some o)(ho:∀c e f,o≠.cells c e f):(getObj i).run P w=.ok o w:=by
 simp only[getObj,Sem.run,h]
theorem gw.length:∀{es:List (V×V)} {xs:List MapEntry} {i:Nat},gw μ es xs i->xs.length=es.length
 |[],_,_,h=>by simp[gw]at h;simp[h]
 |(k,u)::es,_,i,h=>by
  obtain⟨e,ys,rfl,_,_,_,h5⟩:=h
  simp[gw.length h5]
theorem Zyo(hh:bm P μ w st)(hr:RR μ r n a.tmps){t ty:TypeId}{x:Operand}{s:Src}(ht:P.underlying t=some .string)(hx:bu P x=some s)
  (h:sP 0 s call r st=some (v,av)):bf P μ w st (do pure (.value (<-Builtin.len_ #[t] ty #[a.eval x]))) v av:=by
 unfold sP at h
 cases hm:s.ev r with
 |none=>simp[hm]at h
 |some q=>
  have h1:=cJ hh hr hx hm
  cases q<;>simp[hm]at h
  rename_i q
  obtain⟨rfl,rfl⟩:=h
  simp only[VR]at h1
  have h2:(⟨q.toArray⟩:ByteArray).size=q.length:=rfl
  exact bf.value hh (x:=.int .i64 q.length) (by simp[Builtin.len_,h1,run_underlying ht,goInt,h2, -ByteArray.size_data]) (by simp[VR])
theorem Zry(hh:bm P μ w st)(hr:RR μ r n a.tmps){t ty e:TypeId}{x:Operand}{s:Src}(ht:P.underlying t=some (.slice e))(hx:bu P x=some s)
  (h:sP 1 s call r st=some (v,av)):bf P μ w st (do pure (.value (<-Builtin.len_ #[t] ty #[a.eval x]))) v av:=by
 unfold sP at h
 cases hm:s.ev r with
 |none=>simp[hm]at h
 |some q=>
  have h1:=cJ hh hr hx hm
  cases q<;>simp[hm]at h
  case aa=>
   obtain⟨rfl,rfl⟩:=h
   simp only[VR]at h1
   exact bf.value hh (x:=.int .i64 0) (by simp[Builtin.len_,h1,run_underlying ht,goInt]) (by simp[VR])
  case empty=>
   obtain⟨rfl,rfl⟩:=h
   obtain⟨b,c,h1⟩:=h1
   exact bf.value hh (x:=.int .i64 0) (by simp[Builtin.len_,h1,run_underlying ht,goInt]) (by simp[VR])
  case slice i o len cap sz=>
   obtain⟨rfl,rfl⟩:=h
   obtain⟨l,c,_,h1,_⟩:=h1
   exact bf.value hh (x:=.int .i64 len) (by simp[Builtin.len_,h1,run_underlying ht,goInt]) (by simp[VR])
theorem Zyp(hh:bm P μ w st)(hr:RR μ r n a.tmps){t ty k e:TypeId}{x:Operand}{s:Src}(ht:P.underlying t=some (.map k e))(hx:bu P x=some s)
  (h:sP 2 s call r st=some (v,av)):bf P μ w st (do pure (.value (<-Builtin.len_ #[t] ty #[a.eval x]))) v av:=by
 unfold sP at h
 cases hm:s.ev r with
 |none=>simp[hm]at h
 |some q=>
  have h1:=cJ hh hr hx hm
  cases q<;>simp[hm]at h
  case bM=>
   obtain⟨rfl,rfl⟩:=h
   simp only[VR]at h1
   exact bf.value hh (x:=.int .i64 0) (by simp[Builtin.len_,h1,run_underlying ht,goInt]) (by simp[VR])
  case map i=>
   split at h
   ·rename_i es xm
    simp only[ai,bo]at h
    obtain⟨rfl,rfl⟩:=h
    obtain⟨l,hl,h1⟩:=h1
    obtain⟨fS,g1,g2⟩:=hh.get hl xm
    have hg:=Ko (P:=P) g1 (by simp)
    exact bf.value hh (x:=.int .i64 es.length) (by simp[Builtin.len_,h1,run_underlying ht,goInt,hg,Result.andThen,g2.length]) (by simp[VR])
   ·cases h
theorem Vo(hh:bm P μ w st){t ty:TypeId}{k:Nat}{x:Value}(ht:(∃e,P.underlying t=some (.array k e))\/∃u e,P.underlying t=some (.pointer u)/\P.underlying u=some (.array k e))
  (h:FQ k call r st=some (v,av)):bf P μ w st (do pure (.value (<-Builtin.len_ #[t] ty #[x]))) v av:=by
 unfold FQ at h
 simp only[ai,bo]at h
 obtain⟨rfl,rfl⟩:=h
 refine bf.value hh (x:=.int .i64 k) ?_ (by simp[VR])
 rcases ht with⟨e,h1⟩|⟨u,e,h1,h2⟩
 ·simp[Builtin.len_,run_underlying h1,goInt]
 ·simp[Builtin.len_,run_underlying h1,run_underlying h2,goInt]
theorem Ypa(hh:bm P μ w st)(hr:RR μ r n a.tmps){t ty e:TypeId}{x:Operand}{s:Src}(ht:P.underlying t=some (.slice e))(hx:bu P x=some s)
  (h:DZ s call r st=some (v,av)):bf P μ w st (do pure (.value (<-Builtin.cap_ #[t] ty #[a.eval x]))) v av:=by
 unfold DZ at h
 split at h
 ·rename_i hm
  simp only[ai,bo]at h
  obtain⟨rfl,rfl⟩:=h
  have h1:=cJ hh hr hx hm
  simp only[VR]at h1
  exact bf.value hh (x:=.int .i64 0) (by simp[Builtin.cap_,h1,run_underlying ht,goInt]) (by simp[VR])
 ·rename_i i o len k sz hm
  simp only[ai,bo]at h
  obtain⟨rfl,rfl⟩:=h
  obtain⟨l,c,_,h1,_,_,h5,_⟩:=cJ hh hr hx hm
  have hk:=h5 k rfl
  subst hk
  exact bf.value hh (x:=.int .i64 c) (by simp[Builtin.cap_,h1,run_underlying ht,goInt]) (by simp[VR])
 ·cases h
theorem Ycc:∀{l:List V} {u:V} {xs:List Value},rz (l)=some u->aW μ l xs->∃y ys z,xs=y::ys/\(ys.foldlM Builtin.min2 y).run P w=.ok z w/\VR μ u z:=by
 intro l
 induction l using rz.induct<;>intro u xs h hx
 case case1=>simp[rz]at h
 case case2 x=>
  simp only[rz,ai]at h;subst h
  obtain⟨y,ys,rfl,h1,h2⟩:=gg.1 hx
  simp only[aW]at h2;subst h2
  exact⟨y,[],y,rfl,by simp,h1⟩
 case case3 k p k' q rest ih=>
  simp only[rz]at h
  obtain⟨y,ys,rfl,h1,h2⟩:=gg.1 hx
  obtain⟨y',PD,rfl,h3,h4⟩:=gg.1 h2
  simp only[VR]at h1 h3
  subst h1;subst h3
  obtain⟨y,ys,z,e,hz,hv⟩:=ih h (xs:=.int k (if q<p then q else p)::PD) (gg.2 ⟨_,_,rfl,by simp[VR],h4⟩)
  simp only[fL]at e
  obtain⟨rfl,rfl⟩:=e
  exact⟨_,_,z,rfl,by simpa[Builtin.min2]using hz,hv⟩
 case case4 h1 h2 h3=>unfold rz at h;split at h<;>simp_all<;>exact absurd rfl (h3 _ _ _ _ _ rfl rfl rfl rfl)
theorem Yce:∀{l:List V} {u:V} {xs:List Value},rA (l)=some u->aW μ l xs->∃y ys z,xs=y::ys/\(ys.foldlM Builtin.max2 y).run P w=.ok z w/\VR μ u z:=by
 intro l
 induction l using rA.induct<;>intro u xs h hx
 case case1=>simp[rA]at h
 case case2 x=>
  simp only[rA,ai]at h;subst h
  obtain⟨y,ys,rfl,h1,h2⟩:=gg.1 hx
  simp only[aW]at h2;subst h2
  exact⟨y,[],y,rfl,by simp,h1⟩
 case case3 k p k' q rest ih=>
  simp only[rA]at h
  obtain⟨y,ys,rfl,h1,h2⟩:=gg.1 hx
  obtain⟨y',PD,rfl,h3,h4⟩:=gg.1 h2
  simp only[VR]at h1 h3
  subst h1;subst h3
  obtain⟨y,ys,z,e,hz,hv⟩:=ih h (xs:=.int k (if p<q then q else p)::PD) (gg.2 ⟨_,_,rfl,by simp[VR],h4⟩)
  simp only[fL]at e
  obtain⟨rfl,rfl⟩:=e
  exact⟨_,_,z,rfl,by simpa[Builtin.max2]using hz,hv⟩
 case case4 h1 h2 h3=>unfold rA at h;split at h<;>simp_all<;>exact absurd rfl (h3 _ _ _ _ _ rfl rfl rfl rfl)
theorem Yq1(hh:bm P μ w st)(hr:RR μ r n a.tmps){ts:Array TypeId}{ty:TypeId}{xs:Array Operand}{ss:List Src}(hx:qg P xs.toList=some ss)
  (h:tG ss call r st=some (v,av)):bf P μ w st (do pure (.value (<-Builtin.min_ ts ty (xs.map a.eval)))) v av:=by
 unfold tG at h
 split at h
 ·rename_i l hl
  split at h
  ·rename_i u hu
   simp only[ai,bo]at h
   obtain⟨rfl,rfl⟩:=h
   obtain⟨y,ys,z,e,hz,hv⟩:=Ycc (P:=P) (w:=w) (Ylf l▸hu) (B7 hh hr hx hl)
   refine bf.value hh (x:=z) ?_ hv
   simp only[Builtin.min_,Array.toList_map,e]
   exact hz
  ·cases h
 ·cases h
theorem Yq0(hh:bm P μ w st)(hr:RR μ r n a.tmps){ts:Array TypeId}{ty:TypeId}{xs:Array Operand}{ss:List Src}(hx:qg P xs.toList=some ss)
  (h:np ss call r st=some (v,av)):bf P μ w st (do pure (.value (<-Builtin.max_ ts ty (xs.map a.eval)))) v av:=by
 unfold np at h
 split at h
 ·rename_i l hl
  split at h
  ·rename_i u hu
   simp only[ai,bo]at h
   obtain⟨rfl,rfl⟩:=h
   obtain⟨y,ys,z,e,hz,hv⟩:=Yce (P:=P) (w:=w) (Yli l▸hu) (B7 hh hr hx hl)
   refine bf.value hh (x:=z) ?_ hv
   simp only[Builtin.max_,Array.toList_map,e]
   exact hz
  ·cases h
 ·cases h
end
section
variable {P:Program} {μ:Mu} {w:World} {st av:St} {r:T V} {n:Nat} {a:Act} {call:cA} {v:V}
theorem PE{t:TypeId}{kd:jb}(h:uD P t=some kd):(∃k,kd=.int k/\P.underlying t=some (.int k))\/(kd=.str/\P.underlying t=some .string):=by
 unfold uD at h
 split at h
 ·simp only[ai]at h;subst h;rename_i k hk;exact .inl ⟨k,rfl,hk⟩
 ·simp only[ai]at h;subst h;rename_i hk;exact .inr ⟨rfl,hk⟩
 ·cases h
theorem Vp{t:TypeId}{kd:jb}{d:TypeDesc}(hd:P.underlying t=some d)(h:uD P t=some kd){k q:V}{x y:Value}(hx:VR μ k x)(hy:VR μ q y){b:Bool}(hb:JK kd k q=some b):
  Instr.sameNow d x y=some b/\(b=true->x=y/\Instr.sameBits 10000 y x=true):=by
 rcases PE h with⟨kk,rfl,h1⟩|⟨rfl,h1⟩
 ·rw[hd,ai]at h1;subst h1
  cases k<;>cases q<;>simp only[JK,reduceCtorEq]at hb
  split at hb
  ·rename_i hc
   obtain⟨rfl,rfl⟩:=hc
   simp only[ai]at hb;subst hb
   simp only[VR]at hx hy
   subst hx;subst hy
   refine⟨by simp[Instr.sameNow],fun hb=>?_⟩
   simp only[beq_iff_eq]at hb
   subst hb
   simp[Instr.sameBits]
  ·cases hb
 ·rw[hd,ai]at h1;subst h1
  cases k<;>cases q<;>simp only[JK,reduceCtorEq]at hb
  rename_i s s'
  simp only[ai]at hb;subst hb
  simp only[VR]at hx hy
  subst hx;subst hy
  have e:((⟨s.toArray⟩:ByteArray)==⟨s'.toArray⟩)=(s==s'):=by
   show (s.toArray==s'.toArray)=(s==s')
   simp
  refine⟨by simp only[Instr.sameNow,e],fun hb=>?_⟩
  simp only[beq_iff_eq]at hb
  subst hb
  exact⟨rfl,by simp only[Instr.sameBits];rw[e];simp⟩
theorem Kp{t:TypeId}{kd:jb}{d:TypeDesc}(hd:P.underlying t=some d)(h:uD P t=some kd){k:V}{x:Value}(hx:VR μ k x):
  ∀{es:List (V×V)} {xs:List MapEntry} {i b:Nat} {o:Option (Nat×V)},gw μ es xs b->eD kd k es i=some o->
   match o with
   |none=>Instr.findNow d x xs i=some none
   |some (j,u)=>∃e:MapEntry,i<=j/\xs[j-i]?=some e/\VR μ u e.val/\Instr.findNow d x xs i=some (some (j,e.val))/\x=e.key/\Instr.sameBits 10000 e.key x=true:=by
 intro es
 induction es with
 |nil=>
  intro xs i b o hm hf
  simp only[gw]at hm;subst hm
  simp only[eD,ai]at hf;subst hf
  simp[Instr.findNow]
 |cons p es ih=>
  intro xs i b o hm hf
  obtain⟨q,u⟩:=p
  obtain⟨e,ys,rfl,h1,h2,h3,h4⟩:=hm
  simp only[eD]at hf
  split at hf
  ·rename_i hb
   simp only[ai]at hf;subst hf
   obtain⟨g1,g2⟩:=Vp hd h hx h1 hb
   exact⟨e,aV _,by simp,h2,by simp[Instr.findNow,g1],(g2 rfl).1,(g2 rfl).2⟩
  ·rename_i hb
   obtain⟨g1,_⟩:=Vp hd h hx h1 hb
   have:=ih h4 hf
   cases o with
   |none=>simpa[Instr.findNow,g1]using this
   |some ju=>
    obtain⟨j,u'⟩:=ju
    obtain⟨e',k1,k2,k3,k4,k5⟩:=this
    refine⟨e',by omega,?_,k3,by simpa[Instr.findNow,g1]using k4,k5⟩
    rw[show j-i=(j-(i+1))+1 by omega]
    simpa using k2
  ·cases hf
theorem Zpv{t:TypeId}{kd:jb}(h:uD P t=some kd){b:Bool}{x:Value}(q:Nat):(Instr.checkKey b (q+1) t x).run P w=.ok () w:=by
 rcases PE h with⟨kk,rfl,h1⟩|⟨rfl,h1⟩
 ·cases x<;>simp only[Instr.checkKey,Sem.run_bind,run_underlying h1,Result.andThen_ok,Sem.run_pure]
 ·cases x<;>simp only[Instr.checkKey,Sem.run_bind,run_underlying h1,Result.andThen_ok,Sem.run_pure]
theorem GM{t:TypeId}{kd:jb}(h:uD P t=some kd){b:Bool}{x:Value}:(Instr.checkKey b 10000 t x).run P w=.ok () w:=Zpv h 9999
theorem Vq{t:TypeId}{kd:jb}(h:uD P t=some kd):∃d,P.underlying t=some d:=by
 rcases PE h with⟨kk,_,h1⟩|⟨_,h1⟩<;>exact⟨_,h1⟩
theorem Ych(hh:bm P μ w st)(hr:RR μ r n a.tmps){t kt e:TypeId}{x y:Operand}{sm sk:Src}{kd:jb}{z:V}{ok:Bool}(ht:P.underlying t=some (.map kt e))(hk:uD P kt=some kd)(hz:lD P e=some z)
  (hx:bu P x=some sm) (hy:bu P y=some sk) (h:BH kd z sm sk ok call r st=some (v,av)):
  bf P μ w st (do pure (.value (<-Instr.lookup t (a.eval x) (a.eval y) ok))) v av:=by
 unfold BH at h
 split at h
 ·rename_i m k hm A1
  have h1:=cJ hh hr hx hm
  have h2:=cJ hh hr hy A1
  obtain⟨d,hd⟩:=Vq hk
  obtain⟨zx,En,tP⟩:=UD (w:=w) hz
  split at h
  ·cases m<;>simp at h
   case bM=>
    simp only[VR]at h1
    simp only[eD,ai,bo]at h
    obtain⟨rfl,rfl⟩:=h
    refine bf.value hh (x:=if ok then .tuple #[zx,.bool false] else zx) ?_ ?_
    ·simp[Instr.lookup,run_underlying ht,h1,GM hk,Instr.findKey,run_underlying hd,Instr.findNow,En,Result.andThen]
    ·cases ok
     ·simpa using tP μ
     ·simp only[if_true,VR];exact⟨_,rfl,by simp[aW,VR];exact tP μ⟩
   case map i=>
    obtain⟨l,hl,h1⟩:=h1
    split at h
    ·rename_i es xm
     split at xm
     ·rename_i es0 hg
      simp only[ai]at xm;subst xm
      obtain⟨fS,g1,g2⟩:=hh.get hl hg
      have o8:=Ko (P:=P) g1 (by simp)
      split at h
      ·rename_i j u ho
       simp only[ai,bo]at h
       obtain⟨rfl,rfl⟩:=h
       obtain⟨en,_,_,k3,k4,_⟩:=Kp hd hk h2 g2 ho
       refine bf.value hh (x:=if ok then .tuple #[en.val,.bool true] else en.val) ?_ ?_
       ·simp[Instr.lookup,run_underlying ht,h1,o8,GM hk,Instr.findKey,run_underlying hd,k4,Result.andThen]
       ·cases ok
        ·simpa using k3
        ·simp only[if_true,VR];exact⟨_,rfl,by simp[aW,VR];exact k3⟩
      ·rename_i ho
       simp only[ai,bo]at h
       obtain⟨rfl,rfl⟩:=h
       have k4:=Kp hd hk h2 g2 ho
       simp only at k4
       refine bf.value hh (x:=if ok then .tuple #[zx,.bool false] else zx) ?_ ?_
       ·simp[Instr.lookup,run_underlying ht,h1,o8,GM hk,Instr.findKey,run_underlying hd,k4,En,Result.andThen]
       ·cases ok
        ·simpa using tP μ
        ·simp only[if_true,VR];exact⟨_,rfl,by simp[aW,VR];exact tP μ⟩
      ·cases h
     ·cases xm
    ·cases h
  ·cases h
 ·cases h
theorem PF(w:World)(b:Nat)(o:Obj):({w with heap:=w.heap.setIfInBounds b o}:World).heap[b]?=if b<w.heap.size then some o else none:=by
 show (w.heap.setIfInBounds b o)[b]?=_
 rw[Array.getElem?_setIfInBounds]
 simp
theorem PG{i:Nat}{o o':Obj}(h:w.heap[i]?=some o)(ho:∀c e f,o≠.cells c e f):(setObj i o').run P w=.ok () {w with heap:=w.heap.setIfInBounds i o'}:=by
 simp only[setObj,Sem.run,h]
theorem bB.setObj(hh:bm P μ w st){i:Nat}{l:L}(hl:μ i=some l){o o':O}(hg:st.h.get i=some o)(hw:o.wr=true){ob:Obj}
  (hm:OM P μ {w with heap:=w.heap.setIfInBounds l.b ob} o' l):bB P μ w st μ {w with heap:=w.heap.setIfInBounds l.b ob} (st.write i o') [i]:=
 bB.write hh hl hg hw rfl rfl rfl (by simp) (fun b hb=>by
  show (w.heap.setIfInBounds l.b ob)[b]?=_
  rw[DM (Ne.symm hb)]) hm
theorem gw.set:∀{es:List (V×V)} {xs:List MapEntry} {b:Nat},gw μ es xs b->∀{j:Nat} {k u:V} {x y:Value},VR μ k x->VR μ u y->∀{e:MapEntry},xs[j]?=some e->
  gw μ (es.set j (k,u)) (xs.set j {e with key:=x,val:=y}) b
 |[],xs,b,h,j,k,u,x,y,_,_,e,he=>by simp[gw]at h;subst h;simp at he
 |(k0,u0)::es,xs,b,h,j,k,u,x,y,h1,h2,e,he=>by
  obtain⟨e0,ys,rfl,g1,g2,g3,g4⟩:=h
  cases j with
  |zero=>simp at he;subst he;exact⟨_,_,rfl,h1,h2,g3,g4⟩
  |succ j=>exact⟨e0,_,rfl,g1,g2,g3,gw.set g4 h1 h2 (by simpa using he)⟩
theorem gw.push:∀{es:List (V×V)} {xs:List MapEntry} {b:Nat},gw μ es xs b->∀{k u:V} {x y:Value},VR μ k x->VR μ u y->∀{c:Nat},c=b+xs.length->
  gw μ (es++[(k,u)]) (xs++[{key:=x,val:=y,born:=c}]) b
 |[],xs,b,h,k,u,x,y,h1,h2,c,hc=>by simp[gw]at h;subst h;exact⟨_,_,rfl,h1,h2,by simpa using hc,rfl⟩
 |(k0,u0)::es,xs,b,h,k,u,x,y,h1,h2,c,hc=>by
  obtain⟨e0,ys,rfl,g1,g2,g3,g4⟩:=h
  exact⟨e0,_,rfl,g1,g2,g3,gw.push g4 h1 h2 (by simp at hc;omega)⟩
theorem bf.skip{s:Sem Unit}{w':World}{μ':Mu}{ws:List Nat}(hs:s.run P w=.ok () w')(h:bB P μ w st μ' w' av ws):bf P μ w st (do s;pure .skip) (.bb []) av:=
 ⟨.skip,undef,w',μ',ws,by simp[hs,Result.andThen],.inr ⟨rfl,rfl⟩,⟨[],rfl,by simp[aW]⟩,h⟩
theorem Vr(hh:bm P μ w st)(hr:RR μ r n a.tmps){t kt e:TypeId}{x y z:Operand}{sm sk sv:Src}{kd:jb}(ht:P.underlying t=some (.map kt e))(hk:uD P kt=some kd)
  (hx:bu P x=some sm) (hy:bu P y=some sk) (hz:bu P z=some sv) (h:zS kd sm sk sv call r st=some (v,av)):
  bf P μ w st (do Instr.mapUpdate t (a.eval x) (a.eval y) (a.eval z);pure .skip) v av:=by
 unfold zS at h
 split at h
 ·rename_i i k u hm A1 hu
  obtain⟨l,hl,h1⟩:=cJ hh hr hx hm
  have h2:=cJ hh hr hy A1
  have h3:=cJ hh hr hz hu
  obtain⟨d,hd⟩:=Vq hk
  split at h
  ·split at h
   ·rename_i es xm
    obtain⟨fS,g1,g2⟩:=hh.get hl xm
    have o8:=Ko (P:=P) g1 (by simp)
    have hb:l.b<w.heap.size:=(hh.cK i l hl).2
    split at h
    ·rename_i j _ hf
     simp only[ai,bo]at h
     obtain⟨rfl,rfl⟩:=h
     obtain⟨en,k1,k2,k3,k4,k5,k6⟩:=Kp hd hk h2 g2 hf
     simp only[Nat.sub_zero]at k2
     have GN:=PG (P:=P) (o':=.map ((⟨fS⟩:Array MapEntry).modify j fun e=>{e with key:=a.eval y,val:=a.eval z}) fS.length) g1 (by simp)
     refine bf.skip (μ':=μ) (ws:=[i]) (w':={w with heap:=w.heap.setIfInBounds l.b (.map ((⟨fS⟩:Array MapEntry).modify j fun e=>{e with key:=a.eval y,val:=a.eval z}) fS.length)}) ?_ (bB.setObj hh hl xm rfl ⟨fS.set j {en with key:=a.eval y,val:=a.eval z},?_,?_⟩)
     ·have GO:(Instr.keyThatStays en.key (a.eval y)).run P w=.ok (a.eval y) w:=by
       simp[Instr.keyThatStays,k6]
      have cF:(((⟨fS⟩:Array MapEntry)[j]?).map (·.key)).getD (a.eval y)=en.key:=by simp[k2]
      simp only[Instr.mapUpdate,Sem.run_bind,run_underlying ht,Result.andThen,h1,o8,GM hk,Instr.findKey,run_underlying hd,k4,Sem.run_pure,cF,GO,GN]
     ·rw[PF,aF hb]
      congr 2
      ·apply uM
       apply iW
       intro q
       rw[uI,Array.getElem?_modify]
       by_cases e:j=q
       ·subst e
        obtain⟨hj,hje⟩:=tn.1 k2
        simp[hj,hje]
       ·simp[e,dr e]
      ·simp
     ·exact g2.set h2 h3 k2
    ·rename_i hf
     simp only[ai,bo]at h
     obtain⟨rfl,rfl⟩:=h
     have k4:=Kp hd hk h2 g2 hf
     simp only at k4
     have GN:=PG (P:=P) (o':=.map ((⟨fS⟩:Array MapEntry).push {key:=a.eval y,val:=a.eval z,born:=fS.length}) (fS.length+1)) g1 (by simp)
     refine bf.skip (μ':=μ) (ws:=[i]) (w':={w with heap:=w.heap.setIfInBounds l.b (.map ((⟨fS⟩:Array MapEntry).push {key:=a.eval y,val:=a.eval z,born:=fS.length}) (fS.length+1))}) ?_ (bB.setObj hh hl xm rfl ⟨fS++[{key:=a.eval y,val:=a.eval z,born:=fS.length}],?_,?_⟩)
     ·simp only[Instr.mapUpdate,Sem.run_bind,run_underlying ht,Result.andThen,h1,o8,GM hk,Instr.findKey,run_underlying hd,k4,Sem.run_pure,GN]
     ·rw[PF,aF hb]
      simp
     ·exact g2.push h2 h3 (by simp)
    ·cases h
   ·cases h
  ·cases h
 ·cases h
theorem Zx4(hh:bm P μ w st)(hr:RR μ r n a.tmps){ty:TypeId}{x:Operand}{s:Src}(hx:bu P x=some s)
  (h:BJ s call r st=some (v,av)):bf P μ w st (do pure (.value (<-Instr.next (a.eval x) true ty))) v av:=by
 unfold BJ at h
 split at h
 ·rename_i i hm
  obtain⟨l,hl,h1⟩:=cJ hh hr hx hm
  split at h
  ·rename_i q pos hg
   obtain⟨g1,g2⟩:=hh.get hl hg
   rw[g2]at h1
   have o8:=Ko (P:=P) g1 (by simp)
   have hb:l.b<w.heap.size:=(hh.cK i l hl).2
   have iz:(⟨q.toArray⟩:ByteArray).size=q.length:=rfl
   split at h
   ·rename_i hp
    simp only[ai,bo]at h
    obtain⟨rfl,rfl⟩:=h
    have GN:=PG (P:=P) (o':=.stringIter ⟨q.toArray⟩ (pos+(Utf8.decode ⟨q.toArray⟩ pos).2)) g1 (by simp)
    refine⟨.value (.tuple #[.bool true,.int .i64 pos,.int .i32 (Utf8.decode ⟨q.toArray⟩ pos).1]),_,_,μ,[i],?_,.inl rfl,?_,bB.setObj hh hl hg rfl (ob:=.stringIter ⟨q.toArray⟩ (pos+(Utf8.decode ⟨q.toArray⟩ pos).2)) ⟨?_,g2⟩⟩
    ·simp[Instr.next,h1,o8,Result.andThen,iz,hp,GN,goInt, -ByteArray.size_data]
    ·simp only[VR];exact⟨_,rfl,by simp[aW,VR]⟩
    ·rw[PF,aF hb]
   ·rename_i hp
    simp only[ai,bo]at h
    obtain⟨rfl,rfl⟩:=h
    refine bf.value hh (x:=.tuple #[.bool false]) ?_ (by simp only[VR];exact⟨_,rfl,by simp[aW,VR]⟩)
    simp[Instr.next,h1,o8,Result.andThen,iz,hp, -ByteArray.size_data]
  ·cases h
 ·cases h
end
end Go.Mx
