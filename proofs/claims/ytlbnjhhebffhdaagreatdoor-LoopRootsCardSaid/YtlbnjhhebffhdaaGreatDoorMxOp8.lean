/-The operations of M stand for the Go mod-/
import Derived.Test.YtlbnjhhebffhdaaGreatDoorMxOp5
import Derived.Laws.IdiomStrings
import Derived.Lib.Bytealg
import Derived.Shelf.Spec.BitsCarry
set_option linter.all false
namespace Go.Mx
open Go
section
variable {P:Program} {μ:Mu} {w:World} {st st':St} {r:T V} {n:Nat} {a:Act} {call:cP} {v:V}
def Za9.Ef(h:Za9 P μ w st):Za9 P μ w.drew st:=h.drew (w.drawn+1)
def bK.zP{μ':Mu}{w':World}{ws:List Nat}(h:bK P μ w.drew st μ' w' st' ws):bK P μ w st μ' w' st' ws:=
 ⟨h.hr,h.ext,h.gW,h.wl,⟨h.eC.os,h.eC.tape,h.eC.output,h.eC.size,h.eC.block⟩,h.new,h.ai,h.grow,h.full,h.xQ⟩
def bK.newRow(hh:Za9 P μ w st){cs:List V}{xs:List Value}{e:TypeId}{lo hi:Nat}
  (hle:cs.length<=xs.length) (hc:∀(j:Nat) (u:V),cs[j]?=some u->∃x,xs[j]?=some x/\VR μ u x) (h1:∀x∈xs,x.oneCell'=true) (hf:xs.length<=lo\/hi<=lo):
  bK P μ w st (fun i=>if i=st.n then some ⟨w.heap.size,0,xs.length⟩ else μ i) (w.alloc (.cells ⟨xs⟩ e (lo,hi))) (st.alloc (.cells cs e true)) []:=by
 have dE:∀i l,μ i=some l->(fun i=>if i=st.n then some (⟨w.heap.size,0,xs.length⟩:L) else μ i) i=some l:=fun i l hl=>by
  have:=(hh.dom i l hl).1
  simp only
  rw[aA (by omega)];exact hl
 refine bK.alloc hh (.cells cs e true) (.cells ⟨xs⟩ e (lo,hi)) 0 xs.length ⟨⟨xs⟩,lo,hi,?_,by simp,hle,fun j u hu=>?_,fun j y _ hy=>?_,fun _=>⟨rfl,fun j hj=>by simp only at hj ⊢;omega⟩⟩
 ·simp
 ·obtain⟨y,hy,hr⟩:=hc j u hu
  exact⟨y,by simpa using hy,VR.mono dE u y hr⟩
 ·exact h1 y (eI (by simpa using hy))
def Za5.CC(hh:Za9 P μ w st){s:Sem Value}{x:Value}{cs:List V}{xs:List Value}{e:TypeId}{lo hi:Nat}(hs:s.run P w=.ok x (w.drew.alloc (.cells ⟨xs⟩ e (lo,hi))))
  (hle:cs.length<=xs.length) (hc:∀(j:Nat) (u:V),cs[j]?=some u->∃x,xs[j]?=some x/\VR μ u x) (h1:∀x∈xs,x.oneCell'=true) (hf:xs.length<=lo\/hi<=lo)
  (hv:VR (fun i=>if i=st.n then some ⟨w.heap.size,0,xs.length⟩ else μ i) v x):
  Za5 P μ w st (do pure (.value (<-s))) v (st.alloc (.cells cs e true)):=
 ⟨Next.value x,x,_,_,[],by simp only[Sem.run_bind,hs,Result.andThen,Sem.run_pure],.inl rfl,hv,(bK.newRow hh.Ef hle hc h1 hf (hi:=hi)).zP⟩
def Zt5(hh:Za9 P μ w st)(hr:RR μ r n a.tmps){src dst e:TypeId}{x:Operand}{s:Src}(hs:P.underlying src=some .string)(hd:P.underlying dst=some (.slice e))(he:P.underlying e=some (.int .u8))(hx:bG P x=some s)
  (h:DL e s call r st=some (v,st')):Za5 P μ w st (do pure (.value (<-convert src dst (a.eval x)))) v st':=by
 unfold DL at h
 split at h
 ·rename_i m hm
  simp only[au,bE]at h
  obtain⟨rfl,rfl⟩:=h
  have h1:=cU hh hr hx hm
  simp only[VR]at h1
  have bQ:=run_bytes_of_string (P:=P) w src dst e ⟨m.toArray⟩ hs hd he
  rw[<-h1]at bQ
  have Cy:=grownCap_ge w m.length 0 e
  have jm:(⟨m.toArray⟩:ByteArray).size=m.length:=by simp[ByteArray.size]
  rw[jm]at bQ
  have hl:(bytesRow ⟨m.toArray⟩ (grownCap w m.length 0 e)).toList=m.map (fun b=>Value.int .u8 b.toNat)++List.replicate (grownCap w m.length 0 e-m.length) (.int .u8 0):=by
   simp[bytesRow,jm]
  have Pb:(bytesRow ⟨m.toArray⟩ (grownCap w m.length 0 e)).size=m.length+(grownCap w m.length 0 e-m.length):=by
   rw[<-Array.length_toList,hl];simp
  refine Za5.CC hh (v:=.slice st.n 0 m.length none 1) (xs:=(bytesRow ⟨m.toArray⟩ (grownCap w m.length 0 e)).toList) (lo:=_) (hi:=_) bQ ?_ ?_ ?_ (.inl (by simp)) ?_
  ·rw[hl];simp
  ·intro j u hu
   rw[hl]
   have hj:j<m.length:=by
    have:=(AM.1 hu).1
    simpa using this
   refine⟨_,xJ (by simpa using hj) |>.trans (jT ..) |>.trans (by rw[Yv8 hj];rfl),?_⟩
   simp only[jT,Yv8 hj,BX,au]at hu
   rw[<-hu];simp[VR]
  ·intro y hy
   rw[hl]at hy
   simp only[tg,vo,LA]at hy
   rcases hy with⟨b,_,rfl⟩|⟨_,rfl⟩<;>rfl
  ·simp only[VR]
   refine⟨⟨w.heap.size,0,_⟩,grownCap w m.length 0 e,by simp;rfl,by simp,Cy,?_,by simp,fun _=>?_⟩
   ·simp only[Pb];omega
   ·simp only[Pb];omega
 ·cases h
def Yjv{l:List V}{s:List UInt8}{xs:List Value}(h:bf μ l xs)(hm:l.mapM (fun v=>match v with|.int .u8 n=>some (UInt8.ofNat n.toNat)|_=>none)=some s):
  ∃ns:List Int,xs=ns.map (Value.int .u8)/\s=ns.map (fun n=>UInt8.ofNat n.toNat):=by
 induction l generalizing s xs with
 |nil=>
  simp only[List.mapM_nil,pure,au]at hm
  subst hm
  simp only[bf]at h
  exact⟨[],by simp[h],rfl⟩
 |cons u l ih=>
  obtain⟨y,ys,rfl,h1,h2⟩:=Zau.1 h
  simp only[List.mapM_cons]at hm
  cases u<;>simp only[bind,Option.bind,reduceCtorEq]at hm
  rename_i k q
  cases k<;>simp only[reduceCtorEq]at hm
  split at hm
  ·cases hm
  ·rename_i s' gg
   simp only[pure,au]at hm
   subst hm
   obtain⟨ns,rfl,rfl⟩:=ih h2 gg
   simp only[VR]at h1
   exact⟨q::ns,by simp[h1],by simp⟩
def Zht:∀(l:List Int) (r:ByteArray),l.foldl (fun r n=>r.push (UInt8.ofNat n.toNat)) r=⟨r.data++(l.map (fun n=>UInt8.ofNat n.toNat)).toArray⟩
 |[],r=>by simp
 |b::l,r=>by
  simp only[List.foldl_cons]
  rw[Zht l]
  simp[ByteArray.push]
def Zv5(hh:Za9 P μ w st)(hr:RR μ r n a.tmps){src dst e:TypeId}{x:Operand}{s:Src}(hs:P.underlying src=some (.slice e))(hd:P.underlying dst=some .string)(he:P.underlying e=some (.int .u8))(hx:bG P x=some s)
  (h:IT s call r st=some (v,st')):Za5 P μ w st (do pure (.value (<-convert src dst (a.eval x)))) v st':=by
 unfold IT at h
 split at h
 ·rename_i hm
  simp only[au,bE]at h
  obtain⟨rfl,rfl⟩:=h
  have h1:=cU hh hr hx hm
  simp only[VR]at h1
  refine Za5.value hh (x:=.string ByteArray.empty) ?_ (by simp only[VR];rfl)
  rw[h1,run_convert_bytes_string w src dst e none 0 0 hs he hd]
  simp[Conv.bytesToString]
 ·rename_i i o len cap hm
  obtain⟨l,c,hl,h1,_⟩:=cU hh hr hx hm
  split at h
  ·rename_i cs e' yL zgc
   split at h
   ·rename_i seg sG
    split at h
    ·rename_i s' hmm
     simp only[au,bE]at h
     obtain⟨rfl,rfl⟩:=h
     obtain⟨xs,pr,Cs,vW,_,_⟩:=(hh.row hl zgc).seg sG
     obtain⟨ns,rfl,rfl⟩:=Yjv pr hmm
     refine Za5.value hh (x:=.string ⟨(ns.map (fun n=>UInt8.ofNat n.toNat)).toArray⟩) ?_ (by simp[VR])
     rw[h1,run_convert_bytes_string w src dst e _ _ _ hs he hd,run_bytesToString w _ len c ns vW,Zht]
     have Pc:ByteArray.empty.data=#[]:=rfl
     rw[Pc];simp
    ·cases h
   ·cases h
  ·cases h
 ·cases h
def TW{i:Nat}{o:Obj}(h:w.heap[i]?=some o)(ho:∀c e f,o≠.cells c e f):(getObj i).run P w=.ok o w:=by
 simp only[getObj,Sem.run,h]
def iC.length:∀{es:List (V×V)} {xs:List MapEntry} {i:Nat},iC μ es xs i->xs.length=es.length
 |[],_,_,h=>by simp[iC]at h;simp[h]
 |(k,u)::es,_,i,h=>by
  obtain⟨e,ys,rfl,_,_,_,h5⟩:=h
  simp[iC.length h5]
def Zz2(hh:Za9 P μ w st)(hr:RR μ r n a.tmps){t ty:TypeId}{x:Operand}{s:Src}(ht:P.underlying t=some .string)(hx:bG P x=some s)
  (h:xd 0 s call r st=some (v,st')):Za5 P μ w st (do pure (.value (<-Builtin.len_ #[t] ty #[a.eval x]))) v st':=by
 unfold xd at h
 cases hm:s.ev r with
 |none=>simp[hm]at h
 |some q=>
  have h1:=cU hh hr hx hm
  cases q<;>simp[hm]at h
  rename_i q
  obtain⟨rfl,rfl⟩:=h
  simp only[VR]at h1
  have h2:(⟨q.toArray⟩:ByteArray).size=q.length:=rfl
  exact Za5.value hh (x:=.int .i64 q.length) (by simp[Builtin.len_,h1,run_underlying ht,goInt,h2, -ByteArray.size_data]) (by simp[VR])
def Zsq(hh:Za9 P μ w st)(hr:RR μ r n a.tmps){t ty e:TypeId}{x:Operand}{s:Src}(ht:P.underlying t=some (.slice e))(hx:bG P x=some s)
  (h:xd 1 s call r st=some (v,st')):Za5 P μ w st (do pure (.value (<-Builtin.len_ #[t] ty #[a.eval x]))) v st':=by
 unfold xd at h
 cases hm:s.ev r with
 |none=>simp[hm]at h
 |some q=>
  have h1:=cU hh hr hx hm
  cases q<;>simp[hm]at h
  case ziA=>
   obtain⟨rfl,rfl⟩:=h
   simp only[VR]at h1
   exact Za5.value hh (x:=.int .i64 0) (by simp[Builtin.len_,h1,run_underlying ht,goInt]) (by simp[VR])
  case empty=>
   obtain⟨rfl,rfl⟩:=h
   obtain⟨b,c,h1⟩:=h1
   exact Za5.value hh (x:=.int .i64 0) (by simp[Builtin.len_,h1,run_underlying ht,goInt]) (by simp[VR])
  case slice i o len cap sz=>
   obtain⟨rfl,rfl⟩:=h
   obtain⟨l,c,_,h1,_⟩:=h1
   exact Za5.value hh (x:=.int .i64 len) (by simp[Builtin.len_,h1,run_underlying ht,goInt]) (by simp[VR])
def Zz3(hh:Za9 P μ w st)(hr:RR μ r n a.tmps){t ty k e:TypeId}{x:Operand}{s:Src}(ht:P.underlying t=some (.map k e))(hx:bG P x=some s)
  (h:xd 2 s call r st=some (v,st')):Za5 P μ w st (do pure (.value (<-Builtin.len_ #[t] ty #[a.eval x]))) v st':=by
 unfold xd at h
 cases hm:s.ev r with
 |none=>simp[hm]at h
 |some q=>
  have h1:=cU hh hr hx hm
  cases q<;>simp[hm]at h
  case bU=>
   obtain⟨rfl,rfl⟩:=h
   simp only[VR]at h1
   exact Za5.value hh (x:=.int .i64 0) (by simp[Builtin.len_,h1,run_underlying ht,goInt]) (by simp[VR])
  case map i=>
   split at h
   ·rename_i es Bh
    simp only[au,bE]at h
    obtain⟨rfl,rfl⟩:=h
    obtain⟨l,hl,h1⟩:=h1
    obtain⟨es',g1,g2⟩:=hh.get hl Bh
    have hg:=TW (P:=P) g1 (by simp)
    exact Za5.value hh (x:=.int .i64 es.length) (by simp[Builtin.len_,h1,run_underlying ht,goInt,hg,Result.andThen,g2.length]) (by simp[VR])
   ·cases h
def Zsr(hh:Za9 P μ w st){t ty:TypeId}{k:Nat}{x:Value}(ht:(∃e,P.underlying t=some (.array k e))\/∃u e,P.underlying t=some (.pointer u)/\P.underlying u=some (.array k e))
  (h:Oa k call r st=some (v,st')):Za5 P μ w st (do pure (.value (<-Builtin.len_ #[t] ty #[x]))) v st':=by
 unfold Oa at h
 simp only[au,bE]at h
 obtain⟨rfl,rfl⟩:=h
 refine Za5.value hh (x:=.int .i64 k) ?_ (by simp[VR])
 rcases ht with⟨e,h1⟩|⟨u,e,h1,h2⟩
 ·simp[Builtin.len_,run_underlying h1,goInt]
 ·simp[Builtin.len_,run_underlying h1,run_underlying h2,goInt]
def Yrh(hh:Za9 P μ w st)(hr:RR μ r n a.tmps){t ty e:TypeId}{x:Operand}{s:Src}(ht:P.underlying t=some (.slice e))(hx:bG P x=some s)
  (h:LL s call r st=some (v,st')):Za5 P μ w st (do pure (.value (<-Builtin.cap_ #[t] ty #[a.eval x]))) v st':=by
 unfold LL at h
 split at h
 ·rename_i hm
  simp only[au,bE]at h
  obtain⟨rfl,rfl⟩:=h
  have h1:=cU hh hr hx hm
  simp only[VR]at h1
  exact Za5.value hh (x:=.int .i64 0) (by simp[Builtin.cap_,h1,run_underlying ht,goInt]) (by simp[VR])
 ·rename_i i o len k sz hm
  simp only[au,bE]at h
  obtain⟨rfl,rfl⟩:=h
  obtain⟨l,c,_,h1,_,_,h5,_⟩:=cU hh hr hx hm
  have hk:=h5 k rfl
  subst hk
  exact Za5.value hh (x:=.int .i64 c) (by simp[Builtin.cap_,h1,run_underlying ht,goInt]) (by simp[VR])
 ·cases h
def Yd8:∀{l:List V} {u:V} {xs:List Value},vP (l)=some u->bf μ l xs->∃y ys z,xs=y::ys/\(ys.foldlM Builtin.min2 y).run P w=.ok z w/\VR μ u z:=by
 intro l
 induction l using vP.induct<;>intro u xs h hx
 case case1=>simp[vP]at h
 case case2 x=>
  simp only[vP,au]at h;subst h
  obtain⟨y,ys,rfl,h1,h2⟩:=Zau.1 hx
  simp only[bf]at h2;subst h2
  exact⟨y,[],y,rfl,by simp,h1⟩
 case case3 k p k' q rest ih=>
  simp only[vP]at h
  obtain⟨y,ys,rfl,h1,h2⟩:=Zau.1 hx
  obtain⟨y',ys',rfl,h3,h4⟩:=Zau.1 h2
  simp only[VR]at h1 h3
  subst h1;subst h3
  obtain⟨y,ys,z,e,hz,hv⟩:=ih h (xs:=.int k (if q<p then q else p)::ys') (Zau.2 ⟨_,_,rfl,by simp[VR],h4⟩)
  simp only[iA]at e
  obtain⟨rfl,rfl⟩:=e
  exact⟨_,_,z,rfl,by simpa[Builtin.min2]using hz,hv⟩
 case case4 h1 h2 h3=>unfold vP at h;split at h<;>simp_all<;>exact absurd rfl (h3 _ _ _ _ _ rfl rfl rfl rfl)
def Yec:∀{l:List V} {u:V} {xs:List Value},vQ (l)=some u->bf μ l xs->∃y ys z,xs=y::ys/\(ys.foldlM Builtin.max2 y).run P w=.ok z w/\VR μ u z:=by
 intro l
 induction l using vQ.induct<;>intro u xs h hx
 case case1=>simp[vQ]at h
 case case2 x=>
  simp only[vQ,au]at h;subst h
  obtain⟨y,ys,rfl,h1,h2⟩:=Zau.1 hx
  simp only[bf]at h2;subst h2
  exact⟨y,[],y,rfl,by simp,h1⟩
 case case3 k p k' q rest ih=>
  simp only[vQ]at h
  obtain⟨y,ys,rfl,h1,h2⟩:=Zau.1 hx
  obtain⟨y',ys',rfl,h3,h4⟩:=Zau.1 h2
  simp only[VR]at h1 h3
  subst h1;subst h3
  obtain⟨y,ys,z,e,hz,hv⟩:=ih h (xs:=.int k (if p<q then q else p)::ys') (Zau.2 ⟨_,_,rfl,by simp[VR],h4⟩)
  simp only[iA]at e
  obtain⟨rfl,rfl⟩:=e
  exact⟨_,_,z,rfl,by simpa[Builtin.max2]using hz,hv⟩
 case case4 h1 h2 h3=>unfold vQ at h;split at h<;>simp_all<;>exact absurd rfl (h3 _ _ _ _ _ rfl rfl rfl rfl)
def Ys4(hh:Za9 P μ w st)(hr:RR μ r n a.tmps){ts:Array TypeId}{ty:TypeId}{xs:Array Operand}{ss:List Src}(hx:uj P xs.toList=some ss)
  (h:wU ss call r st=some (v,st')):Za5 P μ w st (do pure (.value (<-Builtin.min_ ts ty (xs.map a.eval)))) v st':=by
 unfold wU at h
 split at h
 ·rename_i l hl
  split at h
  ·rename_i u hu
   simp only[au,bE]at h
   obtain⟨rfl,rfl⟩:=h
   obtain⟨y,ys,z,e,hz,hv⟩:=Yd8 (P:=P) (w:=w) (Ynf l▸hu) (Jj hh hr hx hl)
   refine Za5.value hh (x:=z) ?_ hv
   simp only[Builtin.min_,Array.toList_map,e]
   exact hz
  ·cases h
 ·cases h
def Ys2(hh:Za9 P μ w st)(hr:RR μ r n a.tmps){ts:Array TypeId}{ty:TypeId}{xs:Array Operand}{ss:List Src}(hx:uj P xs.toList=some ss)
  (h:o9 ss call r st=some (v,st')):Za5 P μ w st (do pure (.value (<-Builtin.max_ ts ty (xs.map a.eval)))) v st':=by
 unfold o9 at h
 split at h
 ·rename_i l hl
  split at h
  ·rename_i u hu
   simp only[au,bE]at h
   obtain⟨rfl,rfl⟩:=h
   obtain⟨y,ys,z,e,hz,hv⟩:=Yec (P:=P) (w:=w) (Yni l▸hu) (Jj hh hr hx hl)
   refine Za5.value hh (x:=z) ?_ hv
   simp only[Builtin.max_,Array.toList_map,e]
   exact hz
  ·cases h
 ·cases h
end
section
variable {P:Program} {μ:Mu} {w:World} {st st':St} {r:T V} {n:Nat} {a:Act} {call:cP} {v:V}
def Zn5{t:TypeId}{kd:ke}(h:y8 P t=some kd):(∃k,kd=.int k/\P.underlying t=some (.int k))\/(kd=.str/\P.underlying t=some .string):=by
 unfold y8 at h
 split at h
 ·simp only[au]at h;subst h;rename_i k hk;exact .inl ⟨k,rfl,hk⟩
 ·simp only[au]at h;subst h;rename_i hk;exact .inr ⟨rfl,hk⟩
 ·cases h
def Zss{t:TypeId}{kd:ke}{d:TypeDesc}(hd:P.underlying t=some d)(h:y8 P t=some kd){k q:V}{x y:Value}(hx:VR μ k x)(hy:VR μ q y){b:Bool}(hb:Tg kd k q=some b):
  Instr.sameNow d x y=some b/\(b=true->x=y/\Instr.sameBits 10000 y x=true):=by
 rcases Zn5 h with⟨kk,rfl,h1⟩|⟨rfl,h1⟩
 ·rw[hd,au]at h1;subst h1
  cases k<;>cases q<;>simp only[Tg,reduceCtorEq]at hb
  split at hb
  ·rename_i hc
   obtain⟨rfl,rfl⟩:=hc
   simp only[au]at hb;subst hb
   simp only[VR]at hx hy
   subst hx;subst hy
   refine⟨by simp[Instr.sameNow],fun hb=>?_⟩
   simp only[beq_iff_eq]at hb
   subst hb
   simp[Instr.sameBits]
  ·cases hb
 ·rw[hd,au]at h1;subst h1
  cases k<;>cases q<;>simp only[Tg,reduceCtorEq]at hb
  rename_i s s'
  simp only[au]at hb;subst hb
  simp only[VR]at hx hy
  subst hx;subst hy
  have e:((⟨s.toArray⟩:ByteArray)==⟨s'.toArray⟩)=(s==s'):=by
   show (s.toArray==s'.toArray)=(s==s')
   simp
  refine⟨by simp only[Instr.sameNow,e],fun hb=>?_⟩
  simp only[beq_iff_eq]at hb
  subst hb
  exact⟨rfl,by simp only[Instr.sameBits];rw[e];simp⟩
def TX{t:TypeId}{kd:ke}{d:TypeDesc}(hd:P.underlying t=some d)(h:y8 P t=some kd){k:V}{x:Value}(hx:VR μ k x):
  ∀{es:List (V×V)} {xs:List MapEntry} {i b:Nat} {o:Option (Nat×V)},iC μ es xs b->fw kd k es i=some o->
   match o with
   |none=>Instr.findNow d x xs i=some none
   |some (j,u)=>∃e:MapEntry,i<=j/\xs[j-i]?=some e/\VR μ u e.val/\Instr.findNow d x xs i=some (some (j,e.val))/\x=e.key/\Instr.sameBits 10000 e.key x=true:=by
 intro es
 induction es with
 |nil=>
  intro xs i b o hm hf
  simp only[iC]at hm;subst hm
  simp only[fw,au]at hf;subst hf
  simp[Instr.findNow]
 |cons p es ih=>
  intro xs i b o hm hf
  obtain⟨q,u⟩:=p
  obtain⟨e,ys,rfl,h1,h2,h3,h4⟩:=hm
  simp only[fw]at hf
  split at hf
  ·rename_i hb
   simp only[au]at hf;subst hf
   obtain⟨g1,g2⟩:=Zss hd h hx h1 hb
   exact⟨e,Yv5 _,by simp,h2,by simp[Instr.findNow,g1],(g2 rfl).1,(g2 rfl).2⟩
  ·rename_i hb
   obtain⟨g1,_⟩:=Zss hd h hx h1 hb
   have:=ih h4 hf
   cases o with
   |none=>simpa[Instr.findNow,g1]using this
   |some ju=>
    obtain⟨j,u'⟩:=ju
    obtain⟨e',k1,k2,k3,k4,k5⟩:=this
    refine⟨e',by omega,?_,k3,by simpa[Instr.findNow,g1]using k4,k5⟩
    rw[show j-i=(j-(i+1))+1 by omega]
    simpa using k2
  ·cases hf
def Zqi{t:TypeId}{kd:ke}(h:y8 P t=some kd){b:Bool}{x:Value}(q:Nat):(Instr.checkKey b (q+1) t x).run P w=.ok () w:=by
 rcases Zn5 h with⟨kk,rfl,h1⟩|⟨rfl,h1⟩
 ·cases x<;>simp only[Instr.checkKey,Sem.run_bind,run_underlying h1,Result.andThen_ok,Sem.run_pure]
 ·cases x<;>simp only[Instr.checkKey,Sem.run_bind,run_underlying h1,Result.andThen_ok,Sem.run_pure]
def Pd{t:TypeId}{kd:ke}(h:y8 P t=some kd){b:Bool}{x:Value}:(Instr.checkKey b 10000 t x).run P w=.ok () w:=Zqi h 9999
def Zxr{t:TypeId}{kd:ke}(h:y8 P t=some kd):∃d,P.underlying t=some d:=by
 rcases Zn5 h with⟨kk,_,h1⟩|⟨_,h1⟩<;>exact⟨_,h1⟩
def Yef(hh:Za9 P μ w st)(hr:RR μ r n a.tmps){t kt e:TypeId}{x y:Operand}{sm sk:Src}{kd:ke}{z:V}{ok:Bool}(ht:P.underlying t=some (.map kt e))(hk:y8 P kt=some kd)(hz:oo P e=some z)
  (hx:bG P x=some sm) (hy:bG P y=some sk) (h:IX kd z sm sk ok call r st=some (v,st')):
  Za5 P μ w st (do pure (.value (<-Instr.lookup t (a.eval x) (a.eval y) ok))) v st':=by
 unfold IX at h
 split at h
 ·rename_i m k hm hkk
  have h1:=cU hh hr hx hm
  have h2:=cU hh hr hy hkk
  obtain⟨d,hd⟩:=Zxr hk
  obtain⟨zx,Mi,ye⟩:=Zrz (w:=w) hz
  split at h
  ·cases m<;>simp at h
   case bU=>
    simp only[VR]at h1
    simp only[fw,au,bE]at h
    obtain⟨rfl,rfl⟩:=h
    refine Za5.value hh (x:=if ok then .tuple #[zx,.bool false] else zx) ?_ ?_
    ·simp[Instr.lookup,run_underlying ht,h1,Pd hk,Instr.findKey,run_underlying hd,Instr.findNow,Mi,Result.andThen]
    ·cases ok
     ·simpa using ye μ
     ·simp only[if_true,VR];exact⟨_,rfl,by simp[bf,VR];exact ye μ⟩
   case map i=>
    obtain⟨l,hl,h1⟩:=h1
    split at h
    ·rename_i es Bh
     split at Bh
     ·rename_i es0 hg
      simp only[au]at Bh;subst Bh
      obtain⟨es',g1,g2⟩:=hh.get hl hg
      have sJ:=TW (P:=P) g1 (by simp)
      split at h
      ·rename_i j u ho
       simp only[au,bE]at h
       obtain⟨rfl,rfl⟩:=h
       obtain⟨en,_,_,k3,k4,_⟩:=TX hd hk h2 g2 ho
       refine Za5.value hh (x:=if ok then .tuple #[en.val,.bool true] else en.val) ?_ ?_
       ·simp[Instr.lookup,run_underlying ht,h1,sJ,Pd hk,Instr.findKey,run_underlying hd,k4,Result.andThen]
       ·cases ok
        ·simpa using k3
        ·simp only[if_true,VR];exact⟨_,rfl,by simp[bf,VR];exact k3⟩
      ·rename_i ho
       simp only[au,bE]at h
       obtain⟨rfl,rfl⟩:=h
       have k4:=TX hd hk h2 g2 ho
       simp only at k4
       refine Za5.value hh (x:=if ok then .tuple #[zx,.bool false] else zx) ?_ ?_
       ·simp[Instr.lookup,run_underlying ht,h1,sJ,Pd hk,Instr.findKey,run_underlying hd,k4,Mi,Result.andThen]
       ·cases ok
        ·simpa using ye μ
        ·simp only[if_true,VR];exact⟨_,rfl,by simp[bf,VR];exact ye μ⟩
      ·cases h
     ·cases Bh
    ·cases h
  ·cases h
 ·cases h
def Zjc(w:World)(b:Nat)(o:Obj):({w with heap:=w.heap.setIfInBounds b o}:World).heap[b]?=if b<w.heap.size then some o else none:=by
 show (w.heap.setIfInBounds b o)[b]?=_
 rw[Array.getElem?_setIfInBounds]
 simp
def Zjd{i:Nat}{o o':Obj}(h:w.heap[i]?=some o)(ho:∀c e f,o≠.cells c e f):(setObj i o').run P w=.ok () {w with heap:=w.heap.setIfInBounds i o'}:=by
 simp only[setObj,Sem.run,h]
def bK.setObj(hh:Za9 P μ w st){i:Nat}{l:L}(hl:μ i=some l){o o':O}(hg:st.h.get i=some o)(hw:o.wr=true){ob:Obj}
  (hm:OM P μ {w with heap:=w.heap.setIfInBounds l.b ob} o' l):bK P μ w st μ {w with heap:=w.heap.setIfInBounds l.b ob} (st.write i o') [i]:=
 bK.write hh hl hg hw rfl rfl rfl (by simp) (fun b hb=>by
  show (w.heap.setIfInBounds l.b ob)[b]?=_
  rw[Lw (Ne.symm hb)]) hm
def iC.set:∀{es:List (V×V)} {xs:List MapEntry} {b:Nat},iC μ es xs b->∀{j:Nat} {k u:V} {x y:Value},VR μ k x->VR μ u y->∀{e:MapEntry},xs[j]?=some e->
  iC μ (es.set j (k,u)) (xs.set j {e with key:=x,val:=y}) b
 |[],xs,b,h,j,k,u,x,y,_,_,e,he=>by simp[iC]at h;subst h;simp at he
 |(k0,u0)::es,xs,b,h,j,k,u,x,y,h1,h2,e,he=>by
  obtain⟨e0,ys,rfl,g1,g2,g3,g4⟩:=h
  cases j with
  |zero=>simp at he;subst he;exact⟨_,_,rfl,h1,h2,g3,g4⟩
  |succ j=>exact⟨e0,_,rfl,g1,g2,g3,iC.set g4 h1 h2 (by simpa using he)⟩
def iC.push:∀{es:List (V×V)} {xs:List MapEntry} {b:Nat},iC μ es xs b->∀{k u:V} {x y:Value},VR μ k x->VR μ u y->∀{c:Nat},c=b+xs.length->
  iC μ (es++[(k,u)]) (xs++[{key:=x,val:=y,born:=c}]) b
 |[],xs,b,h,k,u,x,y,h1,h2,c,hc=>by simp[iC]at h;subst h;exact⟨_,_,rfl,h1,h2,by simpa using hc,rfl⟩
 |(k0,u0)::es,xs,b,h,k,u,x,y,h1,h2,c,hc=>by
  obtain⟨e0,ys,rfl,g1,g2,g3,g4⟩:=h
  exact⟨e0,_,rfl,g1,g2,g3,iC.push g4 h1 h2 (by simp at hc;omega)⟩
def Za5.skip{s:Sem Unit}{w':World}{μ':Mu}{ws:List Nat}(hs:s.run P w=.ok () w')(h:bK P μ w st μ' w' st' ws):Za5 P μ w st (do s;pure .skip) (.aX []) st':=
 ⟨.skip,undef,w',μ',ws,by simp[hs,Result.andThen],.inr ⟨rfl,rfl⟩,⟨[],rfl,by simp[bf]⟩,h⟩
def Zso(hh:Za9 P μ w st)(hr:RR μ r n a.tmps){t kt e:TypeId}{x y z:Operand}{sm sk sv:Src}{kd:ke}(ht:P.underlying t=some (.map kt e))(hk:y8 P kt=some kd)
  (hx:bG P x=some sm) (hy:bG P y=some sk) (hz:bG P z=some sv) (h:DP kd sm sk sv call r st=some (v,st')):
  Za5 P μ w st (do Instr.mapUpdate t (a.eval x) (a.eval y) (a.eval z);pure .skip) v st':=by
 unfold DP at h
 split at h
 ·rename_i i k u hm hkk hu
  obtain⟨l,hl,h1⟩:=cU hh hr hx hm
  have h2:=cU hh hr hy hkk
  have h3:=cU hh hr hz hu
  obtain⟨d,hd⟩:=Zxr hk
  split at h
  ·split at h
   ·rename_i es Bh
    obtain⟨es',g1,g2⟩:=hh.get hl Bh
    have sJ:=TW (P:=P) g1 (by simp)
    have hb:l.b<w.heap.size:=(hh.dom i l hl).2
    split at h
    ·rename_i j _ hf
     simp only[au,bE]at h
     obtain⟨rfl,rfl⟩:=h
     obtain⟨en,k1,k2,k3,k4,k5,k6⟩:=TX hd hk h2 g2 hf
     simp only[Nat.sub_zero]at k2
     have Pe:=Zjd (P:=P) (o':=.map ((⟨es'⟩:Array MapEntry).modify j fun e=>{e with key:=a.eval y,val:=a.eval z}) es'.length) g1 (by simp)
     refine Za5.skip (μ':=μ) (ws:=[i]) (w':={w with heap:=w.heap.setIfInBounds l.b (.map ((⟨es'⟩:Array MapEntry).modify j fun e=>{e with key:=a.eval y,val:=a.eval z}) es'.length)}) ?_ (bK.setObj hh hl Bh rfl ⟨es'.set j {en with key:=a.eval y,val:=a.eval z},?_,?_⟩)
     ·have Pf:(Instr.keyThatStays en.key (a.eval y)).run P w=.ok (a.eval y) w:=by
       simp[Instr.keyThatStays,k6]
      have cY:(((⟨es'⟩:Array MapEntry)[j]?).map (·.key)).getD (a.eval y)=en.key:=by simp[k2]
      simp only[Instr.mapUpdate,Sem.run_bind,run_underlying ht,Result.andThen,h1,sJ,Pd hk,Instr.findKey,run_underlying hd,k4,Sem.run_pure,cY,Pf,Pe]
     ·rw[Zjc,aR hb]
      congr 2
      ·apply zh
       apply o8
       intro q
       rw[ze,Array.getElem?_modify]
       by_cases e:j=q
       ·subst e
        obtain⟨hj,hje⟩:=AM.1 k2
        simp[hj,hje]
       ·simp[e,eJ e]
      ·simp
     ·exact g2.set h2 h3 k2
    ·rename_i hf
     simp only[au,bE]at h
     obtain⟨rfl,rfl⟩:=h
     have k4:=TX hd hk h2 g2 hf
     simp only at k4
     have Pe:=Zjd (P:=P) (o':=.map ((⟨es'⟩:Array MapEntry).push {key:=a.eval y,val:=a.eval z,born:=es'.length}) (es'.length+1)) g1 (by simp)
     refine Za5.skip (μ':=μ) (ws:=[i]) (w':={w with heap:=w.heap.setIfInBounds l.b (.map ((⟨es'⟩:Array MapEntry).push {key:=a.eval y,val:=a.eval z,born:=es'.length}) (es'.length+1))}) ?_ (bK.setObj hh hl Bh rfl ⟨es'++[{key:=a.eval y,val:=a.eval z,born:=es'.length}],?_,?_⟩)
     ·simp only[Instr.mapUpdate,Sem.run_bind,run_underlying ht,Result.andThen,h1,sJ,Pd hk,Instr.findKey,run_underlying hd,k4,Sem.run_pure,Pe]
     ·rw[Zjc,aR hb]
      simp
     ·exact g2.push h2 h3 (by simp)
    ·cases h
   ·cases h
  ·cases h
 ·cases h
def Zzi(hh:Za9 P μ w st)(hr:RR μ r n a.tmps){ty:TypeId}{x:Operand}{s:Src}(hx:bG P x=some s)
  (h:IZ s call r st=some (v,st')):Za5 P μ w st (do pure (.value (<-Instr.next (a.eval x) true ty))) v st':=by
 unfold IZ at h
 split at h
 ·rename_i i hm
  obtain⟨l,hl,h1⟩:=cU hh hr hx hm
  split at h
  ·rename_i q pos hg
   obtain⟨g1,g2⟩:=hh.get hl hg
   rw[g2]at h1
   have sJ:=TW (P:=P) g1 (by simp)
   have hb:l.b<w.heap.size:=(hh.dom i l hl).2
   have jm:(⟨q.toArray⟩:ByteArray).size=q.length:=rfl
   split at h
   ·rename_i hp
    simp only[au,bE]at h
    obtain⟨rfl,rfl⟩:=h
    have Pe:=Zjd (P:=P) (o':=.stringIter ⟨q.toArray⟩ (pos+(Utf8.decode ⟨q.toArray⟩ pos).2)) g1 (by simp)
    refine⟨.value (.tuple #[.bool true,.int .i64 pos,.int .i32 (Utf8.decode ⟨q.toArray⟩ pos).1]),_,_,μ,[i],?_,.inl rfl,?_,bK.setObj hh hl hg rfl (ob:=.stringIter ⟨q.toArray⟩ (pos+(Utf8.decode ⟨q.toArray⟩ pos).2)) ⟨?_,g2⟩⟩
    ·simp[Instr.next,h1,sJ,Result.andThen,jm,hp,Pe,goInt, -ByteArray.size_data]
    ·simp only[VR];exact⟨_,rfl,by simp[bf,VR]⟩
    ·rw[Zjc,aR hb]
   ·rename_i hp
    simp only[au,bE]at h
    obtain⟨rfl,rfl⟩:=h
    refine Za5.value hh (x:=.tuple #[.bool false]) ?_ (by simp only[VR];exact⟨_,rfl,by simp[bf,VR]⟩)
    simp[Instr.next,h1,sJ,Result.andThen,jm,hp, -ByteArray.size_data]
  ·cases h
 ·cases h
end
end Go.Mx
