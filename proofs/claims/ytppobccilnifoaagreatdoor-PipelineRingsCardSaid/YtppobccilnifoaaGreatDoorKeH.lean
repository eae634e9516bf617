/-
  PipelineRings: what a ring and its model have in common.
-/
import Derived.Test.YtppobccilnifoaaGreatDoorKeE
set_option linter.all false
namespace Go.Mx
open Go Go.Proofs
set_option maxRecDepth 1000000
def Lr.view(l:Lr):Nat×Int×List (Int×Int)×Int:=(l.C,(l.cap:Int),l.buf,l.lost)
def live:List Nat→List ML→List (Nat×Int×List (Int×Int)×Int)
 |C::F,m::ms=>if m.gone=true then live F ms else (C,m.cap,m.buf,m.lost)::live F ms
 |_,_=>[]
theorem live_mem:∀{F:List Nat} {ms:List ML},∀t∈live F ms,t.1∈F
 |[],_,t,h=>by simp[live]at h
 |C::F,[],t,h=>by simp[live]at h
 |C::F,m::ms,t,h=>by
  simp only[live]at h
  split at h
  ·exact List.mem_cons_of_mem _ (live_mem t h)
  ·rcases List.mem_cons.1 h with rfl|h
   ·exact List.mem_cons_self
   ·exact List.mem_cons_of_mem _ (live_mem t h)
theorem live_app:∀{F:List Nat} {ms:List ML} {C:Nat} {m:ML},F.length=ms.length→m.gone=false→live (F++[C]) (ms++[m])=live F ms++[(C,m.cap,m.buf,m.lost)]
 |[],[],C,m,_,h=>by simp[live,h]
 |[],_::_,C,m,h,_=>by simp at h
 |_::_,[],C,m,h,_=>by simp at h
 |D::F,n::ms,C,m,h,hg=>by
  have ih:=live_app (F:=F) (ms:=ms) (C:=C) (by simpa using h) hg
  simp only[List.cons_append,live,ih]
  split<;>simp
def tellV(p:Int×Int)(t:Nat×Int×List (Int×Int)×Int):Nat×Int×List (Int×Int)×Int:=if (t.2.2.1.length:Int)<t.2.1 then (t.1,t.2.1,t.2.2.1++[p],t.2.2.2) else (t.1,t.2.1,t.2.2.1,t.2.2.2+1)
theorem live_tell{p:Int×Int}:∀{F:List Nat} {ms:List ML},live F (ms.map fun m=>m.tell p)=(live F ms).map (tellV p)
 |[],_=>by simp[live]
 |C::F,[]=>by simp[live]
 |C::F,m::ms=>by
  have ih:=live_tell (p:=p) (F:=F) (ms:=ms)
  simp only[List.map_cons,live,ih]
  by_cases hg:m.gone=true
  ·simp[ML.tell,hg]
  ·simp only[ML.tell,hg]
   by_cases hr:(m.buf.length:Int)<m.cap
   ·simp[hr,hg,tellV]
   ·simp[hr,hg,tellV]
theorem view_tell{l:Lr}{p:Int×Int}:(l.tell p).view=tellV p l.view:=by
 unfold Lr.tell tellV Lr.view
 by_cases h:l.buf.length<l.cap
 ·have h':(l.buf.length:Int)<(l.cap:Int):=by omega
  rw[if_pos h,if_pos h']
 ·have h':¬(l.buf.length:Int)<(l.cap:Int):=by omega
  rw[if_neg h,if_neg h']
theorem live_len:∀{F:List Nat} {ms:List (ML×V)},F.length=ms.length→(live F (ms.map Prod.fst)).length=liveN ms
 |[],[],_=>rfl
 |[],_::_,h=>by simp at h
 |_::_,[],h=>by simp at h
 |C::F,m::ms,h=>by
  have ih:=live_len (F:=F) (ms:=ms) (by simpa using h)
  unfold liveN at ih ⊢
  simp only[List.map_cons,live,List.filter_cons]
  cases hg:m.1.gone<;>simp[ih]
theorem live_at:∀{F:List Nat} {ms:List ML} {k C:Nat} {m:ML},F[k]?=some C→ms[k]?=some m→m.gone=false→∃j,(live F ms)[j]?=some (C,m.cap,m.buf,m.lost)∧(∀m':ML,m'.gone=true→live F (ms.set k m')=(live F ms).take j++(live F ms).drop (j+1))∧∀m':ML,m'.gone=false→live F (ms.set k m')=(live F ms).set j (C,m'.cap,m'.buf,m'.lost)
 |[],_,k,C,m,h,_,_=>by simp at h
 |D::F,[],k,C,m,_,h,_=>by simp at h
 |D::F,n::ms,0,C,m,h1,h2,hg=>by
  simp at h1 h2;subst h1 h2
  exact⟨0,by simp[live,hg],fun m' h=>by simp[live,h,hg],fun m' h=>by simp[live,h,hg]⟩
 |D::F,n::ms,k+1,C,m,h1,h2,hg=>by
  obtain⟨j,a1,a2,a3⟩:=live_at (F:=F) (ms:=ms) (k:=k) (by simpa using h1) (by simpa using h2) hg
  by_cases hn:n.gone=true
  ·exact⟨j,by simpa[live,hn]using a1,fun m' h=>by simpa[live,hn]using a2 m' h,fun m' h=>by simpa[live,hn]using a3 m' h⟩
  ·exact⟨j+1,by simpa[live,hn]using a1,fun m' h=>by simpa[live,hn]using a2 m' h,fun m' h=>by simpa[live,hn]using a3 m' h⟩
theorem live_gone:∀{F:List Nat} {ms:List ML} {k C:Nat} {m:ML},F.Nodup→F[k]?=some C→ms[k]?=some m→m.gone=true→∀t∈live F ms,t.1≠C
 |[],_,k,C,m,_,h,_,_,_,_=>by simp at h
 |D::F,[],k,C,m,_,_,h,_,_,_=>by simp at h
 |D::F,n::ms,0,C,m,nd,h1,h2,hg,t,ht=>by
  simp at h1 h2;subst h1 h2
  simp only[live,hg,if_true]at ht
  have:=live_mem t ht
  rintro hc
  rw[hc]at this
  exact(List.nodup_cons.1 nd).1 this
 |D::F,n::ms,k+1,C,m,nd,h1,h2,hg,t,ht=>by
  have ih:=live_gone (F:=F) (ms:=ms) (k:=k) (List.nodup_cons.1 nd).2 (by simpa using h1) (by simpa using h2) hg
  simp only[live]at ht
  split at ht
  ·exact ih t ht
  ·rcases List.mem_cons.1 ht with rfl|ht
   ·have hm:C∈F:=List.mem_of_getElem? (by simpa using h1)
    rintro hc
    simp only at hc
    rw[hc]at nd
    exact(List.nodup_cons.1 nd).1 hm
   ·exact ih t ht
theorem lsAt_none{ls:List Lr}{C:Nat}(h:∀l∈ls,l.C≠C):lsAt ls (.chan C)= -1:=by
 unfold lsAt
 have:∀m k,firstP (fun j=>match ls[j]? with|some l=>isC (.chan C) l.C|none=>false) k m= -1:=by
  intro m
  induction m with
  |zero=>intro k;rfl
  |succ m ih=>
   intro k
   simp only[firstP]
   rw[if_neg,ih]
   split
   ·rename_i l hl
    have:=h l (List.mem_of_getElem? hl)
    simp[isC];exact fun hc=>this hc.symm
   ·simp
 exact this _ _
structure Rel (S:RS) (M:MS) (F:List Nat) (k:Nat):Prop where
 cap:S.cap=M.cap
 c1:1≤M.cap
 c2:M.cap≤64
 fz:S.fz=M.fz
 last:S.last=M.last
 over:S.over=M.over
 ref:S.ref=M.ref
 all:S.rc.map Prod.fst=M.all
 ls:S.ls.map Lr.view=live F (M.ls.map Prod.fst)
 len:F.length=M.ls.length
 nd:F.Nodup
 l8:S.ls.length≤8
 la:0≤S.last∧∀l∈S.ls,l.last.1≤S.last
 lo:∀l∈S.ls,0≤l.lost∧l.lost≤k∧l.buf.length≤k
 mlo:∀m∈M.ls,0≤m.1.lost∧m.1.lost≤k∧m.1.buf.length≤k
 bo:0≤S.over∧S.over≤k∧0≤S.ref∧S.ref≤k
 fl:F.length≤k
 rl:(S.rc.length:Int)≤M.cap
 vs:∀x∈M.all,x.vs.length<1000
theorem Rel.up{S:RS}{M:MS}{F:List Nat}{k:Nat}(r:Rel S M F k):Rel S M F (k+1):=by
 refine⟨r.cap,r.c1,r.c2,r.fz,r.last,r.over,r.ref,r.all,r.ls,r.len,r.nd,r.l8,r.la,fun l hl=>?_,fun m hm=>?_,?_,?_,r.rl,r.vs⟩
 ·have:=r.lo l hl;omega
 ·have:=r.mlo m hm;omega
 ·have:=r.bo;omega
 ·have:=r.fl;omega
theorem Rel.rcl{S:RS}{M:MS}{F:List Nat}{k:Nat}(r:Rel S M F k):M.all.length=S.rc.length:=by rw[←r.all,List.length_map]
theorem Rel.liveN{S:RS}{M:MS}{F:List Nat}{k:Nat}(r:Rel S M F k):liveN M.ls=S.ls.length:=by
 rw[←live_len r.len,←r.ls,List.length_map]
theorem tell_lo{m:ML}{p:Int×Int}{k:Nat}(h:0≤m.lost∧m.lost≤k∧m.buf.length≤k):0≤(m.tell p).lost∧(m.tell p).lost≤((k+1:Nat):Int)∧(m.tell p).buf.length≤k+1:=by
 unfold ML.tell
 split
 ·omega
 ·split
  ·simp only[List.length_append,List.length_singleton];omega
  ·simp only;omega
theorem ltell_lo{m:Lr}{p:Int×Int}{k:Nat}(h:0≤m.lost∧m.lost≤k∧m.buf.length≤k):0≤(m.tell p).lost∧(m.tell p).lost≤((k+1:Nat):Int)∧(m.tell p).buf.length≤k+1:=by
 unfold Lr.tell
 split
 ·simp only[List.length_append,List.length_singleton];omega
 ·simp only;omega
theorem Rel.put{S:RS}{M:MS}{F:List Nat}{k:Nat}(r:Rel S M F k){x:Rc}{u vr va:V}{ls:List (ML×V)}(hx:x.vs.length<1000)(hle:¬x.f≤S.last)(hm:ls.map Prod.fst=M.ls.map fun a=>a.1.tell (x.f,x.t)):
  Rel {S with vr:=vr,rc:=pushed S.cap S.rc (x,u),last:=x.f,over:=if S.cap<((S.rc.length+1:Nat):Int) then S.over+1 else S.over,ls:=S.ls.map fun l=>l.tell (x.f,x.t)} {M with va:=va,all:=if M.cap<((M.all.length+1:Nat):Int) then (M.all++[x]).drop 1 else M.all++[x],last:=x.f,over:=if M.cap<((M.all.length+1:Nat):Int) then M.over+1 else M.over,ls:=ls} F (k+1):=by
 have hlen:ls.length=M.ls.length:=by have:=congrArg List.length hm;simpa using this
 have hrl:=r.rl
 have hc:=r.cap
 have hal:=r.rcl
 have hb:=r.bo
 refine⟨hc,r.c1,r.c2,r.fz,rfl,?_,r.ref,?_,?_,?_,r.nd,?_,?_,?_,?_,?_,?_,?_,?_⟩
 ·simp only[hal,hc,r.over]
 ·simp only[hal,hc,pushed]
  by_cases hcc:M.cap<((S.rc.length+1:Nat):Int)
  ·rw[if_pos hcc,if_pos hcc,←r.all,List.map_drop,List.map_append];rfl
  ·rw[if_neg hcc,if_neg hcc,←r.all,List.map_append];rfl
 ·simp only[hm,List.map_map]
  have e1:=live_tell (p:=(x.f,x.t)) (F:=F) (ms:=M.ls.map Prod.fst)
  rw[←r.ls,List.map_map,List.map_map]at e1
  have e2:(fun m:ML=>m.tell (x.f,x.t))∘Prod.fst=fun a:ML×V=>a.1.tell (x.f,x.t):=rfl
  rw[e2]at e1
  rw[e1]
  apply List.map_congr_left
  intro l _
  exact view_tell
 ·simp only[hlen];exact r.len
 ·simp only[List.length_map];exact r.l8
 ·have hla:=r.la
  refine⟨by show 0≤x.f;omega,fun l hl=>?_⟩
  obtain⟨l0,h0,rfl⟩:=List.mem_map.1 hl
  show (l0.tell (x.f,x.t)).last.1≤x.f
  have:=hla.2 l0 h0
  unfold Lr.tell
  split
  ·exact Int.le_refl _
  ·show l0.last.1≤x.f;omega
 ·intro l hl
  obtain⟨l0,h0,rfl⟩:=List.mem_map.1 hl
  exact ltell_lo (r.lo l0 h0)
 ·intro m hm'
  have:m.1∈ls.map Prod.fst:=List.mem_map.2 ⟨m,hm',rfl⟩
  rw[hm]at this
  obtain⟨a,ha,e⟩:=List.mem_map.1 this
  rw[←e]
  exact tell_lo (r.mlo a ha)
 ·simp only
  refine⟨?_,?_,hb.2.2.1,by omega⟩<;>split<;>omega
 ·exact Nat.le_succ_of_le r.fl
 ·simp only[pushed,hc]
  split
  ·simp;omega
  ·simp;omega
 ·intro y hy
  simp only at hy
  have:y∈M.all++[x]:=by
   split at hy
   ·exact List.mem_of_mem_drop hy
   ·exact hy
  rcases List.mem_append.1 this with h|h
  ·exact r.vs y h
  ·simp at h;rw[h];exact hx
theorem Rel.sub{S:RS}{M:MS}{F:List Nat}{k:Nat}(r:Rel S M F k){c:Int}{L C:Nat}{vl vl' u:V}(h1:1≤c)(h8:S.ls.length<8)(hC:C∉F):
  Rel {S with vl:=vl,ls:=S.ls++[⟨L,C,c.toNat,[],(0,0),0⟩]} {M with vl:=vl',ls:=M.ls++[(⟨c,[],0,false⟩,u)]} (F++[C]) (k+1):=by
 have hb:=r.bo
 have hc:((c.toNat:Nat):Int)=c:=by omega
 refine⟨r.cap,r.c1,r.c2,r.fz,r.last,r.over,r.ref,r.all,?_,?_,?_,?_,⟨r.la.1,?_⟩,?_,?_,r.up.bo,?_,r.rl,r.vs⟩
 ·simp only[List.map_append,List.map_cons,List.map_nil]
  rw[live_app (by simp[r.len]) rfl,r.ls]
  simp[Lr.view,hc]
 ·simp[r.len]
 ·rw[List.nodup_append]
  refine⟨r.nd,by simp,fun a ha b hb=>?_⟩
  simp at hb;subst hb
  rintro rfl
  exact hC ha
 ·simp;omega
 ·intro l hl
  rcases List.mem_append.1 hl with hl|hl
  ·exact r.la.2 l hl
  ·simp at hl;subst hl;exact r.la.1
 ·intro l hl
  rcases List.mem_append.1 hl with hl|hl
  ·have:=r.lo l hl;omega
  ·simp at hl;subst hl;simp;omega
 ·intro l hl
  rcases List.mem_append.1 hl with hl|hl
  ·have:=r.mlo l hl;omega
  ·simp at hl;subst hl;simp;omega
 ·have:=r.fl;simp;omega
theorem Rel.at{S:RS}{M:MS}{F:List Nat}{k j C:Nat}{p:ML×V}(r:Rel S M F k)(hF:F[j]?=some C)(hp:M.ls[j]?=some p)(hg:p.1.gone=false):∃i l,S.ls[i]?=some l∧l.view=(C,p.1.cap,p.1.buf,p.1.lost)∧(∀m':ML×V,m'.1.gone=true→(S.ls.take i++S.ls.drop (i+1)).map Lr.view=live F ((M.ls.set j m').map Prod.fst))∧∀(m':ML×V) (l':Lr),m'.1.gone=false→l'.view=(C,m'.1.cap,m'.1.buf,m'.1.lost)→(S.ls.set i l').map Lr.view=live F ((M.ls.set j m').map Prod.fst):=by
 obtain⟨i,a1,a2,a3⟩:=live_at hF (ms:=M.ls.map Prod.fst) (m:=p.1) (by rw[List.getElem?_map,hp];rfl) hg
 rw[←r.ls,List.getElem?_map,Option.map_eq_some_iff]at a1
 obtain⟨l,b1,b2⟩:=a1
 refine⟨i,l,b1,b2,fun m' h=>?_,fun m' l' h hv=>?_⟩
 ·rw[List.map_set,a2 _ h,←r.ls,List.map_append,List.map_take,List.map_drop]
 ·rw[List.map_set,List.map_set,a3 _ h,←r.ls,hv]
theorem Rel.gone{S:RS}{M:MS}{F:List Nat}{k j C:Nat}{p:ML×V}(r:Rel S M F k)(hF:F[j]?=some C)(hp:M.ls[j]?=some p)(hg:p.1.gone=true):lsAt S.ls (.chan C)= -1:=by
 refine lsAt_none fun l hl hc=>?_
 have:l.view∈live F (M.ls.map Prod.fst):=by rw[←r.ls];exact List.mem_map.2 ⟨l,hl,rfl⟩
 exact live_gone r.nd hF (ms:=M.ls.map Prod.fst) (m:=p.1) (by rw[List.getElem?_map,hp];rfl) hg _ this hc
theorem Rel.drain{S:RS}{M:MS}{F:List Nat}{k j C i:Nat}{p:ML×V}{l:Lr}(r:Rel S M F k)(hg:p.1.gone=false)(hm:p∈M.ls)(hl:l∈S.ls)(hv:l.view=(C,p.1.cap,p.1.buf,p.1.lost))(a3:∀(m':ML×V) (l':Lr),m'.1.gone=false→l'.view=(C,m'.1.cap,m'.1.buf,m'.1.lost)→(S.ls.set i l').map Lr.view=live F ((M.ls.set j m').map Prod.fst)):
  Rel {S with ls:=S.ls.set i {l with buf:=[],lost:=0}} {M with ls:=M.ls.set j (mdrained p)} F (k+1):=by
 have hb:=r.bo
 simp only[Lr.view,Prod.mk.injEq]at hv
 refine⟨r.cap,r.c1,r.c2,r.fz,r.last,r.over,r.ref,r.all,a3 _ _ (by simp[mdrained,hg]) (by simp[Lr.view,mdrained,hg,hv]),by simp[r.len],r.nd,by simpa using r.l8,⟨r.la.1,?_⟩,?_,?_,r.up.bo,Nat.le_succ_of_le r.fl,r.rl,r.vs⟩
 ·intro a ha
  rcases List.mem_or_eq_of_mem_set ha with ha|rfl
  ·exact r.la.2 a ha
  ·exact r.la.2 l hl
 ·intro a ha
  rcases List.mem_or_eq_of_mem_set ha with ha|rfl
  ·have:=r.lo a ha;omega
  ·simp;omega
 ·intro a ha
  rcases List.mem_or_eq_of_mem_set ha with ha|rfl
  ·have:=r.mlo a ha;omega
  ·simp[mdrained,hg];omega
theorem Rel.unsub{S:RS}{M:MS}{F:List Nat}{k j i:Nat}{p:ML×V}{u:V}(r:Rel S M F k)(hm:p∈M.ls)(a2:∀m':ML×V,m'.1.gone=true→(S.ls.take i++S.ls.drop (i+1)).map Lr.view=live F ((M.ls.set j m').map Prod.fst)):
  Rel {S with vl:=u,ls:=S.ls.take i++S.ls.drop (i+1)} {M with ls:=M.ls.set j ({p.1 with gone:=true},p.2)} F (k+1):=by
 have hb:=r.bo
 have hmem:∀a∈S.ls.take i++S.ls.drop (i+1),a∈S.ls:=fun a ha=>by
  rcases List.mem_append.1 ha with ha|ha
  ·exact List.mem_of_mem_take ha
  ·exact List.mem_of_mem_drop ha
 refine⟨r.cap,r.c1,r.c2,r.fz,r.last,r.over,r.ref,r.all,a2 _ rfl,by simp[r.len],r.nd,?_,⟨r.la.1,fun a ha=>r.la.2 a (hmem a ha)⟩,fun a ha=>?_,fun a ha=>?_,r.up.bo,Nat.le_succ_of_le r.fl,r.rl,r.vs⟩
 ·have:=r.l8;simp;omega
 ·have:=r.lo a (hmem a ha);omega
 ·rcases List.mem_or_eq_of_mem_set ha with ha|rfl
  ·have:=r.mlo a ha;omega
  ·have:=r.mlo p hm;simp;omega
end Go.Mx
namespace Go.Mx
open Go Go.Proofs
set_option maxRecDepth 1000000
theorem RI.ty{h:T O}{N:Nat}{S:RS}(I:RI h N S){i:Nat}(hi:i∈S.ids){z:List V}{t:TypeId}{w:Bool}(hg:h.get i=some (.cells z t w)):t=147∨t=78∨t=148∨t=151:=by
 simp only[RS.ids,List.mem_cons,List.mem_append,List.mem_flatMap]at hi
 rcases hi with rfl|hi|hi|⟨l,hl,hi⟩
 ·rw[I.r]at hg;simp at hg;simp[hg.2.1.symm]
 ·obtain⟨c,w',hc⟩:=I.vr.has i hi
  rw[hc]at hg;simp at hg;simp[hg.2.1.symm]
 ·obtain⟨c,w',hc⟩:=I.vl.has i hi
  rw[hc]at hg;simp at hg;simp[hg.2.1.symm]
 ·obtain⟨g1,g2⟩:=I.l l hl
  simp[Lr.ids]at hi
  rcases hi with rfl|rfl
  ·rw[g1]at hg;simp at hg;simp[hg.2.1.symm]
  ·rw[g2]at hg;simp at hg
theorem RI.chan{h:T O}{N:Nat}{S:RS}(I:RI h N S){i c:Nat}{b:List V}(hi:i∈S.ids)(hg:h.get i=some (.chan c b)):∃l∈S.ls,l.C=i:=by
 simp only[RS.ids,List.mem_cons,List.mem_append,List.mem_flatMap]at hi
 rcases hi with rfl|hi|hi|⟨l,hl,hi⟩
 ·rw[I.r]at hg;simp at hg
 ·obtain⟨c,w',hc⟩:=I.vr.has i hi
  rw[hc]at hg;simp at hg
 ·obtain⟨c,w',hc⟩:=I.vl.has i hi
  rw[hc]at hg;simp at hg
 ·obtain⟨g1,g2⟩:=I.l l hl
  simp[Lr.ids]at hi
  rcases hi with rfl|rfl
  ·rw[g1]at hg;simp at hg
  ·exact⟨l,hl,rfl⟩
def fdC(C:Nat):List V:=[.chan C]
structure JB (B:Nat) (h:T O) (N X:Nat) (S:RS) (M:MS) (vF:V) (F:List Nat):Prop where
 x:h.get X=some (.cells [.ptr S.R 0,.ptr M.R 0,vF] 102 true)
 xl:B≤X∧X<N
 vf:Row 1 73 h vF (F.map fdC)
 vl:∀i∈rowV vF,B≤i∧i<N
 I:RI h N S
 MM:MI B h N M
 old:∀i∈S.ids,B≤i
 vals:∀p∈S.rc,∀i∈rowV p.2,¬M.D i∧i≠X∧i∉rowV vF
 ch:∀C∈F,C<N∧∃c b,h.get C=some (.chan c b)
theorem JB.keep{B:Nat}{h h':T O}{N N' X:Nat}{S:RS}{M:MS}{vF:V}{F:List Nat}(J:JB B h N X S M vF F)(k:Keeps h N h' N'):JB B h' N' X S M vF F:=
 ⟨(k.get X J.xl.2).trans J.x,⟨J.xl.1,Nat.lt_of_lt_of_le J.xl.2 k.le⟩,J.vf.eq fun i hi=>k.get i (J.vl i hi).2,fun i hi=>⟨(J.vl i hi).1,Nat.lt_of_lt_of_le (J.vl i hi).2 k.le⟩,J.I.keep (D:=fun _=>False) k.upd (by simp) (by simp),J.MM.keep k,J.old,J.vals,fun C hC=>by
  obtain⟨h1,c,b,h2⟩:=J.ch C hC
  exact⟨Nat.lt_of_lt_of_le h1 k.le,c,b,(k.get C h1).trans h2⟩⟩
theorem JB.rl{B:Nat}{h:T O}{N X:Nat}{S:RS}{M:MS}{vF:V}{F:List Nat}(J:JB B h N X S M vF F):∀p∈S.rc,∀i∈rowV p.2,i<N:=fun p hp=>(J.I.sl p hp).1.row_lt
theorem JB.prog{D:Nat→Prop}{B:Nat}{h h':T O}{N N' X:Nat}{S S':RS}{M:MS}{vF:V}{F:List Nat}(J:JB B h N X S M vF F)(k:Upd D h N h' N')(hD:∀i,D i→i∈S.ids)(I':RI h' N' S')(hR:S'.R=S.R)(hid:∀i∈S'.ids,i∈S.ids∨N≤i)(hrc:∀p∈S'.rc,p∈S.rc∨∀i∈rowV p.2,N≤i)(hch:∀l∈S.ls,D l.C→∃l'∈S'.ls,l'.C=l.C)(hB:B≤N):JB B h' N' X S' M vF F:=by
 have nX:¬D X:=fun hc=>by have:=J.I.ty (hD X hc) J.x;simp at this
 have nF:∀i∈rowV vF,¬D i:=fun i hi hc=>by
  obtain⟨c,w,hg⟩:=J.vf.has i hi
  have:=J.I.ty (hD i hc) hg;simp at this
 refine⟨by rw[k.get X J.xl.2 nX,hR];exact J.x,⟨J.xl.1,Nat.lt_of_lt_of_le J.xl.2 k.le⟩,J.vf.eq fun i hi=>k.get i (J.vl i hi).2 (nF i hi),fun i hi=>⟨(J.vl i hi).1,Nat.lt_of_lt_of_le (J.vl i hi).2 k.le⟩,I',J.MM.upd k (fun i hi=>J.old i (hD i hi)) (fun i c t w hi hg=>?_),fun i hi=>?_,fun p hp i hi=>?_,fun C hC=>?_⟩
 ·rcases J.I.ty (hD i hi) hg with rfl|rfl|rfl|rfl<;>simp
 ·rcases hid i hi with hi|hi
  ·exact J.old i hi
  ·omega
 ·rcases hrc p hp with h1|h1
  ·exact J.vals p h1 i hi
  ·have h2:=h1 i hi
   refine⟨fun hc=>?_,?_,fun hc=>?_⟩
   ·rcases hc with rfl|hc
    ·have:=J.MM.lt.1;omega
    ·have:=J.MM.lt.2 i hc;omega
   ·have:=J.xl.2;omega
   ·have:=(J.vl i hc).2;omega
 ·obtain⟨h1,c,b,h2⟩:=J.ch C hC
  refine⟨Nat.lt_of_lt_of_le h1 k.le,?_⟩
  by_cases hd:D C
  ·obtain⟨l,hl,rfl⟩:=J.I.chan (hD C hd) h2
   obtain⟨l',hl',e⟩:=hch l hl hd
   have:=(I'.l l' hl').2
   rw[e]at this
   exact⟨_,_,this⟩
  ·exact⟨c,b,(k.get C h1 hd).trans h2⟩
theorem JB.model{B:Nat}{h h':T O}{N N' X:Nat}{S:RS}{M M':MS}{vF:V}{F:List Nat}(J:JB B h N X S M vF F)(k:Upd M.D h N h' N')(I':MI B h' N' M')(hR:M'.R=M.R)(hvl:∀i∈rowV M'.vl,i∈rowV M.vl∨N≤i):JB B h' N' X S M' vF F:=by
 have nt:∀i c t w,M.D i→h.get i=some (.cells c t w)→t=99∨t=218:=fun i c t w hi hg=>by
  rcases hi with rfl|hi
  ·rw[J.MM.r]at hg;simp at hg;exact .inl hg.2.1.symm
  ·obtain⟨c',w',hc⟩:=J.MM.vl.has i hi
   rw[hc]at hg;simp at hg;exact .inr hg.2.1.symm
 have ncl:∀i,M.D i→∃c t w,h.get i=some (.cells c t w):=fun i hi=>by
  rcases hi with rfl|hi
  ·exact⟨_,_,_,J.MM.r⟩
  ·obtain⟨c',w',hc⟩:=J.MM.vl.has i hi
   exact⟨_,_,_,hc⟩
 have nX:¬M.D X:=fun hc=>by have:=nt _ _ _ _ hc J.x;simp at this
 have nF:∀i∈rowV vF,¬M.D i:=fun i hi hc=>by
  obtain⟨c,w,hg⟩:=J.vf.has i hi
  have:=nt _ _ _ _ hc hg;simp at this
 refine⟨by rw[k.get X J.xl.2 nX,hR];exact J.x,⟨J.xl.1,Nat.lt_of_lt_of_le J.xl.2 k.le⟩,J.vf.eq fun i hi=>k.get i (J.vl i hi).2 (nF i hi),fun i hi=>⟨(J.vl i hi).1,Nat.lt_of_lt_of_le (J.vl i hi).2 k.le⟩,J.I.keep k (fun i hi hc=>?_) (fun p hp i hi=>(J.vals p hp i hi).1),I',J.old,fun p hp i hi=>?_,fun C hC=>?_⟩
 ·obtain⟨c,t,w,hg⟩:=ncl i hc
  have a:=nt _ _ _ _ hc hg
  have b:=J.I.ty hi hg
  rcases a with rfl|rfl<;>simp at b
 ·have h1:=J.vals p hp i hi
  have h2:=J.rl p hp i hi
  refine⟨fun hc=>?_,h1.2⟩
  rcases hc with hc|hc
  ·rw[hR]at hc;exact h1.1 (.inl hc)
  ·rcases hvl i hc with hc|hc
   ·exact h1.1 (.inr hc)
   ·omega
 ·obtain⟨h1,c,b,h2⟩:=J.ch C hC
  refine⟨Nat.lt_of_lt_of_le h1 k.le,c,b,(k.get C h1 fun hc=>?_).trans h2⟩
  obtain⟨c',t,w,hg⟩:=ncl C hc
  rw[h2]at hg;cases hg
end Go.Mx
namespace Go.Mx
open Go Go.Proofs
set_option maxRecDepth 1000000
def A.b35:MCode:=.seq (.reg [⟨(some 2),.mov (.const (.bool false)),none⟩])
 (.seq (.reg [mv 6 0,⟨(some 7),.nilck (.tmp 6),none⟩,⟨(some 8),.faddr 0 (.tmp 7),none⟩,ld 9 8,⟨(some 10),.call (.const (.func 30 [] [])) [(.tmp 9)],none⟩,mv 5 10,xt 11 5 0,xt 12 5 1,mv 3 11,mv 4 12])
 (.seq (.regD [mv 13 3,mv 14 0,⟨(some 15),.nilck (.tmp 14),none⟩,⟨(some 16),.faddr 1 (.tmp 15),none⟩,ld 17 16,⟨(some 18),.nilck (.tmp 17),none⟩,⟨(some 19),.faddr 4 (.tmp 18),none⟩,ld 20 19,⟨(some 21),.bin .eql (.prim .int) false (.tmp 13) (.tmp 20),none⟩,mv 22 21,⟨(some 23),.mov (.tmp 4),(some (22,true))⟩,⟨(some 24),.mov (.tmp 0),(some (22,true))⟩,⟨(some 25),.nilck (.tmp 24),(some (22,true))⟩,⟨(some 26),.faddr 1 (.tmp 25),(some (22,true))⟩,⟨(some 27),.load none (.tmp 26),(some (22,true))⟩,⟨(some 28),.nilck (.tmp 27),(some (22,true))⟩,⟨(some 29),.faddr 5 (.tmp 28),(some (22,true))⟩,⟨(some 30),.load none (.tmp 29),(some (22,true))⟩,⟨(some 31),.bin .eql (.prim .int) false (.tmp 23) (.tmp 30),(some (22,true))⟩,⟨(some 32),.pick (.tmp 22) (.tmp 31) (.const (.bool false)),none⟩,mv 33 32,⟨(some 34),.mov (.tmp 0),(some (33,true))⟩,⟨(some 35),.nilck (.tmp 34),(some (33,true))⟩,⟨(some 36),.faddr 0 (.tmp 35),(some (33,true))⟩,⟨(some 37),.load none (.tmp 36),(some (33,true))⟩,⟨(some 38),.call (.const (.func 33 [] [])) [(.tmp 37)],(some (33,true))⟩,⟨(some 39),.call (.const (.func 32 [] [])) [(.tmp 38)],(some (33,true))⟩,⟨(some 40),.mov (.tmp 0),(some (33,true))⟩,⟨(some 41),.nilck (.tmp 40),(some (33,true))⟩,⟨(some 42),.faddr 1 (.tmp 41),(some (33,true))⟩,⟨(some 43),.load none (.tmp 42),(some (33,true))⟩,⟨(some 44),.nilck (.tmp 43),(some (33,true))⟩,⟨(some 45),.faddr 1 (.tmp 44),(some (33,true))⟩,⟨(some 46),.load none (.tmp 45),(some (33,true))⟩,⟨(some 47),.call (.const (.func 31 [] [])) [(.tmp 39),(.tmp 46)],(some (33,true))⟩,⟨(some 48),.pick (.tmp 33) (.tmp 47) (.const (.bool false)),none⟩,mv 2 48] [0,0,2,6,14,30,62,126,255,511,1023,1023,3071,7167,15359,31743,64511,130047,262143,524287,1048575,2097151,4194303,8388607,16777215,33554431,67108863,2097151,136314879,404750335,941621247,2015363071,4162846719,8457814015,17179869183,34359738367,68719476735])
 (.ret)))
theorem A.c35:cFunc Tryz.prog 35=some ⟨49,[.tmp 2],A.b35⟩:=by kernel_rfl
def A.k35{K Q f c args st}:=@A.kk 35 _ _ _ A.c35 rfl K Q f c args st
def A.lb34_0:MCode:=.seq (.reg [bi 114 .lss 113 112])
 (.seq (.cond (.tmp 114)
 (.skip)
 (.exit 1))
 (.seq (.block 2 (.seq (.reg [ia 115 1 111 113,ld 116 115,mv 9 116])
 (.seq (.reg [mv 117 9,mv 118 6,⟨(some 119),.bin .eql (.prim .chan) false (.tmp 117) (.tmp 118),none⟩])
 (.cond (.tmp 119)
 (.seq (.reg [⟨(some 4),.mov (.const (.bool false)),none⟩])
 (.ret))
 (.skip)))))
 (.reg [bc 120 .add 113 1,mv 113 120])))
def A.ta34_0:MCode:=.seq (.regD [mv 33 0,⟨(some 34),.nilck (.tmp 33),none⟩,⟨(some 35),.faddr 0 (.tmp 34),none⟩,ld 36 35,⟨(some 37),.faddr 1 (.tmp 3),none⟩,⟨(some 38),.load (some 3) (.tmp 37),none⟩,⟨(some 39),.bslice 68 3 1 [(.int .i64 0),(.int .i64 0),.nilslice] [(0,3,(.tmp 38))],none⟩,⟨(some 40),.call (.const (.func 26 [] [])) [(.tmp 39)],none⟩,⟨(some 41),.iaddrSl 3 (.tmp 40) (.const (.int .i64 0)),none⟩,⟨(some 42),.load (some 3) (.tmp 41),none⟩,⟨(some 43),.call (.const (.func 28 [] [])) [(.tmp 36),(.tmp 42)],none⟩,mv 44 0,⟨(some 45),.nilck (.tmp 44),none⟩,⟨(some 46),.faddr 1 (.tmp 45),none⟩,ld 47 46,⟨(some 48),.faddr 1 (.tmp 3),none⟩,⟨(some 49),.load (some 3) (.tmp 48),none⟩,⟨(some 50),.call (.const (.func 71 [] [])) [(.tmp 47),(.tmp 49)],none⟩,⟨(some 51),.bin .eql (.prim .int) false (.tmp 43) (.tmp 50),none⟩,mv 4 51] [0,1,3,7,0,16,48,112,240,496,1023,0,2048,6144,14336,0,32768,131071,262143,524287])
 (.ret)
def A.ta34_1:MCode:=.seq (.block 0 (.seq (.reg [⟨(some 53),.faddr 0 (.tmp 3),none⟩,ld 54 53,⟨(some 55),.bin .eql (.prim .int) true (.tmp 54) (.const (.int .i64 1)),none⟩,mv 52 55])
 (.cond (.tmp 52)
 (.seq (.regD [mv 56 0,⟨(some 57),.nilck (.tmp 56),none⟩,⟨(some 58),.faddr 1 (.tmp 57),none⟩,ld 59 58,⟨(some 60),.faddr 4 (.tmp 3),none⟩,ld 61 60,bc 62 .rem 61 2,⟨(some 63),.bin .neq (.prim .int) true (.tmp 62) (.const (.int .i64 0)),none⟩,⟨(some 64),.nilck (.tmp 59),none⟩,⟨(some 65),.faddr 3 (.tmp 64),none⟩,so 65 63] [0,1,3,7,0,16,48,112,255,511,1023])
 (.seq (.regD [mv 66 0,⟨(some 67),.nilck (.tmp 66),none⟩,⟨(some 68),.faddr 0 (.tmp 67),none⟩,ld 69 68,⟨(some 70),.faddr 4 (.tmp 3),none⟩,ld 71 70,bc 72 .rem 71 2,⟨(some 73),.bin .neq (.prim .int) true (.tmp 72) (.const (.int .i64 0)),none⟩,⟨(some 74),.call (.const (.func 27 [] [])) [(.tmp 69),(.tmp 73)],none⟩,⟨(some 75),.bin .eql (.prim .int) true (.tmp 74) (.const (.int .i64 0)),none⟩,mv 4 75] [0,1,3,7,0,16,48,112,255,511,1023])
 (.ret)))
 (.seq (.reg [⟨(some 77),.faddr 0 (.tmp 3),none⟩,ld 78 77,⟨(some 79),.bin .eql (.prim .int) true (.tmp 78) (.const (.int .i64 2)),none⟩,mv 76 79])
 (.cond (.tmp 76)
 (.seq (.regD [mv 81 0,⟨(some 82),.nilck (.tmp 81),none⟩,⟨(some 83),.faddr 0 (.tmp 82),none⟩,ld 84 83,⟨(some 85),.faddr 4 (.tmp 3),none⟩,ld 86 85,⟨(some 87),.call (.const (.func 25 [] [])) [(.tmp 84),(.tmp 86)],none⟩,mv 80 87,xt 88 80 0,xt 89 80 1,mv 6 88,mv 7 89] [0,1,3,7,0,16,63,127,255,255,511,2047])
 (.seq (.seq (.regD [mv 90 7,mv 91 0,⟨(some 92),.nilck (.tmp 91),none⟩,⟨(some 93),.faddr 1 (.tmp 92),none⟩,ld 94 93,⟨(some 95),.faddr 4 (.tmp 3),none⟩,ld 96 95,⟨(some 97),.call (.const (.func 66 [] [])) [(.tmp 94),(.tmp 96)],none⟩,⟨(some 98),.bin .neq (.prim .int) false (.tmp 90) (.tmp 97),none⟩,mv 99 98,⟨(some 100),.mov (.tmp 7),(some (99,false))⟩,⟨(some 101),.bin .eql (.prim .int) true (.tmp 100) (.const (.int .i64 0)),(some (99,false))⟩,⟨(some 102),.mov (.tmp 6),(some (99,false))⟩,⟨(some 103),.bin .eql (.prim .chan) true (.tmp 102) (.const .nilchan),(some (99,false))⟩,⟨(some 104),.bin .eql (.prim .bool) false (.tmp 101) (.tmp 103),(some (99,false))⟩,⟨(some 105),.pick (.tmp 99) (.const (.bool true)) (.tmp 104),none⟩] [0,0,2,6,14,0,32,126,255,511,1023,2047,1023,5119,16383,32767])
 (.cond (.tmp 105)
 (.seq (.reg [⟨(some 4),.mov (.const (.bool false)),none⟩])
 (.ret))
 (.skip)))
 (.seq (.reg [mv 106 7,⟨(some 107),.bin .eql (.prim .int) true (.tmp 106) (.const (.int .i64 0)),none⟩])
 (.cond (.tmp 107)
 (.seq (.seq (.reg [mv 108 0,⟨(some 109),.nilck (.tmp 108),none⟩,⟨(some 110),.faddr 2 (.tmp 109),none⟩,ld 111 110,ln 112 111,mc 113 0])
 (.block 1 (.loop A.lb34_0)))
 (.reg [mv 121 0,mv 122 0,⟨(some 123),.nilck (.tmp 122),none⟩,⟨(some 124),.faddr 2 (.tmp 123),none⟩,ld 125 124,mv 126 6,⟨(some 127),.bslice 73 1 1 [.nilchan] [(0,1,(.tmp 126))],none⟩,⟨(some 128),.append 1 8 73 [.nilchan] (.tmp 125) (.tmp 127),none⟩,⟨(some 129),.nilck (.tmp 121),none⟩,⟨(some 130),.faddr 2 (.tmp 129),none⟩,so 130 128]))
 (.skip)))))
 (.seq (.reg [⟨(some 132),.faddr 0 (.tmp 3),none⟩,ld 133 132,⟨(some 134),.bin .eql (.prim .int) true (.tmp 133) (.const (.int .i64 3)),none⟩,mv 135 134,⟨(some 136),.mov (.tmp 0),(some (135,true))⟩,⟨(some 137),.nilck (.tmp 136),(some (135,true))⟩,⟨(some 138),.faddr 2 (.tmp 137),(some (135,true))⟩,⟨(some 139),.load none (.tmp 138),(some (135,true))⟩,⟨(some 140),.len 1 (.tmp 139),(some (135,true))⟩,⟨(some 141),.bin .gtr (.node []) false (.tmp 140) (.const (.int .i64 0)),(some (135,true))⟩,⟨(some 142),.pick (.tmp 135) (.tmp 141) (.const (.bool false)),none⟩,mv 131 142])
 (.cond (.tmp 131)
 (.seq (.regD [mv 143 0,⟨(some 144),.nilck (.tmp 143),none⟩,⟨(some 145),.faddr 0 (.tmp 144),none⟩,ld 146 145,mv 147 0,⟨(some 148),.nilck (.tmp 147),none⟩,⟨(some 149),.faddr 2 (.tmp 148),none⟩,ld 150 149,mv 151 5,ia 152 1 150 151,ld 153 152,⟨(some 154),.call (.const (.func 36 [] [])) [(.tmp 146),(.tmp 153)],none⟩,mv 155 0,⟨(some 156),.nilck (.tmp 155),none⟩,⟨(some 157),.faddr 1 (.tmp 156),none⟩,ld 158 157,mv 159 5,⟨(some 160),.call (.const (.func 67 [] [])) [(.tmp 158),(.tmp 159)],none⟩,⟨(some 161),.bin .eql (.prim .int) false (.tmp 154) (.tmp 160),none⟩,mv 4 161] [0,1,3,7,0,16,48,112,0,496,1008,2047,0,4096,12288,28672,0,131071,262143,524287])
 (.ret))
 (.seq (.reg [⟨(some 163),.faddr 0 (.tmp 3),none⟩,ld 164 163,⟨(some 165),.bin .eql (.prim .int) true (.tmp 164) (.const (.int .i64 4)),none⟩,mv 166 165,⟨(some 167),.mov (.tmp 0),(some (166,true))⟩,⟨(some 168),.nilck (.tmp 167),(some (166,true))⟩,⟨(some 169),.faddr 2 (.tmp 168),(some (166,true))⟩,⟨(some 170),.load none (.tmp 169),(some (166,true))⟩,⟨(some 171),.len 1 (.tmp 170),(some (166,true))⟩,⟨(some 172),.bin .gtr (.node []) false (.tmp 171) (.const (.int .i64 0)),(some (166,true))⟩,⟨(some 173),.pick (.tmp 166) (.tmp 172) (.const (.bool false)),none⟩,mv 162 173])
 (.cond (.tmp 162)
 (.seq (.regD [mv 175 0,⟨(some 176),.nilck (.tmp 175),none⟩,⟨(some 177),.faddr 0 (.tmp 176),none⟩,ld 178 177,mv 179 0,⟨(some 180),.nilck (.tmp 179),none⟩,⟨(some 181),.faddr 2 (.tmp 180),none⟩,ld 182 181,mv 183 5,ia 184 1 182 183,ld 185 184,⟨(some 186),.call (.const (.func 29 [] [])) [(.tmp 178),(.tmp 185)],none⟩,mv 174 186,xt 187 174 0,xt 188 174 1,xt 189 174 2,mv 10 187,mv 11 188,mv 12 189] [0,1,3,7,0,16,48,112,0,496,1008,2047,4095,8191,8191,8191,16383,98303,262143])
 (.seq (.reg [mv 191 0,⟨(some 192),.nilck (.tmp 191),none⟩,⟨(some 193),.faddr 1 (.tmp 192),none⟩,ld 194 193,mv 195 5,⟨(some 196),.call (.const (.func 68 [] [])) [(.tmp 194),(.tmp 195)],none⟩,mv 190 196,xt 197 190 0,xt 198 190 1,xt 199 190 2,mv 13 197,mv 14 198,mv 15 199])
 (.seq (.reg [mv 200 10,⟨(some 201),.call (.const (.func 70 [] [])) [(.tmp 200)],none⟩,mv 202 13,⟨(some 203),.call (.const (.func 69 [] [])) [(.tmp 201),(.tmp 202)],none⟩,mv 204 203,⟨(some 205),.mov (.tmp 11),(some (204,true))⟩,⟨(some 206),.mov (.tmp 14),(some (204,true))⟩,⟨(some 207),.bin .eql (.prim .int) false (.tmp 205) (.tmp 206),(some (204,true))⟩,⟨(some 208),.pick (.tmp 204) (.tmp 207) (.const (.bool false)),none⟩,mv 209 208,⟨(some 210),.mov (.tmp 12),(some (209,true))⟩,⟨(some 211),.mov (.tmp 15),(some (209,true))⟩,⟨(some 212),.bin .eql (.prim .int) false (.tmp 210) (.tmp 211),(some (209,true))⟩,⟨(some 213),.pick (.tmp 209) (.tmp 212) (.const (.bool false)),none⟩,mv 4 213])
 (.ret))))
 A.ta34_0)))))))))
 (.seq (.reg [⟨(some 4),.mov (.const (.bool true)),none⟩])
 (.ret))
def A.b34:MCode:=.seq (.reg [⟨(some 3),.box 94 (.tmp 1),none⟩,⟨(some 4),.mov (.const (.bool false)),none⟩])
 (.seq (.reg [mc 5 0])
 (.seq (.seq (.reg [mv 16 0,⟨(some 17),.nilck (.tmp 16),none⟩,⟨(some 18),.faddr 2 (.tmp 17),none⟩,ld 19 18,ln 20 19,bc 21 .gtr 20 0])
 (.cond (.tmp 21)
 (.regD [⟨(some 22),.faddr 4 (.tmp 3),none⟩,ld 23 22,⟨(some 24),.convInt .u64 (.tmp 23),none⟩,mv 25 0,⟨(some 26),.nilck (.tmp 25),none⟩,⟨(some 27),.faddr 2 (.tmp 26),none⟩,ld 28 27,ln 29 28,⟨(some 30),.convInt .u64 (.tmp 29),none⟩,bi 31 .rem 24 30,⟨(some 32),.convInt .i64 (.tmp 31),none⟩,mv 5 32] [0,1,3,0,8,24,56,120,248,511,1023,2047])
 (.skip)))
 A.ta34_1))
theorem A.c34:cFunc Tryz.prog 34=some ⟨214,[.tmp 4],A.b34⟩:=by kernel_rfl
def A.k34{K Q f c args st}:=@A.kk 34 _ _ _ A.c34 rfl K Q f c args st
theorem same_fn{B:Nat}{h:T O}{N X k:Nat}{S:RS}{M:MS}{vF:V}{F:List Nat}(J:JB B h N X S M vF F)(r:Rel S M F k):Fn A.C 35 [.ptr X 0] h N (fun v _ _=>v=.bool true):=by
 intro w
 have hx:=J.x
 have hm:=J.MM.r
 unfold MS.cells at hm
 have hlo:∀w,A.C.call (.func 30 [] []) [.ptr S.R 0] ⟨h,N,w⟩=some (.tup [.int .i64 S.over,.int .i64 S.ref],⟨h,N,w⟩):=fun w=>lost_eq J.I
 have hxl:=J.xl.2
 have hml:=J.MM.lt.1
 have hrl:=r.rl
 have hc2:=r.c2
 have hal:=r.rcl
 have o1:=r.over
 have o2:=r.ref
 have hrec:=records_fn J.I (by omega) (fun p hp=>by
  have:p.1∈M.all:=by rw[←r.all];exact List.mem_map.2 ⟨p,hp,rfl⟩
  exact r.vs _ this)
 rw[r.all]at hrec
 rw[call_run,A.k35 (by simp)]
 simp(disch:=first|(simp;done)|omega|rfl) [-getElem?_pos, -oldIds,A.b35,eqPrim,hx,hm,partV,hlo,o1,o2]
 refine run_fn hrec ?_
 rintro u1 h1 n1 k1 g1
 have J1:=J.keep k1
 have hm1:=J1.MM.r
 unfold MS.cells at hm1
 simp(disch:=first|(simp;done)|omega|rfl) [-getElem?_pos, -oldIds]
 refine run_fn (own_fn g1 (by omega)) ?_
 rintro u2 h2 n2 k2 g2
 have J2:=J1.keep k2
 have hx2:=J2.x
 have hm2:=J2.MM.r
 unfold MS.cells at hm2
 have hsr:=fun w=>srec_eq (w:=w) g2 J2.MM.va.rcs (by omega) (fun x hx=>by have:=r.vs x hx;omega)
 have l1:=k1.le
 have l2:=k2.le
 have p1:X<n1:=by omega
 have p2:X<n2:=by omega
 have p3:M.R<n1:=by omega
 have p4:M.R<n2:=by omega
 simp(disch:=first|(simp;done)|omega|rfl) [-getElem?_pos, -oldIds,hx2,hm2,partV,hsr]
 refine(k_regD (by simp[hxl,hml,p1,p2,p3,p4])).2 ?_
 simp(disch:=first|(simp;done)|omega|rfl) [-getElem?_pos,Ret]
 exact k1.trans k2
theorem sent{L:Nat}{a:Int}(h:0<L)(hL:L<1000):∃k:Nat,k<L∧wrapF .i64 ((wrapF .u64 a).tmod (L:Int))=(k:Int):=by
 rw[wrapF_u64_mod]
 have h1:0≤a%18446744073709551616:=Int.emod_nonneg _ (by decide)
 obtain⟨b,hb⟩:∃b:Nat,a%18446744073709551616=(b:Int):=⟨(a%18446744073709551616).toNat,by omega⟩
 rw[hb]
 have h2:(b:Int).tmod (L:Int)=((b%L:Nat):Int):=rfl
 rw[h2]
 have:=Nat.mod_lt b h
 refine⟨b%L,this,wrapF_i64 (by omega) (by omega)⟩
structure CI (B:Nat) (h:T O) (N X R k:Nat):Prop where
 ex:∃S M vF F,JB B h N X S M vF F∧Rel S M F k∧S.R=R
def CallOK(B X R k:Nat):V→T O→Nat→Prop:=fun v h' n'=>v=.bool true∧CI B h' n' X R (k+1)
def CT(B X R k:Nat)(h:T O)(N:Nat)(e:Ex)(fr:Fr)(st:St):Prop:=e=.ret∧∃r',fr=⟨r',214,[]⟩∧r'.get 4=some (.bool true)∧(∀i∈st.w,B≤i)∧Upd (B≤·) h N st.h st.n∧CI B st.h st.n X R (k+1)
structure CR (B:Nat) (h:T O) (N X q:Nat) (kind f t a:Int) (u:V) (kk L:Nat) (r:T V):Prop where
 r0:r.get 0=some (.ptr X 0)
 r3:r.get 3=some (.ptr q 0)
 r5:0<L→r.get 5=some (.int .i64 kk)∧kk<L
 hq:h.get q=some (.cells [.int .i64 kind,.int .i64 f,.int .i64 t,u,.int .i64 a] 94 true)
 lt:q<N
 ge:B≤q
theorem JB.nq{B:Nat}{h:T O}{N X q:Nat}{S:RS}{M:MS}{vF:V}{F:List Nat}{c:List V}{w:Bool}(J:JB B h N X S M vF F)(hq:h.get q=some (.cells c 94 w)):q∉S.ids∧¬M.D q:=by
 refine⟨fun hc=>?_,fun hc=>?_⟩
 ·have:=J.I.ty hc hq;simp at this
 ·rcases hc with rfl|hc
  ·rw[J.MM.r]at hq;simp at hq
  ·obtain⟨c',w',hc⟩:=J.MM.vl.has q hc
   rw[hc]at hq;simp at hq
theorem JB.mD{B:Nat}{h:T O}{N X:Nat}{S:RS}{M:MS}{vF:V}{F:List Nat}(J:JB B h N X S M vF F){i:Nat}(hi:M.D i):B≤i:=by
 rcases hi with rfl|hi
 ·exact J.MM.ge.1
 ·exact J.MM.ge.2 i hi
theorem ge_app{B:Nat}{a b:List Nat}(h1:∀i∈a,B≤i)(h2:∀i∈b,B≤i):∀i∈a++b,B≤i:=fun i hi=>by
 rcases List.mem_append.1 hi with hi|hi
 ·exact h1 i hi
 ·exact h2 i hi
theorem ge_old{B n:Nat}{a:List Nat}(h1:∀i∈a,B≤i):∀i∈oldIds n a,B≤i:=fun i hi=>h1 i (mem_old hi).1
theorem tail_freeze{B:Nat}{h:T O}{N X q k kk:Nat}{S:RS}{M:MS}{vF:V}{F:List Nat}{W:List Nat}{f t a:Int}{u:V}{r0:T V}(J:JB B h N X S M vF F)(r:Rel S M F k)(hB:B≤N)(c:CR B h N X q 1 f t a u kk F.length r0)(hW:∀i∈W,B≤i):
  Code A.C none A.ta34_1 ⟨r0,214,[]⟩ ⟨h,N,W⟩ (CT B X S.R k h N):=by
 rw[code_run]
 obtain⟨a0,a3,_,hq,hqN,hqB⟩:=c
 have hx:=J.x
 have hm:=J.MM.r
 unfold MS.cells at hm
 have hml:=J.MM.lt.1
 have hxl:=J.xl.2
 obtain⟨nq1,nq2⟩:=J.nq hq
 have v1:=J.MM.va.one.1
 have v2:=J.MM.vl.one.1
 unfold V.one at v1 v2
 obtain⟨b,hb⟩:∃b,(!decide (a.tmod 2=0))=b:=⟨_,rfl⟩
 have U1:Upd M.D h N (h.set M.R (.cells (MS.cells {M with fz:=b}) 99 true)) N:=Upd.refl.set (.inl (.inl rfl))
 obtain⟨q1,q2,q3⟩:=J.MM.rest U1
 have M1:=J.MM.write (ls:=M.ls) (vl:=M.vl) U1 M.last b M.over M.ref (by rw[T.get_set,if_pos rfl]) q1 q2 (J.MM.vl.eq fun i hi=>by rw[T.get_set,if_neg];rintro rfl;exact J.MM.vl.has.ne J.MM.r (by simp) hi) q3 (fun j hj=>⟨J.MM.ge.2 j hj,J.MM.lt.2 j hj⟩)
 have J1:=J.model U1 M1 rfl (fun i hi=>.inl hi)
 have d1:¬X=M.R:=by rintro rfl;rw[J.MM.r]at hx;simp at hx
 have d2:¬q=M.R:=fun hc=>nq2 (.inl hc)
 have e1:∀(a b c d e:V),splice [a,M.va,b,.bool M.fz,c,d,M.vl] 3 [e]=[a,M.va,b,e,c,d,M.vl]:=fun _ _ _ _ _=>rfl
 simp(disch:=first|(simp;done)|omega|rfl) [-getElem?_pos, -oldIds,A.ta34_1,eqPrim,a0,a3,hq,hx,hm,partV,hb,storeK2,e1]
 refine(k_regD (by simp[-oldIds,hxl,hqN,hml,any_none,meets_nil])).2 ?_
 have I1:=J1.I
 simp only[MS.cells]at I1
 simp(disch:=first|(simp;done)|omega|rfl) [-getElem?_pos, -oldIds,eqPrim,a0,a3,hx,hq,d1,d2,partV,hb]
 refine run_fnD (freeze_fn (b:=b) I1) ?_
 rintro _ h2 n2 w2 hw2 U2 ⟨rfl,rfl,I2⟩
 have J2:=J1.prog (S':={S with fz:=b}) U2 (fun i hi=>hi) I2 rfl (fun i hi=>.inl hi) (fun p hp=>.inl hp) (fun l hl _=>⟨l,hl,rfl⟩) hB
 simp(disch:=first|(simp;done)|omega|rfl) [-getElem?_pos, -oldIds,eqPrim]
 refine(k_regD (by simp[-oldIds,hxl,hqN,hml,any_none,meets_nil])).2 ?_
 simp(disch:=first|(simp;done)|omega|rfl) [-getElem?_pos, -oldIds,eqPrim]
 refine⟨rfl,_,rfl,by simp,?_,?_,⟨_,_,_,_,J2,?_,rfl⟩⟩
 ·exact ge_app (ge_old fun i hi=>J.old i ((hw2 i hi).resolve_left (by simp))) (ge_app (ge_old (by simpa using J.MM.ge.1)) hW)
 ·exact(U1.mono fun i _ hi=>J.mD hi).trans (U2.mono fun i _ hi=>J.old i hi)
 ·exact(Rel.up r:Rel S M F (k+1)) |> fun r=>⟨r.cap,r.c1,r.c2,rfl,r.last,r.over,r.ref,r.all,r.ls,r.len,r.nd,r.l8,r.la,r.lo,r.mlo,r.bo,r.fl,r.rl,r.vs⟩
end Go.Mx
