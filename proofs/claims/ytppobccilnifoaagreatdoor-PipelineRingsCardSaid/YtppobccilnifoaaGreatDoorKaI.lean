/-
  A ring: Put of a record.
-/
import Derived.Test.YtppobccilnifoaaGreatDoorNbK
import Derived.Test.YtppobccilnifoaaGreatDoorMxGr3
set_option linter.all false
namespace Go.Mx
open Go Go.Proofs
set_option maxRecDepth 1000000
theorem RI.setV{h h':T O}{N N':Nat}{S:RS}(I:RI h N S){v':V}{rc':List (Rc×V)}(cap:Int)(fz:Bool)(last over ref:Int)(U:Upd (fun i=>i=S.R∨i∈rowV S.vr) h N h' N')(g:h'.get S.R=some (.cells [.int .i64 cap,.bool fz,v',.int .i64 last,.int .i64 over,.int .i64 ref,S.vl] 147 true))(hrow:Row 3 78 h' v' (rc'.map rcC))(hv:∀i∈rowV v',i∈rowV S.vr∨(N≤i∧i<N'))(nv:(rowV v').Nodup)
  (hrc:∀p∈rc',Sl h' N' p.2 (strs p.1.vs)∧∀i∈rowV p.2,i∉S.ids∧i∉rowV v'):RI h' N' {S with cap:=cap,fz:=fz,vr:=v',rc:=rc',last:=last,over:=over,ref:=ref}:=by
 have nd:=I.nd
 have hnd:∀i∈rowV S.vl,i≠S.R∧i∉rowV S.vr:=by
  simp only[RS.ids,List.nodup_cons,List.nodup_append,List.mem_append,List.mem_cons,not_or]at nd
  grind
 have hnl:∀l∈S.ls,∀i∈l.ids,i≠S.R∧i∉rowV S.vr:=fun l hl i hi=>by
  have hi2:i∈S.ls.flatMap Lr.ids:=List.mem_flatMap.2 ⟨l,hl,hi⟩
  simp only[RS.ids,List.nodup_cons,List.nodup_append,List.mem_append,List.mem_cons,not_or]at nd
  grind
 have hd:∀i,i∈S.R::(rowV S.vr++(rowV S.vl++S.ls.flatMap Lr.ids))→i<N:=I.lt
 refine⟨g,hrow,I.vl.eq fun i hi=>U.get i (I.lt i (RI.ml hi)) (by have:=hnd i hi;grind),fun l hl=>⟨?_,?_⟩,?_,?_,fun p hp=>⟨(hrc p hp).1,fun i hi hc=>?_⟩⟩
 ·exact(U.get _ (I.lt _ (RI.mL (S:=S) hl).1) (by have:=hnl l hl l.L (by simp[Lr.ids]);grind)).trans (I.l l hl).1
 ·exact(U.get _ (I.lt _ (RI.mL (S:=S) hl).2) (by have:=hnl l hl l.C (by simp[Lr.ids]);grind)).trans (I.l l hl).2
 ·have:=nd_gen (A':=rowV v') (B':=rowV S.vl) (X:=[]) I.nd I.lt (fun i hi=>(hv i hi).imp id (·.1)) (fun i hi=>.inl hi) nv (by simp only[RS.ids,List.nodup_cons,List.nodup_append]at nd;exact nd.2.2.1.1) (by simp) (by simp) (fun i hi hn hc=>by have:=I.lt i (RI.ml hc);omega) (by simp) (by simp)
  simpa[RS.ids]using this
 ·intro i hi
  have h1:=I.lt i
  simp only[RS.ids,List.mem_cons,List.mem_append]at hi h1
  rcases hi with hi|hi|hi
  ·have:=h1 (.inl hi);have:=U.le;omega
  ·rcases hv i hi with hi|hi
   ·have:=h1 (.inr (.inl hi));have:=U.le;omega
   ·exact hi.2
  ·have:=h1 (.inr (.inr hi));have:=U.le;omega
 ·have h1:=(hrc p hp).2 i hi
  simp only[RS.ids,List.mem_cons,List.mem_append,not_or]at hc h1
  grind
theorem Lr.tell_ids(l:Lr)(p:Int×Int):(l.tell p).L=l.L∧(l.tell p).C=l.C∧(l.tell p).cap=l.cap:=by unfold Lr.tell;split<;>exact⟨rfl,rfl,rfl⟩
def toldL(ls:List Lr)(p:Int×Int)(k:Nat):List Lr:=(ls.take k).map (fun l=>l.tell p)++ls.drop k
theorem toldL_at{ls:List Lr}{p:Int×Int}{k:Nat}{l:Lr}(h:ls[k]?=some l):(toldL ls p k)[k]?=some l:=by
 have:=lt_of_get h
 unfold toldL
 rw[List.getElem?_append_right (by simp;omega)]
 simp[Nat.min_eq_left (Nat.le_of_lt this),h]
theorem toldL_set{ls:List Lr}{p:Int×Int}{k:Nat}{l:Lr}(h:ls[k]?=some l):(toldL ls p k).set k (l.tell p)=toldL ls p (k+1):=by
 have hk:=lt_of_get h
 unfold toldL
 rw[List.set_append_right _ _ (by simp;omega)]
 simp only[List.length_map,List.length_take,Nat.min_eq_left (Nat.le_of_lt hk),Nat.sub_self]
 rw[get_drop_cons h,List.set_cons_zero,List.take_add_one,h]
 simp
theorem toldL_ids(ls:List Lr)(p:Int×Int)(k:Nat):(toldL ls p k).flatMap Lr.ids=ls.flatMap Lr.ids:=by
 have e:∀m:List Lr,(m.map fun l=>l.tell p).flatMap Lr.ids=m.flatMap Lr.ids:=fun m=>by
  rw[List.flatMap_def,List.flatMap_def,List.map_map]
  congr 1
  apply List.map_congr_left
  intro l _
  simp[Lr.ids,Lr.tell_ids]
 unfold toldL
 rw[List.flatMap_append,e,←List.flatMap_append,List.take_append_drop]
structure TlI (H:T O) (n:Nat) (S:RS) (p:Int×Int) (q:Nat) (fv:V) (W:List Nat) (m:Nat) (r:T V) (st:St):Prop where
 ex:∃k,k+m=S.ls.length∧r.get 82=some (.int .i64 k)∧(∀i∈st.w,i∈W∨i∈S.ids)∧Upd (·∈S.ids) H n st.h st.n∧RI st.h st.n {S with ls:=toldL S.ls p k}
theorem put_tail{H:T O}{n q:Nat}{S:RS}{W:List Nat}{r:T V}{p:Int×Int}{fv:V}{e0:TypeId}{w0:Bool}(I:RI H n S)(hq:H.get q=some (.cells [.int .i64 p.1,.int .i64 p.2,fv] e0 w0))(hqn:q<n)(hqi:q∉S.ids)(a0:r.get 0=some (.ptr S.R 0))(a3:r.get 3=some (.ptr q 0))(hll:S.ls.length<1000)(hlo:∀l∈S.ls,0≤l.lost∧l.lost<1000000∧l.last.1<p.1):
  Code A.C none A.ta28_0 ⟨r,94,[]⟩ ⟨H,n,W⟩ (fun e fr st=>e=.ret∧∃r',fr=⟨r',94,[]⟩∧r'.get 4=some (.int .i64 0)∧(∀i∈st.w,i∈W∨i∈S.ids)∧Upd (·∈S.ids) H n st.h st.n∧RI st.h st.n {S with ls:=S.ls.map fun l=>l.tell p}):=by
 rw[code_run]
 have hr:=I.r
 unfold RS.cells at hr
 have hlen:=I.vl.len
 rw[List.length_map]at hlen
 have hidk:∀k,RS.ids {S with ls:=toldL S.ls p k}=S.ids:=fun k=>by simp only[RS.ids,toldL_ids]
 simp(disch:=first|(simp;done)|omega|rfl) [-getElem?_pos,A.ta28_0,a0,hr,hlen,partV]
 refine run_loopD [(7,7),(82,93)] (fun e r st=>e=.exit 0∧TlI H n S p q fv W 0 r st) (TlI H n S p q fv W) S.ls.length ?_ ?_ ?_
 ·exact⟨0,by omega,by simp,fun i hi=>.inl hi,Upd.refl,by simpa[toldL]using I⟩
 ·rintro m r2 ⟨H2,n2,W2⟩ hr2 hf ⟨k,hk,h82,hW,hU,hI⟩
  simp only at hW hU hI
  rw[code_run]
  cases m with
  |zero=>
   obtain rfl:k=S.ls.length:=by omega
   simp(disch:=first|(simp;done)|omega|rfl) [-getElem?_pos,A.lb28_0,hr2,hf,h82]
   exact⟨S.ls.length,by omega,by simp[h82],hW,hU,hI⟩
  |succ m=>
   have hlt:k<S.ls.length:=by omega
   have hk1:(k:Int)<(S.ls.length:Int):=by omega
   obtain⟨l,hl⟩:=get_of_lt hlt
   have hl2:=toldL_at (p:=p) hl
   have hm2:l∈RS.ls {S with ls:=toldL S.ls p k}:=List.mem_of_getElem? hl2
   obtain⟨g1,g2⟩:=hI.l l hm2
   obtain⟨m1,m2⟩:=RI.mL hm2
   obtain⟨b1,b2,b3⟩:=hlo l (List.mem_of_getElem? hl)
   have hvl:=hI.vl.sn (N:=n2) fun i hi=>hI.lt i (RI.ml hi)
   obtain⟨i,o,c,e,rw,x1,x2,x3,x4⟩:=hvl.at (j:=k) (x:=ptC l) (by rw[List.getElem?_map,hl2];rfl)
   have x5:=slc_get x4 (f:=0) (by omega)
   simp[ptC]at x5
   have hq2:=(hU.get q hqn hqi).trans hq
   simp(disch:=first|(simp;done)|omega|rfl) [-getElem?_pos,A.lb28_0,hr2,hf,h82,hk1,hlt,hlen,x1,x3,x5,a3,hq2,partV,splice]
   refine run_fnD (send_fn (l:=l) (p:=p) g1 g2 (hI.lt _ m1) (hI.lt _ m2) (hI.LC hl2) (by omega) b1 b2) ?_
   rintro _ h3 n3 w3 hw3 U3 ⟨rfl,q1,q2⟩
   have I3:=hI.setL hl2 (l':=l.tell p) (l.tell_ids p).1 (l.tell_ids p).2.1 U3 q1 (by rw[(l.tell_ids p).2.2];exact q2)
   simp only[toldL_set hl]at I3
   rw[hidk]at m1 m2
   simp(disch:=first|(simp;done)|omega|rfl) [-getElem?_pos,hr2,hf,h82]
   refine⟨m,by omega,k+1,by omega,by simp,?_,?_,I3⟩
   ·intro i hi
    rcases hw3 i hi with hi|rfl|rfl
    ·exact hW i hi
    ·exact .inr m1
    ·exact .inr m2
   ·exact hU.trans (U3.mono fun i _ hi=>by
     rcases hi with rfl|rfl
     ·exact m1
     ·exact m2)
 ·rintro _ r2 ⟨H2,n2,W2⟩ hr2 ⟨rfl,k,hk,h82,hW,hU,hI⟩
  simp only at hW hU hI
  obtain rfl:k=S.ls.length:=by omega
  have et:toldL S.ls p S.ls.length=S.ls.map fun l=>l.tell p:=by simp[toldL]
  rw[et]at hI
  simp(disch:=first|(simp;done)|omega|rfl) [-getElem?_pos,hr2]
  exact⟨hW,hU,hI⟩
theorem put_ok{h:T O}{N:Nat}{S:RS}{x:Rc}{u:V}(I:RI h N S)(hu:Sl h N u (strs x.vs))(hl:x.vs.length<1000)(hs:∀s∈x.vs,s.length≤100000)(hc:chkRc x=0)(hle:¬x.f≤S.last)(hfz:S.fz=false)(h0:0≤S.over)(h1:S.over<1000000)(hrl:S.rc.length<1000)(hun:∀i∈rowV u,i∉S.ids)(hll:S.ls.length<1000)(hlo:∀l∈S.ls,0≤l.lost∧l.lost<1000000∧l.last.1<x.f):FnD A.C (·∈S.ids) 28 [.ptr S.R 0,.agg [.int .i64 x.f,.int .i64 x.t,u]] h N (fun v h' n'=>v=.int .i64 0∧∃vr' u',RI h' n' {S with vr:=vr',rc:=pushed S.cap S.rc (x,u'),last:=x.f,over:=if S.cap<((S.rc.length+1:Nat):Int) then S.over+1 else S.over,ls:=S.ls.map fun l=>l.tell (x.f,x.t)}∧(∀i∈rowV u',N≤i)∧(∀i∈rowV vr',i∈rowV S.vr∨N≤i)):=by
 intro w
 have o1:=hu.form.one
 have o2:=hu.form.cells
 unfold V.one at o1
 unfold V.cells at o2
 have hR:=I.lt S.R RI.mR
 have hr:=I.r
 unfold RS.cells at hr
 have r1:=I.vr.one
 have r2:=I.vl.one
 unfold V.one at r1 r2
 unfold V.cells at r1 r2
 have k0:=(Keeps.refl (h:=h) (n:=N)).new (.cells [.int .i64 x.f,.int .i64 x.t,u] 78 true)
 rw[call_run,A.k28 (by simp)]
 simp(disch:=first|(simp;done)|omega|rfl) [-getElem?_pos,A.b28,o1,o2,eqPrim,splice,partV,slc]
 refine run_fn (rcheck0_fn (hu.keep k0) hl hs) ?_
 rintro _ h1 n1 k1 rfl
 have kle:=k1.le
 have g0:=(k1.get N (by omega)).trans (by rw[T.get_set,if_pos rfl])
 have gR:=(k1.get S.R (by omega)).trans ((k0.get _ hR).trans hr)
 have e1:N<n1:=by omega
 have e2:S.R<n1:=by omega
 have e3:¬S.R=n1:=by omega
 have e4:¬N=n1:=by omega
 have e5:¬N=S.R:=by omega
 have kk:=(k0.trans k1).new (.cells [.int .i64 0,.int .i64 0] 26 true)
 have I1:=(I.keep (D:=fun _=>False) kk.upd (by simp) (by simp))
 have IH:=I1.setR S.cap false x.f S.over S.ref
 have hu1:=hu.keep kk
 have hu2:=hu1.moved (D:=fun i=>i=S.R) (Upd.refl.set (i:=S.R) (o:=.cells (RS.cells {S with cap:=S.cap,fz:=false,last:=x.f,over:=S.over,ref:=S.ref}) 147 true) (.inl rfl)) (fun i hi hc=>hun i hi (hc▸RI.mR))
 simp only[RS.cells]at IH hu2
 rw[hfz]at gR
 simp(disch:=first|(simp;done)|omega|rfl) [-getElem?_pos, -oldIds,g0,gR,e1,e2,e3,e4,e5,hc,hle,partV,when_eq,splice,pfirst2,firstNZ,eqPrim,pairsOk.chk,storeK2,r1,r2,slc]
 generalize hH3:(h1.set n1 (.cells [.int .i64 0,.int .i64 0] 26 true)).set S.R (.cells [.int .i64 S.cap,.bool false,S.vr,.int .i64 x.f,.int .i64 S.over,.int .i64 S.ref,S.vl] 147 true)=H3 at*
 have g3:H3.get S.R=some (.cells [.int .i64 S.cap,.bool false,S.vr,.int .i64 x.f,.int .i64 S.over,.int .i64 S.ref,S.vl] 147 true):=IH.r
 refine run_fn (clone_fn hu2 (by omega)) ?_
 rintro _ h4 n4 k4 ⟨u',rfl,hu',hrow',_⟩
 have kle4:=k4.le
 have b1:(V.agg (rcC (x,u'))).cells=rcC (x,u'):=rfl
 have b2:=hu'.form.one
 unfold V.one at b2
 have IH4:=IH.keep (D:=fun _=>False) (k4.new (.cells (rcC (x,u')) 78 true)).upd (by simp) (by simp)
 simp(disch:=first|(simp;done)|omega|rfl) [-getElem?_pos, -oldIds,rcC,b2,splice]
 have lv:∀i∈rowV S.vr,i<n4:=fun i hi=>by have:=IH.lt i (RI.mr (S:={S with fz:=false,last:=x.f}) hi);omega
 obtain⟨v5,h5,n5,w5,f1,f2,f3,f4,f5,f6⟩:=append_row (w:=[]) (N:=n4+1) (bytes:=40) (u:=.slice n4 0 1 (some 1) 3) (x:=rcC (x,u')) IH4.vr (fun i hi=>by have:=lv i hi;omega) (by decide) rfl (by simp[srcCells,St.row,slc,rcC]) (by show (2*((S.rc.map rcC).length+1)+1000)*40≤_;rw[List.length_map];omega)
 simp only[rcC]at f1
 have nR:=(RI.nR IH4).1
 have gR5:=(f3.get S.R (by omega) nR).trans (IH4.r)
 simp only[RS.cells]at gR5 nR
 have b3:=f6.one
 unfold V.one at b3
 unfold V.cells at b3
 have kle5:=f3.le
 have e6:S.R<n5:=by omega
 have e7:S.R<n1+1:=by omega
 have e8:N<n1+1:=by omega
 simp(disch:=first|(simp;done)|omega|rfl) [-getElem?_pos, -oldIds,f1,gR5,b3,splice,storeK2,any_none,meets_nil,e6,e7,e8,pairsOk.chk]
 have hlen5:=f6.len
 rw[List.length_append,List.length_map,List.length_singleton]at hlen5
 have c1:((S.rc.length+1:Nat):Int)=(S.rc.length:Int)+1:=by omega
 have hN':N∉S.ids:=fun hc=>by have:=I.lt N hc;omega
 have U5:Upd (fun i=>i=S.R∨i∈rowV S.vr) (h4.set n4 (.cells (rcC (x,u')) 78 true)) (n4+1) (h5.set S.R (.cells [.int .i64 S.cap,.bool false,v5,.int .i64 x.f,.int .i64 S.over,.int .i64 S.ref,S.vl] 147 true)) n5:=(f3.mono fun i _ hi=>.inr hi).set (.inl (.inl rfl))
 have slt:∀(h:T O) (M:Nat) (v:V) (l:List V),Sl h M v l→∀i∈rowV v,i<M:=fun h M v l s i hi=>by
  rcases s with⟨_,rfl|rfl⟩|⟨j,o,cp,c,e,rw,rfl,hj,_⟩
  ·simp[rowV]at hi
  ·simp[rowV]at hi
  ·simp[rowV]at hi;omega
 have I6:=IH4.setV (v':=v5) (rc':=S.rc++[(x,u')]) S.cap false x.f S.over S.ref U5 (by rw[T.get_set,if_pos rfl]) (by
   have:=f6.eq (h':=h5.set S.R (.cells [.int .i64 S.cap,.bool false,v5,.int .i64 x.f,.int .i64 S.over,.int .i64 S.ref,S.vl] 147 true)) (fun i hi=>by
    rw[T.get_set,if_neg]
    rintro rfl
    rcases f4 _ hi with hi|hi
    ·exact nR hi
    ·omega)
   simpa using this) f4 f5 (fun p hp=>by
   rcases List.mem_append.1 hp with hp|hp
   ·obtain⟨s1,s2⟩:=IH4.sl p hp
    have s3:=slt _ _ _ _ s1
    refine⟨s1.moved U5 fun i hi hc=>?_,fun i hi=>⟨s2 i hi,fun hc=>?_⟩⟩
    ·rcases hc with hc|hc
     ·exact s2 i hi (by rw[hc];exact RI.mR)
     ·exact s2 i hi (RI.mr (S:={S with fz:=false,last:=x.f}) hc)
    ·rcases f4 i hc with hc|hc
     ·exact s2 i hi (RI.mr (S:={S with fz:=false,last:=x.f}) hc)
     ·have:=s3 i hi;omega
   ·simp only[List.mem_singleton]at hp
    subst hp
    have s3:=slt _ _ _ _ hu'
    have s2:∀i∈rowV u',i∉S.ids:=fun i hi hc=>by have:=hrow' i hi;have:=I.lt i hc;omega
    refine⟨(hu'.keep (Keeps.refl.new _)).moved U5 fun i hi hc=>?_,fun i hi=>⟨s2 i hi,fun hc=>?_⟩⟩
    ·rcases hc with hc|hc
     ·exact s2 i hi (by rw[hc];exact RI.mR)
     ·exact s2 i hi (RI.mr hc)
    ·rcases f4 i hc with hc|hc
     ·exact s2 i hi (RI.mr hc)
     ·have:=s3 i hi;omega)
 have g6N:(h5.set S.R (.cells [.int .i64 S.cap,.bool false,v5,.int .i64 x.f,.int .i64 S.over,.int .i64 S.ref,S.vl] 147 true)).get N=some (.cells [.int .i64 x.f,.int .i64 x.t,u] 78 true):=by
  rw[U5.get N (by omega) (by rintro(hc|hc);exact e5 hc;exact hN' (RI.mr hc)),T.get_set,if_neg (by omega),k4.get N (by omega),←hH3,T.get_set,if_neg e5,T.get_set,if_neg e4,g0]
 have hlen5:lenV v5=some (S.rc.length+1):=hlen5
 have hlog:∀i∈oldIds n5 [S.R]++(oldIds (n4+1) w5++[S.R]),i∈S.ids:=fun i hi=>by
  rcases List.mem_append.1 hi with hi|hi
  ·have:=(mem_old hi).1;simp at this;rw[this];exact RI.mR
  ·rcases List.mem_append.1 hi with hi|hi
   ·rcases f2 i (mem_old hi).1 with hi|hi
    ·simp at hi
    ·exact RI.mr (S:=S) hi
   ·simp at hi;rw[hi];exact RI.mR
 generalize oldIds n5 [S.R]++(oldIds (n4+1) w5++[S.R])=W6 at*
 have U6:Upd (·∈S.ids) h N (h5.set S.R (.cells [.int .i64 S.cap,.bool false,v5,.int .i64 x.f,.int .i64 S.over,.int .i64 S.ref,S.vl] 147 true)) n5:=by
  have a1:Upd (·∈S.ids) h N H3 (n1+1):=by rw[←hH3];exact kk.upd.set (.inl RI.mR)
  exact(a1.trans (k4.new (.cells (rcC (x,u')) 78 true)).upd).trans (U5.mono fun i _ hi=>by
   rcases hi with rfl|hi
   ·exact RI.mR
   ·exact RI.mr hi)
 have hv5:∀i∈rowV v5,i∈S.ids∨N≤i:=fun i hi=>by
  rcases f4 i hi with hi|hi
  ·exact .inl (RI.mr (S:=S) hi)
  ·exact .inr (by omega)
 have hids6:∀i,i∈RS.ids {S with vr:=v5}→i∈S.ids∨N≤i:=fun i hi=>by
  simp only[RS.ids,List.mem_cons,List.mem_append]at hi ⊢
  rcases hi with hi|hi|hi
  ·exact .inl (.inl hi)
  ·rcases hv5 i hi with hi|hi
   ·exact .inl (by simpa[RS.ids]using hi)
   ·exact .inr hi
  ·exact .inl (.inr (.inr hi))
 have hN6:N∉RS.ids {S with vr:=v5}:=fun hc=>by
  simp only[RS.ids,List.mem_cons,List.mem_append]at hc
  rcases hc with hc|hc|hc
  ·omega
  ·rcases f4 N hc with hc|hc
   ·exact hN' (RI.mr hc)
   ·omega
  ·exact hN' (by simp only[RS.ids,List.mem_cons,List.mem_append];exact .inr (.inr hc))
 by_cases hcap:S.cap<(S.rc.length:Int)+1
 ·have hdel:=delete_fn (k:=0) I6.vr (fun i hi=>I6.lt i (RI.mr hi)) (by simp) (by simp;omega)
  simp only[Int.natCast_zero,Int.ofNat_zero,Int.zero_add]at hdel
  simp(disch:=first|(simp;done)|omega|rfl) [-getElem?_pos, -oldIds,hlen5,hcap,any_none,meets_nil,e6]
  refine run_fnD hdel ?_
  rintro v7 h7 n7 w7 hw7 U7 ⟨rfl,hid7,row7⟩
  have hid7:rowV v7=rowV v5:=hid7
  have g7:=(U7.get S.R e6 (RI.nR I6).1).trans (by rw[T.get_set,if_pos rfl])
  have b7:=row7.one
  unfold V.one at b7
  unfold V.cells at b7
  have row7':Row 3 78 h7 v7 (((S.rc++[(x,u')]).drop 1).map rcC):=by simpa using row7
  have U7':Upd (fun i=>i=S.R∨i∈rowV v5) (h5.set S.R (.cells [.int .i64 S.cap,.bool false,v5,.int .i64 x.f,.int .i64 S.over,.int .i64 S.ref,S.vl] 147 true)) n7 ((h7.set S.R (.cells [.int .i64 S.cap,.bool false,v7,.int .i64 x.f,.int .i64 S.over,.int .i64 S.ref,S.vl] 147 true)).set S.R (.cells [.int .i64 S.cap,.bool false,v7,.int .i64 x.f,.int .i64 (S.over+1),.int .i64 S.ref,S.vl] 147 true)) n7:=((U7.mono fun i _ hi=>.inr hi).set (.inl (.inl rfl))).set (.inl (.inl rfl))
  have I7:=I6.setV (v':=v7) (rc':=(S.rc++[(x,u')]).drop 1) S.cap false x.f (S.over+1) S.ref U7' (by rw[T.get_set,if_pos rfl]) (row7'.eq fun i hi=>by
    have:¬i=S.R:=by rintro rfl;rw[hid7]at hi;exact(RI.nR I6).1 hi
    rw[T.get_set,if_neg this,T.get_set,if_neg this]) (fun i hi=>.inl (by rw[hid7]at hi;exact hi)) (by rw[hid7];exact f5) (fun p hp=>by
    obtain⟨s1,s2⟩:=I6.sl p (List.mem_of_mem_drop hp)
    refine⟨s1.moved U7' fun i hi hc=>?_,fun i hi=>⟨s2 i hi,fun hc=>s2 i hi (by rw[hid7]at hc;exact RI.mr (S:={S with vr:=v5}) hc)⟩⟩
    rcases hc with hc|hc
    ·exact s2 i hi (by rw[hc];exact RI.mR)
    ·exact s2 i hi (RI.mr (S:={S with vr:=v5}) hc))
  have hid8:RS.ids {S with vr:=v7}=RS.ids {S with vr:=v5}:=by simp only[RS.ids,hid7]
  simp(disch:=first|(simp;done)|omega|rfl) [-getElem?_pos, -oldIds,g7,b7,splice,storeK2,partV]
  refine run_code (put_tail (p:=(x.f,x.t)) I7 ((U7'.get N (by have:=U6.le;omega) (by rintro(hc|hc);exact e5 hc;exact hN6 (RI.mr (S:={S with vr:=v5}) hc))).trans g6N) (by have:=U6.le;omega) (by rw[←hid8]at hN6;exact hN6) (by simp) (by simp) hll hlo) ?_
  rintro e fr ⟨H8,n8,W8⟩ ⟨rfl,r8,rfl,r4,hw8,U8,I8⟩
  simp only at hw8 U8 I8
  simp(disch:=first|(simp;done)|omega|rfl) [-getElem?_pos, -oldIds,r4]
  refine retD_fin ?_ ?_ ⟨rfl,v7,u',?_,fun i hi=>by have:=hrow' i hi;omega,fun i hi=>?_⟩
  ·intro i hi hiN
   rcases hw8 i hi with hi|hi
   ·rcases List.mem_cons.1 hi with rfl|hi
    ·exact RI.mR
    ·rcases List.mem_cons.1 hi with rfl|hi
     ·exact RI.mR
     ·rcases hw7 i hi with hi|hi
      ·exact hlog i hi
      ·exact(hv5 i hi).resolve_right (by omega)
   ·exact(hids6 i (by rw[←hid8];exact hi)).resolve_right (by omega)
  ·exact(U6.then U7' fun i hiN hi=>by
    rcases hi with rfl|hi
    ·exact RI.mR
    ·exact(hv5 i hi).resolve_right (by omega)).then U8 fun i hiN hi=>(hids6 i (by rw[←hid8];exact hi)).resolve_right (by omega)
  ·unfold pushed
   rw[if_pos (by omega),hfz]
   exact I8
  ·rw[hid7]at hi
   rcases f4 i hi with hi|hi
   ·exact .inl hi
   ·exact .inr (by omega)
 ·simp(disch:=first|(simp;done)|omega|rfl) [-getElem?_pos, -oldIds,hlen5,hcap,any_none,meets_nil,e6]
  refine run_code (put_tail (p:=(x.f,x.t)) I6 g6N (by have:=U6.le;omega) hN6 (by simp) (by simp) hll hlo) ?_
  rintro e fr ⟨H8,n8,W8⟩ ⟨rfl,r8,rfl,r4,hw8,U8,I8⟩
  simp only at hw8 U8 I8
  simp(disch:=first|(simp;done)|omega|rfl) [-getElem?_pos, -oldIds,r4]
  refine retD_fin ?_ ?_ ⟨rfl,v5,u',?_,fun i hi=>by have:=hrow' i hi;omega,fun i hi=>?_⟩
  ·intro i hi hiN
   rcases hw8 i hi with hi|hi
   ·exact hlog i hi
   ·exact(hids6 i hi).resolve_right (by omega)
  ·exact U6.then U8 fun i hiN hi=>(hids6 i hi).resolve_right (by omega)
  ·unfold pushed
   rw[if_neg (by omega),hfz]
   exact I8
  ·rcases f4 i hi with hi|hi
   ·exact .inl hi
   ·exact .inr (by omega)
end Go.Mx
namespace Go.Mx
open Go Go.Proofs
set_option maxRecDepth 1000000
def A.b33:MCode:=.seq (.reg [⟨(some 2),.mov (.const .nilslice),none⟩])
 (.seq (.seq (.reg [mv 3 0,⟨(some 4),.bin .eql (.prim .ptr) true (.tmp 3) (.const .nilptr),none⟩])
 (.cond (.tmp 4)
 (.seq (.reg [⟨(some 2),.mov (.const .nilslice),none⟩])
 (.ret))
 (.skip)))
 (.seq (.reg [mv 5 0,⟨(some 6),.nilck (.tmp 5),none⟩,⟨(some 7),.faddr 2 (.tmp 6),none⟩,ld 8 7,⟨(some 9),.call (.const (.func 65 [] [])) [(.tmp 8),(.const (.func 60 [] []))],none⟩,mv 2 9])
 (.ret)))
theorem A.c33:cFunc Tryz.prog 33=some ⟨10,[.tmp 2],A.b33⟩:=by kernel_rfl
def A.k33{K Q f c args st}:=@A.kk 33 _ _ _ A.c33 rfl K Q f c args st
def RcS(h:T O)(N:Nat)(v:V)(l:List Rc):Prop:=∃cs:List (List V),Sn 3 h N v cs∧cs.length=l.length∧∀(j:Nat) (x:Rc),l[j]?=some x→∃u,cs[j]?=some (rcC (x,u))∧Sl h N u (strs x.vs)
theorem RcS.keep{h h':T O}{N N':Nat}{v:V}{l:List Rc}(s:RcS h N v l)(k:Keeps h N h' N'):RcS h' N' v l:=by
 obtain⟨cs,h1,h2,h3⟩:=s
 refine⟨cs,h1.keep k,h2,fun j x hx=>?_⟩
 obtain⟨u,h4,h5⟩:=h3 j x hx
 exact⟨u,h4,h5.keep k⟩
theorem RcS.len{h:T O}{N:Nat}{v:V}{l:List Rc}(s:RcS h N v l):lenV v=some l.length:=by
 obtain⟨cs,h1,h2,h3⟩:=s
 rw[h1.len,h2]
theorem RcS.at{h:T O}{N:Nat}{v:V}{l:List Rc}(s:RcS h N v l){j:Nat}{x:Rc}(hj:l[j]?=some x):∃i o c e rw u,baseV v=some (i,o)∧i<N∧h.get i=some (.cells c e rw)∧slc c (o+j*3) 3=some (rcC (x,u))∧Sl h N u (strs x.vs):=by
 obtain⟨cs,h1,h2,h3⟩:=s
 obtain⟨u,h4,h5⟩:=h3 j x hj
 obtain⟨i,o,c,e,rw,q1,q2,q3,q4⟩:=h1.at h4
 exact⟨i,o,c,e,rw,u,q1,q2,q3,q4,h5⟩
theorem rc_parts{c:List V}{o:Nat}{x:Rc}{u:V}(h:slc c o 3=some (rcC (x,u))):partV c o (some 3)=some (.agg (rcC (x,u)))∧c[o]?=some (.int .i64 x.f)∧c[o+1]?=some (.int .i64 x.t)∧c[o+2]?=some u:=
 ⟨partV_slc h,slc_get h (f:=0) (by omega),slc_get h (f:=1) (by omega),slc_get h (f:=2) (by omega)⟩
theorem records_fn{h:T O}{N:Nat}{S:RS}(I:RI h N S)(hl:S.rc.length<1000)(hv:∀p∈S.rc,p.1.vs.length<1000):Fn A.C 33 [.ptr S.R 0] h N (fun v h' n'=>RcS h' n' v (S.rc.map Prod.fst)):=by
 intro w
 have hR:=I.lt S.R RI.mR
 have hr:=I.r
 unfold RS.cells at hr
 have hvr:=I.vr.sn (N:=N) fun i hi=>I.lt i (RI.mr hi)
 rw[call_run,A.k33 (by simp)]
 simp(disch:=first|(simp;done)|omega|rfl) [-getElem?_pos,A.b33,eqPrim,hr,partV]
 refine run_fn (mapRR_fn (l:=S.rc.map rcC) (Q:=fun j h n c=>∃p u,S.rc[j]?=some p∧c=rcC (p.1,u)∧Sl h n u (strs p.1.vs)∧∀i∈rowV u,∃z w,h.get i=some (.cells z 47 w)) (fun _=>True) ?_ hvr (by rw[List.length_map];omega) ?_ ?_) ?_
 ·rintro j h n h' n' c u ⟨p,v,q1,q2,q3,q4⟩ hu hd
  have slt:∀i∈rowV v,i<n:=fun i hi=>by
   rcases q3 with⟨_,hv|hv⟩|⟨j,o,cp,c,e,rw,hv,hj,_⟩
   ·rw[hv]at hi;simp[rowV]at hi
   ·rw[hv]at hi;simp[rowV]at hi
   ·rw[hv]at hi;simp[rowV]at hi;omega
  have hn:∀i∈rowV v,i∉rowV u:=fun i hi hc=>by
   obtain⟨z,w,hz⟩:=q4 i hi
   obtain⟨z2,hz2,_⟩:=hd i hc
   rw[hz]at hz2
   simp at hz2
  refine⟨p,v,q1,q2,q3.moved hu hn,fun i hi=>?_⟩
  rw[hu.get i (slt i hi) (hn i hi)]
  exact q4 i hi
 ·intro j x hx
  simp only[List.getElem?_map,Option.map_eq_some_iff]at hx
  obtain⟨p,hp,rfl⟩:=hx
  have:=(I.sl p (List.mem_of_getElem? hp)).1.form.one
  unfold V.one at this
  exact⟨rfl,by simp[rcC,V.one,this]⟩
 ·intro j x hx h' n' k'
  simp only[List.getElem?_map,Option.map_eq_some_iff]at hx
  obtain⟨p,hp,rfl⟩:=hx
  have hm:=List.mem_of_getElem? hp
  intro w'
  exact(clone_fn ((I.sl p hm).1.keep k') (by have:=hv p hm;omega) w').mono fun v st ⟨q1,q2,u',q3,q4,q5,q6⟩=>⟨q1,q2,rcC (p.1,u'),q3,rfl,by have:=q4.form.one;unfold V.one at this;simp[rcC,V.one,this],fun _ _=>trivial,p,u',hp,rfl,q4,q6⟩
 ·rintro v h2 n2 k2 ⟨out,q1,q2,q3⟩
  simp(disch:=first|(simp;done)|omega|rfl) [-getElem?_pos,Ret]
  refine⟨k2,out,q1.sn,by simpa using q2,fun j x hx=>?_⟩
  simp only[List.getElem?_map,Option.map_eq_some_iff]at hx
  obtain⟨p,hp,rfl⟩:=hx
  obtain⟨c,g1,p',u,g2,rfl,g3,_⟩:=q3 j (by rw[List.length_map];exact lt_of_get hp)
  rw[hp]at g2
  simp only[Option.some.injEq]at g2
  subst g2
  exact⟨u,g1,g3⟩
end Go.Mx
namespace Go.Mx
open Go Go.Proofs
set_option maxRecDepth 1000000
def A.lb95_0:MCode:=.seq (.seq (.reg [mv 4 3,mv 5 0,⟨(some 6),.len 0 (.tmp 5),none⟩,bi 7 .lss 4 6])
 (.cond (.tmp 7)
 (.skip)
 (.exit 0)))
 (.seq (.block 1 (.seq (.reg [mv 10 0,mv 11 3,⟨(some 12),.idxStr (.tmp 10) (.tmp 11),none⟩,⟨(some 13),.bin .eql (.prim .int) true (.tmp 12) (.const (.int .u8 47)),none⟩])
 (.cond (.tmp 13)
 (.seq (.reg [mv 14 3,mv 2 14])
 (.ret))
 (.skip))))
 (.reg [mv 8 3,bc 9 .add 8 1,mv 3 9]))
def A.b95:MCode:=.seq (.reg [mc 2 0])
 (.seq (.seq (.reg [mc 3 0])
 (.block 0 (.loop A.lb95_0)))
 (.seq (.reg [mv 15 0,⟨(some 16),.len 0 (.tmp 15),none⟩,mv 2 16])
 (.ret)))
theorem A.c95:cFunc Tryz.prog 95=some ⟨17,[.tmp 2],A.b95⟩:=by kernel_rfl
def A.k95{K Q f c args st}:=@A.kk 95 _ _ _ A.c95 rfl K Q f c args st
def A.lb157_0:MCode:=.seq (.seq (.reg [mv 4 3,mv 5 0,⟨(some 6),.len 0 (.tmp 5),none⟩,bi 7 .lss 4 6])
 (.cond (.tmp 7)
 (.skip)
 (.exit 0)))
 (.seq (.block 1 (.seq (.reg [mv 10 0,mv 11 3,⟨(some 12),.idxStr (.tmp 10) (.tmp 11),none⟩,⟨(some 13),.bin .lss (.node []) false (.tmp 12) (.const (.int .u8 48)),none⟩,mv 14 13,⟨(some 15),.mov (.tmp 0),(some (14,false))⟩,⟨(some 16),.mov (.tmp 3),(some (14,false))⟩,⟨(some 17),.idxStr (.tmp 15) (.tmp 16),(some (14,false))⟩,⟨(some 18),.bin .gtr (.node []) false (.tmp 17) (.const (.int .u8 57)),(some (14,false))⟩,⟨(some 19),.pick (.tmp 14) (.const (.bool true)) (.tmp 18),none⟩])
 (.cond (.tmp 19)
 (.seq (.reg [⟨(some 2),.mov (.const (.bool false)),none⟩])
 (.ret))
 (.skip))))
 (.reg [mv 8 3,bc 9 .add 8 1,mv 3 9]))
def A.b157:MCode:=.seq (.reg [⟨(some 2),.mov (.const (.bool false)),none⟩])
 (.seq (.seq (.reg [mc 3 0])
 (.block 0 (.loop A.lb157_0)))
 (.seq (.reg [⟨(some 2),.mov (.const (.bool true)),none⟩])
 (.ret)))
theorem A.c157:cFunc Tryz.prog 157=some ⟨20,[.tmp 2],A.b157⟩:=by kernel_rfl
def A.k157{K Q f c args st}:=@A.kk 157 _ _ _ A.c157 rfl K Q f c args st
def A.b96:MCode:=.seq (.reg [⟨(some 2),.mov (.const (.bool false)),none⟩])
 (.seq (.seq (.reg [mv 3 0,⟨(some 4),.len 0 (.tmp 3),none⟩,⟨(some 5),.bin .eql (.prim .int) true (.tmp 4) (.const (.int .i64 0)),none⟩,mv 6 5,⟨(some 7),.mov (.tmp 0),(some (6,false))⟩,⟨(some 8),.len 0 (.tmp 7),(some (6,false))⟩,⟨(some 9),.bin .gtr (.node []) false (.tmp 8) (.const (.int .i64 1)),(some (6,false))⟩,⟨(some 10),.mov (.tmp 9),(some (6,false))⟩,⟨(some 11),.mov (.tmp 0),(some (10,true))⟩,⟨(some 12),.idxStr (.tmp 11) (.const (.int .i64 0)),(some (10,true))⟩,⟨(some 13),.bin .eql (.prim .int) true (.tmp 12) (.const (.int .u8 48)),(some (10,true))⟩,⟨(some 14),.pick (.tmp 10) (.tmp 13) (.const (.bool false)),(some (6,false))⟩,⟨(some 15),.pick (.tmp 6) (.const (.bool true)) (.tmp 14),none⟩])
 (.cond (.tmp 15)
 (.seq (.reg [⟨(some 2),.mov (.const (.bool false)),none⟩])
 (.ret))
 (.skip)))
 (.seq (.reg [mv 16 0,⟨(some 17),.call (.const (.func 157 [] [])) [(.tmp 16)],none⟩,mv 2 17])
 (.ret)))
theorem A.c96:cFunc Tryz.prog 96=some ⟨18,[.tmp 2],A.b96⟩:=by kernel_rfl
def A.k96{K Q f c args st}:=@A.kk 96 _ _ _ A.c96 rfl K Q f c args st
def A.lb195_0:MCode:=.seq (.seq (.reg [mv 5 4,mv 6 0,⟨(some 7),.len 0 (.tmp 6),none⟩,bi 8 .lss 5 7])
 (.cond (.tmp 8)
 (.skip)
 (.exit 0)))
 (.seq (.block 1 (.reg [mv 11 3,⟨(some 12),.bin .mul (.node []) false (.const (.int .i64 10)) (.tmp 11),none⟩,mv 13 0,mv 14 4,⟨(some 15),.idxStr (.tmp 13) (.tmp 14),none⟩,⟨(some 16),.convInt .i64 (.tmp 15),none⟩,bi 17 .add 12 16,bc 18 .sub 17 48,mv 3 18]))
 (.reg [mv 9 4,bc 10 .add 9 1,mv 4 10]))
def A.b195:MCode:=.seq (.reg [mc 2 0])
 (.seq (.reg [mc 3 0])
 (.seq (.seq (.reg [mc 4 0])
 (.block 0 (.loop A.lb195_0)))
 (.seq (.reg [mv 19 3,mv 2 19])
 (.ret))))
theorem A.c195:cFunc Tryz.prog 195=some ⟨20,[.tmp 2],A.b195⟩:=by kernel_rfl
def A.k195{K Q f c args st}:=@A.kk 195 _ _ _ A.c195 rfl K Q f c args st
theorem slash_eq{s:Str}{st:St}(hl:s.length<4611686018427387904):A.C.call (.func 95 [] []) [.str s] st=some (.int .i64 (slashAt s:Nat),st):=by
 apply Call.eq
 rw[call_run,A.k95 (by simp)]
 simp(disch:=first|(simp;done)|omega|rfl) [-getElem?_pos,A.b95]
 refine run_loopD [(2,14)] (fun e r s1=>s1=⟨st.h,st.n,[]⟩∧((e=.exit 0∧slashAt s=s.length)∨(e=.ret∧r.get 2=some (.int .i64 (slashAt s:Nat))))) (fun m r s1=>s1=⟨st.h,st.n,[]⟩∧∃k,k+m=s.length∧r.get 3=some (.int .i64 k)∧slashAt s=k+slashAt (s.drop k)) s.length ?_ ?_ ?_
 ·exact⟨rfl,0,by omega,by simp,by simp⟩
 ·rintro m r _ hr hf ⟨rfl,k,hk,h3,hz⟩
  rw[code_run]
  cases m with
  |zero=>
   have:k=s.length:=by omega
   subst this
   rw[List.drop_length,slashAt]at hz
   simp(disch:=first|(simp;done)|omega|rfl) [-getElem?_pos,A.lb95_0,hr,hf,h3]
   omega
  |succ m=>
   obtain⟨c,hc⟩:=get_of_lt (l:=s) (k:=k) (by omega)
   have hk1:(k:Int)<(s.length:Int):=by omega
   have hk2:k<s.length:=by omega
   rw[get_drop_cons hc,slashAt]at hz
   by_cases h47:u8I c=47
   ·rw[if_pos (by unfold u8I at h47;omega)]at hz
    simp(disch:=first|(simp;done)|omega|rfl) [-getElem?_pos,A.lb95_0,hr,hf,h3,hk1,hk2,hc,h47,eqPrim]
    rw[hz];simp
   ·rw[if_neg (by unfold u8I at h47;omega)]at hz
    simp(disch:=first|(simp;done)|omega|rfl) [-getElem?_pos,A.lb95_0,hr,hf,h3,hk1,hk2,hc,h47,eqPrim]
    exact⟨m,by omega,k+1,by omega,by simp,by omega⟩
 ·rintro e r _ hr ⟨rfl,⟨rfl,hz⟩|⟨rfl,h2⟩⟩
  ·simp(disch:=first|(simp;done)|omega|rfl) [-getElem?_pos,hr,hz]
  ·simp(disch:=first|(simp;done)|omega|rfl) [-getElem?_pos,hr,h2]
theorem digits_eq{s:Str}{st:St}(hl:s.length<4611686018427387904):A.C.call (.func 157 [] []) [.str s] st=some (.bool (allD s),st):=by
 apply Call.eq
 rw[call_run,A.k157 (by simp)]
 simp(disch:=first|(simp;done)|omega|rfl) [-getElem?_pos,A.b157]
 refine run_loopD [(2,19)] (fun e r s1=>s1=⟨st.h,st.n,[]⟩∧((e=.exit 0∧allD s=true)∨(e=.ret∧allD s=false∧r.get 2=some (.bool false)))) (fun m r s1=>s1=⟨st.h,st.n,[]⟩∧∃k,k+m=s.length∧r.get 3=some (.int .i64 k)∧allD s=allD (s.drop k)) s.length ?_ ?_ ?_
 ·exact⟨rfl,0,by omega,by simp,by simp⟩
 ·rintro m r _ hr hf ⟨rfl,k,hk,h3,hz⟩
  rw[code_run]
  cases m with
  |zero=>
   have:k=s.length:=by omega
   subst this
   rw[List.drop_length]at hz
   have hz:allD s=true:=hz
   simp(disch:=first|(simp;done)|omega|rfl) [-getElem?_pos,A.lb157_0,hr,hf,h3,hz]
  |succ m=>
   obtain⟨c,hc⟩:=get_of_lt (l:=s) (k:=k) (by omega)
   have hk1:(k:Int)<(s.length:Int):=by omega
   have hk2:k<s.length:=by omega
   have hz2:allD s=(digC c&&allD (s.drop (k+1))):=by rw[hz,get_drop_cons hc];rfl
   rw[digC_u]at hz2
   by_cases h1:u8I c<48
   ·have:¬(48≤u8I c∧u8I c≤57):=by omega
    rw[decide_eq_false this,Bool.false_and]at hz2
    simp(disch:=first|(simp;done)|omega|rfl) [-getElem?_pos,A.lb157_0,hr,hf,h3,hk1,hk2,hc,h1,hz2]
   ·by_cases h2:57<u8I c
    ·have:¬(48≤u8I c∧u8I c≤57):=by omega
     rw[decide_eq_false this,Bool.false_and]at hz2
     simp(disch:=first|(simp;done)|omega|rfl) [-getElem?_pos,A.lb157_0,hr,hf,h3,hk1,hk2,hc,h1,h2,hz2]
    ·have:(48≤u8I c∧u8I c≤57):=by omega
     rw[decide_eq_true this,Bool.true_and]at hz2
     simp(disch:=first|(simp;done)|omega|rfl) [-getElem?_pos,A.lb157_0,hr,hf,h3,hk1,hk2,hc,h1,h2]
     exact⟨m,by omega,k+1,by omega,by simp,hz2⟩
 ·rintro e r _ hr ⟨rfl,⟨rfl,hz⟩|⟨rfl,hz,h2⟩⟩
  ·simp(disch:=first|(simp;done)|omega|rfl) [-getElem?_pos,hr,hz]
  ·simp(disch:=first|(simp;done)|omega|rfl) [-getElem?_pos,hr,h2,hz]
theorem decimal_eq{s:Str}{st:St}(hl:s.length<4611686018427387904):A.C.call (.func 96 [] []) [.str s] st=some (.bool (isDec s),st):=by
 apply Call.eq
 rw[call_run,A.k96 (by simp)]
 cases s with
 |nil=>simp(disch:=first|(simp;done)|omega|rfl) [-getElem?_pos,A.b96,eqPrim,isDec]
 |cons c s=>
  have hd:isDec (c::s)=(allD (c::s)&&(decide (u8I c≠48)||decide (s=[]))):=by
   have:decide (c.toNat≠48)=decide (u8I c≠48):=by unfold u8I;rw[decide_eq_decide];omega
   simp only[isDec,this];rfl
  have hdg:=fun st=>digits_eq (s:=c::s) (st:=st) hl
  by_cases h0:s=[]
  ·subst h0
   simp(disch:=first|(simp;done)|omega|rfl) [-getElem?_pos,A.b96,eqPrim,hd,hdg]
  ·have h1:0<s.length:=by
    cases s with
    |nil=>exact absurd rfl h0
    |cons=>simp
   have a1:¬((s.length:Int)+1=0):=by omega
   have a2:(1:Int)<(s.length:Int)+1:=by omega
   have a3:(0:Int)<(s.length:Int):=by omega
   by_cases h48:u8I c=48
   ·simp(disch:=first|(simp;done)|omega|rfl) [-getElem?_pos,A.b96,eqPrim,hd,hdg,h0,a1,a2,a3,h1,h48]
   ·simp(disch:=first|(simp;done)|omega|rfl) [-getElem?_pos,A.b96,eqPrim,hd,hdg,h0,a1,a2,a3,h1,h48]
theorem value_eq{s:Str}{st:St}(hd:allD s=true)(hl:s.length≤18):A.C.call (.func 195 [] []) [.str s] st=some (.int .i64 (numV s:Nat),st):=by
 apply Call.eq
 rw[call_run,A.k195 (by simp)]
 simp(disch:=first|(simp;done)|omega|rfl) [-getElem?_pos,A.b195]
 refine run_loopD [(3,18)] (fun e r s1=>s1=⟨st.h,st.n,[]⟩∧e=.exit 0∧r.get 3=some (.int .i64 (numV s:Nat))) (fun m r s1=>s1=⟨st.h,st.n,[]⟩∧∃k,k+m=s.length∧r.get 4=some (.int .i64 k)∧r.get 3=some (.int .i64 (numV (s.take k):Nat))) s.length ?_ ?_ ?_
 ·exact⟨rfl,0,by omega,by simp,by simp[numV]⟩
 ·rintro m r _ hr hf ⟨rfl,k,hk,h4,h3⟩
  rw[code_run]
  cases m with
  |zero=>
   have:k=s.length:=by omega
   subst this
   rw[List.take_length]at h3
   simp(disch:=first|(simp;done)|omega|rfl) [-getElem?_pos,A.lb195_0,hr,hf,h4,h3]
  |succ m=>
   obtain⟨c,hc⟩:=get_of_lt (l:=s) (k:=k) (by omega)
   have hk1:(k:Int)<(s.length:Int):=by omega
   have hk2:k<s.length:=by omega
   have hd1:=allD_get hd hc
   have hv:=numV_take hc
   have hb1:=numV_lt hd k (by omega)
   have hb2:=p10_le (a:=k) (b:=17) (by omega)
   have b3:((numV (s.take (k+1)):Nat):Int)=10*(numV (s.take k):Nat)+u8I c-48:=by
    rw[hv];unfold u8I at*;omega
   have b4:((numV (s.take k):Nat):Int)<100000000000000000:=by
    have:(10:Nat)^17=100000000000000000:=by decide
    omega
   generalize hy:numV (s.take (k+1))=y at*
   generalize numV (s.take k)=x at*
   simp(disch:=first|(simp;done)|omega|rfl) [-getElem?_pos,A.lb195_0,hr,hf,h4,h3,hk1,hk2,hc]
   exact⟨m,by omega,k+1,by omega,by simp,by rw[hy,b3]⟩
 ·rintro e r _ hr ⟨rfl,rfl,h3⟩
  simp(disch:=first|(simp;done)|omega|rfl) [-getElem?_pos,hr,h3]
end Go.Mx
