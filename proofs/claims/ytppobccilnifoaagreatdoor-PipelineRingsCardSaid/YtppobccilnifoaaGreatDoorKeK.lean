/-
  PipelineRings: call: Subscribe.
-/
import Derived.Test.YtppobccilnifoaaGreatDoorKeH
set_option linter.all false
namespace Go.Mx
open Go Go.Proofs
set_option maxRecDepth 1000000
theorem JB.feed{B:Nat}{h h':T O}{N N' X C:Nat}{S:RS}{M:MS}{vF v':V}{F:List Nat}(J:JB B h N X S M vF F)(hB:B≤N)(k:Upd (fun i=>i∈rowV vF) h N h' N')(hv:∀i∈rowV v',i∈rowV vF∨(N≤i∧i<N'))(hrow:Row 1 73 h' v' (F.map fdC++[fdC C]))(hC:C<N∧∃c b,h.get C=some (.chan c b)):JB B (h'.set X (.cells [.ptr S.R 0,.ptr M.R 0,v'] 102 true)) N' X S M v' (F++[C]):=by
 have U:Upd (fun i=>i∈rowV vF∨i=X) h N (h'.set X (.cells [.ptr S.R 0,.ptr M.R 0,v'] 102 true)) N':=(k.mono fun i _ hi=>.inl hi).set (.inl (.inr rfl))
 have nt:∀i,(i∈rowV vF∨i=X)→∃c t w,h.get i=some (.cells c t w)∧(t=73∨t=102):=fun i hi=>by
  rcases hi with hi|rfl
  ·obtain⟨c,w,hg⟩:=J.vf.has i hi
   exact⟨c,_,w,hg,.inl rfl⟩
  ·exact⟨_,_,_,J.x,.inr rfl⟩
 have nS:∀i∈S.ids,¬(i∈rowV vF∨i=X):=fun i hi hc=>by
  obtain⟨c,t,w,hg,ht⟩:=nt i hc
  have:=J.I.ty hi hg
  rcases ht with rfl|rfl<;>simp at this
 have hXF:X∉rowV v':=fun hc=>by
  rcases hv X hc with h1|h1
  ·obtain⟨c,w,hg⟩:=J.vf.has X h1
   rw[J.x]at hg;simp at hg
  ·have:=J.xl.2;omega
 have hD:∀i,(i∈rowV vF∨i=X)→B≤i:=fun i hi=>by
  rcases hi with hi|rfl
  ·exact(J.vl i hi).1
  ·exact J.xl.1
 have hch:∀C,(C<N∧∃c b,h.get C=some (.chan c b))→C<N'∧∃c b,(h'.set X (.cells [.ptr S.R 0,.ptr M.R 0,v'] 102 true)).get C=some (.chan c b):=fun C hC=>by
  obtain⟨h1,c,b,h2⟩:=hC
  refine⟨Nat.lt_of_lt_of_le h1 k.le,c,b,(U.get C h1 fun hc=>?_).trans h2⟩
  obtain⟨c',t,w,hg,_⟩:=nt C hc
  rw[h2]at hg;cases hg
 refine⟨by rw[T.get_set,if_pos rfl],⟨J.xl.1,Nat.lt_of_lt_of_le J.xl.2 k.le⟩,?_,fun i hi=>?_,J.I.keep U nS (fun p hp i hi hc=>?_),J.MM.upd U hD (fun i c t w hi hg=>?_),J.old,fun p hp i hi=>?_,fun c hc=>?_⟩
 ·rw[List.map_append]
  exact hrow.eq fun i hi=>by rw[T.get_set,if_neg];rintro rfl;exact hXF hi
 ·rcases hv i hi with hi|hi
  ·exact⟨(J.vl i hi).1,Nat.lt_of_lt_of_le (J.vl i hi).2 k.le⟩
  ·omega
 ·have:=J.vals p hp i hi
  rcases hc with hc|hc
  ·exact this.2.2 hc
  ·exact this.2.1 hc
 ·obtain⟨c',t',w',hg',ht⟩:=nt i hi
  rw[hg]at hg'
  simp only[Option.some.injEq,O.cells.injEq]at hg'
  obtain⟨_,rfl,_⟩:=hg'
  rcases ht with rfl|rfl<;>simp
 ·have h1:=J.vals p hp i hi
  refine⟨h1.1,h1.2.1,fun hc=>?_⟩
  rcases hv i hc with hc|hc
  ·exact h1.2.2 hc
  ·have:=J.rl p hp i hi;omega
 ·rcases List.mem_append.1 hc with hc|hc
  ·exact hch c (J.ch c hc)
  ·simp at hc;subst hc;exact hch c hC
theorem Rel.nC{S:RS}{M:MS}{vF:V}{F:List Nat}{B N X:Nat}{h:T O}(J:JB B h N X S M vF F){C:Nat}(hC:N≤C):C∉F:=fun hc=>by
 have:=(J.ch C hc).1;omega
theorem tail_sub_bad{B:Nat}{h:T O}{N X q k kk:Nat}{S:RS}{M:MS}{vF:V}{F:List Nat}{W:List Nat}{f t a:Int}{u:V}{r0:T V}(J:JB B h N X S M vF F)(r:Rel S M F k)(hk:k<1000)(hB:B≤N)(c:CR B h N X q 2 f t a u kk F.length r0)(hW:∀i∈W,B≤i)(hb:(a<1∨16<a)∨8≤S.ls.length):
  Code A.C none A.ta34_1 ⟨r0,214,[]⟩ ⟨h,N,W⟩ (CT B X S.R k h N):=by
 rw[code_run]
 obtain⟨a0,a3,_,hq,hqN,hqB⟩:=c
 have hx:=J.x
 have hxl:=J.xl.2
 have hml:=J.MM.lt.1
 have hfl:=r.fl
 have hlive:=r.liveN
 have h8:=r.l8
 have hln:=r.len
 obtain⟨nq1,nq2⟩:=J.nq hq
 simp(disch:=first|(simp;done)|omega|rfl) [-getElem?_pos, -oldIds,A.ta34_1,eqPrim,a0,a3,hq,hx,partV]
 refine run_fn (sub_bad J.I hb) ?_
 rintro _ h1 n1 k1 rfl
 have J1:=J.keep k1
 have l1:=k1.le
 have p1:X<n1:=by omega
 have p2:q<n1:=by omega
 have p3:M.R<n1:=by omega
 have hx1:=J1.x
 have hq1:=(k1.get q hqN).trans hq
 have he:(if a<1∨16<a then (3:Int) else 5)≠0:=by split<;>decide
 obtain⟨e,hee⟩:∃e,(if a<1∨16<a then (3:Int) else 5)=e:=⟨_,rfl⟩
 rw[hee]at he
 have hme:(if a<1∨16<a then (3:Int) else if liveN M.ls=8 then 5 else 0)=e:=by
  rw[←hee,hlive]
  split
  ·rfl
  ·rw[if_pos (by omega)]
 simp(disch:=first|(simp;done)|omega|rfl) [-getElem?_pos, -oldIds,hee]
 refine(k_regD (by simp[-oldIds,hxl,hqN,p1,p2,any_none,meets_nil])).2 ?_
 simp(disch:=first|(simp;done)|omega|rfl) [-getElem?_pos, -oldIds,eqPrim,a0,a3,hx1,hq1,partV]
 refine run_fnD (msub_fn J1.MM (by omega) (by omega)) ?_
 rintro _ h2 n2 w2 hw2 U2 ⟨rfl,M2,_⟩
 have M2:=M2 (by omega)
 have J2:=J1.model U2 M2 rfl (fun i hi=>.inl hi)
 have l2:=U2.le
 have p4:X<n2:=by omega
 have p5:q<n2:=by omega
 simp(disch:=first|(simp;done)|omega|rfl) [-getElem?_pos, -oldIds,hme,he,eqPrim]
 refine(k_regD (by simp[-oldIds,p1,p2,p4,p5,any_none,meets_nil])).2 ?_
 simp(disch:=first|(simp;done)|omega|rfl) [-getElem?_pos, -oldIds,hme,he,eqPrim]
 refine⟨rfl,_,rfl,by simp,?_,?_,⟨_,_,_,_,J2,r.up,rfl⟩⟩
 ·exact ge_app (ge_old fun i hi=>J.mD ((hw2 i hi).resolve_left (by simp))) hW
 ·exact k1.upd.trans (U2.mono fun i _ hi=>J.mD hi)
theorem tail_sub_ok{B:Nat}{h:T O}{N X q k kk:Nat}{S:RS}{M:MS}{vF:V}{F:List Nat}{W:List Nat}{f t a:Int}{u:V}{r0:T V}(J:JB B h N X S M vF F)(r:Rel S M F k)(hk:k<1000)(hB:B≤N)(c:CR B h N X q 2 f t a u kk F.length r0)(hW:∀i∈W,B≤i)(h1:1≤a)(h2:a≤16)(h8:S.ls.length<8):
  Code A.C none A.ta34_1 ⟨r0,214,[]⟩ ⟨h,N,W⟩ (CT B X S.R k h N):=by
 rw[code_run]
 obtain⟨a0,a3,_,hq,hqN,hqB⟩:=c
 have hx:=J.x
 have hxl:=J.xl.2
 have hml:=J.MM.lt.1
 have hfl:=r.fl
 have hlive:=r.liveN
 have hln:=r.len
 obtain⟨nq1,nq2⟩:=J.nq hq
 simp(disch:=first|(simp;done)|omega|rfl) [-getElem?_pos, -oldIds,A.ta34_1,eqPrim,a0,a3,hq,hx,partV]
 refine run_fnD (sub_ok J.I h1 h2 h8) ?_
 rintro _ H1 n1 w1 hw1 U1 ⟨L,C,vl',hL,hC,rfl,hvl,I1⟩
 have l1:=U1.le
 have J1:=J.prog U1 (fun i hi=>hi) I1 rfl (fun i hi=>by
  simp only[RS.ids,List.mem_cons,List.mem_append,List.flatMap_append,List.flatMap_cons,List.flatMap_nil,Lr.ids,List.not_mem_nil,or_false]at hi ⊢
  rcases hi with hi|hi|hi|hi|hi|hi
  ·exact .inl (.inl hi)
  ·exact .inl (.inr (.inl hi))
  ·rcases hvl i hi with hi|hi
   ·exact .inl (.inr (.inr (.inl hi)))
   ·exact .inr hi
  ·exact .inl (.inr (.inr (.inr hi)))
  ·exact .inr (by omega)
  ·exact .inr (by omega)) (fun p hp=>.inl hp) (fun l hl _=>⟨l,List.mem_append_left _ hl,rfl⟩) hB
 have p1:X<n1:=by omega
 have p2:q<n1:=by omega
 have p3:M.R<n1:=by omega
 have hx1:=J1.x
 simp only at hx1
 have hq1:=(U1.get q hqN nq1).trans hq
 simp(disch:=first|(simp;done)|omega|rfl) [-getElem?_pos, -oldIds]
 refine(k_regD (by simp[-oldIds,hxl,hqN,p1,p2,any_none,meets_nil])).2 ?_
 simp(disch:=first|(simp;done)|omega|rfl) [-getElem?_pos, -oldIds,eqPrim,a0,a3,hx1,hq1,partV]
 refine run_fnD (msub_fn (c:=a) J1.MM (by omega) (by omega)) ?_
 rintro _ H2 n2 w2 hw2 U2 ⟨rfl,_,M2⟩
 obtain⟨mvl,hmvl,M2⟩:=M2 (by omega) (by omega)
 have J2:=J1.model U2 M2 rfl (fun i hi=>.inr (hmvl i hi))
 have l2:=U2.le
 have p4:X<n2:=by omega
 have p5:q<n2:=by omega
 have hme:(if a<1∨16<a then (3:Int) else if liveN M.ls=8 then 5 else 0)=0:=by
  rw[if_neg (by omega),if_neg (by omega)]
 simp(disch:=first|(simp;done)|omega|rfl) [-getElem?_pos, -oldIds,hme,eqPrim]
 refine(k_regD (by simp[-oldIds,p1,p2,p4,p5,any_none,meets_nil])).2 ?_
 have hx2:=J2.x
 simp only at hx2
 have hlen:=J2.vf.len
 rw[List.length_map]at hlen
 have hvf:=J2.vf.sn (N:=n2) fun i hi=>(J2.vl i hi).2
 have gC:H2.get C=some (.chan a.toNat []):=(J2.I.l _ (List.mem_append_right _ List.mem_cons_self)).2
 have nCF:C∉F:=Rel.nC J hC
 simp(disch:=first|(simp;done)|omega|rfl) [-getElem?_pos, -oldIds,hme,eqPrim,a0,hx2,partV,hlen]
 have hW2:∀i∈oldIds n1 w2++(oldIds N w1++W),B≤i:=ge_app (ge_old fun i hi=>J1.mD ((hw2 i hi).resolve_left (by simp))) (ge_app (ge_old fun i hi=>J.old i ((hw1 i hi).resolve_left (by simp))) hW)
 generalize oldIds n1 w2++(oldIds N w1++W)=W2 at*
 refine run_loopD [(4,4),(9,9),(113,120)] (fun e r st=>st=⟨H2,n2,W2⟩∧e=.exit 1) (fun m r st=>st=⟨H2,n2,W2⟩∧∃i,i+m=F.length∧r.get 113=some (.int .i64 i)) F.length ?_ ?_ ?_
 ·exact⟨rfl,0,by omega,by simp⟩
 ·rintro m r1 _ hr hf ⟨rfl,i,hi,h113⟩
  rw[code_run]
  cases m with
  |zero=>
   obtain rfl:i=F.length:=by omega
   simp(disch:=first|(simp;done)|omega|rfl) [-getElem?_pos,A.lb34_0,hr,hf,h113]
  |succ m=>
   have hlt:i<F.length:=by omega
   have hlt':(i:Int)<(F.length:Int):=by omega
   obtain⟨D,hD⟩:=get_of_lt hlt
   obtain⟨i',o,cc,e,rw,q1,q2,q3,q4⟩:=hvf.at (j:=i) (x:=fdC D) (by rw[List.getElem?_map,hD];rfl)
   have q5:=slc_get q4 (f:=0) (by omega)
   simp[fdC]at q5
   have hDF:=List.mem_of_getElem? hD
   obtain⟨_,cD,bD,gD⟩:=J2.ch D hDF
   have hne:(D==C)=false:=by
    simp;rintro rfl;exact nCF hDF
   simp(disch:=first|(simp;done)|omega|rfl) [-getElem?_pos,A.lb34_0,hr,hf,h113,hlt,hlt',hlen,q1,q3,q5,partV,chanEq,gD,gC,hne,eqPrim]
   exact⟨m,by omega,i+1,by omega,by simp⟩
 ·rintro _ r1 _ hr ⟨rfl,rfl⟩
  have kk:Keeps H2 n2 (H2.set n2 (.cells [.chan C] 73 true)) (n2+1):=Keeps.refl.new _
  have J3:=J2.keep kk
  obtain⟨v',H4,n4,w4,x1,x2,U4,x3,_,row4⟩:=append_row (w:=W2) (N:=n2+1) (bytes:=8) (u:=.slice n2 0 1 (some 1) 1) (x:=fdC C) J3.vf (fun i hi=>(J3.vl i hi).2) (by decide) rfl (by simp[srcCells,St.row,slc,fdC]) (by rw[List.length_map];omega)
  have J4:=J3.feed (by omega) U4 x3 row4 ⟨by have:=(J1.I.lt C (by simp[RS.ids,Lr.ids]));omega,_,_,(kk.get C (by have:=(J1.I.lt C (by simp[RS.ids,Lr.ids]));omega)).trans gC⟩
  have l4:=U4.le
  have nXF:X∉rowV vF:=fun hc=>by
   obtain⟨c,w,hg⟩:=J.vf.has X hc
   rw[J.x]at hg;simp at hg
  have gX:=(U4.get X (by omega) nXF).trans ((kk.get X p4).trans hx2)
  have d0:¬X=n2:=by omega
  have b3:=row4.one
  unfold V.one at b3
  unfold V.cells at b3
  simp(disch:=first|(simp;done)|omega|rfl) [-getElem?_pos, -oldIds,hr,a0,hx2,partV,d0,splice,x1,gX,storeK2,b3]
  refine⟨rfl,_,rfl,by simp,?_,?_,⟨_,_,_,_,J4,r.sub h1 h8 nCF,rfl⟩⟩
  ·intro i hi
   rcases List.mem_cons.1 hi with rfl|hi
   ·exact J.xl.1
   ·rcases x2 i hi with hi|hi
    ·exact hW2 i hi
    ·exact(J.vl i hi).1
  ·exact((((U1.mono fun i _ hi=>J.old i hi).trans (U2.mono fun i _ hi=>J1.mD hi)).trans kk.upd).trans (U4.mono fun i _ hi=>(J.vl i hi).1)).set (.inl J.xl.1)
end Go.Mx
namespace Go.Mx
open Go Go.Proofs
set_option maxRecDepth 1000000
theorem set_same{l:List (ML×V)}{k:Nat}{p q:ML×V}(h:l[k]?=some p)(e:q=p):l.set k q=l:=by
 apply List.ext_getElem?
 intro j
 rw[List.getElem?_set]
 split
 ·rename_i hj;subst hj
  first|rw[if_pos (lt_of_get h),h]|rw[h]
  exact congrArg some e
 ·rfl
theorem JB.nX{B:Nat}{h:T O}{N X:Nat}{S:RS}{M:MS}{vF:V}{F:List Nat}(J:JB B h N X S M vF F):X∉S.ids:=fun hc=>by
 have:=J.I.ty hc J.x;simp at this
theorem tail_unsub{B:Nat}{h:T O}{N X q k kk:Nat}{S:RS}{M:MS}{vF:V}{F:List Nat}{W:List Nat}{f t a:Int}{u:V}{r0:T V}(J:JB B h N X S M vF F)(r:Rel S M F k)(hk:k<1000)(hB:B≤N)(c:CR B h N X q 3 f t a u kk F.length r0)(hW:∀i∈W,B≤i)(hF:0<F.length):
  Code A.C none A.ta34_1 ⟨r0,214,[]⟩ ⟨h,N,W⟩ (CT B X S.R k h N):=by
 rw[code_run]
 obtain⟨a0,a3,a5,hq,hqN,hqB⟩:=c
 obtain⟨a5,hkk⟩:=a5 hF
 have hkk':(kk:Int)<(F.length:Int):=by omega
 have hF':(0:Int)<(F.length:Int):=by omega
 have hx:=J.x
 have hxl:=J.xl.2
 have hml:=J.MM.lt.1
 have hfl:=r.fl
 have h8:=r.l8
 have hln:=r.len
 have hlen:=J.vf.len
 rw[List.length_map]at hlen
 obtain⟨nq1,nq2⟩:=J.nq hq
 obtain⟨C,hC⟩:=get_of_lt hkk
 obtain⟨p,hp⟩:=get_of_lt (l:=M.ls) (k:=kk) (by omega)
 obtain⟨hCN,cC,bC,gC⟩:=J.ch C (List.mem_of_getElem? hC)
 have hvf:=J.vf.sn (N:=N) fun i hi=>(J.vl i hi).2
 obtain⟨i',o,cc,e,rw,q1,q2,q3,q4⟩:=hvf.at (j:=kk) (x:=fdC C) (by rw[List.getElem?_map,hC];rfl)
 have q5:=slc_get q4 (f:=0) (by omega)
 simp[fdC]at q5
 simp(disch:=first|(simp;done)|omega|rfl) [-getElem?_pos, -oldIds,A.ta34_1,eqPrim,a0,a3,a5,hq,hx,partV,hlen,hF,hF',hkk,hkk',q1,q3,q5]
 by_cases hg:p.1.gone=true
 ·refine run_fn (unsub_none J.I (.inr ⟨C,_,_,rfl,hCN,gC⟩) (by rw[r.gone hC hp hg];decide) (by omega)) ?_
  rintro _ h1 n1 k1 rfl
  have J1:=J.keep k1
  have l1:=k1.le
  have p1:X<n1:=by omega
  have p2:i'<n1:=by omega
  have hx1:=J1.x
  simp(disch:=first|(simp;done)|omega|rfl) [-getElem?_pos, -oldIds,hx1,a0,a5,partV]
  refine run_fnD (munsub_fn J1.MM hp) ?_
  rintro _ h2 n2 w2 hw2 U2 ⟨rfl,M2⟩
  rw[set_same hp (by rw[←hg])]at M2
  have J2:=J1.model U2 M2 rfl (fun i hi=>.inl hi)
  simp(disch:=first|(simp;done)|omega|rfl) [-getElem?_pos, -oldIds,hg,eqPrim]
  refine(k_regD (by simp[-oldIds,hxl,hqN,q2,p1,p2,any_none,meets_nil])).2 ?_
  simp(disch:=first|(simp;done)|omega|rfl) [-getElem?_pos, -oldIds,hg,eqPrim]
  refine⟨rfl,_,rfl,by simp,?_,?_,⟨_,_,_,_,J2,r.up,rfl⟩⟩
  ·exact ge_app (ge_old fun i hi=>J.mD ((hw2 i hi).resolve_left (by simp))) hW
  ·exact k1.upd.trans (U2.mono fun i _ hi=>J.mD hi)
 ·simp only[Bool.not_eq_true]at hg
  obtain⟨i,l,hl,hv,a2,_⟩:=r.at hC hp hg
  have hlC:l.C=C:=by simp only[Lr.view,Prod.mk.injEq]at hv;exact hv.1
  have huo:=unsub_ok J.I hl (by omega)
  rw[hlC]at huo
  refine run_fnD huo ?_
  rintro _ h1 n1 w1 hw1 U1 ⟨rfl,u',hu',I1⟩
  have hnD:∀a∈S.ls,¬(a.C=S.R∨a.C∈rowV S.vl):=fun a ha hc=>by
   have g:=(J.I.l a ha).2
   rcases hc with hc|hc
   ·rw[hc,J.I.r]at g;cases g
   ·obtain⟨c',w',hc'⟩:=J.I.vl.has _ hc
    rw[hc']at g;cases g
  have J1:=J.prog U1 (fun i hi=>by
   rcases hi with rfl|hi
   ·exact RI.mR
   ·exact RI.ml hi) I1 rfl (fun t ht=>by
   refine .inl ?_
   have hsub:(RS.ids {S with vl:=u',ls:=S.ls.take i++S.ls.drop (i+1)}).Sublist S.ids:=by
    simp only[RS.ids,hu']
    exact((List.Sublist.refl _).append ((List.Sublist.refl _).append (flat_del hl))).cons_cons _
   exact hsub.subset ht) (fun p hp=>.inl hp) (fun a ha hc=>absurd hc (hnD a ha)) hB
  have l1:=U1.le
  have p1:X<n1:=by omega
  have p2:i'<n1:=by omega
  have hx1:=J1.x
  simp only at hx1
  simp(disch:=first|(simp;done)|omega|rfl) [-getElem?_pos, -oldIds,hx1,a0,a5,partV]
  refine run_fnD (munsub_fn J1.MM hp) ?_
  rintro _ h2 n2 w2 hw2 U2 ⟨rfl,M2⟩
  have J2:=J1.model U2 M2 rfl (fun i hi=>.inl hi)
  simp(disch:=first|(simp;done)|omega|rfl) [-getElem?_pos, -oldIds,hg,eqPrim]
  have nw:∀t∈oldIds N w1,¬t=X:=fun t ht hc=>by
   subst hc
   refine J.nX ?_
   rcases hw1 t (mem_old ht).1 with hi|hi|hi
   ·simp at hi
   ·rw[hi];exact RI.mR
   ·exact RI.ml hi
  refine(k_regD (by simp[-oldIds,hxl,hqN,q2,p1,p2,any_none,meets_nil];exact nw)).2 ?_
  simp(disch:=first|(simp;done)|omega|rfl) [-getElem?_pos, -oldIds,hg,eqPrim]
  refine⟨rfl,_,rfl,by simp,?_,?_,⟨_,_,_,_,J2,r.unsub (List.mem_of_getElem? hp) a2,rfl⟩⟩
  ·refine ge_app (ge_old fun i hi=>J1.mD ((hw2 i hi).resolve_left (by simp))) (ge_app (ge_old fun i hi=>J.old i ?_) hW)
   rcases hw1 i hi with hi|rfl|hi
   ·simp at hi
   ·exact RI.mR
   ·exact RI.ml hi
  ·exact(U1.mono fun i _ hi=>J.old i (by
    rcases hi with rfl|hi
    ·exact RI.mR
    ·exact RI.ml hi)).trans (U2.mono fun i _ hi=>J1.mD hi)
theorem tail_drain{B:Nat}{h:T O}{N X q k kk:Nat}{S:RS}{M:MS}{vF:V}{F:List Nat}{W:List Nat}{f t a:Int}{u:V}{r0:T V}(J:JB B h N X S M vF F)(r:Rel S M F k)(hk:k<900)(hB:B≤N)(c:CR B h N X q 4 f t a u kk F.length r0)(hW:∀i∈W,B≤i)(hF:0<F.length):
  Code A.C none A.ta34_1 ⟨r0,214,[]⟩ ⟨h,N,W⟩ (CT B X S.R k h N):=by
 rw[code_run]
 obtain⟨a0,a3,a5,hq,hqN,hqB⟩:=c
 obtain⟨a5,hkk⟩:=a5 hF
 have hkk':(kk:Int)<(F.length:Int):=by omega
 have hF':(0:Int)<(F.length:Int):=by omega
 have hx:=J.x
 have hxl:=J.xl.2
 have hml:=J.MM.lt.1
 have hfl:=r.fl
 have h8:=r.l8
 have hln:=r.len
 have hlen:=J.vf.len
 rw[List.length_map]at hlen
 obtain⟨nq1,nq2⟩:=J.nq hq
 obtain⟨C,hC⟩:=get_of_lt hkk
 obtain⟨p,hp⟩:=get_of_lt (l:=M.ls) (k:=kk) (by omega)
 obtain⟨hCN,cC,bC,gC⟩:=J.ch C (List.mem_of_getElem? hC)
 have hvf:=J.vf.sn (N:=N) fun i hi=>(J.vl i hi).2
 obtain⟨i',o,cc,e,rw,q1,q2,q3,q4⟩:=hvf.at (j:=kk) (x:=fdC C) (by rw[List.getElem?_map,hC];rfl)
 have q5:=slc_get q4 (f:=0) (by omega)
 simp[fdC]at q5
 have hpb:=r.mlo p (List.mem_of_getElem? hp)
 simp(disch:=first|(simp;done)|omega|rfl) [-getElem?_pos, -oldIds,A.ta34_1,eqPrim,a0,a3,a5,hq,hx,partV,hlen,hF,hF',hkk,hkk',q1,q3,q5]
 by_cases hg:p.1.gone=true
 ·refine run_fn (drain_none J.I (.inr ⟨C,_,_,rfl,hCN,gC⟩) (by rw[r.gone hC hp hg];decide) (by omega)) ?_
  rintro _ h1 n1 k1 rfl
  have J1:=J.keep k1
  have l1:=k1.le
  have p1:X<n1:=by omega
  have p2:i'<n1:=by omega
  have hx1:=J1.x
  simp(disch:=first|(simp;done)|omega|rfl) [-getElem?_pos, -oldIds]
  refine(k_regD (by simp[-oldIds,hxl,hqN,q2,p1,p2,any_none,meets_nil])).2 ?_
  simp(disch:=first|(simp;done)|omega|rfl) [-getElem?_pos, -oldIds,hx1,a0,a5,partV]
  refine run_fnD (mdrain_fn J1.MM hp) ?_
  rintro _ h2 n2 w2 hw2 U2 ⟨⟨u2,rfl,hu2⟩,M2⟩
  rw[set_same hp (by simp[mdrained,hg])]at M2
  rw[if_pos hg]at hu2
  have J2:=J1.model U2 M2 rfl (fun i hi=>.inl hi)
  simp(disch:=first|(simp;done)|omega|rfl) [-getElem?_pos, -oldIds,hg,eqPrim]
  refine run_fn (notices_fn (l:=[]) (v:=.nilslice) (.inl ⟨rfl,.inl rfl⟩) (by simp)) ?_
  rintro u3 h3 n3 k3 hu3
  have J3:=J2.keep k3
  have hsn:=fun w=>snotes_eq (l:=[]) (w:=w) hu3 (hu2.keep k3) (by simp)
  simp(disch:=first|(simp;done)|omega|rfl) [-getElem?_pos, -oldIds,hsn,eqPrim]
  refine⟨rfl,_,rfl,by simp,?_,?_,⟨_,_,_,_,J3,r.up,rfl⟩⟩
  ·exact fun i hi=>(hw2 i hi).elim (hW i) J.mD
  ·exact(k1.upd.trans (U2.mono fun i _ hi=>J.mD hi)).trans k3.upd
 ·simp only[Bool.not_eq_true]at hg
  obtain⟨i,l,hl,hv,_,a3'⟩:=r.at hC hp hg
  have hv':=hv
  simp only[Lr.view,Prod.mk.injEq]at hv'
  obtain⟨rfl,_,hlb,hll⟩:=hv'
  refine run_fnD (drain_ok J.I hl (by omega) (by rw[hlb];omega)) ?_
  rintro _ h1 n1 w1 hw1 U1 ⟨u1,rfl,hu1,hu1n,I1⟩
  have hidl:RS.ids {S with ls:=S.ls.set i {l with buf:=[],lost:=0}}=S.ids:=by
   simp only[RS.ids]
   congr 3
   rw[List.flatMap_def,List.flatMap_def,List.map_set]
   congr 1
   apply List.ext_getElem?
   intro j
   rw[List.getElem?_set]
   split
   ·rename_i hj;subst hj;rw[List.getElem?_map,hl,List.length_map,if_pos (lt_of_get hl)];rfl
   ·rfl
  have J1:=J.prog U1 (fun i hi=>hi) I1 rfl (fun t ht=>.inl (by rw[hidl]at ht;exact ht)) (fun p hp=>.inl hp) (fun a ha _=>by
   obtain⟨j,hj⟩:=List.getElem?_of_mem ha
   by_cases hji:i=j
   ·subst hji
    rw[hl]at hj
    simp only[Option.some.injEq]at hj
    subst hj
    exact⟨{l with buf:=[],lost:=0},List.mem_of_getElem? (List.getElem?_set_self (lt_of_get hl)),rfl⟩
   ·exact⟨a,List.mem_of_getElem? (i:=j) (by show (S.ls.set i _)[j]?=_;rw[List.getElem?_set_ne hji];exact hj),rfl⟩) hB
  have l1:=U1.le
  have p1:X<n1:=by omega
  have p2:i'<n1:=by omega
  have hx1:=J1.x
  simp only at hx1
  simp(disch:=first|(simp;done)|omega|rfl) [-getElem?_pos, -oldIds]
  refine(k_regD (by simp[-oldIds,hxl,hqN,q2,p1,p2,any_none,meets_nil])).2 ?_
  simp(disch:=first|(simp;done)|omega|rfl) [-getElem?_pos, -oldIds,hx1,a0,a5,partV]
  refine run_fnD (mdrain_fn J1.MM hp) ?_
  rintro _ h2 n2 w2 hw2 U2 ⟨⟨u2,rfl,hu2⟩,M2⟩
  rw[if_neg (by simp[hg])]at hu2
  have J2:=J1.model U2 M2 rfl (fun i hi=>.inl hi)
  have hu1':Sn 2 h2 n2 u1 (p.1.buf.map ncC):=by
   rw[hlb]at hu1
   refine hu1.moved U2 fun i hi hc=>?_
   have h1:=hu1n i hi
   rcases hc with hc|hc
   ·have:=J.MM.lt.1;omega
   ·have:=J.MM.lt.2 i hc;omega
  simp(disch:=first|(simp;done)|omega|rfl) [-getElem?_pos, -oldIds,hg,eqPrim]
  refine run_fn (notices_fn hu1' (by omega)) ?_
  rintro u3 h3 n3 k3 hu3
  have J3:=J2.keep k3
  have hsn:=fun w=>snotes_eq (w:=w) hu3 (hu2.keep k3) (by omega)
  simp(disch:=first|(simp;done)|omega|rfl) [-getElem?_pos, -oldIds,hsn,eqPrim,hll]
  refine⟨rfl,_,rfl,by simp,?_,?_,⟨_,_,_,_,J3,r.drain hg (List.mem_of_getElem? hp) (List.mem_of_getElem? hl) hv a3',rfl⟩⟩
  ·exact fun i hi=>(hw2 i hi).elim (ge_app (ge_old fun i hi=>J.old i ((hw1 i hi).resolve_left (by simp))) hW i) J1.mD
  ·exact((U1.mono fun i _ hi=>J.old i hi).trans (U2.mono fun i _ hi=>J1.mD hi)).trans k3.upd
end Go.Mx
namespace Go.Mx
open Go Go.Proofs
set_option maxRecDepth 1000000
theorem Rel.frozen{S:RS}{M:MS}{F:List Nat}{k:Nat}(r:Rel S M F k):Rel {S with ref:=S.ref+1} {M with ref:=M.ref+1} F (k+1):=by
 have u:=r.up
 have hb:=r.bo
 exact⟨u.cap,u.c1,u.c2,u.fz,u.last,u.over,by show S.ref+1=M.ref+1;rw[r.ref],u.all,u.ls,u.len,u.nd,u.l8,u.la,u.lo,u.mlo,⟨hb.1,u.bo.2.1,by show 0≤S.ref+1;omega,by show S.ref+1≤((k+1:Nat):Int);omega⟩,u.fl,u.rl,u.vs⟩
set_option maxHeartbeats 4000000 in
theorem tail_put{B:Nat}{h:T O}{N X q k kk:Nat}{S:RS}{M:MS}{vF:V}{F:List Nat}{W:List Nat}{kind a:Int}{x:Rc}{u:V}{r0:T V}(J:JB B h N X S M vF F)(r:Rel S M F k)(hk:k<900)(hB:B≤N)(c:CR B h N X q kind x.f x.t a u kk F.length r0)(hW:∀i∈W,B≤i)(hu:Sl h N u (strs x.vs))(hub:∀i∈rowV u,i<B)(hl:x.vs.length<1000)(hs:∀s∈x.vs,s.length≤100000):
  Code A.C none A.ta34_0 ⟨r0,214,[]⟩ ⟨h,N,W⟩ (CT B X S.R k h N):=by
 rw[code_run]
 obtain⟨a0,a3,_,hq,hqN,hqB⟩:=c
 have hx:=J.x
 have hxl:=J.xl.2
 have hml:=J.MM.lt.1
 have hfl:=r.fl
 have h8:=r.l8
 have hln:=r.len
 have o1:=hu.form.one
 have o2:=hu.form.cells
 unfold V.one at o1
 unfold V.cells at o2
 have kk0:Keeps h N (h.set N (.cells (rcC (x,u)) 68 true)) (N+1):=Keeps.refl.new _
 have hrcs:RcS (h.set N (.cells (rcC (x,u)) 68 true)) (N+1) (.slice N 0 1 (some 1) 3) [x]:=⟨[rcC (x,u)],.inr ⟨N,0,some 1,rcC (x,u),_,true,rfl,by omega,by rw[T.get_set,if_pos rfl],fun j y hj=>by
  cases j with
  |zero=>simp at hj;subst hj;rfl
  |succ j=>simp at hj,by simp[rcC],by simp⟩,rfl,fun j y hj=>by
  cases j with
  |zero=>simp at hj;subst hj;exact⟨u,rfl,hu.keep kk0⟩
  |succ j=>simp at hj⟩
 have e3:slc [.int .i64 kind,.int .i64 x.f,.int .i64 x.t,u,.int .i64 a] 1 3=some [.int .i64 x.f,.int .i64 x.t,u]:=rfl
 simp(disch:=first|(simp;done)|omega|rfl) [-getElem?_pos, -oldIds,A.ta34_0,eqPrim,a0,a3,hq,hx,partV,e3,o1,o2,splice]
 refine run_fn (lrecs_fn hrcs (by simp) (fun y hy=>by simp at hy;rw[hy];omega)) ?_
 rintro v1 h1 n1 k1 ⟨hT,hTn⟩
 have J0:=J.keep (kk0.trans k1)
 have l1:=k1.le
 have p1:X<n1:=by omega
 have p2:q<n1:=by omega
 have hlen1:=hT.rcs.len
 obtain⟨i,o,cc,e,rw,u',q1,q2,q3,q4,q5⟩:=hT.at (j:=0) rfl
 have q6:=q4
 unfold rcC at q6
 simp only[Nat.zero_mul,Nat.add_zero]at q6
 have w1:=q5.1.form.one
 have w2:=q5.1.form.cells
 unfold V.one at w1
 unfold V.cells at w2
 have hq1:=(k1.get q (by omega)).trans ((kk0.get q hqN).trans hq)
 have hx1:=J0.x
 have hu1:=hu.keep (kk0.trans k1)
 simp(disch:=first|(simp;done)|omega|rfl) [-getElem?_pos, -oldIds,hlen1,q1,q2,q3,q6,partV]
 have hil:∀a∈M.ls,0≤a.1.lost∧a.1.lost<1000000∧a.1.buf.length<1000:=fun a ha=>by have:=r.mlo a ha;omega
 have hbo:=r.bo
 by_cases hbad:chkRc x≠0∨x.f≤S.last
 ·refine run_fn (put_bad J0.I q5.1 hl hs hbad) ?_
  rintro _ h2 n2 k2 rfl
  have J2:=J0.keep k2
  have l2:=k2.le
  have p3:X<n2:=by omega
  have p4:q<n2:=by omega
  have hx2:=J2.x
  have hq2:=(k2.get q p2).trans hq1
  have hmb:=mput_bad J2.MM (hu1.keep k2) hl hs (by rw[←r.last];exact hbad)
  generalize (if chkRc x≠0 then chkRc x else 11)=err at*
  simp(disch:=first|(simp;done)|omega|rfl) [-getElem?_pos, -oldIds,eqPrim,a0,a3,hq2,hx2,partV,e3]
  refine run_fn hmb ?_
  rintro _ h3 n3 k3 rfl
  have J3:=J2.keep k3
  simp(disch:=first|(simp;done)|omega|rfl) [-getElem?_pos, -oldIds,eqPrim]
  refine(k_regD (by simp[-oldIds,hxl,hqN,q2,p1,p2,p3,p4,any_none,meets_nil])).2 ?_
  simp(disch:=first|(simp;done)|omega|rfl) [-getElem?_pos, -oldIds,eqPrim]
  exact⟨rfl,_,rfl,by simp,hW,(((kk0.trans k1).trans k2).trans k3).upd,⟨_,_,_,_,J3,r.up,rfl⟩⟩
 have hc:chkRc x=0:=Classical.byContradiction fun hc=>hbad (.inl hc)
 have hle:¬x.f≤S.last:=fun hc=>hbad (.inr hc)
 have hle':¬x.f≤M.last:=by rw[←r.last];exact hle
 obtain⟨nq1,nq2⟩:=J0.nq hq1
 by_cases hfz:S.fz=true
 ·refine run_fnD (put_frozen J0.I q5.1 hl hs hc hle hfz hbo.2.2.1 (by omega)) ?_
  rintro _ h2 n2 w2 hw2 U2 ⟨rfl,I2⟩
  have J2:=J0.prog U2 (fun i hi=>hi) I2 rfl (fun i hi=>.inl hi) (fun p hp=>.inl hp) (fun l hl _=>⟨l,hl,rfl⟩) (by omega)
  have l2:=U2.le
  have p3:X<n2:=by omega
  have p4:q<n2:=by omega
  have hx2:=J2.x
  simp only at hx2
  have hq2:=(U2.get q p2 nq1).trans hq1
  have hu2:=hu1.moved U2 fun i hi hc=>by have:=hub i hi;have:=J.old i hc;omega
  simp(disch:=first|(simp;done)|omega|rfl) [-getElem?_pos, -oldIds,eqPrim,a0,a3,hq2,hx2,partV,e3]
  refine run_fnD (mput_frozen J2.MM hu2 hl hs hc hle' (by rw[←r.fz];exact hfz) (by rw[←r.ref];exact hbo.2.2.1) (by rw[←r.ref];omega)) ?_
  rintro _ h3 n3 w3 hw3 U3 ⟨rfl,M3⟩
  have J3:=J2.model U3 M3 rfl (fun i hi=>.inl hi)
  have nwX:∀t∈oldIds n1 w2,¬t=X:=fun t ht hc=>by
   subst hc
   exact J.nX ((hw2 t (mem_old ht).1).resolve_left (by simp))
  have nwq:∀t∈oldIds n1 w2,¬t=q:=fun t ht hc=>by
   subst hc
   exact nq1 ((hw2 t (mem_old ht).1).resolve_left (by simp))
  simp(disch:=first|(simp;done)|omega|rfl) [-getElem?_pos, -oldIds,eqPrim]
  refine(k_regD (by simp[-oldIds,hxl,hqN,q2,p1,p2,p3,p4,any_none,meets_nil];exact⟨nwX,nwq⟩)).2 ?_
  simp(disch:=first|(simp;done)|omega|rfl) [-getElem?_pos, -oldIds,eqPrim]
  refine⟨rfl,_,rfl,by simp,?_,?_,⟨_,_,_,_,J3,r.frozen,rfl⟩⟩
  ·exact ge_app (ge_old fun i hi=>J.mD ((hw3 i hi).resolve_left (by simp))) (ge_app (ge_old fun i hi=>J.old i ((hw2 i hi).resolve_left (by simp))) hW)
  ·exact((kk0.trans k1).upd.trans (U2.mono fun i _ hi=>J.old i hi)).trans (U3.mono fun i _ hi=>J.mD hi)
 ·simp only[Bool.not_eq_true]at hfz
  have hrl:=r.rl
  have hc2:=r.c2
  have hal:=r.rcl
  refine run_fnD (put_ok J0.I q5.1 hl hs hc hle hfz hbo.1 (by omega) (by omega) (fun i hi hc=>by obtain⟨z,w,hz⟩:=q5.2 i hi;have:=J0.I.ty hc hz;simp at this) (by omega) (fun l hl=>by have:=r.lo l hl;have:=r.la.2 l hl;omega)) ?_
  rintro _ h2 n2 w2 hw2 U2 ⟨rfl,vr',u2,I2,hu2n,hvr⟩
  have J2:=J0.prog U2 (fun i hi=>hi) I2 rfl (fun i hi=>by
   have e1:=toldL_ids S.ls (x.f,x.t) S.ls.length
   simp only[toldL,List.take_length,List.drop_length,List.append_nil]at e1
   simp only[RS.ids,e1,List.mem_cons,List.mem_append]at hi ⊢
   rcases hi with hi|hi|hi|hi
   ·exact .inl (.inl hi)
   ·rcases hvr i hi with hi|hi
    ·exact .inl (.inr (.inl hi))
    ·exact .inr hi
   ·exact .inl (.inr (.inr (.inl hi)))
   ·exact .inl (.inr (.inr (.inr hi)))) (fun p hp=>by
   have:p∈S.rc++[(x,u2)]:=by
    simp only[pushed]at hp
    split at hp
    ·exact List.mem_of_mem_drop hp
    ·exact hp
   rcases List.mem_append.1 this with h|h
   ·exact .inl h
   ·simp at h;subst h;exact .inr hu2n) (fun l hl _=>⟨_,List.mem_map.2 ⟨l,hl,rfl⟩,(l.tell_ids _).2.1⟩) (by omega)
  have l2:=U2.le
  have p3:X<n2:=by omega
  have p4:q<n2:=by omega
  have hx2:=J2.x
  simp only at hx2
  have hq2:=(U2.get q p2 nq1).trans hq1
  have hu2:=hu1.moved U2 fun i hi hc=>by have:=hub i hi;have:=J.old i hc;omega
  simp(disch:=first|(simp;done)|omega|rfl) [-getElem?_pos, -oldIds,eqPrim,a0,a3,hq2,hx2,partV,e3]
  refine run_fnD (mput_ok J2.MM (by omega) hu2 hub hl hs hc hle' (by rw[←r.fz];exact hfz) (by rw[←r.over];exact hbo.1) (by rw[←r.over];omega) (by omega) (by omega) hil) ?_
  rintro _ h3 n3 w3 hw3 U3 ⟨rfl,va',ls',M3,hm3⟩
  have J3:=J2.model U3 M3 rfl (fun i hi=>.inl hi)
  have nwX:∀t∈oldIds n1 w2,¬t=X:=fun t ht hc=>by
   subst hc
   exact J.nX ((hw2 t (mem_old ht).1).resolve_left (by simp))
  have nwq:∀t∈oldIds n1 w2,¬t=q:=fun t ht hc=>by
   subst hc
   exact nq1 ((hw2 t (mem_old ht).1).resolve_left (by simp))
  simp(disch:=first|(simp;done)|omega|rfl) [-getElem?_pos, -oldIds,eqPrim]
  refine(k_regD (by simp[-oldIds,hxl,hqN,q2,p1,p2,p3,p4,any_none,meets_nil];exact⟨nwX,nwq⟩)).2 ?_
  simp(disch:=first|(simp;done)|omega|rfl) [-getElem?_pos, -oldIds,eqPrim]
  refine⟨rfl,_,rfl,by simp,?_,?_,⟨_,_,_,_,J3,r.put hl hle hm3,rfl⟩⟩
  ·exact ge_app (ge_old fun i hi=>J.mD ((hw3 i hi).resolve_left (by simp))) (ge_app (ge_old fun i hi=>J.old i ((hw2 i hi).resolve_left (by simp))) hW)
  ·exact((kk0.trans k1).upd.trans (U2.mono fun i _ hi=>J.old i hi)).trans (U3.mono fun i _ hi=>J.mD hi)
end Go.Mx
namespace Go.Mx
open Go Go.Proofs
set_option maxRecDepth 1000000
theorem tail_all{B:Nat}{h:T O}{N X q k kk:Nat}{S:RS}{M:MS}{vF:V}{F:List Nat}{W:List Nat}{kind a:Int}{x:Rc}{u:V}{r0:T V}(J:JB B h N X S M vF F)(r:Rel S M F k)(hk:k<900)(hB:B≤N)(c:CR B h N X q kind x.f x.t a u kk F.length r0)(hW:∀i∈W,B≤i)(hu:Sl h N u (strs x.vs))(hub:∀i∈rowV u,i<B)(hl:x.vs.length<1000)(hs:∀s∈x.vs,s.length≤100000):
  Code A.C none A.ta34_1 ⟨r0,214,[]⟩ ⟨h,N,W⟩ (CT B X S.R k h N):=by
 by_cases k1:kind=1
 ·subst k1;exact tail_freeze J r hB c hW
 by_cases k2:kind=2
 ·subst k2
  by_cases hb:(a<1∨16<a)∨8≤S.ls.length
  ·exact tail_sub_bad J r (by omega) hB c hW hb
  ·exact tail_sub_ok J r (by omega) hB c hW (by omega) (by omega) (by omega)
 by_cases k3:kind=3∧0<F.length
 ·obtain⟨rfl,hF⟩:=k3
  exact tail_unsub J r (by omega) hB c hW hF
 by_cases k4:kind=4∧0<F.length
 ·obtain⟨rfl,hF⟩:=k4
  exact tail_drain J r (by omega) hB c hW hF
 have hx:=J.x
 have hlen:=J.vf.len
 rw[List.length_map]at hlen
 have hp:=fun r1 (h0:r1.get 0=r0.get 0) (h3:r1.get 3=r0.get 3) (h5:r1.get 5=r0.get 5)=>tail_put (r0:=r1) J r hk hB ⟨h0.trans c.r0,h3.trans c.r3,fun hF=>⟨h5.trans (c.r5 hF).1,(c.r5 hF).2⟩,c.hq,c.lt,c.ge⟩ hW hu hub hl hs
 obtain⟨a0,a3,_,hq,hqN,hqB⟩:=c
 rw[code_run]
 by_cases e3:kind=3
 ·have hF:¬0<F.length:=fun hc=>k3 ⟨e3,hc⟩
  have hF':¬(0:Int)<(F.length:Int):=by omega
  have e4:¬kind=4:=by omega
  simp(disch:=first|(simp;done)|omega|rfl) [-getElem?_pos, -oldIds,A.ta34_1,eqPrim,a0,a3,hq,hx,hlen,partV,k1,k2,e3,e4,hF,hF']
  refine run_code (hp _ (by simp) (by simp) (by simp)) ?_
  rintro e fr st ⟨rfl,r',rfl,h1,h2,h3,h4⟩
  simp(disch:=first|(simp;done)|omega|rfl) [-getElem?_pos, -oldIds]
  exact⟨rfl,_,rfl,h1,h2,h3,h4⟩
 ·by_cases e4:kind=4
  ·have hF:¬0<F.length:=fun hc=>k4 ⟨e4,hc⟩
   have hF':¬(0:Int)<(F.length:Int):=by omega
   simp(disch:=first|(simp;done)|omega|rfl) [-getElem?_pos, -oldIds,A.ta34_1,eqPrim,a0,a3,hq,hx,hlen,partV,k1,k2,e3,e4,hF,hF']
   refine run_code (hp _ (by simp) (by simp) (by simp)) ?_
   rintro e fr st ⟨rfl,r',rfl,h1,h2,h3,h4⟩
   simp(disch:=first|(simp;done)|omega|rfl) [-getElem?_pos, -oldIds]
   exact⟨rfl,_,rfl,h1,h2,h3,h4⟩
  ·simp(disch:=first|(simp;done)|omega|rfl) [-getElem?_pos, -oldIds,A.ta34_1,eqPrim,a0,a3,hq,hx,hlen,partV,k1,k2,e3,e4]
   refine run_code (hp _ (by simp) (by simp) (by simp)) ?_
   rintro e fr st ⟨rfl,r',rfl,h1,h2,h3,h4⟩
   simp(disch:=first|(simp;done)|omega|rfl) [-getElem?_pos, -oldIds]
   exact⟨rfl,_,rfl,h1,h2,h3,h4⟩
theorem call_fn{B:Nat}{h:T O}{N X k:Nat}{S:RS}{M:MS}{vF:V}{F:List Nat}{kind a:Int}{x:Rc}{u:V}(J:JB B h N X S M vF F)(r:Rel S M F k)(hk:k<900)(hB:B≤N)(hu:Sl h N u (strs x.vs))(hub:∀i∈rowV u,i<B)(hl:x.vs.length<1000)(hs:∀s∈x.vs,s.length≤100000):FnD A.C (B≤·) 34 [.ptr X 0,.agg [.int .i64 kind,.int .i64 x.f,.int .i64 x.t,u,.int .i64 a]] h N (CallOK B X S.R k):=by
 intro w
 have hx:=J.x
 have hxl:=J.xl.2
 have hlen:=J.vf.len
 rw[List.length_map]at hlen
 have hfl:=r.fl
 have o1:=hu.form.one
 have o2:=hu.form.cells
 unfold V.one at o1
 unfold V.cells at o2
 have d0:¬X=N:=by omega
 have p0:X<N+1:=by omega
 have kk0:Keeps h N (h.set N (.cells [.int .i64 kind,.int .i64 x.f,.int .i64 x.t,u,.int .i64 a] 94 true)) (N+1):=Keeps.refl.new _
 have J0:=J.keep kk0
 have hu0:=hu.keep kk0
 have gN:(h.set N (.cells [.int .i64 kind,.int .i64 x.f,.int .i64 x.t,u,.int .i64 a] 94 true)).get N=some (.cells [.int .i64 kind,.int .i64 x.f,.int .i64 x.t,u,.int .i64 a] 94 true):=by rw[T.get_set,if_pos rfl]
 have fin:∀(r':T V) (st:St),r'.get 4=some (.bool true)→(∀i∈st.w,B≤i)→Upd (B≤·) (h.set N (.cells [.int .i64 kind,.int .i64 x.f,.int .i64 x.t,u,.int .i64 a] 94 true)) (N+1) st.h st.n→CI B st.h st.n X S.R (k+1)→RetD (B≤·) (CallOK B X S.R k) h N w (.bool true) ⟨st.h,st.n,oldIds N st.w++w⟩:=fun r' st h4 hw hU hC=>retD_fin (fun i hi _=>hw i hi) (kk0.upd.trans hU) ⟨rfl,hC⟩
 rw[call_run,A.k34 (by simp)]
 by_cases hF:0<F.length
 ·obtain⟨kk,e1,e2⟩:=sent (a:=a) hF (by omega)
  have hF':(0:Int)<(F.length:Int):=by omega
  have e3:wrapF .u64 (F.length:Int)=(F.length:Int):=wrapF_u64 (by omega) (by omega)
  simp(disch:=first|(simp;done)|omega|rfl) [-getElem?_pos, -oldIds,A.b34,eqPrim,hx,hlen,hF,hF',o1,o2,splice,partV,d0,e3,e2]
  refine(k_regD (by simp[-oldIds,p0,any_none,meets_nil])).2 ?_
  simp(disch:=first|(simp;done)|omega|rfl) [-getElem?_pos, -oldIds]
  refine run_code (tail_all (q:=N) (kk:=kk) J0 r hk (by omega) ⟨by simp,by simp,fun _=>⟨by simp,e1⟩,gN,by omega,hB⟩ (by simp) hu0 hub hl hs) ?_
  rintro e fr ⟨H,n,W⟩ ⟨rfl,r',rfl,h4,hw,hU,hC⟩
  simp(disch:=first|(simp;done)|omega|rfl) [-getElem?_pos, -oldIds,h4]
  exact fin r' ⟨H,n,W⟩ h4 hw hU hC
 ·have hF':¬(0:Int)<(F.length:Int):=by omega
  simp(disch:=first|(simp;done)|omega|rfl) [-getElem?_pos, -oldIds,A.b34,eqPrim,hx,hlen,hF,hF',o1,o2,splice,partV,d0]
  refine run_code (tail_all (q:=N) (kk:=0) J0 r hk (by omega) ⟨by simp,by simp,fun hc=>absurd hc hF,gN,by omega,hB⟩ (by simp) hu0 hub hl hs) ?_
  rintro e fr ⟨H,n,W⟩ ⟨rfl,r',rfl,h4,hw,hU,hC⟩
  simp(disch:=first|(simp;done)|omega|rfl) [-getElem?_pos, -oldIds,h4]
  exact fin r' ⟨H,n,W⟩ h4 hw hU hC
end Go.Mx
