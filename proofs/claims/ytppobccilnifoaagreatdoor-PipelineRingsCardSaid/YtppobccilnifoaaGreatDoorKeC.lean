/-
  PipelineRings: the model of a ring: Drain, Subscribe.
-/
import Derived.Test.YtppobccilnifoaaGreatDoorKcA
set_option linter.all false
namespace Go.Mx
open Go Go.Proofs
set_option maxRecDepth 1000000
def A.lb66_0:MCode:=.seq (.seq (.reg [mv 13 6,mv 14 0,⟨(some 15),.nilck (.tmp 14),none⟩,⟨(some 16),.faddr 6 (.tmp 15),none⟩,ld 17 16,ln 18 17,bi 19 .lss 13 18])
 (.cond (.tmp 19)
 (.skip)
 (.exit 0)))
 (.seq (.block 1 (.seq (.reg [mv 22 0,⟨(some 23),.nilck (.tmp 22),none⟩,⟨(some 24),.faddr 6 (.tmp 23),none⟩,ld 25 24,mv 26 6,ia 27 4 25 26,⟨(some 28),.faddr 3 (.tmp 27),none⟩,ld 29 28,⟨(some 30),.un .not (.tmp 29),none⟩])
 (.cond (.tmp 30)
 (.reg [mv 31 5,bc 32 .add 31 1,mv 5 32])
 (.skip))))
 (.reg [mv 20 6,bc 21 .add 20 1,mv 6 21]))
def A.b66:MCode:=.seq (.reg [mc 4 0])
 (.seq (.seq (.reg [mv 7 1,bc 8 .lss 7 1,mv 9 8,⟨(some 10),.mov (.tmp 1),(some (9,false))⟩,⟨(some 11),.bin .gtr (.node []) false (.tmp 10) (.const (.int .i64 16)),(some (9,false))⟩,⟨(some 12),.pick (.tmp 9) (.const (.bool true)) (.tmp 11),none⟩])
 (.cond (.tmp 12)
 (.seq (.reg [mc 4 3])
 (.ret))
 (.skip)))
 (.seq (.reg [mc 5 0])
 (.seq (.seq (.reg [mc 6 0])
 (.block 0 (.loop A.lb66_0)))
 (.seq (.seq (.reg [mv 33 5,⟨(some 34),.bin .eql (.prim .int) true (.tmp 33) (.const (.int .i64 8)),none⟩])
 (.cond (.tmp 34)
 (.seq (.reg [mc 4 5])
 (.ret))
 (.skip)))
 (.seq (.reg [mv 35 0,⟨(some 36),.bslice 218 4 0 [] [],none⟩,mv 37 0,⟨(some 38),.nilck (.tmp 37),none⟩,⟨(some 39),.faddr 6 (.tmp 38),none⟩,ld 40 39,⟨(some 41),.append 4 48 218 [(.int .i64 0),.nilslice,(.int .i64 0),(.bool false)] (.tmp 36) (.tmp 40),none⟩,mv 42 1,⟨(some 43),.build [(.int .i64 0),.nilslice,(.int .i64 0),(.bool false)] [(0,1,(.tmp 42))],none⟩,⟨(some 44),.bslice 218 4 1 [(.int .i64 0),.nilslice,(.int .i64 0),(.bool false)] [(0,4,(.tmp 43))],none⟩,⟨(some 45),.append 4 48 218 [(.int .i64 0),.nilslice,(.int .i64 0),(.bool false)] (.tmp 41) (.tmp 44),none⟩,⟨(some 46),.nilck (.tmp 35),none⟩,⟨(some 47),.faddr 6 (.tmp 46),none⟩,so 47 45])
 (.seq (.reg [mc 4 0])
 (.ret)))))))
theorem A.c66:cFunc Tryz.prog 66=some ⟨48,[.tmp 4],A.b66⟩:=by kernel_rfl
def A.k66{K Q f c args st}:=@A.kk 66 _ _ _ A.c66 rfl K Q f c args st
def mdrained(p:ML×V):ML×V:=if p.1.gone=true then p else ({p.1 with buf:=[],lost:=0},.nilslice)
theorem mdrain_fn{B:Nat}{h:T O}{N:Nat}{M:MS}(I:MI B h N M){k:Nat}{p:ML×V}(hp:M.ls[k]?=some p):FnD A.C M.D 68 [.ptr M.R 0,.int .i64 k] h N (fun v h' n'=>(∃u,v=.tup [u,.int .i64 (if p.1.gone=true then 0 else p.1.lost),.int .i64 (if p.1.gone=true then 10 else 0)]∧Sn 2 h' n' u (if p.1.gone=true then [] else p.1.buf.map ncC))∧MI B h' n' {M with ls:=M.ls.set k (mdrained p)}):=by
 intro w
 have hr:=I.r
 unfold MS.cells at hr
 have hk:(M.ls.map mlC)[k]?=some (mlC p):=by rw[List.getElem?_map,hp];rfl
 have hlt:=lt_of_get hp
 have hlen:=I.vl.len
 rw[List.length_map]at hlen
 obtain⟨i,c,e1,g,h1,h2,h3⟩:=I.vl.store hk (f:=1) (by omega)
 have hst:=h3 .nilslice
 have z3:=slc_get h2 (f:=3) (by omega)
 simp[mlC]at z3
 simp only[mlC]at h2
 rw[List.length_map]at e1
 have hlt':(k:Int)<(M.ls.length:Int):=by omega
 have d0:¬i=M.R:=by rintro rfl;rw[I.r]at g;simp at g
 have d1:¬M.R=i:=fun hc=>d0 hc.symm
 have hi:i<N:=I.lt.2 i (by rw[e1];simp[rowV])
 have hD:M.D i:=.inr (by rw[e1];simp[rowV])
 have b1:k*4+1+1≤c.length:=by omega
 have b2:k*4+2+1≤c.length:=by omega
 have hbs:=I.bs p (List.mem_of_getElem? hp)
 have o1:V.one p.2=true:=by rcases hbs.1 with⟨_,hv|hv⟩|⟨_,_,_,_,_,_,hv,_⟩<;>rw[hv]<;>rfl
 have o2:V.cells p.2=[p.2]:=by rcases hbs.1 with⟨_,hv|hv⟩|⟨_,_,_,_,_,_,hv,_⟩<;>rw[hv]<;>rfl
 unfold V.one at o1
 unfold V.cells at o2
 have k0:Keeps h N ((h.set N (.cells [.int .i64 0,.nilslice,.int .i64 0,.bool false] 218 true)).set N (.cells (mlC p) 218 true)) (N+1):=(Keeps.refl.new _).set (Nat.le_refl _)
 have d2:¬i=N:=by omega
 have d3:¬M.R=N:=by have:=I.lt.1;omega
 have e4:∀b,splice [.int .i64 0,.nilslice,.int .i64 0,.bool false] 0 [.int .i64 p.1.cap,p.2,.int .i64 p.1.lost,.bool b]=[.int .i64 p.1.cap,p.2,.int .i64 p.1.lost,.bool b]:=fun _=>rfl
 rw[call_run,A.k68 (by simp)]
 by_cases hg:p.1.gone=true
 ·have e3:M.ls.set k (mdrained p)=M.ls:=by
   apply List.ext_getElem?
   intro j
   have:mdrained p=p:=by simp[mdrained,hg]
   rw[List.getElem?_set]
   split
   ·rename_i hj;subst hj
    first|rw[if_pos hlt,hp]|rw[hp]
    exact congrArg some this
   ·rfl
  have hfin:=I.keep k0
  rw[hg]at z3 h2
  simp only[mlC,hg]at hfin
  simp(disch:=first|(simp;done)|omega|rfl) [-getElem?_pos, -oldIds,A.b68,eqPrim,hr,partV,e1,g,z3,h2,hg,hlt,hlt',storeK2,o1,o2,e4,d2,d3]
  refine retD_fin ?_ ?_ ⟨⟨_,rfl,.inl ⟨rfl,.inl rfl⟩⟩,?_⟩
  ·intro j hj hn
   simp at hj;omega
  ·exact((Keeps.refl.new _).set (Nat.le_refl _)).upd
  ·rw[←e1,e3];exact hfin
 ·simp only[Bool.not_eq_true]at hg
  rw[hg]at z3 h2
  have hk2:((M.ls.map mlC).set k ((mlC p).set 1 .nilslice))[k]?=some ((mlC p).set 1 .nilslice):=by rw[List.getElem?_set_self (by rw[List.length_map];exact hlt)]
  obtain⟨i2,c2,f1,f2,f3,f4,f5⟩:=hst.store hk2 (f:=2) (by omega)
  rw[e1]at f1
  simp only[V.slice.injEq]at f1
  obtain⟨rfl,_⟩:=f1
  rw[T.get_set,if_pos rfl]at f2
  simp only[Option.some.injEq,O.cells.injEq,true_and,and_true]at f2
  have hst2:=f5 (.int .i64 0)
  have hl2:(splice c (k*4+1) [.nilslice]).length=c.length:=by rw[splice_one (by omega),List.length_set]
  rw[←f2]at hst2 f3 f4
  generalize hH:(h.set N (.cells [.int .i64 0,.nilslice,.int .i64 0,.bool false] 218 true)).set N (.cells [.int .i64 p.1.cap,p.2,.int .i64 p.1.lost,.bool false] 218 true)=H at*
  have e6:i<N+1:=by omega
  have e7:M.R<N+1:=by have:=I.lt.1;omega
  have e8:oldIds (N+1) [i]=[i]:=by simp[oldIds,e6,noteId]
  have d4:¬N=i:=by omega
  have e9:(i==M.R)=false:=by simp[d0]
  have e10:(M.R==i)=false:=by simp[d1]
  have gN:H.get N=some (.cells [.int .i64 p.1.cap,p.2,.int .i64 p.1.lost,.bool false] 218 true):=by rw[←hH];simp
  have gR:H.get M.R=h.get M.R:=by rw[←hH];simp[d3]
  have gi:H.get i=h.get i:=by rw[←hH];simp[d2]
  have U:Upd M.D h N ((H.set i (.cells (splice c (k*4+1) [.nilslice]) 218 true)).set i (.cells (splice (splice c (k*4+1) [.nilslice]) (k*4+2) [.int .i64 0]) 218 true)) (N+1):=by
   rw[←hH]
   exact((((Upd.refl.new _).set (.inr (Nat.le_refl _))).set (.inl hD)).set (.inl hD))
  obtain⟨r1,r2,r3⟩:=I.rest U
  have hfin:=I.write (ls:=M.ls.set k (mdrained p)) (vl:=M.vl) U M.last M.fz M.over M.ref (by rw[T.get_set,if_neg d1,T.get_set,if_neg d1,gR];exact I.r) r1 r2 (by
   have:=hst2.eq (h':=((H.set i (.cells (splice c (k*4+1) [.nilslice]) 218 true)).set i (.cells (splice (splice c (k*4+1) [.nilslice]) (k*4+2) [.int .i64 0]) 218 true))) (fun t ht=>by
    rw[e1]at ht;simp[rowV]at ht;subst ht;rw[T.get_set,if_pos rfl,T.get_set,if_pos rfl])
   simp only[List.map_set,List.set_set]at this ⊢
   simpa[mdrained,mlC,hg]using this) (fun q hq=>by
   rcases List.mem_or_eq_of_mem_set hq with hq|rfl
   ·exact r3 q hq
   ·simp[mdrained,hg,Has,rowV,Sn]) (fun j hj=>⟨I.ge.2 j hj,Nat.lt_succ_of_lt (I.lt.2 j hj)⟩)
  rw[e1]at hfin
  simp(disch:=first|(simp;done)|omega|rfl) [-getElem?_pos, -oldIds,A.b68,eqPrim,hr,partV,e1,g,z3,h2,hg,hlt,hlt',storeK2,o1,o2,e4,d2,d3,b1,b2,hl2,hH,gN,gR,gi,d0,d1,e6,e7,e8,e9,e10,pairsOk.chk,any_none,meets_nil]
  refine(k_regD (by simp[e9,e10,d0,d1,e6])).2 ?_
  simp(disch:=first|(simp;done)|omega|rfl) [-getElem?_pos, -oldIds,gN,d4,pairsOk.chk]
  refine retD_fin ?_ U ⟨⟨_,rfl,hbs.1.moved U ?_⟩,hfin⟩
  ·intro j hj hn
   simp at hj
   rcases hj with rfl|rfl
   ·exact hD
   ·omega
  ·intro j hj hc
   rcases hc with rfl|hc
   ·exact hbs.2.ne I.r (by simp) hj
   ·exact hbs.2.dis I.vl.has (by simp) j hj hc
def liveN(l:List (ML×V)):Nat:=(l.filter fun p=>!p.1.gone).length
theorem ml_parts{c:List V}{o:Nat}{p:ML×V}(h:slc c o 4=some (mlC p)):c[o]?=some (.int .i64 p.1.cap)∧c[o+1]?=some p.2∧c[o+2]?=some (.int .i64 p.1.lost)∧c[o+3]?=some (.bool p.1.gone):=
 ⟨slc_get h (f:=0) (by omega),slc_get h (f:=1) (by omega),slc_get h (f:=2) (by omega),slc_get h (f:=3) (by omega)⟩
theorem liveN_le(l:List (ML×V)):liveN l≤l.length:=List.length_filter_le _ _
theorem liveN_succ{l:List (ML×V)}{k:Nat}{p:ML×V}(h:l[k]?=some p):liveN (l.take (k+1))=liveN (l.take k)+(if p.1.gone=true then 0 else 1):=by
 unfold liveN
 rw[List.take_add_one,h,List.filter_append,List.length_append]
 cases hg:p.1.gone<;>simp[hg]
theorem msub_fn{B:Nat}{h:T O}{N:Nat}{M:MS}{c:Int}(I:MI B h N M)(hl:M.ls.length<1000)(hB:B≤N):FnD A.C M.D 66 [.ptr M.R 0,.int .i64 c] h N (fun v h' n'=>v=.int .i64 (if c<1∨16<c then 3 else if liveN M.ls=8 then 5 else 0)∧((c<1∨16<c)∨liveN M.ls=8→MI B h' n' M)∧(¬(c<1∨16<c)→¬liveN M.ls=8→∃vl',(∀i∈rowV vl',N≤i)∧MI B h' n' {M with vl:=vl',ls:=M.ls++[(⟨c,[],0,false⟩,.nilslice)]})):=by
 intro w
 have hr:=I.r
 unfold MS.cells at hr
 have hlen:=I.vl.len
 rw[List.length_map]at hlen
 have hvl:=I.vl.sn (N:=N) I.lt.2
 rw[call_run,A.k66 (by simp)]
 by_cases c0:c<1∨16<c
 ·have fin:RetD M.D (fun v h' n'=>v=.int .i64 (if c<1∨16<c then 3 else if liveN M.ls=8 then 5 else 0)∧((c<1∨16<c)∨liveN M.ls=8→MI B h' n' M)∧(¬(c<1∨16<c)→¬liveN M.ls=8→∃vl',(∀i∈rowV vl',N≤i)∧MI B h' n' {M with vl:=vl',ls:=M.ls++[(⟨c,[],0,false⟩,.nilslice)]})) h N w (.int .i64 3) ⟨h,N,w⟩:=⟨fun i hi=>.inl hi,Upd.refl,by simp[c0],fun _=>I,fun h=>absurd c0 h⟩
  by_cases c1:c<1
  ·simp(disch:=first|(simp;done)|omega|rfl) [-getElem?_pos, -oldIds,A.b66,c1]
   simpa[c1]using fin
  ·have c2:16<c:=by omega
   simp(disch:=first|(simp;done)|omega|rfl) [-getElem?_pos, -oldIds,A.b66,c1,c2]
   simpa[c1,c2]using fin
 have c1:¬c<1:=by omega
 have c2:¬16<c:=by omega
 simp(disch:=first|(simp;done)|omega|rfl) [-getElem?_pos, -oldIds,A.b66,c1,c2]
 refine run_loopD [(5,6),(13,32)] (fun e r st=>st=⟨h,N,[]⟩∧e=.exit 0∧r.get 5=some (.int .i64 (liveN M.ls))) (fun m r st=>st=⟨h,N,[]⟩∧∃k,k+m=M.ls.length∧r.get 6=some (.int .i64 k)∧r.get 5=some (.int .i64 (liveN (M.ls.take k)))) M.ls.length ?_ ?_ ?_
 ·exact⟨rfl,0,by omega,by simp,by simp[liveN]⟩
 ·rintro m r _ hr0 hf ⟨rfl,k,hk,h6,h5⟩
  rw[code_run]
  cases m with
  |zero=>
   obtain rfl:k=M.ls.length:=by omega
   rw[List.take_length]at h5
   simp(disch:=first|(simp;done)|omega|rfl) [-getElem?_pos,A.lb66_0,hr0,hf,h6,h5,hr,hlen,partV]
  |succ m=>
   have hlt:k<M.ls.length:=by omega
   have hlt':(k:Int)<(M.ls.length:Int):=by omega
   obtain⟨p,hp⟩:=get_of_lt hlt
   obtain⟨i,o,cc,e,rw,q1,q2,q3,q4⟩:=hvl.at (j:=k) (x:=mlC p) (by rw[List.getElem?_map,hp];rfl)
   obtain⟨_,_,_,p4⟩:=ml_parts q4
   have hsu:=liveN_succ hp
   have hle:liveN (M.ls.take k)≤k:=by have:=liveN_le (M.ls.take k);simp at this;omega
   cases hg:p.1.gone
   ·rw[hg]at p4 hsu
    have hw:(liveN (M.ls.take k):Int)+1=((liveN (M.ls.take (k+1)):Nat):Int):=by rw[hsu];simp
    simp(disch:=first|(simp;done)|omega|rfl) [-getElem?_pos,A.lb66_0,hr0,hf,h6,h5,hr,hlen,partV,hlt,hlt',q1,q3,p4,hw]
    exact⟨m,by omega,k+1,by omega,by simp,by simpa using hw⟩
   ·rw[hg]at p4 hsu
    have hw:liveN (M.ls.take (k+1))=liveN (M.ls.take k):=by simpa using hsu
    simp(disch:=first|(simp;done)|omega|rfl) [-getElem?_pos,A.lb66_0,hr0,hf,h6,h5,hr,hlen,partV,hlt,hlt',q1,q3,p4,hw]
    exact⟨m,by omega,k+1,by omega,by simp,by simp[hw]⟩
 ·rintro _ r _ hr0 ⟨rfl,rfl,h5⟩
  by_cases c8:liveN M.ls=8
  ·have c8':(liveN M.ls:Int)=8:=by omega
   simp(disch:=first|(simp;done)|omega|rfl) [-getElem?_pos, -oldIds,hr0,h5,c8,c8',eqPrim]
   exact⟨fun i hi=>.inl hi,Upd.refl,rfl,I⟩
  ·have c8':¬(liveN M.ls:Int)=8:=by omega
   have kk:Keeps h N (h.set N (.cells [] 218 true)) (N+1):=Keeps.refl.new _
   have lR:=I.lt.1
   have d0:¬M.R=N:=by omega
   obtain⟨y,h1,n1,a1,k1,cw⟩:=copy_row (w:=[]) (bytes:=48) (i:=N) (N0:=N) (e:=218) (by omega) (hvl.keep kk) (fun x hx=>by obtain⟨p,_,rfl⟩:=List.mem_map.1 hx;rfl) (by omega) (Nat.le_refl _) (by rw[T.get_set,if_pos rfl]) (by rw[List.length_map];omega)
   have kle:=k1.le
   have k2:Keeps h1 n1 (h1.set n1 (.cells (mlC (⟨c,[],0,false⟩,.nilslice)) 218 true)) (n1+1):=Keeps.refl.new _
   obtain⟨h3,w3,a2,hw3,U3,row3⟩:=push_row (w:=[]) (bytes:=48) (u:=.slice n1 0 1 (some 1) 4) (x:=mlC (⟨c,[],0,false⟩,.nilslice)) (by omega) (cw.keep k2) rfl (by omega) (by simp[srcCells,St.row,slc,mlC]) (by rw[List.length_map];omega)
   simp only[mlC]at a2
   rw[List.length_map]at a2 row3
   have gR:=(k1.get M.R (by omega)).trans ((kk.get _ lR).trans hr)
   have gR3:h3.get M.R=some (.cells M.cells 99 true):=(U3.get M.R (by omega) (by omega)).trans ((k2.get _ (by omega)).trans ((k1.get M.R (by omega)).trans ((kk.get _ lR).trans I.r)))
   have va1:V.one M.va=true:=by obtain⟨_,⟨_,hv|hv⟩|⟨_,_,_,_,_,_,hv,_⟩,_⟩:=I.va<;>rw[hv]<;>rfl
   unfold V.one at va1
   have gR3':=gR3
   unfold MS.cells at gR3'
   have e9:M.R<n1+1:=by omega
   have U:Upd M.D h N (h3.set M.R (.cells (MS.cells ⟨M.R,M.cap,M.va,M.all,M.last,M.fz,M.over,M.ref,.slice (n1+1) 0 (M.ls.length+1) none 4,M.ls++[(⟨c,[],0,false⟩,.nilslice)]⟩) 99 true)) (n1+1+1):=((((kk.upd.trans k1.upd).trans k2.upd).then U3 fun i hi hc=>by omega).set (.inl (.inl rfl)))
   obtain⟨r1,r2,r3⟩:=I.rest U
   have hfin:=I.write (ls:=M.ls++[(⟨c,[],0,false⟩,.nilslice)]) (vl:=.slice (n1+1) 0 (M.ls.length+1) none 4) U M.last M.fz M.over M.ref (by rw[T.get_set,if_pos rfl]) r1 r2 (by
    have e5:¬n1+1=M.R:=by omega
    have:=row3.eq (h':=h3.set M.R (.cells (MS.cells ⟨M.R,M.cap,M.va,M.all,M.last,M.fz,M.over,M.ref,.slice (n1+1) 0 (M.ls.length+1) none 4,M.ls++[(⟨c,[],0,false⟩,.nilslice)]⟩) 99 true)) (fun t ht=>by simp[rowV]at ht;subst ht;rw[T.get_set,if_neg e5])
    simpa using this) (fun q hq=>by
    rcases List.mem_append.1 hq with hq|hq
    ·exact r3 q hq
    ·simp at hq;subst hq;simp[Has,rowV,Sn]) (fun j hj=>by simp[rowV]at hj;omega)
   simp(disch:=first|(simp;done)|omega|rfl) [-getElem?_pos, -oldIds,hr0,h5,c8,c8',eqPrim,hr,partV,d0,a1,splice]
   simp(disch:=first|(simp;done)|omega|rfl) [-getElem?_pos, -oldIds,a2,gR3',storeK2,splice,va1]
   refine retD_fin ?_ U ⟨rfl,_,?_,hfin⟩
   ·intro j hj hn
    simp at hj
    rcases hj with rfl|hj
    ·exact .inl rfl
    ·have:=hw3 j hj;simp at this;omega
   ·intro j hj
    simp[rowV]at hj;omega
end Go.Mx
namespace Go.Mx
open Go Go.Proofs
set_option maxRecDepth 1000000
def A.lb71_0:MCode:=.seq (.seq (.reg [mv 73 6,mv 74 0,⟨(some 75),.nilck (.tmp 74),none⟩,⟨(some 76),.faddr 6 (.tmp 75),none⟩,ld 77 76,ln 78 77,bi 79 .lss 73 78])
 (.cond (.tmp 79)
 (.skip)
 (.exit 0)))
 (.seq (.block 1 (.seq (.reg [mv 82 0,⟨(some 83),.nilck (.tmp 82),none⟩,⟨(some 84),.faddr 6 (.tmp 83),none⟩,ld 85 84,mv 86 6,ia 87 4 85 86,mv 7 87])
 (.seq (.seq (.reg [mv 88 7,⟨(some 89),.nilck (.tmp 88),none⟩,⟨(some 90),.faddr 3 (.tmp 89),none⟩,ld 91 90])
 (.cond (.tmp 91)
 (.exit 1)
 (.skip)))
 (.seq (.regD [mv 92 7,⟨(some 93),.nilck (.tmp 92),none⟩,⟨(some 94),.faddr 1 (.tmp 93),none⟩,ld 95 94,ln 96 95,mv 97 7,⟨(some 98),.nilck (.tmp 97),none⟩,⟨(some 99),.faddr 0 (.tmp 98),none⟩,ld 100 99,bi 101 .lss 96 100] [0,1,3,7,15,0,32,96,224,511])
 (.cond (.tmp 101)
 (.regD [mv 102 7,⟨(some 103),.bslice 219 2 0 [] [],none⟩,mv 104 7,⟨(some 105),.nilck (.tmp 104),none⟩,⟨(some 106),.faddr 1 (.tmp 105),none⟩,ld 107 106,⟨(some 108),.append 2 16 219 [(.int .i64 0),(.int .i64 0)] (.tmp 103) (.tmp 107),none⟩,⟨(some 109),.faddr 0 (.tmp 3),none⟩,ld 110 109,⟨(some 111),.faddr 1 (.tmp 3),none⟩,ld 112 111,⟨(some 113),.build [(.int .i64 0),(.int .i64 0)] [(0,1,(.tmp 110)),(1,1,(.tmp 112))],none⟩,⟨(some 114),.bslice 219 2 1 [(.int .i64 0),(.int .i64 0)] [(0,2,(.tmp 113))],none⟩,⟨(some 115),.append 2 16 219 [(.int .i64 0),(.int .i64 0)] (.tmp 108) (.tmp 114),none⟩,⟨(some 116),.nilck (.tmp 102),none⟩,⟨(some 117),.faddr 1 (.tmp 116),none⟩,so 117 115] [0,0,0,4,12,28,62,0,128,0,512,1920,3968,8190,16383,32767,65535])
 (.reg [mv 118 7,⟨(some 119),.nilck (.tmp 118),none⟩,⟨(some 120),.faddr 2 (.tmp 119),none⟩,ld 121 120,bc 122 .add 121 1,⟨(some 123),.nilck (.tmp 118),none⟩,⟨(some 124),.faddr 2 (.tmp 123),none⟩,so 124 122]))))))
 (.reg [mv 80 6,bc 81 .add 80 1,mv 6 81]))
def A.ta71_0:MCode:=.seq (.seq (.reg [mc 6 0])
 (.block 0 (.loop A.lb71_0)))
 (.seq (.reg [mc 4 0])
 (.ret))
def A.b71:MCode:=.seq (.reg [⟨(some 3),.box 68 (.tmp 1),none⟩,mc 4 0])
 (.seq (.reg [⟨(some 8),.load (some 3) (.tmp 3),none⟩,⟨(some 9),.call (.const (.func 57 [] [])) [(.tmp 8)],none⟩,mv 5 9])
 (.seq (.seq (.reg [mv 10 5,⟨(some 11),.bin .neq (.prim .int) true (.tmp 10) (.const (.int .i64 0)),none⟩])
 (.cond (.tmp 11)
 (.seq (.reg [mv 12 5,mv 4 12])
 (.ret))
 (.skip)))
 (.seq (.seq (.regD [⟨(some 13),.faddr 0 (.tmp 3),none⟩,ld 14 13,mv 15 0,⟨(some 16),.nilck (.tmp 15),none⟩,⟨(some 17),.faddr 2 (.tmp 16),none⟩,ld 18 17,bi 19 .leq 14 18] [0,1,0,4,12,28,63])
 (.cond (.tmp 19)
 (.seq (.reg [mc 4 11])
 (.ret))
 (.skip)))
 (.seq (.seq (.reg [mv 20 0,⟨(some 21),.nilck (.tmp 20),none⟩,⟨(some 22),.faddr 3 (.tmp 21),none⟩,ld 23 22])
 (.cond (.tmp 23)
 (.seq (.reg [mv 24 0,⟨(some 25),.nilck (.tmp 24),none⟩,⟨(some 26),.faddr 5 (.tmp 25),none⟩,ld 27 26,bc 28 .add 27 1,⟨(some 29),.nilck (.tmp 24),none⟩,⟨(some 30),.faddr 5 (.tmp 29),none⟩,so 30 28])
 (.seq (.reg [mc 4 18])
 (.ret)))
 (.skip)))
 (.seq (.reg [mv 31 0,⟨(some 32),.faddr 0 (.tmp 3),none⟩,ld 33 32,⟨(some 34),.nilck (.tmp 31),none⟩,⟨(some 35),.faddr 2 (.tmp 34),none⟩,so 35 33])
 (.seq (.regD [mv 36 0,⟨(some 37),.bslice 68 3 0 [] [],none⟩,mv 38 0,⟨(some 39),.nilck (.tmp 38),none⟩,⟨(some 40),.faddr 1 (.tmp 39),none⟩,ld 41 40,⟨(some 42),.append 3 40 68 [(.int .i64 0),(.int .i64 0),.nilslice] (.tmp 37) (.tmp 41),none⟩,⟨(some 43),.load (some 3) (.tmp 3),none⟩,⟨(some 44),.bslice 68 3 1 [(.int .i64 0),(.int .i64 0),.nilslice] [(0,3,(.tmp 43))],none⟩,⟨(some 45),.append 3 40 68 [(.int .i64 0),(.int .i64 0),.nilslice] (.tmp 42) (.tmp 44),none⟩,⟨(some 46),.nilck (.tmp 36),none⟩,⟨(some 47),.faddr 1 (.tmp 46),none⟩,so 47 45] [0,0,0,4,12,28,62,0,128,510,1023,2047,4095])
 (.seq (.seq (.regD [mv 48 0,⟨(some 49),.nilck (.tmp 48),none⟩,⟨(some 50),.faddr 1 (.tmp 49),none⟩,ld 51 50,ln 52 51,mv 53 0,⟨(some 54),.nilck (.tmp 53),none⟩,⟨(some 55),.faddr 0 (.tmp 54),none⟩,ld 56 55,bi 57 .gtr 52 56] [0,1,3,7,15,0,32,96,224,511])
 (.cond (.tmp 57)
 (.seq (.reg [mv 58 0,mv 59 0,⟨(some 60),.nilck (.tmp 59),none⟩,⟨(some 61),.faddr 1 (.tmp 60),none⟩,ld 62 61,⟨(some 63),.sliceSl 3 (.tmp 62) (some (.const (.int .i64 1))) none none,none⟩,⟨(some 64),.nilck (.tmp 58),none⟩,⟨(some 65),.faddr 1 (.tmp 64),none⟩,so 65 63])
 (.reg [mv 66 0,⟨(some 67),.nilck (.tmp 66),none⟩,⟨(some 68),.faddr 4 (.tmp 67),none⟩,ld 69 68,bc 70 .add 69 1,⟨(some 71),.nilck (.tmp 66),none⟩,⟨(some 72),.faddr 4 (.tmp 71),none⟩,so 72 70]))
 (.skip)))
 A.ta71_0)))))))
theorem A.c71:cFunc Tryz.prog 71=some ⟨125,[.tmp 4],A.b71⟩:=by kernel_rfl
def A.k71{K Q f c args st}:=@A.kk 71 _ _ _ A.c71 rfl K Q f c args st
def ML.tell(m:ML)(p:Int×Int):ML:=if m.gone=true then m else if (m.buf.length:Int)<m.cap then {m with buf:=m.buf++[p]} else {m with lost:=m.lost+1}
structure TmI (B:Nat) (H:T O) (n:Nat) (M:MS) (p:Int×Int) (W:List Nat) (m:Nat) (r:T V) (st:St):Prop where
 ex:∃k ls,k+m=M.ls.length∧r.get 6=some (.int .i64 k)∧(∀i∈st.w,i∈W∨M.D i∨n≤i)∧Upd M.D H n st.h st.n∧MI B st.h st.n {M with ls:=ls}∧ls.map Prod.fst=(M.ls.take k).map (fun a=>a.1.tell p)++(M.ls.drop k).map Prod.fst
theorem tm_len{L ls:List (ML×V)}{k:Nat}{p:Int×Int}(h:ls.map Prod.fst=(L.take k).map (fun a=>a.1.tell p)++(L.drop k).map Prod.fst):ls.length=L.length:=by
 have:=congrArg List.length h
 simp at this;omega
theorem tm_at{L ls:List (ML×V)}{k:Nat}{p:Int×Int}(h:ls.map Prod.fst=(L.take k).map (fun a=>a.1.tell p)++(L.drop k).map Prod.fst){a:ML×V}(ha:L[k]?=some a):∃v,ls[k]?=some (a.1,v):=by
 have hk:=lt_of_get ha
 obtain⟨b,hb⟩:=get_of_lt (l:=ls) (k:=k) (by rw[tm_len h];exact hk)
 have e:=congrArg (fun l=>l[k]?) h
 simp only[List.getElem?_map,hb,Option.map_some]at e
 rw[List.getElem?_append_right (by simp;omega)]at e
 simp[Nat.min_eq_left (Nat.le_of_lt hk),ha]at e
 exact⟨b.2,by rw[hb,←e]⟩
theorem tm_set{L ls:List (ML×V)}{k:Nat}{p:Int×Int}(h:ls.map Prod.fst=(L.take k).map (fun a=>a.1.tell p)++(L.drop k).map Prod.fst){a:ML×V}(ha:L[k]?=some a){b:ML×V}(hb:b.1=a.1.tell p):(ls.set k b).map Prod.fst=(L.take (k+1)).map (fun a=>a.1.tell p)++(L.drop (k+1)).map Prod.fst:=by
 have hk:=lt_of_get ha
 rw[List.map_set,h,List.set_append_right _ _ (by simp;omega)]
 simp only[List.length_map,List.length_take,Nat.min_eq_left (Nat.le_of_lt hk),Nat.sub_self]
 rw[get_drop_cons ha,List.map_cons,List.set_cons_zero,List.take_add_one,ha,hb]
 simp
theorem tell_gone{m:ML}{p:Int×Int}(h:m.gone=true):m.tell p=m:=by simp[ML.tell,h]
set_option maxHeartbeats 2000000 in
theorem mput_tail{B:Nat}{H:T O}{n q:Nat}{M:MS}{W:List Nat}{r:T V}{p:Int×Int}{fv:V}{e0:TypeId}{w0:Bool}(I:MI B H n M)(hB:B≤n)(hq:H.get q=some (.cells [.int .i64 p.1,.int .i64 p.2,fv] e0 w0))(hqn:q<n)(hqi:¬M.D q)(a0:r.get 0=some (.ptr M.R 0))(a3:r.get 3=some (.ptr q 0))(hll:M.ls.length<1000)(hlo:∀a∈M.ls,0≤a.1.lost∧a.1.lost<1000000∧a.1.buf.length<1000):
  Code A.C none A.ta71_0 ⟨r,125,[]⟩ ⟨H,n,W⟩ (fun e fr st=>e=.ret∧∃r',fr=⟨r',125,[]⟩∧r'.get 4=some (.int .i64 0)∧(∀i∈st.w,i∈W∨M.D i∨n≤i)∧Upd M.D H n st.h st.n∧∃ls,MI B st.h st.n {M with ls:=ls}∧ls.map Prod.fst=M.ls.map fun a=>a.1.tell p):=by
 rw[code_run]
 simp(disch:=first|(simp;done)|omega|rfl) [-getElem?_pos,A.ta71_0]
 refine run_loopD [(6,7),(73,124)] (fun e r st=>e=.exit 0∧TmI B H n M p W 0 r st) (TmI B H n M p W) M.ls.length ?_ ?_ ?_
 ·exact⟨0,M.ls,by omega,by simp,fun i hi=>.inl hi,Upd.refl,I,by simp⟩
 ·rintro m r2 ⟨H2,n2,W2⟩ hr2 hf ⟨k,ls,hk,h6,hW,hU,hI,hm⟩
  simp only at hW hU hI
  rw[code_run]
  have hr:=hI.r
  unfold MS.cells at hr
  have hlen:=hI.vl.len
  rw[List.length_map,tm_len hm]at hlen
  cases m with
  |zero=>
   obtain rfl:k=M.ls.length:=by omega
   simp(disch:=first|(simp;done)|omega|rfl) [-getElem?_pos,A.lb71_0,hr2,hf,h6,a0,hr,hlen,partV]
   exact⟨M.ls.length,ls,by omega,by simp[h6],hW,hU,hI,hm⟩
  |succ m=>
   have hlt:k<M.ls.length:=by omega
   have hlt':(k:Int)<(M.ls.length:Int):=by omega
   obtain⟨a,ha⟩:=get_of_lt hlt
   obtain⟨v,hv⟩:=tm_at hm ha
   obtain⟨b1,b2,b3⟩:=hlo a (List.mem_of_getElem? ha)
   have hkk:(ls.map mlC)[k]?=some (mlC (a.1,v)):=by rw[List.getElem?_map,hv];rfl
   obtain⟨i,c,e1,g,h1,h2,h3⟩:=hI.vl.store hkk (f:=1) (by omega)
   obtain⟨i',c',e1',g',_,_,h3'⟩:=hI.vl.store hkk (f:=2) (by omega)
   rw[List.length_map,tm_len hm]at e1 e1'
   simp only at e1 e1'
   rw[e1]at e1'
   simp only[V.slice.injEq,and_true]at e1'
   obtain rfl:=e1'
   rw[g]at g'
   simp only[Option.some.injEq,O.cells.injEq,and_true]at g'
   obtain rfl:=g'
   obtain⟨p0,p1,p2,p3⟩:=ml_parts h2
   simp only at p0 p1 p2 p3
   have hi:i<n2:=hI.lt.2 i (by rw[e1];simp[rowV])
   have hD:M.D i:=.inr (by show i∈rowV M.vl;rw[e1];simp[rowV])
   have hbs:=hI.bs _ (List.mem_of_getElem? hv)
   have hlv:=hbs.1.len
   simp only[List.length_map]at hlv
   have hq2:=(hU.get q hqn hqi).trans hq
   have d1:¬M.R=i:=by rintro rfl;have:=hI.r;rw[g]at this;simp at this
   have z1:k*4+1+1≤c.length:=by omega
   have z2:k*4+2+1≤c.length:=by omega
   by_cases hg:a.1.gone=true
   ·rw[hg]at p3
    have hm2:ls.map Prod.fst=(M.ls.take (k+1)).map (fun a=>a.1.tell p)++(M.ls.drop (k+1)).map Prod.fst:=by
     have:=tm_set (b:=(a.1,v)) hm ha (tell_gone hg).symm
     rw[←this,List.map_set]
     apply List.ext_getElem?
     intro j
     rw[List.getElem?_set]
     split
     ·rename_i hj;subst hj;rw[List.getElem?_map,hv];simp[tm_len hm,hlt]
     ·rfl
    simp(disch:=first|(simp;done)|omega|rfl) [-getElem?_pos,A.lb71_0,hr2,hf,h6,a0,hr,hlen,partV,hlt,hlt',e1,g,p3]
    exact⟨m,by omega,k+1,ls,by omega,by simp,hW,hU,hI,hm2⟩
   ·simp only[Bool.not_eq_true]at hg
    rw[hg]at p3
    by_cases hroom:(a.1.buf.length:Int)<a.1.cap
    ·have kk:Keeps H2 n2 (H2.set n2 (.cells [] 219 true)) (n2+1):=Keeps.refl.new _
     have hn2:=hU.le
     obtain⟨y,h5,n5,x1,k5,cw⟩:=copy_row (w:=[]) (bytes:=16) (i:=n2) (N0:=n2) (e:=219) (by omega) (hbs.1.keep kk) (fun x hx=>by obtain⟨p,_,rfl⟩:=List.mem_map.1 hx;rfl) (by omega) (Nat.le_refl _) (by rw[T.get_set,if_pos rfl]) (by rw[List.length_map];show (2*a.1.buf.length+1000)*16≤_;omega)
     have kle5:=k5.le
     have k6:Keeps h5 n5 (h5.set n5 (.cells (ncC p) 219 true)) (n5+1):=Keeps.refl.new _
     obtain⟨h7,w7,x2,hw7,U7,row7⟩:=push_row (w:=[]) (bytes:=16) (u:=.slice n5 0 1 (some 1) 2) (x:=ncC p) (by omega) (cw.keep k6) rfl (by omega) (by simp[srcCells,St.row,slc,ncC]) (by rw[List.length_map];show (2*(a.1.buf.length+1)+1000)*16≤_;omega)
     simp only[ncC]at x2
     rw[List.length_map]at x2 row7
     simp only at x2 row7
     have gi7:h7.get i=some (.cells c 218 true):=(U7.get i (by omega) (by omega)).trans ((k6.get i (by omega)).trans ((k5.get i (by omega)).trans ((kk.get i hi).trans g)))
     have gq5:=(k5.get q (by omega)).trans ((kk.get q (by omega)).trans hq2)
     have d2:¬i=n2:=by omega
     have d3:q<n5:=by omega
     have d6:i<n2+1:=by omega
     have d4:n5<n5+1+1:=by omega
     have d5:i<n5+1+1:=by omega
     have hWn:∀j∈w7,j∈W∨M.D j∨n≤j:=fun j hj=>by
      have:=hw7 j hj;simp at this;exact .inr (.inr (by omega))
     have di:¬n5+1=i:=by omega
     have dR:¬i=M.R:=fun hc=>d1 hc.symm
     have UU:Upd M.D H2 n2 (h7.set i (.cells (splice c (k*4+1) [.slice (n5+1) 0 (a.1.buf.length+1) none 2]) 218 true)) (n5+1+1):=(((kk.upd.trans k5.upd).trans k6.upd).then U7 fun j hj hc=>by omega).set (.inl hD)
     have U:=hU.trans UU
     obtain⟨r1,r2',r3⟩:=hI.rest UU
     have hfin:=hI.write (ls:=ls.set k ({a.1 with buf:=a.1.buf++[p]},.slice (n5+1) 0 (a.1.buf.length+1) none 2)) (vl:=M.vl) UU M.last M.fz M.over M.ref (by
       show T.get _ M.R=_
       have l1:=hI.lt.1
       have l1:M.R<n2:=l1
       rw[T.get_set,if_neg d1,U7.get M.R (by omega) (by omega),k6.get _ (by omega),k5.get _ (by omega),kk.get _ l1];exact hI.r) r1 r2' (by
       rw[List.map_set]
       refine(h3 (.slice (n5+1) 0 (a.1.buf.length+1) none 2)).eq fun t ht=>?_
       simp only[e1,rowV,List.mem_singleton]at ht
       subst ht
       rw[T.get_set,if_pos rfl,T.get_set,if_pos rfl]) (fun s hs=>by
      rcases List.mem_or_eq_of_mem_set hs with hs|rfl
      ·exact r3 s hs
      ·have row8:=row7.eq (h':=h7.set i (.cells (splice c (k*4+1) [.slice (n5+1) 0 (a.1.buf.length+1) none 2]) 218 true)) (fun t ht=>by simp[rowV]at ht;subst ht;rw[T.get_set,if_neg di])
       refine⟨?_,row8.has⟩
       have:=row8.sn (N:=n5+1+1) (fun t ht=>by simp[rowV]at ht;omega)
       simpa using this) (fun j hj=>⟨hI.ge.2 j hj,by have:=hI.lt.2 j hj;show j<n5+1+1;omega⟩)
     have ht:(({a.1 with buf:=a.1.buf++[p]},.slice (n5+1) 0 (a.1.buf.length+1) none 2):ML×V).1=a.1.tell p:=by unfold ML.tell;rw[if_neg (by simp[hg]),if_pos hroom]
     simp(disch:=first|(simp;done)|omega|rfl) [-getElem?_pos, -oldIds,A.lb71_0,hr2,hf,h6,a0,a3,hr,hlen,partV,hlt,hlt',e1,g,p0,p1,p2,p3,hlv,hroom]
     refine(k_regD (by simp[hi])).2 ?_
     simp(disch:=first|(simp;done)|omega|rfl) [-getElem?_pos, -oldIds,hr2,hf,h6,a0,a3,hroom,g,p0,p1,d2,x1,gq5,partV,splice]
     simp(disch:=first|(simp;done)|omega|rfl) [-getElem?_pos, -oldIds,hr2,hf,h6,a0,a3,x2,gi7,storeK2,z1]
     refine(k_regD (by simp[-oldIds,any_none,meets_nil,d5,d3,d6])).2 ?_
     simp(disch:=first|(simp;done)|omega|rfl) [-getElem?_pos, -oldIds,hr2,hf,h6]
     refine⟨m,by omega,k+1,_,by omega,by simp,?_,U,hfin,tm_set hm ha ht⟩
     intro j hj
     rcases List.mem_append.1 hj with hj|hj
     ·have:=(mem_old hj).1;simp at this;rw[this];exact .inr (.inl hD)
     ·rcases List.mem_append.1 hj with hj|hj
      ·exact hWn j (mem_old hj).1
      ·exact hW j hj
    ·have U:Upd M.D H n (H2.set i (.cells (splice c (k*4+2) [.int .i64 (a.1.lost+1)]) 218 true)) n2:=hU.trans (Upd.refl.set (.inl hD))
     have U2:Upd (MS.D {M with ls:=ls}) H2 n2 (H2.set i (.cells (splice c (k*4+2) [.int .i64 (a.1.lost+1)]) 218 true)) n2:=Upd.refl.set (.inl hD)
     obtain⟨r1,r2',r3⟩:=hI.rest U2
     have hfin:=hI.write (ls:=ls.set k ({a.1 with lost:=a.1.lost+1},v)) (vl:=M.vl) U2 M.last M.fz M.over M.ref (by show T.get _ M.R=_;rw[T.get_set,if_neg d1];exact hI.r) r1 r2' (by rw[List.map_set];exact h3' _) (fun s hs=>by
      rcases List.mem_or_eq_of_mem_set hs with hs|rfl
      ·exact r3 s hs
      ·exact r3 (a.1,v) (List.mem_of_getElem? hv)) (fun j hj=>⟨hI.ge.2 j hj,hI.lt.2 j hj⟩)
     have ht:(({a.1 with lost:=a.1.lost+1},v):ML×V).1=a.1.tell p:=by unfold ML.tell;rw[if_neg (by simp[hg]),if_neg hroom]
     simp(disch:=first|(simp;done)|omega|rfl) [-getElem?_pos, -oldIds,A.lb71_0,hr2,hf,h6,a0,hr,hlen,partV,hlt,hlt',e1,g,p0,p1,p2,p3,hlv,hroom,storeK2,z2,pairsOk.chk]
     refine(k_regD (by simp[hi])).2 ?_
     simp(disch:=first|(simp;done)|omega|rfl) [-getElem?_pos, -oldIds,hr2,hf,h6,a0,hroom,g,p2,storeK2,z2]
     refine⟨m,by omega,k+1,_,by omega,by simp,?_,U,hfin,tm_set hm ha ht⟩
     intro j hj
     simp at hj
     rcases hj with rfl|hj
     ·exact .inr (.inl hD)
     ·exact hW j hj
 ·rintro _ r2 ⟨H2,n2,W2⟩ hr2 ⟨rfl,k,ls,hk,h6,hW,hU,hI,hm⟩
  simp only at hW hU hI
  obtain rfl:k=M.ls.length:=by omega
  simp only[List.take_length,List.drop_length,List.map_nil,List.append_nil]at hm
  simp(disch:=first|(simp;done)|omega|rfl) [-getElem?_pos,hr2]
  exact⟨hW,hU,ls,hI,hm⟩
end Go.Mx
