/-
  pipeline.mapped.
-/
import Derived.Test.YtppobccilnifoaaGreatDoorKaB
import Derived.Test.YtppobccilnifoaaGreatDoorMxGr3
set_option linter.all false
namespace Go.Mx
open Go Go.Proofs
set_option maxRecDepth 1000000
def A.lb65_0:MCode:=.seq (.reg [bi 11 .lss 10 9])
 (.seq (.cond (.tmp 11)
 (.skip)
 (.exit 0))
 (.seq (.block 1 (.seq (.reg [ia 12 3 8 10,⟨(some 13),.load (some 3) (.tmp 12),none⟩,⟨(some 7),.alloc [(.int .i64 0),(.int .i64 0),.nilslice] 78,none⟩,⟨none,.store 3 (.tmp 7) (.tmp 13),none⟩])
 (.reg [mv 14 5,mv 15 1,⟨(some 16),.load (some 3) (.tmp 7),none⟩,⟨(some 17),.call (.tmp 15) [(.tmp 16)],none⟩,⟨(some 18),.bslice 78 3 1 [(.int .i64 0),(.int .i64 0),.nilslice] [(0,3,(.tmp 17))],none⟩,⟨(some 19),.append 3 40 78 [(.int .i64 0),(.int .i64 0),.nilslice] (.tmp 14) (.tmp 18),none⟩,mv 5 19])))
 (.reg [bc 20 .add 10 1,mv 10 20])))
def A.b65:MCode:=.seq (.reg [⟨(some 4),.mov (.const .nilslice),none⟩])
 (.seq (.reg [⟨(some 5),.mov (.const .nilslice),none⟩])
 (.seq (.seq (.reg [mv 8 0,ln 9 8,mc 10 0])
 (.block 0 (.loop A.lb65_0)))
 (.seq (.reg [mv 21 5,mv 4 21])
 (.ret))))
theorem A.c65:cFunc Tryz.prog 65=some ⟨22,[.tmp 4],A.b65⟩:=by kernel_rfl
def A.k65{K Q f c args st}:=@A.kk 65 _ _ _ A.c65 rfl K Q f c args st
theorem mapRR_fn{h:T O}{N:Nat}{v f:V}{l:List (List V)}{Q:Nat→T O→Nat→List V→Prop}(Y:V→Prop)(hQ:∀j h n h' n' c u,Q j h n c→Upd (fun i=>i∈rowV u) h n h' n'→Dies 78 Y h u→Q j h' n' c)(hs:Sn 3 h N v l)(hl:l.length<1000000)(h1:∀(j:Nat) (x:List V),l[j]?=some x→x.length=3∧x.all V.one=true)(hf:∀(j:Nat) (x:List V),l[j]?=some x→∀h' n',Keeps h N h' n'→FnV A.C f [(.agg x)] h' n' (fun u h2 n2=>∃c,u=(.agg c)∧c.length=3∧c.all V.one=true∧(∀q∈c,Y q)∧Q j h2 n2 c)):Fn A.C 65 [v,f] h N (fun u h' n'=>∃out,Own 3 78 N h' n' u out∧out.length=l.length∧∀(j:Nat),j<l.length→∃c,out[j]?=some c∧Q j h' n' c):=by
 intro w
 have hlen:=hs.len
 rw[call_run,A.k65 (by simp)]
 simp(disch:=first|(simp;done)|omega|rfl) [-getElem?_pos,A.b65,hlen]
 refine run_loopD [(5,5),(7,7),(10,20)] (fun e r st=>e=.exit 0∧oldIds N st.w=[]∧Keeps h N st.h st.n∧∃u out,r.get 5=some u∧Own 3 78 N st.h st.n u out∧out.length=l.length∧∀(j:Nat),j<l.length→∃c,out[j]?=some c∧Q j st.h st.n c) (fun m r st=>oldIds N st.w=[]∧Keeps h N st.h st.n∧∃k u out,k+m=l.length∧r.get 10=some (.int .i64 k)∧r.get 5=some u∧Own 3 78 N st.h st.n u out∧out.length=k∧(out=[]→u=.nilslice)∧(∀c∈out,∀y∈c,Y y)∧∀(j:Nat),j<k→∃c,out[j]?=some c∧Q j st.h st.n c) l.length ?_ ?_ ?_
 ·exact⟨by simp,Keeps.refl,0,.nilslice,[],by omega,by simp,by simp,Own.nil,rfl,fun _=>rfl,by simp,fun j hj=>by omega⟩
 ·rintro m r ⟨H,n1,W⟩ hr hf2 ⟨hW,hK,k,u,out,hk,h10,h5,ho,hol,hnil,hY,hout⟩
  simp only at hW hK ho hout
  rw[code_run]
  cases m with
  |zero=>
   have hkk:k=l.length:=by omega
   subst hkk
   simp(disch:=first|(simp;done)|omega|rfl) [-getElem?_pos,A.lb65_0,hr,hf2,h10,hW,hK]
   exact⟨u,h5,out,ho,hol,hout⟩
  |succ m=>
   have hlt:k<l.length:=by omega
   obtain⟨x,hx⟩:=get_of_lt hlt
   obtain⟨i,o,cc,e,rw,q1,q2,q3,q4⟩:=(hs.keep hK).at hx
   have hk1:(k:Int)<(l.length:Int):=by omega
   obtain⟨e1,e2⟩:=h1 k x hx
   have d1:¬i=n1:=by omega
   have d4:n1<n1+1:=by omega
   have kA:=(hK.new (.cells [(.int .i64 0),(.int .i64 0),.nilslice] 78 true)).set (i:=n1) (o:=.cells x 78 true) hK.le
   have e3:∀v:List V,(V.agg v).cells=v:=fun _=>rfl
   have e4:splice [(.int .i64 0),(.int .i64 0),.nilslice] 0 x=x:=by unfold splice;rw[e1];simp[e1]
   have e5:slc x 0 3=some x:=by unfold slc;rw[if_pos (by omega)];simp;exact List.take_of_length_le (by omega)
   simp(disch:=first|(simp;done)|omega|rfl) [-getElem?_pos, -V.cells, -V.one,A.lb65_0,hr,hf2,h10,h5,hk1,hlt,hlen,q1,q3,q4,partV,d1,storeK2,e3,e1,e2,e4,e5]
   refine run_fnV (hf k x hx _ _ kA) ?_
   rintro _ h3 n3 k3 ⟨c,rfl,c1,c2,cY,c3⟩
   have kle3:=k3.le
   have kn:=hK.le
   have kB:=kA.trans k3
   have b1:∀v:List V,(V.agg v).cells=v:=fun _=>rfl
   have b2:splice [(.int .i64 0),(.int .i64 0),.nilslice] 0 c=c:=by unfold splice;rw[c1];simp[c1]
   simp(disch:=first|(simp;done)|omega|rfl) [-getElem?_pos, -V.cells, -V.one,hr,hf2,h10,h5,b1,b2,c1,c2]
   have ho3:Own 3 78 N (h3.set n3 (.cells c 78 true)) (n3+1) u out:=(ho.keep (((Keeps.refl.new _).set (Nat.le_refl n1)).trans k3)).keep (Keeps.refl.new _)
   obtain⟨v',h',w',f1,f2,f3,f4,fD,f5⟩:=append_own2 (Y:=Y) (x:=c) (u:=.slice n3 0 1 (some 1) 3) (bytes:=40) (w:=n1::W) ho3 hnil hY (by omega) (by decide) c1 (by simp only[srcCells,St.row,T.get_set,if_true];unfold slc;simp[c1];exact List.take_of_length_le (by omega)) (by omega)
   rw[f1]
   have wok:¬n1<N:=by omega
   have f6:oldIds N w'=[]:=by rw[f2];simp[oldIds,hW,wok]
   have kz:=(kB.new (.cells c 78 true)).then f3
   have k4:Keeps h3 n3 (h3.set n3 (.cells c 78 true)) (n3+1):=Keeps.refl.new _
   have hq4:Q k (h3.set n3 (.cells c 78 true)) (n3+1) c:=hQ _ _ _ _ _ _ .nilslice c3 k4.upd Dies.nil
   simp(disch:=first|(simp;done)|omega|rfl) [-getElem?_pos,hr,hf2,h10,f6]
   refine⟨m,by omega,kz,k+1,by omega,by simp,out++[c],f5,by simp[hol],by simp,fun c' hc z hz=>?_,fun j hj=>?_⟩
   ·rcases List.mem_append.1 hc with hc|hc
    ·exact hY c' hc z hz
    ·simp only[List.mem_singleton]at hc;subst hc;exact cY z hz
   by_cases hjk:j<k
   ·obtain⟨c,g1,g2⟩:=hout j hjk
    exact⟨c,by rw[List.getElem?_append_left (by omega)];exact g1,hQ _ _ _ _ _ _ _ (hQ _ _ _ _ _ _ .nilslice g2 ((((Keeps.refl.new _).set (Nat.le_refl n1)).trans k3).trans k4).upd Dies.nil) f4 fD⟩
   ·obtain rfl:j=k:=by omega
    exact⟨c,by rw[List.getElem?_append_right (by omega),hol];simp,hQ _ _ _ _ _ _ _ hq4 f4 fD⟩
 ·rintro _ r ⟨H,n1,W⟩ hr ⟨rfl,hW,hK,u,out,h5,ho,hol,hout⟩
  simp only at hW hK ho hout
  simp(disch:=first|(simp;done)|omega|rfl) [-getElem?_pos,hr,h5,Ret,hW,hK]
  exact⟨out,ho,hol,hout⟩
def A.lb104_0:MCode:=.seq (.reg [bi 11 .lss 10 9])
 (.seq (.cond (.tmp 11)
 (.skip)
 (.exit 0))
 (.seq (.block 1 (.seq (.reg [ia 12 1 8 10,ld 13 12,mv 7 13])
 (.reg [mv 14 5,mv 15 1,mv 16 7,⟨(some 17),.call (.tmp 15) [(.tmp 16)],none⟩,⟨(some 18),.bslice 26 1 1 [(.int .i64 0)] [(0,1,(.tmp 17))],none⟩,⟨(some 19),.append 1 8 26 [(.int .i64 0)] (.tmp 14) (.tmp 18),none⟩,mv 5 19])))
 (.reg [bc 20 .add 10 1,mv 10 20])))
def A.b104:MCode:=.seq (.reg [⟨(some 4),.mov (.const .nilslice),none⟩])
 (.seq (.reg [⟨(some 5),.mov (.const .nilslice),none⟩])
 (.seq (.seq (.reg [mv 8 0,ln 9 8,mc 10 0])
 (.block 0 (.loop A.lb104_0)))
 (.seq (.reg [mv 21 5,mv 4 21])
 (.ret))))
theorem A.c104:cFunc Tryz.prog 104=some ⟨22,[.tmp 4],A.b104⟩:=by kernel_rfl
def A.k104{K Q f c args st}:=@A.kk 104 _ _ _ A.c104 rfl K Q f c args st
theorem mapRE_fn{h:T O}{N:Nat}{v f:V}{l:List V}{Q:Nat→T O→Nat→V→Prop}(Y:V→Prop)(hQ:∀j h n h' n' c u,Q j h n c→Upd (fun i=>i∈rowV u) h n h' n'→Dies 26 Y h u→Q j h' n' c)(hs:Sl h N v l)(hl:l.length<1000000)(hf:∀(j:Nat) (x:V),l[j]?=some x→∀h' n',Keeps h N h' n'→FnV A.C f [x] h' n' (fun u h2 n2=>∃y,u=y∧[y].length=1∧[y].all V.one=true∧(∀q∈[y],Y q)∧Q j h2 n2 y)):Fn A.C 104 [v,f] h N (fun u h' n'=>∃out,Own 1 26 N h' n' u out∧out.length=l.length∧∀(j:Nat),j<l.length→∃y,out[j]?=some [y]∧Q j h' n' y):=by
 intro w
 have hlen:=hs.len
 rw[call_run,A.k104 (by simp)]
 simp(disch:=first|(simp;done)|omega|rfl) [-getElem?_pos,A.b104,hlen]
 refine run_loopD [(5,5),(7,7),(10,20)] (fun e r st=>e=.exit 0∧oldIds N st.w=[]∧Keeps h N st.h st.n∧∃u out,r.get 5=some u∧Own 1 26 N st.h st.n u out∧out.length=l.length∧∀(j:Nat),j<l.length→∃y,out[j]?=some [y]∧Q j st.h st.n y) (fun m r st=>oldIds N st.w=[]∧Keeps h N st.h st.n∧∃k u out,k+m=l.length∧r.get 10=some (.int .i64 k)∧r.get 5=some u∧Own 1 26 N st.h st.n u out∧out.length=k∧(out=[]→u=.nilslice)∧(∀c∈out,∀y∈c,Y y)∧∀(j:Nat),j<k→∃y,out[j]?=some [y]∧Q j st.h st.n y) l.length ?_ ?_ ?_
 ·exact⟨by simp,Keeps.refl,0,.nilslice,[],by omega,by simp,by simp,Own.nil,rfl,fun _=>rfl,by simp,fun j hj=>by omega⟩
 ·rintro m r ⟨H,n1,W⟩ hr hf2 ⟨hW,hK,k,u,out,hk,h10,h5,ho,hol,hnil,hY,hout⟩
  simp only at hW hK ho hout
  rw[code_run]
  cases m with
  |zero=>
   have hkk:k=l.length:=by omega
   subst hkk
   simp(disch:=first|(simp;done)|omega|rfl) [-getElem?_pos,A.lb104_0,hr,hf2,h10,hW,hK]
   exact⟨u,h5,out,ho,hol,hout⟩
  |succ m=>
   have hlt:k<l.length:=by omega
   obtain⟨x,hx⟩:=get_of_lt hlt
   obtain⟨i,o,cc,e,rw,q1,q2,q3,q4⟩:=(hs.keep hK).at hx
   have hk1:(k:Int)<(l.length:Int):=by omega
   have kA:=hK
   simp(disch:=first|(simp;done)|omega|rfl) [-getElem?_pos,A.lb104_0,hr,hf2,h10,h5,hk1,hlt,hlen,q1,q3,q4]
   refine run_fnV (hf k x hx _ _ kA) ?_
   rintro y h3 n3 k3 ⟨_,rfl,c1,c2,cY,c3⟩
   have kle3:=k3.le
   have kn:=hK.le
   have kB:=kA.trans k3
   have b1:V.one y=true:=by simpa using c2
   have b2:V.cells y=[y]:=by cases y<;>first|rfl|cases b1
   simp(disch:=first|(simp;done)|omega|rfl) [-getElem?_pos, -V.cells, -V.one,hr,hf2,h10,h5,b1,b2,splice]
   have ho3:Own 1 26 N (h3.set n3 (.cells [y] 26 true)) (n3+1) u out:=(ho.keep ((Keeps.refl).trans k3)).keep (Keeps.refl.new _)
   obtain⟨v',h',w',f1,f2,f3,f4,fD,f5⟩:=append_own2 (Y:=Y) (x:=[y]) (u:=.slice n3 0 1 (some 1) 1) (bytes:=8) (w:=W) ho3 hnil hY (by omega) (by decide) c1 (by simp[srcCells,St.row,slc]) (by omega)
   rw[f1]
   have wok:¬n1<N:=by omega
   have f6:oldIds N w'=[]:=by rw[f2];simp[oldIds,hW,wok]
   have kz:=(kB.new (.cells [y] 26 true)).then f3
   have k4:Keeps h3 n3 (h3.set n3 (.cells [y] 26 true)) (n3+1):=Keeps.refl.new _
   have hq4:Q k (h3.set n3 (.cells [y] 26 true)) (n3+1) y:=hQ _ _ _ _ _ _ .nilslice c3 k4.upd Dies.nil
   simp(disch:=first|(simp;done)|omega|rfl) [-getElem?_pos,hr,hf2,h10,f6]
   refine⟨m,by omega,kz,k+1,by omega,by simp,out++[[y]],f5,by simp[hol],by simp,fun c' hc z hz=>?_,fun j hj=>?_⟩
   ·rcases List.mem_append.1 hc with hc|hc
    ·exact hY c' hc z hz
    ·simp only[List.mem_singleton]at hc;subst hc;exact cY z hz
   by_cases hjk:j<k
   ·obtain⟨y,g1,g2⟩:=hout j hjk
    exact⟨y,by rw[List.getElem?_append_left (by omega)];exact g1,hQ _ _ _ _ _ _ _ (hQ _ _ _ _ _ _ .nilslice g2 (((Keeps.refl).trans k3).trans k4).upd Dies.nil) f4 fD⟩
   ·obtain rfl:j=k:=by omega
    exact⟨y,by rw[List.getElem?_append_right (by omega),hol];simp,hQ _ _ _ _ _ _ _ hq4 f4 fD⟩
 ·rintro _ r ⟨H,n1,W⟩ hr ⟨rfl,hW,hK,u,out,h5,ho,hol,hout⟩
  simp only at hW hK ho hout
  simp(disch:=first|(simp;done)|omega|rfl) [-getElem?_pos,hr,h5,Ret,hW,hK]
  exact⟨out,ho,hol,hout⟩
end Go.Mx
namespace Go.Mx
open Go Go.Proofs
set_option maxRecDepth 1000000
def A.b216:MCode:=.seq (.reg [⟨(some 4),.mov (.const (.int .u64 0)),none⟩,⟨(some 5),.mov (.const (.int .u64 0)),none⟩])
 (.seq (.reg [mv 14 0,⟨(some 15),.bin .and (.node []) false (.tmp 14) (.const (.int .u64 4294967295)),none⟩,mv 6 15])
 (.seq (.reg [mv 16 0,⟨(some 17),.bin .shr (.node []) false (.tmp 16) (.const (.int .u64 32)),none⟩,mv 7 17])
 (.seq (.reg [mv 18 1,⟨(some 19),.bin .and (.node []) false (.tmp 18) (.const (.int .u64 4294967295)),none⟩,mv 8 19])
 (.seq (.reg [mv 20 1,⟨(some 21),.bin .shr (.node []) false (.tmp 20) (.const (.int .u64 32)),none⟩,mv 9 21])
 (.seq (.reg [mv 22 6,mv 23 8,bi 24 .mul 22 23,mv 10 24])
 (.seq (.reg [mv 25 7,mv 26 8,bi 27 .mul 25 26,mv 28 10,⟨(some 29),.bin .shr (.node []) false (.tmp 28) (.const (.int .u64 32)),none⟩,bi 30 .add 27 29,mv 11 30])
 (.seq (.reg [mv 31 11,⟨(some 32),.bin .and (.node []) false (.tmp 31) (.const (.int .u64 4294967295)),none⟩,mv 12 32])
 (.seq (.reg [mv 33 11,⟨(some 34),.bin .shr (.node []) false (.tmp 33) (.const (.int .u64 32)),none⟩,mv 13 34])
 (.seq (.reg [mv 35 12,mv 36 6,mv 37 9,bi 38 .mul 36 37,bi 39 .add 35 38,mv 12 39])
 (.seq (.reg [mv 40 7,mv 41 9,bi 42 .mul 40 41,mv 43 13,bi 44 .add 42 43,mv 45 12,⟨(some 46),.bin .shr (.node []) false (.tmp 45) (.const (.int .u64 32)),none⟩,bi 47 .add 44 46,mv 4 47])
 (.seq (.reg [mv 48 0,mv 49 1,bi 50 .mul 48 49,mv 5 50])
 (.ret))))))))))))
theorem A.c216:cFunc Tryz.prog 216=some ⟨51,[.tmp 4,.tmp 5],A.b216⟩:=by kernel_rfl
def A.k216{K Q f c args st}:=@A.kk 216 _ _ _ A.c216 rfl K Q f c args st
theorem mul_hi{x y:Nat}(hx:x<18446744073709551616)(hy:y<18446744073709551616):addu (addu (mulu (shr64 x 32) (shr64 y 32)) (shr64 (addu (mulu (shr64 x 32) (and32 y)) (shr64 (mulu (and32 x) (and32 y)) 32)) 32)) (shr64 (addu (and32 (addu (mulu (shr64 x 32) (and32 y)) (shr64 (mulu (and32 x) (and32 y)) 32))) (mulu (and32 x) (shr64 y 32))) 32)=hi64 (x*y):=by
 simp only[addu,mulu,shr64,and32,hi64,Nat.reducePow]
 have ex:x=x/4294967296*4294967296+x%4294967296:=by omega
 have ey:y=y/4294967296*4294967296+y%4294967296:=by omega
 have hx0:x%4294967296<4294967296:=Nat.mod_lt _ (by decide)
 have hy0:y%4294967296<4294967296:=Nat.mod_lt _ (by decide)
 have hx1:x/4294967296<4294967296:=by omega
 have hy1:y/4294967296<4294967296:=by omega
 generalize x/4294967296=x1 at*
 generalize x%4294967296=x0 at*
 generalize y/4294967296=y1 at*
 generalize y%4294967296=y0 at*
 have a1:x0*y0≤4294967295*4294967295:=Nat.mul_le_mul (by omega) (by omega)
 have a2:x1*y0≤4294967295*4294967295:=Nat.mul_le_mul (by omega) (by omega)
 have a3:x0*y1≤4294967295*4294967295:=Nat.mul_le_mul (by omega) (by omega)
 have a4:x1*y1≤4294967295*4294967295:=Nat.mul_le_mul (by omega) (by omega)
 have e:x*y=x1*y1*18446744073709551616+(x1*y0+x0*y1)*4294967296+x0*y0:=by
  subst ex;subst ey
  grind
 rw[e]
 generalize x0*y0=p at*
 generalize x1*y0=q at*
 generalize x0*y1=u at*
 generalize x1*y1=z at*
 omega
set_option maxHeartbeats 2000000 in
theorem mul64_fn{h:T O}{N:Nat}{x y:Nat}(hx:x<18446744073709551616)(hy:y<18446744073709551616):Fn A.C 216 [.int .u64 x,.int .u64 y] h N (fun v' h' N'=>h'=h∧N'=N∧v'=.tup [.int .u64 (hi64 (x*y):Nat),.int .u64 (lo64 (x*y):Nat)]):=by
 intro w
 rw[call_run,A.k216 (by simp)]
 simp(disch:=first|(simp;done)|omega|(simp only[dg_length,dgi_length,List.length_cons];omega)|rfl) [-getElem?_pos,A.b216]
 rw[mul_hi hx hy]
 exact⟨rfl,Keeps.refl,rfl,rfl,rfl⟩
end Go.Mx
namespace Go.Mx
open Go Go.Proofs
set_option maxRecDepth 1000000
def A.lb244_0:MCode:=.seq (.seq (.reg [mv 6 3,bc 7 .gtr 6 0,mv 8 7,⟨(some 9),.mov (.tmp 0),(some (8,true))⟩,⟨(some 10),.mov (.tmp 3),(some (8,true))⟩,⟨(some 11),.bin .sub (.node []) false (.tmp 10) (.const (.int .i64 1)),(some (8,true))⟩,⟨(some 12),.iaddrSl 1 (.tmp 9) (.tmp 11),(some (8,true))⟩,⟨(some 13),.load none (.tmp 12),(some (8,true))⟩,⟨(some 14),.bin .eql (.prim .int) true (.tmp 13) (.const (.int .u64 0)),(some (8,true))⟩,⟨(some 15),.pick (.tmp 8) (.tmp 14) (.const (.bool false)),none⟩])
 (.cond (.tmp 15)
 (.skip)
 (.exit 0)))
 (.block 1 (.reg [mv 16 3,bc 17 .sub 16 1,mv 3 17]))
def A.b244:MCode:=.seq (.reg [⟨(some 2),.mov (.const .nilslice),none⟩])
 (.seq (.reg [mv 4 0,ln 5 4,mv 3 5])
 (.seq (.block 0 (.loop A.lb244_0))
 (.seq (.reg [mv 18 0,mv 19 3,⟨(some 20),.sliceSl 1 (.tmp 18) none (some (.tmp 19)) none,none⟩,mv 2 20])
 (.ret))))
theorem A.c244:cFunc Tryz.prog 244=some ⟨21,[.tmp 2],A.b244⟩:=by kernel_rfl
def A.k244{K Q f c args st}:=@A.kk 244 _ _ _ A.c244 rfl K Q f c args st
theorem trim_fn{h:T O}{N:Nat}{v:V}{l:List Nat}(hs:Sl h N v (dg l))(hl:l.length<1152921504606846976):Fn A.C 244 [v] h N (fun v' h' N'=>Sl h' N' v' (dg (trimL l))):=by
 intro w
 have hlen:=hs.len
 rw[dg_length]at hlen
 rw[call_run,A.k244 (by simp)]
 simp[A.b244,hlen]
 refine run_loopD [(3,3),(6,17)] (fun e r st=>e=.exit 0∧st=⟨h,N,[]⟩∧∃k,k≤l.length∧r.get 3=some (.int .i64 k)∧trimL l=l.take k) (fun k r st=>st=⟨h,N,[]⟩∧k≤l.length∧r.get 3=some (.int .i64 k)∧trimL (l.take k)=trimL l) l.length ?_ ?_ ?_
 ·exact⟨rfl,Nat.le_refl _,by simp,by simp⟩
 ·rintro k r _ hr hf ⟨rfl,hk,h3,ht⟩
  rw[code_run]
  cases k with
  |zero=>
   have:trimL l=[]:=ht.symm
   simp[A.lb244_0,h3,hf,this]
   exact⟨0,by omega,rfl,.inl rfl⟩
  |succ k=>
   obtain⟨d,hd⟩:∃d,l[k]?=some d:=⟨_,List.getElem?_eq_getElem (by omega)⟩
   obtain⟨i,o,c,e,rw,q1,q2,q3,q4⟩:=hs.at (dg_get hd)
   have e1:l.take (k+1)=l.take k++[d]:=by rw[List.take_add_one,hd];rfl
   have k1:(0:Int)<(k:Int)+1:=by omega
   have k2:(k:Int)<(l.length:Int):=by omega
   by_cases h0:d=0
   ·subst h0
    rw[e1,trimL_zero]at ht
    simp(disch:=first|(simp;done)|omega|(simp only[dg_length,dgi_length,List.length_cons];omega)|rfl) [-getElem?_pos,A.lb244_0,h3,hr,hf,k1,k2,hlen,q1,q3,q4,eqPrim]
    exact⟨k,by omega,by omega,rfl,ht⟩
   ·rw[e1,trimL_last h0]at ht
    have hz:((d:Int)==0)=false:=by simp;omega
    simp(disch:=first|(simp;done)|omega|(simp only[dg_length,dgi_length,List.length_cons];omega)|rfl) [-getElem?_pos,A.lb244_0,h3,hr,hf,k1,k2,hlen,q1,q3,q4,eqPrim,hz]
    exact⟨k+1,hk,rfl,by rw[e1];exact ht.symm⟩
 ·rintro _ r _ hr ⟨rfl,rfl,k,hk,h3,ht⟩
  simp[hr,h3,op_sliceSl_K,evOpt]
  obtain⟨v',e1,e2⟩:=sliceK_sl (w:=[]) hs (lo:=0) (hi:=k) (Nat.zero_le _) (by rw[dg_length];exact hk) none (some (.int .i64 k)) (.inr ⟨rfl,rfl⟩) (.inl rfl)
  rw[e1]
  simp[Ret]
  refine⟨Keeps.refl,?_⟩
  rw[ht,show dg (l.take k)=(dg l).take k by simp[dg]]
  exact e2
end Go.Mx
namespace Go.Mx
open Go Go.Proofs
set_option maxRecDepth 1000000
def A.lb220_0:MCode:=.seq (.reg [bi 23 .lss 22 21])
 (.seq (.cond (.tmp 23)
 (.skip)
 (.exit 0))
 (.seq (.block 1 (.seq (.reg [mv 24 22,mv 7 24])
 (.seq (.reg [⟨(some 8),.mov (.const (.int .u64 0)),none⟩])
 (.seq (.seq (.reg [mv 25 7,mv 26 1,ln 27 26,bi 28 .lss 25 27])
 (.cond (.tmp 28)
 (.reg [mv 29 1,mv 30 7,ia 31 1 29 30,ld 32 31,mv 8 32])
 (.skip)))
 (.reg [mv 34 5,mv 35 7,mv 36 0,mv 37 7,ia 38 1 36 37,ld 39 38,mv 40 8,mv 41 6,⟨(some 42),.ext .add64 [(.tmp 39),(.tmp 40),(.tmp 41)],none⟩,mv 33 42,xt 43 33 0,xt 44 33 1,ia 45 1 34 35,so 45 43,mv 6 44])))))
 (.reg [bc 46 .add 22 1,mv 22 46])))
def A.b220:MCode:=.seq (.reg [⟨(some 4),.mov (.const .nilslice),none⟩])
 (.seq (.seq (.reg [mv 9 0,ln 10 9,mv 11 1,ln 12 11,bi 13 .lss 10 12])
 (.cond (.tmp 13)
 (.reg [mv 14 1,mv 15 0,mv 0 14,mv 1 15])
 (.skip)))
 (.seq (.reg [mv 16 0,ln 17 16,bc 18 .add 17 1,⟨(some 19),.mkslice 299 1 8 [(.int .u64 0)] (.tmp 18) (.tmp 18),none⟩,mv 5 19])
 (.seq (.reg [⟨(some 6),.mov (.const (.int .u64 0)),none⟩])
 (.seq (.seq (.reg [mv 20 0,ln 21 20,mc 22 0])
 (.block 0 (.loop A.lb220_0)))
 (.seq (.reg [mv 47 5,mv 48 0,ln 49 48,mv 50 6,ia 51 1 47 49,so 51 50])
 (.seq (.reg [mv 52 5,⟨(some 53),.call (.const (.func 244 [] [])) [(.tmp 52)],none⟩,mv 4 53])
 (.ret)))))))
theorem A.c220:cFunc Tryz.prog 220=some ⟨54,[.tmp 4],A.b220⟩:=by kernel_rfl
def A.k220{K Q f c args st}:=@A.kk 220 _ _ _ A.c220 rfl K Q f c args st
structure AddJ (h:T O) (N x y k:Nat) (o:List Nat) (c:Nat) (r:T V) (st:St):Prop where
 hk:k≤(wds x).length
 r22:r.get 22=some (.int .i64 k)
 r6:r.get 6=some (.int .u64 c)
 n:st.n=N+1
 w:oldIds N st.w=[]
 keep:Keeps h N st.h (N+1)
 row:st.h.get N=some (.cells (dg o) 299 true)
 len:o.length=(wds x).length+1
 ex:∃d,d.length=k∧o=d++List.replicate ((wds x).length+1-k) 0∧val B d+B^k*c=val B ((wds x).take k)+val B ((wds y).take k)∧c≤1∧Dg d
def AddI(h:T O)(N x y m:Nat)(r:T V)(st:St):Prop:=∃k o c,m=(wds x).length-k∧AddJ h N x y k o c r st
def AddE(h:T O)(N x y:Nat)(r:T V)(st:St):Prop:=∃o c,AddJ h N x y (wds x).length o c r st
theorem addStep{x y o d:List Nat}{k c xk:Nat}(hx:x[k]?=some xk)(d1:d.length=k)(d2:o=d++List.replicate (x.length+1-k) 0)(d3:val B d+B^k*c=val B (x.take k)+val B (y.take k))(d4:c≤1)(d5:Dg d)(gx:Dg x)(gy:Dg y):
  (d++[lo64 (xk+dz y k+c)]).length=k+1∧o.set k (lo64 (xk+dz y k+c))=(d++[lo64 (xk+dz y k+c)])++List.replicate (x.length+1-(k+1)) 0∧val B (d++[lo64 (xk+dz y k+c)])+B^(k+1)*hi64 (xk+dz y k+c)=val B (x.take (k+1))+val B (y.take (k+1))∧hi64 (xk+dz y k+c)≤1∧Dg (d++[lo64 (xk+dz y k+c)]):=by
 have hk:k<x.length:=by
  apply Nat.lt_of_not_le;intro hc;rw[List.getElem?_eq_none hc]at hx;cases hx
 have hxk:=gx.get hx
 have hyk:=dz_lt gy k
 have hm:=Nat.div_add_mod (xk+dz y k+c) B
 refine⟨by simp[d1],?_,?_,?_,?_⟩
 ·rw[d2,show x.length+1-k=(x.length-k)+1 by omega,set_push d1,show x.length+1-(k+1)=x.length-k by omega]
 ·rw[val_snoc,val_take_dz,val_take_dz,d1,show dz x k=xk by simp[dz,hx]]
  have e1:lo64 (xk+dz y k+c)=(xk+dz y k+c)%B:=rfl
  have e2:hi64 (xk+dz y k+c)=(xk+dz y k+c)/B:=rfl
  rw[e1,e2,Nat.pow_succ]
  generalize (xk+dz y k+c)%B=lo at*
  generalize (xk+dz y k+c)/B=hi at*
  generalize B^k=p at*
  have:p*(B*hi+lo)=p*(xk+dz y k+c):=by rw[hm]
  grind
 ·show (xk+dz y k+c)/B≤1
  unfold B at*;omega
 ·intro e he
  rcases List.mem_append.1 he with he|he
  ·exact d5 e he
  ·simp at he;subst he;exact Nat.mod_lt _ (by decide)
theorem addEnd{x y:Nat}{o d:List Nat}{c:Nat}(hl:(wds y).length≤(wds x).length)(d1:d.length=(wds x).length)(d2:o=d++List.replicate ((wds x).length+1-(wds x).length) 0)(d3:val B d+B^(wds x).length*c=val B ((wds x).take (wds x).length)+val B ((wds y).take (wds x).length))(d4:c≤1)(d5:Dg d):trimL (o.set (wds x).length c)=wds (x+y):=by
 rw[d2,show (wds x).length+1-(wds x).length=0+1 by omega,set_push d1]
 simp only[List.replicate_zero,List.append_nil]
 rw[trimL_wds,val_snoc,d1,d3,List.take_of_length_le (Nat.le_refl _),List.take_of_length_le hl,wds_val,wds_val]
 intro e he
 rcases List.mem_append.1 he with he|he
 ·exact d5 e he
 ·simp at he;subst he;unfold B;omega
set_option maxHeartbeats 2000000 in
theorem addWords_fn{h:T O}{N:Nat}{vx vy:V}{x y:Nat}(hx:Wn h N vx x)(hy:Wn h N vy y)(hxl:(wds x).length<1099511627776)(hyl:(wds y).length<1099511627776):Fn A.C 220 [vx,vy] h N (fun v' h' N'=>Wn h' N' v' (x+y)):=by
 intro w
 have lx:=hx.len
 have ly:=hy.len
 rw[dg_length]at lx ly
 rw[call_run,A.k220 (by simp)]
 by_cases hl:(wds x).length<(wds y).length
 ·simp(disch:=first|(simp;done)|omega|(simp only[dg_length,dgi_length,List.length_cons];omega)|rfl) [-getElem?_pos,A.b220,lx,ly,hl]
  refine run_loopD [(6,8),(22,46)] (fun e r st=>e=.exit 0∧AddE h N y x r st) (AddI h N y x) (wds y).length ?_ ?_ ?_
  ·refine⟨0,List.replicate ((wds y).length+1) 0,0,by omega,⟨by omega,by simp,by simp,by simp,by simp,Keeps.refl.set (Nat.le_refl _) |>.up (by omega),by simp[dg_zeros],by simp,[],by simp,by simp,by simp[val],by decide,by simp[Dg]⟩⟩
  ·rintro m r ⟨H,n1,W⟩ hr hf ⟨k,o,c,rfl,hk,h22,h6,hn,hW,hK,hN,ho,d,hd⟩
   simp only at hn hW hK hN
   subst hn
   rw[code_run]
   by_cases hlt:k<(wds y).length
   ·obtain⟨i1,o1,c1,e1,w1,p1,p2,p3,p4⟩:=hy.at (dg_get (List.getElem?_eq_getElem hlt))
    have p3:=(hK.get _ p2).trans p3
    obtain⟨d1,d2,d3,d4,d5⟩:=hd
    have hsp:=addStep (x:=wds y) (y:=wds x) (List.getElem?_eq_getElem hlt) d1 d2 d3 d4 d5 (wds_dg y) (wds_dg x)
    by_cases hky:k<(wds x).length
    ·obtain⟨i2,o2,c2,e2,w2,q1,q2,q3,q4⟩:=hx.at (dg_get (List.getElem?_eq_getElem hky))
     have q3:=(hK.get _ q2).trans q3
     have hz:dz (wds x) k=(wds x)[k]:=by simp[dz,List.getElem?_eq_getElem hky]
     rw[hz]at hsp
     simp(disch:=first|(simp;done)|omega|(simp only[dg_length,dgi_length,List.length_cons];omega)|rfl) [-getElem?_pos,A.lb220_0,hr,h22,h6,hlt,hky,ly,lx,p1,p3,p4,q1,q3,q4,hN,dg_set,hf]
     exact⟨_,by omega,k+1,_,_,rfl,⟨by omega,by simp,by simp,rfl,by simp[hW],hK.set (Nat.le_refl _),by simp,by simp[ho],_,hsp⟩⟩
    ·have hz:dz (wds x) k=0:=by simp[dz,List.getElem?_eq_none (Nat.not_lt.1 hky)]
     rw[hz]at hsp
     simp(disch:=first|(simp;done)|omega|(simp only[dg_length,dgi_length,List.length_cons];omega)|rfl) [-getElem?_pos,A.lb220_0,hr,h22,h6,hlt,hky,ly,lx,p1,p3,p4,hN,dg_set,hf]
     exact⟨_,by omega,k+1,_,_,rfl,⟨by omega,by simp,by simp,rfl,by simp[hW],hK.set (Nat.le_refl _),by simp,by simp[ho],_,hsp⟩⟩
   ·have hkx:k=(wds y).length:=by omega
    subst hkx
    simp(disch:=first|(simp;done)|omega|(simp only[dg_length,dgi_length,List.length_cons];omega)|rfl) [-getElem?_pos,A.lb220_0,hr,h22,hf]
    exact⟨o,c,⟨by omega,by simp[h22],by simp[h6],rfl,by simp[hW],hK,hN,ho,d,hd⟩⟩
  ·rintro _ r ⟨H,n1,W⟩ hr ⟨rfl,o,c,hk,h22,h6,hn,hW,hK,hN,ho,d,d1,d2,d3,d4,d5⟩
   simp only at hn hW hK hN
   subst hn
   simp(disch:=first|(simp;done)|omega|(simp only[dg_length,dgi_length,List.length_cons];omega)|rfl) [-getElem?_pos,hr,h6,ly,hN,dg_set]
   refine run_fn (trim_fn (l:=o.set (wds y).length c) (Sl.row (e:=299) (rw:=true) (by omega) (by simp) (by simp[ho]) (by simp)) (by simp[ho];omega)) ?_
   intro v' h' n' hk' hs
   simp(disch:=first|(simp;done)|omega|(simp only[dg_length,dgi_length,List.length_cons];omega)|rfl) [-getElem?_pos,Ret]
   refine⟨hW,(hK.set (Nat.le_refl _)).trans hk',?_⟩
   rw[addEnd (by omega) d1 d2 d3 d4 d5]at hs
   exact(Nat.add_comm y x▸hs)
 ·simp(disch:=first|(simp;done)|omega|(simp only[dg_length,dgi_length,List.length_cons];omega)|rfl) [-getElem?_pos,A.b220,lx,ly,hl]
  refine run_loopD [(6,8),(22,46)] (fun e r st=>e=.exit 0∧AddE h N x y r st) (AddI h N x y) (wds x).length ?_ ?_ ?_
  ·refine⟨0,List.replicate ((wds x).length+1) 0,0,by omega,⟨by omega,by simp,by simp,by simp,by simp,Keeps.refl.set (Nat.le_refl _) |>.up (by omega),by simp[dg_zeros],by simp,[],by simp,by simp,by simp[val],by decide,by simp[Dg]⟩⟩
  ·rintro m r ⟨H,n1,W⟩ hr hf ⟨k,o,c,rfl,hk,h22,h6,hn,hW,hK,hN,ho,d,hd⟩
   simp only at hn hW hK hN
   subst hn
   rw[code_run]
   by_cases hlt:k<(wds x).length
   ·obtain⟨i1,o1,c1,e1,w1,p1,p2,p3,p4⟩:=hx.at (dg_get (List.getElem?_eq_getElem hlt))
    have p3:=(hK.get _ p2).trans p3
    obtain⟨d1,d2,d3,d4,d5⟩:=hd
    have hsp:=addStep (x:=wds x) (y:=wds y) (List.getElem?_eq_getElem hlt) d1 d2 d3 d4 d5 (wds_dg x) (wds_dg y)
    by_cases hky:k<(wds y).length
    ·obtain⟨i2,o2,c2,e2,w2,q1,q2,q3,q4⟩:=hy.at (dg_get (List.getElem?_eq_getElem hky))
     have q3:=(hK.get _ q2).trans q3
     have hz:dz (wds y) k=(wds y)[k]:=by simp[dz,List.getElem?_eq_getElem hky]
     rw[hz]at hsp
     simp(disch:=first|(simp;done)|omega|(simp only[dg_length,dgi_length,List.length_cons];omega)|rfl) [-getElem?_pos,A.lb220_0,hr,h22,h6,hlt,hky,lx,ly,p1,p3,p4,q1,q3,q4,hN,dg_set,hf]
     exact⟨_,by omega,k+1,_,_,rfl,⟨by omega,by simp,by simp,rfl,by simp[hW],hK.set (Nat.le_refl _),by simp,by simp[ho],_,hsp⟩⟩
    ·have hz:dz (wds y) k=0:=by simp[dz,List.getElem?_eq_none (Nat.not_lt.1 hky)]
     rw[hz]at hsp
     simp(disch:=first|(simp;done)|omega|(simp only[dg_length,dgi_length,List.length_cons];omega)|rfl) [-getElem?_pos,A.lb220_0,hr,h22,h6,hlt,hky,lx,ly,p1,p3,p4,hN,dg_set,hf]
     exact⟨_,by omega,k+1,_,_,rfl,⟨by omega,by simp,by simp,rfl,by simp[hW],hK.set (Nat.le_refl _),by simp,by simp[ho],_,hsp⟩⟩
   ·have hkx:k=(wds x).length:=by omega
    subst hkx
    simp(disch:=first|(simp;done)|omega|(simp only[dg_length,dgi_length,List.length_cons];omega)|rfl) [-getElem?_pos,A.lb220_0,hr,h22,hf]
    exact⟨o,c,⟨by omega,by simp[h22],by simp[h6],rfl,by simp[hW],hK,hN,ho,d,hd⟩⟩
  ·rintro _ r ⟨H,n1,W⟩ hr ⟨rfl,o,c,hk,h22,h6,hn,hW,hK,hN,ho,d,d1,d2,d3,d4,d5⟩
   simp only at hn hW hK hN
   subst hn
   simp(disch:=first|(simp;done)|omega|(simp only[dg_length,dgi_length,List.length_cons];omega)|rfl) [-getElem?_pos,hr,h6,lx,hN,dg_set]
   refine run_fn (trim_fn (l:=o.set (wds x).length c) (Sl.row (e:=299) (rw:=true) (by omega) (by simp) (by simp[ho]) (by simp)) (by simp[ho];omega)) ?_
   intro v' h' n' hk' hs
   simp(disch:=first|(simp;done)|omega|(simp only[dg_length,dgi_length,List.length_cons];omega)|rfl) [-getElem?_pos,Ret]
   refine⟨hW,(hK.set (Nat.le_refl _)).trans hk',?_⟩
   rw[addEnd (by omega) d1 d2 d3 d4 d5]at hs
   exact hs
end Go.Mx
namespace Go.Mx
open Go Go.Proofs
set_option maxRecDepth 1000000
def A.lb222_0:MCode:=.seq (.reg [bi 15 .lss 14 13])
 (.seq (.cond (.tmp 15)
 (.skip)
 (.exit 0))
 (.seq (.block 1 (.seq (.reg [mv 16 14,mv 7 16])
 (.seq (.reg [⟨(some 8),.mov (.const (.int .u64 0)),none⟩])
 (.seq (.seq (.reg [mv 17 7,mv 18 1,ln 19 18,bi 20 .lss 17 19])
 (.cond (.tmp 20)
 (.reg [mv 21 1,mv 22 7,ia 23 1 21 22,ld 24 23,mv 8 24])
 (.skip)))
 (.reg [mv 26 5,mv 27 7,mv 28 0,mv 29 7,ia 30 1 28 29,ld 31 30,mv 32 8,mv 33 6,⟨(some 34),.ext .sub64 [(.tmp 31),(.tmp 32),(.tmp 33)],none⟩,mv 25 34,xt 35 25 0,xt 36 25 1,ia 37 1 26 27,so 37 35,mv 6 36])))))
 (.reg [bc 38 .add 14 1,mv 14 38])))
def A.b222:MCode:=.seq (.reg [⟨(some 4),.mov (.const .nilslice),none⟩])
 (.seq (.reg [mv 9 0,ln 10 9,⟨(some 11),.mkslice 299 1 8 [(.int .u64 0)] (.tmp 10) (.tmp 10),none⟩,mv 5 11])
 (.seq (.reg [⟨(some 6),.mov (.const (.int .u64 0)),none⟩])
 (.seq (.seq (.reg [mv 12 0,ln 13 12,mc 14 0])
 (.block 0 (.loop A.lb222_0)))
 (.seq (.reg [mv 39 5,⟨(some 40),.call (.const (.func 244 [] [])) [(.tmp 39)],none⟩,mv 4 40])
 (.ret)))))
theorem A.c222:cFunc Tryz.prog 222=some ⟨41,[.tmp 4],A.b222⟩:=by kernel_rfl
def A.k222{K Q f c args st}:=@A.kk 222 _ _ _ A.c222 rfl K Q f c args st
theorem wds_len_le{a b:Nat}(h:a≤b):(wds a).length≤(wds b).length:=by
 apply Nat.le_of_not_lt
 intro hc
 have h1:=val_lt (b:=B) (wds_dg b)
 rw[wds_val]at h1
 have h2:∀n,n≠0→B^((wds n).length-1)≤n:=by
  intro n
  induction n using Nat.strongRecOn with
  |_ n ih=>
   intro hn
   rw[wds_pos hn]
   by_cases h0:n/B=0
   ·rw[h0,wds_zero];simp;omega
   ·have:=ih (n/B) (Nat.div_lt_self (by omega) (by decide)) h0
    have hp:0<(wds (n/B)).length:=by rw[wds_pos h0];simp
    simp only[List.length_cons,Nat.add_sub_cancel]
    rw[show (wds (n/B)).length=((wds (n/B)).length-1)+1 by omega,Nat.pow_succ]
    have h3:B^((wds (n/B)).length-1)*B≤n/B*B:=Nat.mul_le_mul_right B this
    have:=Nat.div_mul_le_self n B
    omega
 have ha:a≠0:=by
  rintro rfl
  rw[wds_zero]at hc;simp at hc
 have h3:=h2 a ha
 have h4:B^(wds b).length≤B^((wds a).length-1):=Nat.pow_le_pow_right (by decide) (by omega)
 omega
structure SubJ (h:T O) (N x y k:Nat) (o:List Nat) (c:Nat) (r:T V) (st:St):Prop where
 hk:k≤(wds x).length
 r14:r.get 14=some (.int .i64 k)
 r6:r.get 6=some (.int .u64 c)
 n:st.n=N+1
 w:oldIds N st.w=[]
 keep:Keeps h N st.h (N+1)
 row:st.h.get N=some (.cells (dg o) 299 true)
 len:o.length=(wds x).length
 ex:∃d,d.length=k∧o=d++List.replicate ((wds x).length-k) 0∧val B d+val B ((wds y).take k)=val B ((wds x).take k)+B^k*c∧c≤1∧Dg d
def SubI(h:T O)(N x y m:Nat)(r:T V)(st:St):Prop:=∃k o c,m=(wds x).length-k∧SubJ h N x y k o c r st
def SubE(h:T O)(N x y:Nat)(r:T V)(st:St):Prop:=∃o c,SubJ h N x y (wds x).length o c r st
theorem subStep{x y o d:List Nat}{k c xk:Nat}(hx:x[k]?=some xk)(d1:d.length=k)(d2:o=d++List.replicate (x.length-k) 0)(d3:val B d+val B (y.take k)=val B (x.take k)+B^k*c)(d4:c≤1)(d5:Dg d)(gx:Dg x)(gy:Dg y):
  (d++[sb64 xk (dz y k) c]).length=k+1∧o.set k (sb64 xk (dz y k) c)=(d++[sb64 xk (dz y k) c])++List.replicate (x.length-(k+1)) 0∧val B (d++[sb64 xk (dz y k) c])+val B (y.take (k+1))=val B (x.take (k+1))+B^(k+1)*bw64 xk (dz y k) c∧bw64 xk (dz y k) c≤1∧Dg (d++[sb64 xk (dz y k) c]):=by
 have hk:k<x.length:=by
  apply Nat.lt_of_not_le;intro hc;rw[List.getElem?_eq_none hc]at hx;cases hx
 have hxk:=gx.get hx
 have hyk:=dz_lt gy k
 have hs:sb64 xk (dz y k) c+dz y k+c=xk+B*bw64 xk (dz y k) c∧sb64 xk (dz y k) c<B∧bw64 xk (dz y k) c≤1:=by
  unfold sb64 bw64
  unfold B at*
  split<;>omega
 refine⟨by simp[d1],?_,?_,hs.2.2,?_⟩
 ·rw[d2,show x.length-k=(x.length-(k+1))+1 by omega,set_push d1]
 ·rw[val_snoc,val_take_dz,val_take_dz,d1,show dz x k=xk by simp[dz,hx],Nat.pow_succ]
  have h1:=hs.1
  generalize sb64 xk (dz y k) c=s at*
  generalize bw64 xk (dz y k) c=b at*
  generalize B^k=p at*
  have:p*(s+dz y k+c)=p*(xk+B*b):=by rw[h1]
  grind
 ·intro e he
  rcases List.mem_append.1 he with he|he
  ·exact d5 e he
  ·simp at he;subst he;exact hs.2.1
theorem subEnd{x y:Nat}{o d:List Nat}{c:Nat}(hl:y≤x)(d1:d.length=(wds x).length)(d2:o=d++List.replicate ((wds x).length-(wds x).length) 0)(d3:val B d+val B ((wds y).take (wds x).length)=val B ((wds x).take (wds x).length)+B^(wds x).length*c)(d4:c≤1)(d5:Dg d):trimL o=wds (x-y):=by
 rw[d2,Nat.sub_self]
 simp only[List.replicate_zero,List.append_nil]
 rw[trimL_wds d5]
 congr 1
 rw[List.take_of_length_le (Nat.le_refl _),List.take_of_length_le (wds_len_le hl),wds_val,wds_val]at d3
 have:=val_lt d5
 rw[d1]at this
 rcases Nat.lt_or_ge c 1 with hc|hc
 ·have:c=0:=by omega
  subst this
  simp at d3;omega
 ·have:c=1:=by omega
  subst this
  omega
set_option maxHeartbeats 2000000 in
theorem subWords_fn{h:T O}{N:Nat}{vx vy:V}{x y:Nat}(hx:Wn h N vx x)(hy:Wn h N vy y)(hxy:y≤x)(hxl:(wds x).length<1099511627776)(hyl:(wds y).length<1099511627776):Fn A.C 222 [vx,vy] h N (fun v' h' N'=>Wn h' N' v' (x-y)):=by
 intro w
 have lx:=hx.len
 have ly:=hy.len
 rw[dg_length]at lx ly
 rw[call_run,A.k222 (by simp)]
 simp(disch:=first|(simp;done)|omega|(simp only[dg_length,dgi_length,List.length_cons];omega)|rfl) [-getElem?_pos,A.b222,lx,ly]
 refine run_loopD [(6,8),(14,38)] (fun e r st=>e=.exit 0∧SubE h N x y r st) (SubI h N x y) (wds x).length ?_ ?_ ?_
 ·refine⟨0,List.replicate (wds x).length 0,0,by omega,⟨by omega,by simp,by simp,by simp,by simp,Keeps.refl.set (Nat.le_refl _) |>.up (by omega),by simp[dg_zeros],by simp,[],by simp,by simp,by simp[val],by decide,by simp[Dg]⟩⟩
 ·rintro m r ⟨H,n1,W⟩ hr hf ⟨k,o,c,rfl,hk,h22,h6,hn,hW,hK,hN,ho,d,hd⟩
  simp only at hn hW hK hN
  subst hn
  rw[code_run]
  by_cases hlt:k<(wds x).length
  ·obtain⟨i1,o1,c1,e1,w1,p1,p2,p3,p4⟩:=hx.at (dg_get (List.getElem?_eq_getElem hlt))
   have p3:=(hK.get _ p2).trans p3
   obtain⟨d1,d2,d3,d4,d5⟩:=hd
   have hsp:=subStep (x:=wds x) (y:=wds y) (List.getElem?_eq_getElem hlt) d1 d2 d3 d4 d5 (wds_dg x) (wds_dg y)
   by_cases hky:k<(wds y).length
   ·obtain⟨i2,o2,c2,e2,w2,q1,q2,q3,q4⟩:=hy.at (dg_get (List.getElem?_eq_getElem hky))
    have q3:=(hK.get _ q2).trans q3
    have hz:dz (wds y) k=(wds y)[k]:=by simp[dz,List.getElem?_eq_getElem hky]
    rw[hz]at hsp
    simp(disch:=first|(simp;done)|omega|(simp only[dg_length,dgi_length,List.length_cons];omega)|rfl) [-getElem?_pos,A.lb222_0,hr,h22,h6,hlt,hky,lx,ly,p1,p3,p4,q1,q3,q4,hN,dg_set,hf]
    exact⟨_,by omega,k+1,_,_,rfl,⟨by omega,by simp,by simp,rfl,by simp[hW],hK.set (Nat.le_refl _),by simp,by simp[ho],_,hsp⟩⟩
   ·have hz:dz (wds y) k=0:=by simp[dz,List.getElem?_eq_none (Nat.not_lt.1 hky)]
    rw[hz]at hsp
    simp(disch:=first|(simp;done)|omega|(simp only[dg_length,dgi_length,List.length_cons];omega)|rfl) [-getElem?_pos,A.lb222_0,hr,h22,h6,hlt,hky,lx,ly,p1,p3,p4,hN,dg_set,hf]
    exact⟨_,by omega,k+1,_,_,rfl,⟨by omega,by simp,by simp,rfl,by simp[hW],hK.set (Nat.le_refl _),by simp,by simp[ho],_,hsp⟩⟩
  ·have hkx:k=(wds x).length:=by omega
   subst hkx
   simp(disch:=first|(simp;done)|omega|(simp only[dg_length,dgi_length,List.length_cons];omega)|rfl) [-getElem?_pos,A.lb222_0,hr,h22,hf]
   exact⟨o,c,⟨by omega,by simp[h22],by simp[h6],rfl,by simp[hW],hK,hN,ho,d,hd⟩⟩
 ·rintro _ r ⟨H,n1,W⟩ hr ⟨rfl,o,c,hk,h22,h6,hn,hW,hK,hN,ho,d,d1,d2,d3,d4,d5⟩
  simp only at hn hW hK hN
  subst hn
  simp(disch:=first|(simp;done)|omega|(simp only[dg_length,dgi_length,List.length_cons];omega)|rfl) [-getElem?_pos,hr,h6,lx,hN]
  refine run_fn (trim_fn (l:=o) (Sl.row (e:=299) (rw:=true) (by omega) (by simp[hN]) (by simp[ho]) (by simp)) (by simp[ho];omega)) ?_
  intro v' h' n' hk' hs
  simp(disch:=first|(simp;done)|omega|(simp only[dg_length,dgi_length,List.length_cons];omega)|rfl) [-getElem?_pos,Ret]
  refine⟨hW,hK.trans hk',?_⟩
  rw[subEnd hxy d1 d2 d3 d4 d5]at hs
  exact hs
end Go.Mx
