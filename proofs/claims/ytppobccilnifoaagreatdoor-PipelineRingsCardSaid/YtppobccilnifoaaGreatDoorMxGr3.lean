/-
  Copies of graphs.
-/
import Derived.Test.YtppobccilnifoaaGreatDoorMxSpec
import Derived.Test.YtppobccilnifoaaGreatDoorProg
set_option linter.all false
namespace Go.Mx
open Go
def Cp(h:T O)(N:Nat)(v:V)(l:List V):Prop:=∃j c,v=.slice j 0 l.length c 1∧j<N∧h.get j=some (.cells l 9 true)∧∀k,c=some k→l.length≤k
theorem Cp.keep{h h':T O}{N N':Nat}{v:V}{l:List V}(s:Cp h N v l)(k:Keeps h N h' N'):Cp h' N' v l:=by
 obtain⟨j,c,h1,h2,h3,h4⟩:=s
 exact⟨j,c,h1,Nat.lt_of_lt_of_le h2 k.le,(k.get j h2).trans h3,h4⟩
theorem Cp.sl{h:T O}{N:Nat}{v:V}{l:List V}(s:Cp h N v l):Sl h N v l:=by
 obtain⟨j,c,h1,h2,h3,h4⟩:=s
 rw[h1];exact Sl.row h2 h3 rfl h4
theorem src_sl{h:T O}{N:Nat}{w:List Nat}{v:V}{l:List V}(s:Sl h N v l):srcCells ⟨h,N,w⟩ 1 v=some (l.length,l):=by
 rcases s with⟨rfl,rfl|rfl⟩|⟨i,o,cp,c,e,rw,rfl,h2,h3,h4,h5,h6⟩
 ·rfl
 ·rfl
 ·simp only[srcCells,if_true,St.row,h3,Nat.mul_one]
  have:slc c o l.length=some l:=by
   unfold slc
   rw[if_pos h5]
   congr 1
   apply List.ext_getElem?
   intro j
   rw[List.getElem?_take]
   by_cases hj:j<l.length
   ·rw[if_pos hj,List.getElem?_drop];exact h4 j hj
   ·rw[if_neg hj,List.getElem?_eq_none (by omega)]
  rw[this]
def PgA(h:T O)(N0 N:Nat)(u:V)(g:List Stg)(k:Nat):Prop:=∃l:List (List V),Own 5 126 N0 h N u l∧l.length=k∧∀(j:Nat) (s:Stg),j<k→g[j]?=some s→∃inp,l[j]?=some (stgC s inp)∧Cp h N inp (strs s.inputs)
theorem PgA.keep{h h':T O}{N0 N N':Nat}{u:V}{g:List Stg}{k:Nat}(s:PgA h N0 N u g k)(kk:Keeps h N h' N'):PgA h' N0 N' u g k:=by
 obtain⟨l,h1,h2,h3⟩:=s
 refine⟨l,h1.keep kk,h2,fun j s hj hs=>?_⟩
 obtain⟨inp,h4,h5⟩:=h3 j s hj hs
 exact⟨inp,h4,h5.keep kk⟩
theorem PgA.gr{h:T O}{N0 N:Nat}{u:V}{g:List Stg}(s:PgA h N0 N u g g.length):Gr h N u g:=by
 obtain⟨l,h1,h2,h3⟩:=s
 refine⟨l,h1.sn,h2,fun j s hs=>?_⟩
 obtain⟨inp,h4,h5⟩:=h3 j s (lt_of_get hs) hs
 exact⟨inp,h4,h5.sl⟩
theorem PgA.step{h:T O}{N0 N:Nat}{u x inp:V}{g:List Stg}{k:Nat}{s:Stg}{w:List Nat}(p:PgA h N0 N u g k)(hN:N0≤N)(hs:g[k]?=some s)(hi:Cp h N inp (strs s.inputs))(hu:srcCells ⟨h,N,w⟩ 5 x=some (1,stgC s inp))(hk:k<1000):
  ∃v' h' w',appendV ⟨h,N,w⟩ 5 80 126 u x=some (v',⟨h',N+1,w'⟩)∧oldIds N0 w'=oldIds N0 w∧Keeps h N0 h' (N+1)∧PgA h' N0 (N+1) v' g (k+1):=by
 obtain⟨l,h1,h2,h3⟩:=p
 obtain⟨v',h',w',e1,e2,e3,e4,e5⟩:=append_own (x:=stgC s inp) (u:=x) (bytes:=80) (w:=w) h1 hN (by decide) rfl hu (by omega)
 have hcp:∀{i:V} {m:List V},Cp h N i m→Cp h' (N+1) i m:=by
  rintro i m ⟨j,c,q1,q2,q3,q4⟩
  refine⟨j,c,q1,by omega,?_,q4⟩
  rcases e4 j with e|e|⟨o,n,c',q,e⟩
  ·rw[e];exact q3
  ·omega
  ·obtain⟨_,⟨_,hn⟩|⟨i',hv,_,_,hrow⟩⟩:=h1
   ·rw[e]at hn;cases hn
   ·rw[e]at hv
    simp only[V.slice.injEq]at hv
    rw[←hv.1,q3]at hrow
    simp at hrow
 refine⟨v',h',w',e1,e2,e3,l++[stgC s inp],e5,by simp[h2],fun j t hj ht=>?_⟩
 by_cases hjk:j<k
 ·obtain⟨i,q1,q2⟩:=h3 j t hjk ht
  exact⟨i,by rw[List.getElem?_append_left (by omega)];exact q1,hcp q2⟩
 ·have:j=k:=by omega
  subst this
  obtain rfl:=Option.some.inj (hs.symm.trans ht)
  exact⟨inp,by rw[List.getElem?_append_right (by omega)];simp[h2],hcp hi⟩
end Go.Mx
namespace Go.Mx
open Go
theorem Sl.setInt{h:T O}{N:Nat}{v:V}{l:List Int}{i:Nat}{c0 c1:List V}{e0 e1:TypeId}{w0 w1:Bool}(s:Sl h N v (dI l))(hr:h.get i=some (.cells c0 e0 w0))(hn:∀x∈c0,∀k n,x≠.int k n)(hc:c1.length=c0.length):Sl (h.set i (.cells c1 e1 w1)) N v (dI l):=by
 rcases s with s|⟨j,o,cp,c,e,rw,h1,h2,h3,h4,h5,h6⟩
 ·exact .inl s
 ·by_cases hj:j=i
  ·subst hj
   rw[hr]at h3
   simp only[Option.some.injEq,O.cells.injEq]at h3
   obtain⟨rfl,rfl,rfl⟩:=h3
   cases l with
   |nil=>exact .inr ⟨j,o,cp,c1,e1,w1,h1,h2,by rw[T.get_set];simp,fun k hk=>by simp[dI]at hk,by rw[hc];exact h5,h6⟩
   |cons d l=>
    have:=h4 0 (by simp[dI])
    simp only[dI,List.map_cons,List.getElem?_cons_zero]at this
    exact absurd rfl (hn _ (List.mem_of_getElem? this) .i64 d)
  ·exact .inr ⟨j,o,cp,c,e,rw,h1,h2,by rw[T.get_set,if_neg hj];exact h3,h4,h5,h6⟩
end Go.Mx
namespace Go.Mx
open Go Go.Proofs
set_option maxRecDepth 1000000
def mv(a b:Nat):MOper:=⟨some a,.mov (.tmp b),none⟩
def mc(a:Nat)(n:Int):MOper:=⟨some a,.mov (.const (.int .i64 n)),none⟩
def ia(a z x i:Nat):MOper:=⟨some a,.iaddrSl z (.tmp x) (.tmp i),none⟩
def ld(a x:Nat):MOper:=⟨some a,.load none (.tmp x),none⟩
def xt(a x i:Nat):MOper:=⟨some a,.extract (.tmp x) i,none⟩
def bi(a:Nat)(o:BinOp)(x y:Nat):MOper:=⟨some a,.bin o (.node []) false (.tmp x) (.tmp y),none⟩
def bc(a:Nat)(o:BinOp)(x:Nat)(n:Int):MOper:=⟨some a,.bin o (.node []) false (.tmp x) (.const (.int .i64 n)),none⟩
def ln(a x:Nat):MOper:=⟨some a,.len 1 (.tmp x),none⟩
def so(a x:Nat):MOper:=⟨none,.store 1 (.tmp a) (.tmp x),none⟩
attribute [simp] List.getElem?_cons_zero List.getElem?_cons_succ mv mc ia ld xt bi bc ln so
noncomputable def A.C:Cx:=⟨pCall [⟨8,[],.bool true⟩],cFunc Tryz.prog⟩
theorem A.t:A.C.tbl=cFunc Tryz.prog:=rfl
theorem A.x0{f:Nat}{a c args:List V}{st:St}(h:Nat.beq 8 f=false):A.C.x (.func f a c) args st=none:=by
 show pCall [⟨8,[],.bool true⟩] (.func f a c) args st=none
 unfold pCall
 split
 ·rename_i heq
  simp only[V.func.injEq]at heq
  obtain⟨rfl,rfl,rfl⟩:=heq
  simp only[pFind,h]
 ·rfl
theorem A.kk{n k:Nat}{res:List MRes}{b:MCode}(hc:cFunc Tryz.prog n=some ⟨k,res,b⟩)(hx:Nat.beq 8 n=false){K:List Kf}{Q:Rs→Prop}{f c args:List V}{st:St}(h:(f++args++c).length≤k):Run A.C K (valR (A.C.call (.func n f c) args st)) Q↔Run A.C (.fin res st::K) (exR (A.C.code none b ⟨setRegs .nil 0 (f++args++c),k,[]⟩ ⟨st.h,st.n,[]⟩)) Q:=run_func (A.x0 (f:=n) hx) (mf:=⟨k,res,b⟩) (by rw[A.t];exact hc) h
end Go.Mx
namespace Go.Mx
open Go Go.Proofs
set_option maxRecDepth 1000000
def A.b50:MCode:=.seq (.reg [mc 4 0])
 (.seq (.seq (.reg [mv 5 0])
 (.cond (.tmp 5)
 (.seq (.reg [mv 6 1,mv 4 6])
 (.ret))
 (.skip)))
 (.seq (.reg [mc 4 0])
 (.ret)))
theorem A.c50:cFunc Tryz.prog 50=some ⟨7,[.tmp 4],A.b50⟩:=by kernel_rfl
def A.k50{K Q f c args st}:=@A.kk 50 _ _ _ A.c50 rfl K Q f c args st
def A.b150:MCode:=.seq (.reg [mc 4 0])
 (.seq (.seq (.reg [mv 5 0])
 (.cond (.tmp 5)
 (.seq (.reg [mv 6 1,mv 4 6])
 (.ret))
 (.skip)))
 (.seq (.reg [mc 4 0])
 (.ret)))
theorem A.c150:cFunc Tryz.prog 150=some ⟨7,[.tmp 4],A.b150⟩:=by kernel_rfl
def A.k150{K Q f c args st}:=@A.kk 150 _ _ _ A.c150 rfl K Q f c args st
def A.b58:MCode:=.seq (.reg [mc 6 0])
 (.seq (.reg [mv 7 0,mv 8 1,bi 9 .lss 7 8,mv 10 9,⟨(some 11),.mov (.tmp 0),(some (10,false))⟩,⟨(some 12),.mov (.tmp 2),(some (10,false))⟩,⟨(some 13),.bin .gtr (.node []) false (.tmp 11) (.tmp 12),(some (10,false))⟩,⟨(some 14),.pick (.tmp 10) (.const (.bool true)) (.tmp 13),none⟩,⟨(some 15),.call (.const (.func 50 [] [])) [(.tmp 14),(.const (.int .i64 3))],none⟩,mv 6 15])
 (.ret))
theorem A.c58:cFunc Tryz.prog 58=some ⟨16,[.tmp 6],A.b58⟩:=by kernel_rfl
def A.k58{K Q f c args st}:=@A.kk 58 _ _ _ A.c58 rfl K Q f c args st
theorem when_eq{b:Bool}{e:Int}{st:St}:A.C.call (.func 50 [] []) [.bool b,.int .i64 e] st=some (.int .i64 (if b=true then e else 0),st):=by
 apply Call.eq
 rw[call_run,A.k50 (by simp)]
 cases b<;>simp[A.b50]
theorem nwhen_eq{b:Bool}{e:Int}{st:St}:A.C.call (.func 150 [] []) [.bool b,.int .i64 e] st=some (.int .i64 (if b=true then e else 0),st):=by
 apply Call.eq
 rw[call_run,A.k150 (by simp)]
 cases b<;>simp[A.b150]
theorem within_eq{x lo hi:Int}{st:St}:A.C.call (.func 58 [] []) [.int .i64 x,.int .i64 lo,.int .i64 hi] st=some (.int .i64 (if x<lo∨hi<x then 3 else 0),st):=by
 apply Call.eq
 rw[call_run,A.k58 (by simp)]
 by_cases h1:x<lo
 ·simp[A.b58,h1,when_eq]
 ·by_cases h2:hi<x<;>simp[A.b58,h1,h2,when_eq]
end Go.Mx
namespace Go.Mx
open Go Go.Proofs
set_option maxRecDepth 1000000
def A.lb49_0:MCode:=.seq (.reg [bi 8 .lss 7 6])
 (.seq (.cond (.tmp 8)
 (.skip)
 (.exit 0))
 (.seq (.block 1 (.seq (.reg [ia 9 1 5 7,ld 10 9,mv 4 10])
 (.seq (.reg [mv 11 4,⟨(some 12),.bin .neq (.prim .int) true (.tmp 11) (.const (.int .i64 0)),none⟩])
 (.cond (.tmp 12)
 (.seq (.reg [mv 13 4,mv 2 13])
 (.ret))
 (.skip)))))
 (.reg [bc 14 .add 7 1,mv 7 14])))
def A.b49:MCode:=.seq (.reg [mc 2 0])
 (.seq (.seq (.reg [mv 5 0,ln 6 5,mc 7 0])
 (.block 0 (.loop A.lb49_0)))
 (.seq (.reg [mc 2 0])
 (.ret)))
theorem A.c49:cFunc Tryz.prog 49=some ⟨15,[.tmp 2],A.b49⟩:=by kernel_rfl
def A.k49{K Q f c args st}:=@A.kk 49 _ _ _ A.c49 rfl K Q f c args st
def A.lb149_0:MCode:=.seq (.reg [bi 8 .lss 7 6])
 (.seq (.cond (.tmp 8)
 (.skip)
 (.exit 0))
 (.seq (.block 1 (.seq (.reg [ia 9 1 5 7,ld 10 9,mv 4 10])
 (.seq (.reg [mv 11 4,⟨(some 12),.bin .neq (.prim .int) true (.tmp 11) (.const (.int .i64 0)),none⟩])
 (.cond (.tmp 12)
 (.seq (.reg [mv 13 4,mv 2 13])
 (.ret))
 (.skip)))))
 (.reg [bc 14 .add 7 1,mv 7 14])))
def A.b149:MCode:=.seq (.reg [mc 2 0])
 (.seq (.seq (.reg [mv 5 0,ln 6 5,mc 7 0])
 (.block 0 (.loop A.lb149_0)))
 (.seq (.reg [mc 2 0])
 (.ret)))
theorem A.c149:cFunc Tryz.prog 149=some ⟨15,[.tmp 2],A.b149⟩:=by kernel_rfl
def A.k149{K Q f c args st}:=@A.kk 149 _ _ _ A.c149 rfl K Q f c args st
theorem first_eq{h:T O}{N:Nat}{v:V}{l:List Int}{w:List Nat}(hs:Sl h N v (dI l))(hl:l.length<1000):A.C.call (.func 49 [] []) [v] ⟨h,N,w⟩=some (.int .i64 (firstNZ l),⟨h,N,w⟩):=by
 apply Call.eq
 have hlen:=hs.len
 rw[dI_length]at hlen
 rw[call_run,A.k49 (by simp)]
 simp(disch:=first|(simp;done)|omega|(simp only[dg_length,dgi_length,List.length_cons];omega)|rfl) [-getElem?_pos,A.b49,hlen]
 refine run_loopD [(2,2),(4,4),(7,14)] (fun e r st=>st=⟨h,N,[]⟩∧((e=.exit 0∧firstNZ l=0)∨(e=.ret∧r.get 2=some (.int .i64 (firstNZ l))))) (fun m r st=>st=⟨h,N,[]⟩∧∃k,m=l.length-k∧k≤l.length∧r.get 7=some (.int .i64 k)∧firstNZ l=firstNZ (l.drop k)) l.length ?_ ?_ ?_
 ·exact⟨rfl,0,by omega,by omega,by simp,by simp⟩
 ·rintro m r _ hr hf ⟨rfl,k,rfl,hk,h7,hz⟩
  rw[code_run]
  by_cases hlt:k<l.length
  ·obtain⟨c,hc⟩:=get_of_lt hlt
   obtain⟨i,o,cc,e,rw,q1,q2,q3,q4⟩:=hs.at (dI_get hc)
   rw[get_drop_cons hc,firstNZ]at hz
   have hk1:(k:Int)<(l.length:Int):=by omega
   by_cases h0:c=0
   ·rw[if_pos h0]at hz
    simp(disch:=first|(simp;done)|omega|(simp only[dg_length,dgi_length,List.length_cons];omega)|rfl) [-getElem?_pos,A.lb49_0,hr,hf,h7,hk1,hlt,hlen,q1,q3,q4,eqPrim,h0]
    exact⟨_,by omega,k+1,rfl,by omega,by simp,hz⟩
   ·rw[if_neg h0]at hz
    simp(disch:=first|(simp;done)|omega|(simp only[dg_length,dgi_length,List.length_cons];omega)|rfl) [-getElem?_pos,A.lb49_0,hr,hf,h7,hk1,hlt,hlen,q1,q3,q4,eqPrim,h0,hz]
  ·have:l.drop k=[]:=List.drop_eq_nil_of_le (by omega)
   rw[this,firstNZ]at hz
   have:k=l.length:=by omega
   subst this
   simp(disch:=first|(simp;done)|omega|(simp only[dg_length,dgi_length,List.length_cons];omega)|rfl) [-getElem?_pos,A.lb49_0,hr,hf,h7,hlen,hz]
 ·rintro _ r _ hr ⟨rfl,⟨rfl,hz⟩|⟨rfl,h2⟩⟩
  ·simp(disch:=first|(simp;done)|omega|(simp only[dg_length,dgi_length,List.length_cons];omega)|rfl) [-getElem?_pos,hr,hz]
  ·simp(disch:=first|(simp;done)|omega|(simp only[dg_length,dgi_length,List.length_cons];omega)|rfl) [-getElem?_pos,hr,h2]
theorem nfirst_eq{h:T O}{N:Nat}{v:V}{l:List Int}{w:List Nat}(hs:Sl h N v (dI l))(hl:l.length<1000):A.C.call (.func 149 [] []) [v] ⟨h,N,w⟩=some (.int .i64 (firstNZ l),⟨h,N,w⟩):=by
 apply Call.eq
 have hlen:=hs.len
 rw[dI_length]at hlen
 rw[call_run,A.k149 (by simp)]
 simp(disch:=first|(simp;done)|omega|(simp only[dg_length,dgi_length,List.length_cons];omega)|rfl) [-getElem?_pos,A.b149,hlen]
 refine run_loopD [(2,2),(4,4),(7,14)] (fun e r st=>st=⟨h,N,[]⟩∧((e=.exit 0∧firstNZ l=0)∨(e=.ret∧r.get 2=some (.int .i64 (firstNZ l))))) (fun m r st=>st=⟨h,N,[]⟩∧∃k,m=l.length-k∧k≤l.length∧r.get 7=some (.int .i64 k)∧firstNZ l=firstNZ (l.drop k)) l.length ?_ ?_ ?_
 ·exact⟨rfl,0,by omega,by omega,by simp,by simp⟩
 ·rintro m r _ hr hf ⟨rfl,k,rfl,hk,h7,hz⟩
  rw[code_run]
  by_cases hlt:k<l.length
  ·obtain⟨c,hc⟩:=get_of_lt hlt
   obtain⟨i,o,cc,e,rw,q1,q2,q3,q4⟩:=hs.at (dI_get hc)
   rw[get_drop_cons hc,firstNZ]at hz
   have hk1:(k:Int)<(l.length:Int):=by omega
   by_cases h0:c=0
   ·rw[if_pos h0]at hz
    simp(disch:=first|(simp;done)|omega|(simp only[dg_length,dgi_length,List.length_cons];omega)|rfl) [-getElem?_pos,A.lb149_0,hr,hf,h7,hk1,hlt,hlen,q1,q3,q4,eqPrim,h0]
    exact⟨_,by omega,k+1,rfl,by omega,by simp,hz⟩
   ·rw[if_neg h0]at hz
    simp(disch:=first|(simp;done)|omega|(simp only[dg_length,dgi_length,List.length_cons];omega)|rfl) [-getElem?_pos,A.lb149_0,hr,hf,h7,hk1,hlt,hlen,q1,q3,q4,eqPrim,h0,hz]
  ·have:l.drop k=[]:=List.drop_eq_nil_of_le (by omega)
   rw[this,firstNZ]at hz
   have:k=l.length:=by omega
   subst this
   simp(disch:=first|(simp;done)|omega|(simp only[dg_length,dgi_length,List.length_cons];omega)|rfl) [-getElem?_pos,A.lb149_0,hr,hf,h7,hlen,hz]
 ·rintro _ r _ hr ⟨rfl,⟨rfl,hz⟩|⟨rfl,h2⟩⟩
  ·simp(disch:=first|(simp;done)|omega|(simp only[dg_length,dgi_length,List.length_cons];omega)|rfl) [-getElem?_pos,hr,hz]
  ·simp(disch:=first|(simp;done)|omega|(simp only[dg_length,dgi_length,List.length_cons];omega)|rfl) [-getElem?_pos,hr,h2]
theorem nfirst2{h:T O}{N i:Nat}{w:List Nat}{a0 a1:Int}(hi:i<N):A.C.call (.func 149 [] []) [.slice i 0 2 (some 2) 1] ⟨h.set i (.cells [.int .i64 a0,.int .i64 a1] 26 true),N,w⟩=some (.int .i64 (firstNZ [a0,a1]),⟨h.set i (.cells [.int .i64 a0,.int .i64 a1] 26 true),N,w⟩):=
 nfirst_eq (l:=[a0,a1]) (Sl.row (e:=26) (rw:=true) (cp:=some 2) hi (by simp[dI]) rfl (by simp)) (by simp)
theorem pfirst2{h:T O}{N i:Nat}{w:List Nat}{a0 a1:Int}(hi:i<N):A.C.call (.func 49 [] []) [.slice i 0 2 (some 2) 1] ⟨h.set i (.cells [.int .i64 a0,.int .i64 a1] 26 true),N,w⟩=some (.int .i64 (firstNZ [a0,a1]),⟨h.set i (.cells [.int .i64 a0,.int .i64 a1] 26 true),N,w⟩):=
 first_eq (l:=[a0,a1]) (Sl.row (e:=26) (rw:=true) (cp:=some 2) hi (by simp[dI]) rfl (by simp)) (by simp)
end Go.Mx
