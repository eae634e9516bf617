/-
  A ring: at, Subscribe.
-/
import Derived.Test.YtppobccilnifoaaGreatDoorMxRg
set_option linter.all false
namespace Go.Mx
open Go Go.Proofs
set_option maxRecDepth 1000000
def A.lb105_0:MCode:=.seq (.reg [bi 9 .lss 8 7])
 (.seq (.cond (.tmp 9)
 (.skip)
 (.exit 0))
 (.seq (.block 1 (.seq (.reg [mv 10 8,mv 5 10])
 (.seq (.reg [mv 11 1,mv 12 0,mv 13 5,ia 14 1 12 13,ld 15 14,⟨(some 16),.call (.tmp 11) [(.tmp 15)],none⟩])
 (.cond (.tmp 16)
 (.seq (.reg [mv 17 5,mv 4 17])
 (.ret))
 (.skip)))))
 (.reg [bc 18 .add 8 1,mv 8 18])))
def A.b105:MCode:=.seq (.reg [mc 4 0])
 (.seq (.seq (.reg [mv 6 0,ln 7 6,mc 8 0])
 (.block 0 (.loop A.lb105_0)))
 (.seq (.reg [⟨(some 4),.mov (.const (.int .i64 (-1))),none⟩])
 (.ret)))
theorem A.c105:cFunc Tryz.prog 105=some ⟨19,[.tmp 4],A.b105⟩:=by kernel_rfl
def A.k105{K Q f c args st}:=@A.kk 105 _ _ _ A.c105 rfl K Q f c args st
theorem idxLs_fn{h:T O}{N:Nat}{v f:V}(l:List V)(p:Nat→Bool)(hs:Sl h N v l)(hl:l.length<1152921504606846976)(hf:∀(j:Nat) (x:V),l[j]?=some x→∀h' n',Keeps h N h' n'→FnV A.C f [x] h' n' (fun u _ _=>u=.bool (p j))):Fn A.C 105 [v,f] h N (fun u _ _=>u=.int .i64 (firstP p 0 l.length)):=by
 intro w
 have hlen:=hs.len
 rw[call_run,A.k105 (by simp)]
 simp(disch:=first|(simp;done)|omega|rfl) [-getElem?_pos,A.b105,hlen]
 refine run_loopD [(4,5),(8,18)] (fun e r st=>oldIds N st.w=[]∧Keeps h N st.h st.n∧((e=.exit 0∧firstP p 0 l.length= -1)∨(e=.ret∧r.get 4=some (.int .i64 (firstP p 0 l.length))))) (fun m r st=>oldIds N st.w=[]∧Keeps h N st.h st.n∧∃k,k+m=l.length∧r.get 8=some (.int .i64 k)∧firstP p 0 l.length=firstP p k m) l.length ?_ ?_ ?_
 ·exact⟨by simp,Keeps.refl,0,by omega,by simp,rfl⟩
 ·rintro m r ⟨H,n1,W⟩ hr hf2 ⟨hW,hK,k,hk,h8,hz⟩
  simp only at hW hK
  rw[code_run]
  cases m with
  |zero=>
   have:k=l.length:=by omega
   subst this
   simp only[firstP]at hz
   simp(disch:=first|(simp;done)|omega|rfl) [-getElem?_pos,A.lb105_0,hr,hf2,h8,hW,hK,hz]
  |succ m=>
   have hlt:k<l.length:=by omega
   obtain⟨c,hc⟩:=get_of_lt hlt
   obtain⟨i,o,cc,e,rw,q1,q2,q3,q4⟩:=hs.at hc
   have q3:=(hK.get _ q2).trans q3
   have hk1:(k:Int)<(l.length:Int):=by omega
   simp only[firstP]at hz
   simp(disch:=first|(simp;done)|omega|rfl) [-getElem?_pos,A.lb105_0,hr,hf2,h8,hk1,hlt,hlen,q1,q3,q4,hW]
   refine run_fnV (hf k c hc _ _ hK) ?_
   rintro v h2 n2 k2 rfl
   have kk:=hK.trans k2
   cases hp:p k
   ·rw[hp]at hz
    simp(disch:=first|(simp;done)|omega|rfl) [-getElem?_pos,hr,hf2,h8,hW,kk]
    exact⟨m,by omega,k+1,by omega,by simp,by simpa using hz⟩
   ·rw[hp]at hz
    simp(disch:=first|(simp;done)|omega|rfl) [-getElem?_pos,hr,hf2,h8,hW,kk]
    simpa using hz.symm
 ·rintro e r ⟨H,n1,W⟩ hr ⟨hW,hK,⟨rfl,hz⟩|⟨rfl,h4⟩⟩
  ·simp only at hW hK
   simp(disch:=first|(simp;done)|omega|rfl) [-getElem?_pos,hr,hz,Ret,hW,hK]
  ·simp only at hW hK
   simp(disch:=first|(simp;done)|omega|rfl) [-getElem?_pos,hr,h4,Ret,hW,hK]
def A.b63:MCode:=.seq (.reg [⟨(some 3),.box 73 (.tmp 1),none⟩,mc 4 0,mc 5 0])
 (.seq (.seq (.reg [mv 7 0,⟨(some 8),.bin .eql (.prim .ptr) true (.tmp 7) (.const .nilptr),none⟩])
 (.cond (.tmp 8)
 (.seq (.reg [mc 4 0,mc 5 19])
 (.ret))
 (.skip)))
 (.seq (.reg [mv 9 0,⟨(some 10),.nilck (.tmp 9),none⟩,⟨(some 11),.faddr 6 (.tmp 10),none⟩,ld 12 11,⟨(some 13),.mkfunc 106 [] [(.tmp 3)],none⟩,⟨(some 14),.call (.const (.func 105 [] [])) [(.tmp 12),(.tmp 13)],none⟩,mv 6 14])
 (.seq (.reg [mv 15 6,mv 16 6,bc 17 .lss 16 0,⟨(some 18),.call (.const (.func 50 [] [])) [(.tmp 17),(.const (.int .i64 10))],none⟩,mv 4 15,mv 5 18])
 (.ret))))
theorem A.c63:cFunc Tryz.prog 63=some ⟨19,[.tmp 4,.tmp 5],A.b63⟩:=by kernel_rfl
def A.k63{K Q f c args st}:=@A.kk 63 _ _ _ A.c63 rfl K Q f c args st
def A.b106:MCode:=.seq (.reg [⟨(some 3),.mov (.const (.bool false)),none⟩])
 (.seq (.regD [mv 4 0,⟨(some 5),.nilck (.tmp 4),none⟩,⟨(some 6),.faddr 0 (.tmp 5),none⟩,ld 7 6,ld 8 1,⟨(some 9),.bin .eql (.prim .chan) false (.tmp 7) (.tmp 8),none⟩,mv 3 9] [0,1,3,7,0,31,63])
 (.ret))
theorem A.c106:cFunc Tryz.prog 106=some ⟨10,[.tmp 3],A.b106⟩:=by kernel_rfl
def A.k106{K Q f c args st}:=@A.kk 106 _ _ _ A.c106 rfl K Q f c args st
def A.b25:MCode:=.seq (.reg [⟨(some 4),.mov (.const .nilchan),none⟩,mc 5 0])
 (.seq (.seq (.reg [mv 8 0,⟨(some 9),.bin .eql (.prim .ptr) true (.tmp 8) (.const .nilptr),none⟩])
 (.cond (.tmp 9)
 (.seq (.reg [⟨(some 4),.mov (.const .nilchan),none⟩,mc 5 19])
 (.ret))
 (.skip)))
 (.seq (.seq (.regD [mv 10 1,⟨(some 11),.call (.const (.func 58 [] [])) [(.tmp 10),(.const (.int .i64 1)),(.const (.int .i64 16))],none⟩,mv 12 0,⟨(some 13),.nilck (.tmp 12),none⟩,⟨(some 14),.faddr 6 (.tmp 13),none⟩,ld 15 14,ln 16 15,bc 17 .geq 16 8,⟨(some 18),.call (.const (.func 50 [] [])) [(.tmp 17),(.const (.int .i64 5))],none⟩,⟨(some 19),.bslice 26 1 2 [(.int .i64 0),(.int .i64 0)] [(0,1,(.tmp 11)),(1,1,(.tmp 18))],none⟩,⟨(some 20),.call (.const (.func 49 [] [])) [(.tmp 19)],none⟩,mv 6 20] [0,1,0,4,12,28,60,124,255,511,1023,2047])
 (.seq (.reg [mv 21 6,⟨(some 22),.bin .neq (.prim .int) true (.tmp 21) (.const (.int .i64 0)),none⟩])
 (.cond (.tmp 22)
 (.seq (.reg [mv 23 6,⟨(some 4),.mov (.const .nilchan),none⟩,mv 5 23])
 (.ret))
 (.skip))))
 (.seq (.reg [mv 24 1,⟨(some 25),.mkchan 16 (.tmp 24),none⟩,⟨(some 26),.build [.nilchan,(.int .i64 0),(.int .i64 0),(.int .i64 0)] [(0,1,(.tmp 25))],none⟩,⟨(some 27),.box 151 (.tmp 26),none⟩,mv 7 27])
 (.seq (.reg [mv 28 0,mv 29 0,⟨(some 30),.nilck (.tmp 29),none⟩,⟨(some 31),.faddr 6 (.tmp 30),none⟩,ld 32 31,mv 33 7,⟨(some 34),.bslice 148 1 1 [.nilptr] [(0,1,(.tmp 33))],none⟩,⟨(some 35),.append 1 8 148 [.nilptr] (.tmp 32) (.tmp 34),none⟩,⟨(some 36),.nilck (.tmp 28),none⟩,⟨(some 37),.faddr 6 (.tmp 36),none⟩,so 37 35])
 (.seq (.reg [mv 38 7,⟨(some 39),.nilck (.tmp 38),none⟩,⟨(some 40),.faddr 0 (.tmp 39),none⟩,ld 41 40,mv 4 41,mc 5 0])
 (.ret))))))
theorem A.c25:cFunc Tryz.prog 25=some ⟨42,[.tmp 4,.tmp 5],A.b25⟩:=by kernel_rfl
def A.k25{K Q f c args st}:=@A.kk 25 _ _ _ A.c25 rfl K Q f c args st
def ChOk(h:T O)(N:Nat)(u:V):Prop:=u=.nilchan∨∃C c b,u=.chan C∧C<N∧h.get C=some (.chan c b)
theorem ChOk.keep{h h':T O}{N N':Nat}{u:V}(s:ChOk h N u)(k:Keeps h N h' N'):ChOk h' N' u:=by
 rcases s with s|⟨C,c,b,h1,h2,h3⟩
 ·exact .inl s
 ·exact .inr ⟨C,c,b,h1,Nat.lt_of_lt_of_le h2 k.le,(k.get C h2).trans h3⟩
def isC(u:V)(C:Nat):Bool:=match u with
 |.chan D=>D==C
 |_=>false
def lsAt(ls:List Lr)(u:V):Int:=firstP (fun j=>match ls[j]? with|some l=>isC u l.C|none=>false) 0 ls.length
theorem at1_fn{h:T O}{N q L C cap:Nat}{u:V}{e:TypeId}{rw:Bool}{buf a:List V}{e2:TypeId}{rw2:Bool}(hq:h.get q=some (.cells [u] e rw))(hu:ChOk h N u)(hL:h.get L=some (.cells (.chan C::a) e2 rw2))(hC:h.get C=some (.chan cap buf))(hqN:q<N)(hLN:L<N):FnV A.C (.func 106 [] [.ptr q 0]) [.ptr L 0] h N (fun v _ _=>v=.bool (isC u C)):=by
 intro w
 rw[call_run,A.k106 (by simp)]
 rcases hu with rfl|⟨D,c,b,rfl,h2,h3⟩
 ·simp(disch:=first|(simp;done)|omega|rfl) [-getElem?_pos,A.b106,hq,hL,partV,eqPrim,pairsOk.chk,Ret,isC,hqN,hLN]
  exact Keeps.refl
 ·have e1:(C==D)=(D==C):=by rw[Bool.eq_iff_iff,beq_iff_eq,beq_iff_eq];exact eq_comm
  simp(disch:=first|(simp;done)|omega|rfl) [-getElem?_pos,A.b106,hq,hL,partV,chanEq,hC,h3,pairsOk.chk,Ret,isC,hqN,hLN,e1]
  exact Keeps.refl
theorem at_fn{h:T O}{N:Nat}{S:RS}{u:V}(I:RI h N S)(hu:ChOk h N u)(hl:S.ls.length<1000):Fn A.C 63 [.ptr S.R 0,u] h N (fun v _ _=>v=.tup [.int .i64 (lsAt S.ls u),.int .i64 (if lsAt S.ls u<0 then 10 else 0)]):=by
 intro w
 have hR:=I.lt S.R RI.mR
 have hvl:=I.vl.sn (N:=N) fun i hi=>I.lt i (RI.ml hi)
 have e1:S.ls.map ptC=(S.ls.map fun l=>V.ptr l.L 0).map fun x=>[x]:=by simp[ptC]
 rw[e1,Sn.one]at hvl
 have hr:=I.r
 unfold RS.cells at hr
 have ho:V.one u=true:=by rcases hu with rfl|⟨_,_,_,rfl,_,_⟩<;>rfl
 have hoc:V.cells u=[u]:=by rcases hu with rfl|⟨_,_,_,rfl,_,_⟩<;>rfl
 unfold V.one at ho
 unfold V.cells at hoc
 have kk:=Keeps.refl.new (h1:=h) (n1:=N) (.cells [u] 73 true)
 have d1:¬S.R=N:=by omega
 rw[call_run,A.k63 (by simp)]
 simp(disch:=first|(simp;done)|omega|rfl) [-getElem?_pos,A.b63,eqPrim,ho,hoc,hr,d1,partV]
 refine run_fn (idxLs_fn _ (fun j=>match S.ls[j]? with|some l=>isC u l.C|none=>false) (hvl.keep kk) (by rw[List.length_map];omega) ?_) ?_
 ·intro j x hx h' n' k'
  have hj:j<S.ls.length:=by have:=lt_of_get hx;simpa using this
  obtain⟨l,hl2⟩:=get_of_lt hj
  obtain rfl:V.ptr l.L 0=x:=by simpa[hl2]using hx
  have hm:=List.mem_of_getElem? hl2
  obtain⟨l1,l2⟩:=I.l l hm
  obtain⟨m1,m2⟩:=RI.mL hm
  have i1:=I.lt _ m1
  have i2:=I.lt _ m2
  have k2:=kk.trans k'
  have:=at1_fn (q:=N) (u:=u) (h:=h') (N:=n') (L:=l.L) (C:=l.C) ((k'.get N (by omega)).trans (by rw[T.get_set,if_pos rfl])) (hu.keep k2) ((k2.get _ i1).trans l1) ((k2.get _ i2).trans l2) (by have:=k'.le;omega) (by have:=k2.le;omega)
  simp only[hl2]
  exact this
 ·rintro _ h2 n2 k2 rfl
  have e2:firstP (fun j=>match S.ls[j]? with|some l=>isC u l.C|none=>false) 0 (S.ls.map fun l=>V.ptr l.L 0).length=lsAt S.ls u:=by rw[List.length_map];rfl
  rw[e2]
  by_cases hz:lsAt S.ls u<0
  ·simp(disch:=first|(simp;done)|omega|rfl) [-getElem?_pos,when_eq,hz,Ret]
   exact kk.trans k2
  ·simp(disch:=first|(simp;done)|omega|rfl) [-getElem?_pos,when_eq,hz,Ret]
   exact kk.trans k2
theorem sub_bad{h:T O}{N:Nat}{S:RS}{c:Int}(I:RI h N S)(hc:(c<1∨16<c)∨8≤S.ls.length):Fn A.C 25 [.ptr S.R 0,.int .i64 c] h N (fun v _ _=>v=.tup [.nilchan,.int .i64 (if c<1∨16<c then 3 else 5)]):=by
 intro w
 have hR:=I.lt S.R RI.mR
 have hlen:=I.vl.len
 have hr:=I.r
 unfold RS.cells at hr
 rw[List.length_map]at hlen
 rw[call_run,A.k25 (by simp)]
 by_cases h1:c<1∨16<c
 ·by_cases h8:8≤S.ls.length
  ·have h8':(8:Int)≤S.ls.length:=by omega
   simp(disch:=first|(simp;done)|omega|rfl) [-getElem?_pos,A.b25,eqPrim,within_eq,when_eq,h1,hr,hR,hlen,h8,h8',splice,pfirst2,firstNZ,Ret,partV,pairsOk.chk]
   exact Keeps.refl.new _
  ·have h8':¬(8:Int)≤S.ls.length:=by omega
   simp(disch:=first|(simp;done)|omega|rfl) [-getElem?_pos,A.b25,eqPrim,within_eq,when_eq,h1,hr,hR,hlen,h8,h8',splice,pfirst2,firstNZ,Ret,partV,pairsOk.chk]
   exact Keeps.refl.new _
 ·have h8:8≤S.ls.length:=by rcases hc with hc|hc;exact absurd hc h1;exact hc
  have h8':(8:Int)≤S.ls.length:=by omega
  simp(disch:=first|(simp;done)|omega|rfl) [-getElem?_pos,A.b25,eqPrim,within_eq,when_eq,h1,hr,hR,hlen,h8,h8',splice,pfirst2,firstNZ,Ret,partV,pairsOk.chk]
  exact Keeps.refl.new _
end Go.Mx
namespace Go.Mx
open Go Go.Proofs
set_option maxRecDepth 1000000
theorem sub_ok{h:T O}{N:Nat}{S:RS}{c:Int}(I:RI h N S)(h1:1≤c)(h2:c≤16)(h8:S.ls.length<8):FnD A.C (·∈S.ids) 25 [.ptr S.R 0,.int .i64 c] h N (fun v h' n'=>∃L C vl',N≤L∧N≤C∧v=.tup [.chan C,.int .i64 0]∧(∀i∈rowV vl',i∈rowV S.vl∨N≤i)∧RI h' n' {S with vl:=vl',ls:=S.ls++[⟨L,C,c.toNat,[],(0,0),0⟩]}):=by
 intro w
 have hR:=I.lt S.R RI.mR
 have hlen:=I.vl.len
 have hr:=I.r
 unfold RS.cells at hr
 rw[List.length_map]at hlen
 rw[call_run,A.k25 (by simp)]
 have a1:¬(c<1∨16<c):=by omega
 have a2:¬(8:Int)≤S.ls.length:=by omega
 have a3:¬8≤S.ls.length:=by omega
 have d0:¬S.R=N:=by omega
 have d1:¬S.R=N+1:=by omega
 have d2:¬S.R=N+1+1:=by omega
 have d3:¬S.R=N+1+1+1:=by omega
 simp(disch:=first|(simp;done)|omega|rfl) [-getElem?_pos, -oldIds,d0,d1,d2,d3,A.b25,eqPrim,within_eq,when_eq,a1,a2,a3,hr,hR,hlen,splice,pfirst2,firstNZ,partV,pairsOk.chk]
 generalize hH:(((h.set N (.cells [.int .i64 0,.int .i64 0] 26 true)).set (N+1) (.chan c.toNat [])).set (N+1+1) (.cells [.chan (N+1),.int .i64 0,.int .i64 0,.int .i64 0] 151 true)).set (N+1+1+1) (.cells [.ptr (N+1+1) 0] 148 true)=H
 have kH:Keeps h N H (N+1+1+1+1):=by
  rw[←hH]
  exact(((Keeps.refl.new _).new _).new _).new _
 have g2:H.get (N+1+1)=some (.cells [.chan (N+1),.int .i64 0,.int .i64 0,.int .i64 0] 151 true):=by rw[←hH];simp
 have g1:H.get (N+1)=some (.chan c.toNat []):=by rw[←hH];simp
 have g3:H.get (N+1+1+1)=some (.cells [.ptr (N+1+1) 0] 148 true):=by rw[←hH];simp
 obtain⟨n1,n2,n3⟩:=I.nR
 have lv:∀i∈rowV S.vl,i<N:=fun i hi=>I.lt i (RI.ml hi)
 obtain⟨v',h',N',w',e,q1,q2,q3,q4,q5⟩:=append_row (w:=[]) (N:=N+1+1+1+1) (bytes:=8) (u:=.slice (N+1+1+1) 0 1 (some 1) 1) (x:=[.ptr (N+1+1) 0]) (I.vl.eq fun i hi=>kH.get i (lv i hi)) (fun i hi=>by have:=lv i hi;omega) (by decide) rfl (by simp[srcCells,St.row,g3,slc]) (by rw[List.length_map];omega)
 have f0:=(q2.get S.R (by omega) n2).trans ((kH.get _ hR).trans hr)
 have f2:=(q2.get (N+1+1) (by omega) fun hc=>by have:=lv _ hc;omega).trans g2
 have f1:=(q2.get (N+1) (by omega) fun hc=>by have:=lv _ hc;omega).trans g1
 obtain⟨o1,o2⟩:=q5.one
 unfold V.one at o1
 unfold V.cells at o2
 have kle:=q2.le
 have d5:¬N+1+1=S.R:=by omega
 simp(disch:=first|(simp;done)|omega|rfl) [-getElem?_pos, -oldIds,e,f0,f2,d5,o1,o2,splice,storeK2,partV]
 have nR':S.R∉rowV v':=fun hc=>by
  rcases q3 _ hc with hc|hc
  ·exact n2 hc
  ·omega
 have hm:S.ls.map ptC++[[.ptr (N+1+1) 0]]=(S.ls++[(⟨N+1+1,N+1,c.toNat,[],(0,0),0⟩:Lr)]).map ptC:=by simp[ptC]
 have U:Upd (fun i=>i=S.R∨i∈rowV S.vl) h N (h'.set S.R (.cells (RS.cells {S with vl:=v'}) 147 true)) N':=((kH.upd.trans (q2.mono fun i _ hi=>.inr hi)).set (.inl (.inl rfl)))
 have mL:∀l∈S.ls,∀i∈l.ids,i∈S.ids∧i≠S.R∧i∉rowV S.vl:=fun l hl i hi=>by
  have nd:=I.nd
  have hi2:i∈S.ls.flatMap Lr.ids:=List.mem_flatMap.2 ⟨l,hl,hi⟩
  simp only[RS.ids,List.nodup_cons,List.nodup_append,List.mem_append,List.mem_cons,not_or]at nd ⊢
  grind
 refine retD_fin ?_ ?_ ?_
 ·intro i hi hN
  rcases List.mem_cons.1 hi with rfl|hi
  ·exact RI.mR
  ·rcases q1 i hi with hi|hi
   ·simp at hi
   ·exact RI.ml hi
 ·exact U.mono fun i _ hi=>by
   rcases hi with rfl|hi
   ·exact RI.mR
   ·exact RI.ml hi
 refine⟨N+1+1,by omega,N+1,by omega,rfl,v',fun i hi=>(q3 i hi).imp id (by omega),⟨by rw[T.get_set,if_pos rfl];rfl,?_,?_,?_,?_,?_,?_⟩⟩
 ·refine I.vr.eq fun i hi=>U.get i (I.lt i (RI.mr hi)) ?_
  have nd:=I.nd
  simp only[RS.ids,List.nodup_cons,List.nodup_append,List.mem_append,List.mem_cons,not_or]at nd
  grind
 ·rw[←hm]
  exact q5.eq fun i hi=>by rw[T.get_set,if_neg (by rintro rfl;exact nR' hi)]
 ·intro l hl
  rcases List.mem_append.1 hl with hl|hl
  ·have a:=mL l hl l.L (by simp[Lr.ids])
   have b:=mL l hl l.C (by simp[Lr.ids])
   exact⟨(U.get _ (I.lt _ a.1) (by grind)).trans (I.l l hl).1,(U.get _ (I.lt _ b.1) (by grind)).trans (I.l l hl).2⟩
  ·simp only[List.mem_singleton]at hl
   subst hl
   exact⟨by rw[T.get_set,if_neg (show ¬N+1+1=S.R by omega)];exact f2,by rw[T.get_set,if_neg (show ¬N+1=S.R by omega)];exact f1⟩
 ·have:=nd_gen (A':=rowV S.vr) (B':=rowV v') (X:=[N+1+1,N+1]) I.nd I.lt (fun i hi=>.inl hi) (fun i hi=>(q3 i hi).imp id (by omega)) (by have nd:=I.nd;simp only[RS.ids,List.nodup_cons,List.nodup_append]at nd;grind) q4 (by simp) (by simp;omega) (fun i hi hn=>by have:=I.lt i (RI.mr hi);omega) (fun i hi=>by have:=I.lt i (RI.mr hi);simp;omega) (fun i hi=>by
   rcases q3 i hi with hi|hi
   ·have:=lv i hi;simp;omega
   ·simp;omega)
  simpa[RS.ids,Lr.ids]using this
 ·intro i hi
  simp only[RS.ids,List.mem_cons,List.mem_append,List.flatMap_append,List.flatMap_cons,List.flatMap_nil,Lr.ids,List.not_mem_nil,or_false]at hi
  rcases hi with rfl|hi|hi|hi|rfl|rfl
  ·omega
  ·have:=I.lt i (RI.mr hi);omega
  ·rcases q3 i hi with hi|hi
   ·have:=lv i hi;omega
   ·omega
  ·have:=I.lt i (by simp only[RS.ids,List.mem_cons,List.mem_append];exact .inr (.inr (.inr hi)));omega
  ·omega
  ·omega
 ·intro p hp
  obtain⟨s1,s2⟩:=I.sl p hp
  refine⟨s1.moved U fun i hi hc=>?_,fun i hi hc=>?_⟩
  ·rcases hc with rfl|hc
   ·exact s2 _ hi RI.mR
   ·exact s2 _ hi (RI.ml hc)
  ·have hiN:i<N:=by
    rcases s1 with⟨_,hv|hv⟩|⟨j,_,_,_,_,_,hv,hj,_⟩
    ·rw[hv]at hi;simp[rowV]at hi
    ·rw[hv]at hi;simp[rowV]at hi
    ·rw[hv]at hi;simp[rowV]at hi;omega
   have h2:=s2 i hi
   simp only[RS.ids,List.mem_cons,List.mem_append,List.flatMap_append,List.flatMap_cons,List.flatMap_nil,Lr.ids,List.not_mem_nil,or_false,not_or]at hc h2
   have:=q3 i
   grind
end Go.Mx
namespace Go.Mx
open Go Go.Proofs
set_option maxRecDepth 1000000
def A.lb64_0:MCode:=.block 1 (.seq (.reg [mv 5 0,⟨(some 6),.nilck (.tmp 5),none⟩,⟨(some 7),.faddr 0 (.tmp 6),none⟩,ld 8 7])
 (.seq (.regS (some 9) (.tmp 8) none (.agg [(.int .i64 0),(.int .i64 0)]) [xt 10 9 0,⟨(some 11),.bin .eql (.prim .int) true (.tmp 10) (.const (.int .i64 0)),none⟩])
 (.block 2 (.cond (.tmp 11)
 (.seq (.reg [xt 13 9 2,⟨(some 4),.alloc [(.int .i64 0),(.int .i64 0)] 85,none⟩,⟨none,.store 2 (.tmp 4) (.tmp 13),none⟩])
 (.reg [mv 14 3,⟨(some 15),.load (some 2) (.tmp 4),none⟩,⟨(some 16),.bslice 85 2 1 [(.int .i64 0),(.int .i64 0)] [(0,2,(.tmp 15))],none⟩,⟨(some 17),.append 2 16 85 [(.int .i64 0),(.int .i64 0)] (.tmp 14) (.tmp 16),none⟩,mv 3 17]))
 (.seq (.reg [mv 12 3,mv 2 12])
 (.ret))))))
def A.b64:MCode:=.seq (.reg [⟨(some 2),.mov (.const .nilslice),none⟩])
 (.seq (.reg [⟨(some 3),.mov (.const .nilslice),none⟩])
 (.block 0 (.loop A.lb64_0)))
theorem A.c64:cFunc Tryz.prog 64=some ⟨18,[.tmp 2],A.b64⟩:=by kernel_rfl
def A.k64{K Q f c args st}:=@A.kk 64 _ _ _ A.c64 rfl K Q f c args st
def A.b62:MCode:=.seq (.reg [⟨(some 3),.box 85 (.tmp 1),none⟩])
 (.seq (.seq (.regD [⟨(some 4),.load (some 2) (.tmp 3),none⟩,mv 5 0,⟨(some 6),.nilck (.tmp 5),none⟩,⟨(some 7),.faddr 1 (.tmp 6),none⟩,⟨(some 8),.load (some 2) (.tmp 7),none⟩,⟨(some 9),.bin .eql (.node [(0,none,(.prim .int)),(1,none,(.prim .int))]) false (.tmp 4) (.tmp 8),none⟩] [0,0,2,6,14,31])
 (.cond (.tmp 9)
 (.ret)
 (.skip)))
 (.seq (.seq (.reg [mv 10 0,⟨(some 11),.nilck (.tmp 10),none⟩,⟨(some 12),.faddr 0 (.tmp 11),none⟩,ld 13 12])
 (.reg [⟨(some 14),.load (some 2) (.tmp 3),none⟩]))
 (.seq (.regS (some 15) (.tmp 13) (some (.tmp 14)) (.agg [(.int .i64 0),(.int .i64 0)]) [xt 16 15 0,⟨(some 17),.bin .eql (.prim .int) true (.tmp 16) (.const (.int .i64 0)),none⟩])
 (.block 0 (.cond (.tmp 17)
 (.reg [mv 25 0,⟨(some 26),.load (some 2) (.tmp 3),none⟩,⟨(some 27),.nilck (.tmp 25),none⟩,⟨(some 28),.faddr 1 (.tmp 27),none⟩,⟨none,.store 2 (.tmp 28) (.tmp 26),none⟩])
 (.reg [mv 18 0,⟨(some 19),.nilck (.tmp 18),none⟩,⟨(some 20),.faddr 3 (.tmp 19),none⟩,ld 21 20,bc 22 .add 21 1,⟨(some 23),.nilck (.tmp 18),none⟩,⟨(some 24),.faddr 3 (.tmp 23),none⟩,so 24 22]))))))
theorem A.c62:cFunc Tryz.prog 62=some ⟨29,[],A.b62⟩:=by kernel_rfl
def A.k62{K Q f c args st}:=@A.kk 62 _ _ _ A.c62 rfl K Q f c args st
def A.b29:MCode:=.seq (.reg [⟨(some 4),.mov (.const .nilslice),none⟩,mc 5 0,mc 6 0])
 (.seq (.reg [mv 12 0,mv 13 1,⟨(some 14),.call (.const (.func 63 [] [])) [(.tmp 12),(.tmp 13)],none⟩,mv 11 14,xt 15 11 0,xt 16 11 1,mv 7 15,mv 8 16])
 (.seq (.seq (.reg [mv 17 8,⟨(some 18),.bin .neq (.prim .int) true (.tmp 17) (.const (.int .i64 0)),none⟩])
 (.cond (.tmp 18)
 (.seq (.reg [mv 19 8,⟨(some 4),.mov (.const .nilslice),none⟩,mc 5 0,mv 6 19])
 (.ret))
 (.skip)))
 (.seq (.reg [mv 20 0,⟨(some 21),.nilck (.tmp 20),none⟩,⟨(some 22),.faddr 6 (.tmp 21),none⟩,ld 23 22,mv 24 7,ia 25 1 23 24,ld 26 25,mv 9 26])
 (.seq (.reg [mv 27 9,⟨(some 28),.nilck (.tmp 27),none⟩,⟨(some 29),.faddr 3 (.tmp 28),none⟩,ld 30 29,mv 10 30])
 (.seq (.reg [mv 31 9,⟨(some 32),.nilck (.tmp 31),none⟩,⟨(some 33),.faddr 3 (.tmp 32),none⟩,⟨none,.store 1 (.tmp 33) (.const (.int .i64 0)),none⟩])
 (.seq (.reg [mv 34 9,⟨(some 35),.call (.const (.func 64 [] [])) [(.tmp 34)],none⟩,mv 36 10,mv 4 35,mv 5 36,mc 6 0])
 (.ret)))))))
theorem A.c29:cFunc Tryz.prog 29=some ⟨37,[.tmp 4,.tmp 5,.tmp 6],A.b29⟩:=by kernel_rfl
def A.k29{K Q f c args st}:=@A.kk 29 _ _ _ A.c29 rfl K Q f c args st
def ncC(p:Int×Int):List V:=[.int .i64 p.1,.int .i64 p.2]
structure DrI (h:T O) (N C cap:Nat) (buf:List (Int×Int)) (m:Nat) (r:T V) (st:St):Prop where
 ex:∃a b out,buf=a++b∧b.length=m∧r.get 3=some out∧(∀i∈st.w,i=C∨N≤i)∧Upd (fun i=>i=C) h N st.h st.n∧st.h.get C=some (.chan cap (b.map ntc))∧Row 2 85 st.h out (a.map ncC)∧∀i∈rowV out,N≤i∧i<st.n
theorem ldrain_fn{h:T O}{N L C cap:Nat}{buf:List (Int×Int)}{a0:List V}{e:TypeId}{rw:Bool}(hL:h.get L=some (.cells (.chan C::a0) e rw))(hC:h.get C=some (.chan cap (buf.map ntc)))(hLN:L<N)(hCN:C<N)(hLC:L≠C)(hb:buf.length<1000):FnD A.C (fun i=>i=C) 64 [.ptr L 0] h N (fun v h' n'=>Row 2 85 h' v (buf.map ncC)∧(∀i∈rowV v,N≤i∧i<n')∧h'.get C=some (.chan cap [])):=by
 intro w
 rw[call_run,A.k64 (by simp)]
 simp(disch:=first|(simp;done)|omega|rfl) [-getElem?_pos,A.b64]
 refine run_loopD [(2,17)] (fun e r st=>e=.ret∧(∀i∈st.w,i=C∨N≤i)∧Upd (fun i=>i=C) h N st.h st.n∧st.h.get C=some (.chan cap [])∧∃v,r.get 2=some v∧Row 2 85 st.h v (buf.map ncC)∧∀i∈rowV v,N≤i∧i<st.n) (DrI h N C cap buf) buf.length ?_ ?_ ?_
 ·exact⟨[],buf,.nilslice,rfl,rfl,by simp,by simp,Upd.refl,hC,⟨by simp,.inl ⟨rfl,rfl⟩⟩,by simp[rowV]⟩
 ·rintro m r ⟨H,n1,W⟩ hr hf ⟨a,b,out,hab,hm,r3,hW,hU,gC,hrow,hids⟩
  simp only at hW hU gC hrow hids
  rw[code_run]
  have gL:=(hU.get L hLN hLC).trans hL
  have kle:=hU.le
  cases b with
  |nil=>
   simp only[List.append_nil]at hab
   simp only[List.map_nil]at gC
   subst hab
   simp(disch:=first|(simp;done)|omega|rfl) [-getElem?_pos,A.lb64_0,hr,hf,gL,gC,r3,partV,eqPrim]
   exact⟨hW,hU,hrow,hids⟩
  |cons p b=>
   simp only[List.length_cons]at hm
   have hb2:a.length+(b.length+1)<1000:=by rw[hab]at hb;simpa using hb
   simp only[List.map_cons]at gC
   simp(disch:=first|(simp;done)|omega|rfl) [-getElem?_pos,A.lb64_0,hr,hf,gL,gC,r3,partV,eqPrim,ntc,splice,storeK2]
   generalize hH:(((H.set C (.chan cap (b.map ntc))).set n1 (.cells [.int .i64 0,.int .i64 0] 85 true)).set n1 (.cells [.int .i64 p.1,.int .i64 p.2] 85 true)).set (n1+1) (.cells [.int .i64 p.1,.int .i64 p.2] 85 true)=H2
   have hd:¬C=n1:=by omega
   have hd2:¬C=n1+1:=by omega
   have U2:Upd (fun i=>i=C) H n1 H2 (n1+1+1):=by
    rw[←hH]
    exact(((Upd.set (D:=fun i=>i=C) Upd.refl (.inl rfl)).new _).set (.inr (Nat.le_refl _))).new _
   have g3:H2.get (n1+1)=some (.cells [.int .i64 p.1,.int .i64 p.2] 85 true):=by rw[←hH];simp
   have g4:H2.get C=some (.chan cap (b.map ntc)):=by rw[←hH];simp[hd,hd2]
   have hrow2:=hrow.eq (h':=H2) fun i hi=>U2.get i (hids i hi).2 (by have:=hids i hi;omega)
   obtain⟨v',h',N',w',e',q1,q2,q3,q4,q5⟩:=append_row (w:=n1::C::W) (N:=n1+1+1) (bytes:=16) (u:=.slice (n1+1) 0 1 (some 1) 2) (x:=ncC p) hrow2 (fun i hi=>by have:=hids i hi;omega) (by decide) rfl (by simp[srcCells,St.row,g3,slc,ncC]) (by rw[List.length_map];omega)
   unfold ntc at hH
   simp(disch:=first|(simp;done)|omega|rfl) [-getElem?_pos,e',hr,hf]
   have kle2:=q2.le
   refine⟨b.length,by omega,a++[p],b,v',by simp[hab],rfl,by simp,?_,?_,?_,by simpa using q5,?_⟩
   ·intro i hi
    rcases q1 i hi with hi|hi
    ·rcases List.mem_cons.1 hi with rfl|hi
     ·exact .inr (by omega)
     ·rcases List.mem_cons.1 hi with rfl|hi
      ·exact .inl rfl
      ·exact hW i hi
    ·exact .inr (hids i hi).1
   ·exact(hU.trans U2).then q2 fun i hi hc=>by have:=(hids i hc).1;omega
   ·exact(q2.get C (by omega) fun hc=>by have:=(hids C hc).1;omega).trans g4
   ·intro i hi
    rcases q3 i hi with hi|hi
    ·exact⟨(hids i hi).1,show i<N' by have:=hids i hi;omega⟩
    ·exact⟨by omega,hi.2⟩
 ·rintro _ r ⟨H,n1,W⟩ hr ⟨rfl,hW,hU,gC,v,r2,hrow,hids⟩
  simp only at hW hU gC hrow hids
  simp(disch:=first|(simp;done)|omega|rfl) [-getElem?_pos, -oldIds,hr,r2]
  exact retD_fin (fun i hi hN=>(hW i hi).resolve_right (by omega)) hU ⟨hrow,hids,gC⟩
def Lr.tell(l:Lr)(p:Int×Int):Lr:=if l.buf.length<l.cap then {l with buf:=l.buf++[p],last:=p} else {l with lost:=l.lost+1}
theorem send_fn{h:T O}{N:Nat}{l:Lr}{p:Int×Int}(hL:h.get l.L=some (.cells l.cells 151 true))(hC:h.get l.C=some (.chan l.cap (l.buf.map ntc)))(hLN:l.L<N)(hCN:l.C<N)(hLC:l.L≠l.C)(hp:p.1≠l.last.1)(h0:0≤l.lost)(hl:l.lost<1000000):FnD A.C (fun i=>i=l.L∨i=l.C) 62 [.ptr l.L 0,.agg [.int .i64 p.1,.int .i64 p.2]] h N (fun v h' n'=>v=.tup []∧h'.get l.L=some (.cells (l.tell p).cells 151 true)∧h'.get l.C=some (.chan l.cap ((l.tell p).buf.map ntc))):=by
 intro w
 rw[call_run,A.k62 (by simp)]
 unfold Lr.cells at hL
 have d1:¬l.L=N:=by omega
 have d9:l.L<N+1:=by omega
 have d4:¬N=l.C:=by omega
 have d2:¬l.C=N:=by omega
 have d3:¬l.C=l.L:=fun hc=>hLC hc.symm
 have e1:(p.1==l.last.1)=false:=by simpa using hp
 by_cases hr:l.buf.length<l.cap
 ·have hr':(l.buf.map ntc).length<l.cap:=by simpa using hr
  simp(disch:=first|(simp;done)|omega|rfl) [-getElem?_pos, -oldIds,A.b62,hL,hC,d1,d2,d3,hLC,d4,d9,eqV,eqParts,eqPrim,e1,hp,partV,slc,splice,selV2_room hr',storeK2,pairsOk.chk]
  refine retD_fin ?_ ?_ ?_
  ·intro i hi hN
   simp at hi
   exact hi
  ·exact((Upd.refl.new _).set (.inl (.inr rfl))).set (.inl (.inl rfl))
  ·simp[Lr.tell,hr,Lr.cells,ntc,d3,hLC]
 ·have hr':¬(l.buf.map ntc).length<l.cap:=by simpa using hr
  simp(disch:=first|(simp;done)|omega|rfl) [-getElem?_pos, -oldIds,A.b62,hL,hC,d1,d2,d3,hLC,d4,d9,eqV,eqParts,eqPrim,e1,hp,partV,slc,splice,selV2_full hr',storeK2,pairsOk.chk]
  refine retD_fin ?_ ?_ ?_
  ·intro i hi hN
   simp at hi
   exact .inl hi
  ·exact(Upd.refl.new _).set (.inl (.inl rfl))
  ·simp[Lr.tell,hr,Lr.cells,d3,d2,hC]
theorem firstP_at{p:Nat→Bool}:∀{m k j:Nat},k≤j→j<k+m→p j=true→(∀i,k≤i→i<j→p i=false)→firstP p k m=j
 |0,k,j,h1,h2,_,_=>by omega
 |m+1,k,j,h1,h2,h3,h4=>by
  simp only[firstP]
  by_cases hk:k=j
  ·subst hk;rw[if_pos h3]
  ·rw[if_neg (by rw[h4 k (Nat.le_refl _) (by omega)];decide)]
   exact firstP_at (by omega) (by omega) h3 fun i h5 h6=>h4 i (by omega) h6
theorem nd_flat:∀{ls:List Lr} {i j:Nat} {a b:Lr},(ls.flatMap Lr.ids).Nodup→ls[i]?=some a→ls[j]?=some b→i≠j→a.L≠b.L∧a.C≠b.C∧a.L≠b.C
 |[],i,j,a,b,h,h1,h2,h3=>by simp at h1
 |l::ls,i,j,a,b,h,h1,h2,h3=>by
  simp only[List.flatMap_cons,List.nodup_append]at h
  obtain⟨n1,n2,n3⟩:=h
  have mem:∀{x:Lr} {k:Nat},ls[k]?=some x→x.L∈ls.flatMap Lr.ids∧x.C∈ls.flatMap Lr.ids:=fun hx=>
   ⟨List.mem_flatMap.2 ⟨_,List.mem_of_getElem? hx,by simp[Lr.ids]⟩,List.mem_flatMap.2 ⟨_,List.mem_of_getElem? hx,by simp[Lr.ids]⟩⟩
  have m1:l.L∈l.ids:=by simp[Lr.ids]
  have m2:l.C∈l.ids:=by simp[Lr.ids]
  cases i with
  |zero=>
   cases j with
   |zero=>exact absurd rfl h3
   |succ j=>
    simp at h1 h2;subst h1
    obtain⟨q1,q2⟩:=mem h2
    exact⟨n3 _ m1 _ q1,n3 _ m2 _ q2,n3 _ m1 _ q2⟩
  |succ i=>
   simp at h1
   cases j with
   |zero=>
    simp at h2;subst h2
    obtain⟨q1,q2⟩:=mem h1
    exact⟨fun h=>n3 _ m1 _ q1 h.symm,fun h=>n3 _ m2 _ q2 h.symm,fun h=>n3 _ m2 _ q1 h.symm⟩
   |succ j=>
    simp at h2
    exact nd_flat n2 h1 h2 (by omega)
theorem RI.ndL{h:T O}{N:Nat}{S:RS}(I:RI h N S):(S.ls.flatMap Lr.ids).Nodup:=by
 have nd:=I.nd
 simp only[RS.ids,List.nodup_cons,List.nodup_append]at nd
 exact nd.2.2.1.2.1
theorem nd_self:∀{ls:List Lr},(ls.flatMap Lr.ids).Nodup→∀l∈ls,l.L≠l.C
 |[],_,l,h=>by simp at h
 |a::ls,h,l,hl=>by
  simp only[List.flatMap_cons,List.nodup_append]at h
  rcases List.mem_cons.1 hl with rfl|hl
  ·have:=h.1;simpa[Lr.ids]using this
  ·exact nd_self h.2.1 l hl
theorem RI.LC{h:T O}{N:Nat}{S:RS}(I:RI h N S){j:Nat}{l:Lr}(hj:S.ls[j]?=some l):l.L≠l.C:=nd_self I.ndL l (List.mem_of_getElem? hj)
theorem lsAt_of{h:T O}{N:Nat}{S:RS}(I:RI h N S){j:Nat}{l:Lr}(hj:S.ls[j]?=some l):lsAt S.ls (.chan l.C)=j:=by
 refine firstP_at (Nat.zero_le _) (by have:=lt_of_get hj;omega) (by simp[hj,isC]) fun i _ hi=>?_
 obtain⟨a,ha⟩:=get_of_lt (l:=S.ls) (k:=i) (by have:=lt_of_get hj;omega)
 have:=(nd_flat I.ndL ha hj (by omega)).2.1
 simp[ha,isC]
 exact fun hc=>this hc.symm
theorem RI.setL{h h':T O}{N N':Nat}{S:RS}(I:RI h N S){j:Nat}{l l':Lr}(hj:S.ls[j]?=some l)(eL:l'.L=l.L)(eC:l'.C=l.C)(U:Upd (fun i=>i=l.L∨i=l.C) h N h' N')(g1:h'.get l.L=some (.cells l'.cells 151 true))(g2:h'.get l.C=some (.chan l'.cap (l'.buf.map ntc))):RI h' N' {S with ls:=S.ls.set j l'}:=by
 have hm:=List.mem_of_getElem? hj
 obtain⟨m1,m2⟩:=RI.mL hm
 have hfl:(S.ls.set j l').flatMap Lr.ids=S.ls.flatMap Lr.ids:=by
  have e1:Lr.ids l'=Lr.ids l:=by simp[Lr.ids,eL,eC]
  rw[List.flatMap_def,List.flatMap_def,List.map_set,e1]
  congr 1
  apply List.ext_getElem?
  intro i
  rw[List.getElem?_set]
  split
  ·rename_i hi;subst hi;rw[List.getElem?_map,hj,List.length_map,if_pos (lt_of_get hj)];rfl
  ·rfl
 have hids:RS.ids {S with ls:=S.ls.set j l'}=S.ids:=by simp only[RS.ids,hfl]
 have hpt:(S.ls.set j l').map ptC=S.ls.map ptC:=by
  have e1:ptC l'=ptC l:=by simp[ptC,eL]
  rw[List.map_set,e1]
  apply List.ext_getElem?
  intro i
  rw[List.getElem?_set]
  split
  ·rename_i hi;subst hi;rw[List.getElem?_map,hj,List.length_map,if_pos (lt_of_get hj)];rfl
  ·rfl
 obtain⟨r1,r2,r3⟩:=I.nR
 have nd:=I.nd
 have hf:l.L∈S.ls.flatMap Lr.ids∧l.C∈S.ls.flatMap Lr.ids:=⟨List.mem_flatMap.2 ⟨_,hm,by simp[Lr.ids]⟩,List.mem_flatMap.2 ⟨_,hm,by simp[Lr.ids]⟩⟩
 simp only[RS.ids,List.nodup_cons,List.nodup_append,List.mem_append,List.mem_cons,not_or]at nd
 refine⟨(U.get _ (I.lt _ RI.mR) (by have:=r3 l hm;grind)).trans I.r,I.vr.eq fun i hi=>U.get i (I.lt i (RI.mr hi)) (by grind),?_,fun a ha=>?_,by rw[hids];exact I.nd,fun i hi=>by rw[hids]at hi;exact Nat.lt_of_lt_of_le (I.lt i hi) U.le,fun p hp=>⟨(I.sl p hp).1.moved U fun i hi hc=>?_,by rw[hids];exact(I.sl p hp).2⟩⟩
 ·show Row 1 _ h' S.vl ((S.ls.set j l').map ptC)
  rw[hpt]
  exact I.vl.eq fun i hi=>U.get i (I.lt i (RI.ml hi)) (by grind)
 ·obtain⟨k,hk⟩:=List.getElem?_of_mem ha
  have hk:(S.ls.set j l')[k]?=some a:=hk
  rw[List.getElem?_set]at hk
  split at hk
  ·split at hk
   ·simp only[Option.some.injEq]at hk
    subst hk
    rw[eL,eC];exact⟨g1,g2⟩
   ·cases hk
  ·rename_i hne
   have ha':=List.mem_of_getElem? hk
   obtain⟨x1,x2⟩:=I.l a ha'
   obtain⟨y1,y2⟩:=RI.mL ha'
   have z:=nd_flat I.ndL hk hj (by omega)
   have z2:=nd_flat I.ndL hj hk (by omega)
   exact⟨(U.get _ (I.lt _ y1) (by grind)).trans x1,(U.get _ (I.lt _ y2) (by grind)).trans x2⟩
 ·have:=(I.sl p hp).2 i hi
  rcases hc with rfl|rfl
  ·exact this m1
  ·exact this m2
end Go.Mx
namespace Go.Mx
open Go Go.Proofs
set_option maxRecDepth 1000000
def A.b60:MCode:=.seq (.reg [⟨(some 1),.box 78 (.tmp 0),none⟩,⟨(some 2),.alloc [(.int .i64 0),(.int .i64 0),.nilslice] 78,none⟩])
 (.seq (.reg [⟨(some 4),.faddr 2 (.tmp 1),none⟩,ld 5 4,ln 6 5,⟨(some 7),.mkslice 47 1 16 [(.str [])] (.tmp 6) (.tmp 6),none⟩,mv 3 7])
 (.seq (.reg [mv 8 3,⟨(some 9),.faddr 2 (.tmp 1),none⟩,ld 10 9,⟨(some 11),.copy 1 (.tmp 8) (.tmp 10),none⟩])
 (.seq (.reg [mv 12 3,⟨(some 13),.faddr 2 (.tmp 1),none⟩,so 13 12])
 (.seq (.reg [⟨(some 14),.load (some 3) (.tmp 1),none⟩,⟨none,.store 3 (.tmp 2) (.tmp 14),none⟩])
 (.ret)))))
theorem A.c60:cFunc Tryz.prog 60=some ⟨15,[.cell 2 (some 3)],A.b60⟩:=by kernel_rfl
def A.k60{K Q f c args st}:=@A.kk 60 _ _ _ A.c60 rfl K Q f c args st
def A.b61:MCode:=.seq (.reg [⟨(some 6),.mov (.const .nilslice),none⟩])
 (.seq (.reg [mv 8 0,mv 9 1,mv 10 2,mv 11 0,ln 12 11,⟨(some 13),.sliceSl 3 (.tmp 8) (some (.tmp 9)) (some (.tmp 10)) (some (.tmp 12)),none⟩])
 (.seq (.seq (.reg [mv 14 1,mv 15 2,⟨(some 16),.bin .eql (.prim .int) false (.tmp 14) (.tmp 15),none⟩])
 (.cond (.tmp 16)
 (.seq (.reg [mv 17 0,mv 6 17])
 (.ret))
 (.skip)))
 (.seq (.reg [mv 18 0,ln 19 18,mv 7 19])
 (.seq (.regD [mv 20 0,mv 21 1,⟨(some 22),.sliceSl 3 (.tmp 20) none (some (.tmp 21)) none,none⟩,mv 23 0,mv 24 2,⟨(some 25),.sliceSl 3 (.tmp 23) (some (.tmp 24)) none none,none⟩,⟨(some 26),.append 3 40 78 [(.int .i64 0),(.int .i64 0),.nilslice] (.tmp 22) (.tmp 25),none⟩,mv 0 26] [0,0,3,0,0,24,63,127])
 (.seq (.reg [mv 27 0,mv 28 0,ln 29 28,mv 30 7,⟨(some 31),.sliceSl 3 (.tmp 27) (some (.tmp 29)) (some (.tmp 30)) none,none⟩,⟨none,.clear 3 [(.int .i64 0),(.int .i64 0),.nilslice] (.tmp 31),none⟩])
 (.seq (.reg [mv 32 0,mv 6 32])
 (.ret)))))))
theorem A.c61:cFunc Tryz.prog 61=some ⟨33,[.tmp 6],A.b61⟩:=by kernel_rfl
def A.k61{K Q f c args st}:=@A.kk 61 _ _ _ A.c61 rfl K Q f c args st
theorem drain_ok{h:T O}{N:Nat}{S:RS}{j:Nat}{l:Lr}(I:RI h N S)(hj:S.ls[j]?=some l)(hl:S.ls.length<1000)(hb:l.buf.length<1000):FnD A.C (·∈S.ids) 29 [.ptr S.R 0,.chan l.C] h N (fun v h' n'=>∃u,v=.tup [u,.int .i64 l.lost,.int .i64 0]∧Sn 2 h' n' u (l.buf.map ncC)∧(∀i∈rowV u,N≤i)∧RI h' n' {S with ls:=S.ls.set j {l with buf:=[],lost:=0}}):=by
 intro w
 have hm:=List.mem_of_getElem? hj
 obtain⟨m1,m2⟩:=RI.mL hm
 have hLC:=I.LC hj
 rw[call_run,A.k29 (by simp)]
 simp(disch:=first|(simp;done)|omega|rfl) [-getElem?_pos,A.b29]
 refine run_fn (at_fn I (.inr ⟨l.C,_,_,rfl,I.lt _ m2,(I.l l hm).2⟩) hl) ?_
 rintro _ h1 n1 k1 rfl
 have hat:=lsAt_of I hj
 have hz:¬(j:Int)<0:=by omega
 have hj2:=lt_of_get hj
 have I1:=I.keep k1.upd (D:=fun _=>False) (by simp) (by simp)
 have hr:=I1.r
 unfold RS.cells at hr
 have gL:=(I1.l l hm).1
 have gC:=(I1.l l hm).2
 unfold Lr.cells at gL
 have hvl:=I1.vl.sn (N:=n1) fun i hi=>I1.lt i (RI.ml hi)
 have hlen:=I1.vl.len
 rw[List.length_map]at hlen
 obtain⟨i,o,c,e,rw,x1,x2,x3,x4⟩:=hvl.at (j:=j) (x:=ptC l) (by rw[List.getElem?_map,hj];rfl)
 have x5:=slc_get x4 (f:=0) (by omega)
 simp[ptC]at x5
 have y1:=I1.lt _ m1
 have y2:=I1.lt _ m2
 have j1:(j:Int)<(S.ls.length:Int):=by omega
 simp(disch:=first|(simp;done)|omega|rfl) [-getElem?_pos,hat,hz,eqPrim,hr,hlen,j1,hj2,x1,x3,x5,gL,partV,splice,storeK2]
 have hH:=I1.setL hj (l':={l with lost:=0}) rfl rfl (Upd.refl.set (o:=.cells [.chan l.C,.int .i64 l.last.1,.int .i64 l.last.2,.int .i64 0] 151 true) (.inl (.inl rfl))) (by rw[T.get_set,if_pos rfl];rfl) (by show T.get (T.set h1 l.L _) l.C=_;rw[T.get_set,if_neg (fun hc=>hLC hc.symm)];exact gC)
 have hj':(S.ls.set j {l with lost:=0})[j]?=some {l with lost:=0}:=List.getElem?_set_self hj2
 refine run_fnD (ldrain_fn (L:=l.L) (C:=l.C) (cap:=l.cap) (buf:=l.buf) (by rw[T.get_set,if_pos rfl]) (by rw[T.get_set,if_neg (fun hc=>hLC hc.symm)];exact gC) y1 y2 hLC hb) ?_
 rintro v h2 n2 w2 hw2 U2 ⟨q1,q2,q3⟩
 have I2:=hH.setL hj' (l':={l with lost:=0,buf:=[]}) rfl rfl (U2.mono fun i _ hi=>.inr hi) ((U2.get l.L y1 hLC).trans (by rw[T.get_set,if_pos rfl];rfl)) q3
 simp only[List.set_set]at I2
 have kle:=k1.le
 have kle2:=U2.le
 simp(disch:=first|(simp;done)|omega|rfl) [-getElem?_pos, -oldIds]
 refine retD_fin ?_ ?_ ?_
 ·intro i hi hN
  rcases hw2 i hi with hi|rfl
  ·simp at hi;rw[hi];exact m1
  ·exact m2
 ·refine(k1.upd.set (i:=l.L) (.inl m1)).then U2 fun i _ hi=>by rw[hi];exact m2
 ·exact⟨v,rfl,q1.sn fun i hi=>(q2 i hi).2,fun i hi=>by have:=(q2 i hi).1;omega,I2⟩
theorem clone_fn{h:T O}{N:Nat}{x:Rc}{u:V}(hu:Sl h N u (strs x.vs))(hl:x.vs.length<100000):Fn A.C 60 [.agg [.int .i64 x.f,.int .i64 x.t,u]] h N (fun v h' n'=>∃u',v=.agg (rcC (x,u'))∧Sl h' n' u' (strs x.vs)∧(∀i∈rowV u',N≤i)∧∀i∈rowV u',∃z w,h'.get i=some (.cells z 47 w)):=by
 intro w
 have o1:=hu.form.one
 have o2:=hu.form.cells
 unfold V.one at o1
 unfold V.cells at o2
 have hlen:=hu.len
 rw[strs_len]at hlen
 have k0:Keeps h N ((h.set N (.cells [.int .i64 x.f,.int .i64 x.t,u] 78 true)).set (N+1) (.cells [.int .i64 0,.int .i64 0,.nilslice] 78 true)) (N+1+1):=(Keeps.refl.new _).new _
 have k1:=k0.new (.cells (zrep [.str []] x.vs.length) 47 true)
 have hs:=fun w=>src_sl (w:=w) (hu.keep k1)
 rw[strs_len]at hs
 have hz:zrep [V.str []] x.vs.length=List.replicate x.vs.length (.str []):=zrep_1
 have a1:(16:Int)*(x.vs.length:Int)≤140737488355328:=by omega
 have a2:(x.vs.length:Int)<4611686018427387904:=by omega
 rw[call_run,A.k60 (by simp)]
 by_cases hn:x.vs.length=0
 ·have hv:x.vs=[]:=List.eq_nil_of_length_eq_zero hn
  have hs':=hs []
  rw[hv]at hs' hlen
  have hz0:zrep [V.str []] 0=[]:=by rw[zrep_1];rfl
  simp only[List.length_nil,hz0]at hs' hlen
  simp(disch:=first|(simp;done)|omega|rfl) [-getElem?_pos,A.b60,o1,o2,hlen,splice,storeK2,partV,slc,copyK_nil hs',hz0,Ret]
  refine⟨?_,.slice (N+1+1) 0 0 (some 0) 1,rfl,?_,by simp[rowV];omega,by simp[rowV]⟩
  ·exact(((((Keeps.refl.new _).new _).new _).set (Nat.le_refl _)).set (by omega))
  ·rw[hv]
   exact .inr ⟨N+1+1,0,some 0,[],47,true,rfl,by omega,by simp,by simp[strs],by simp[strs],by simp[strs]⟩
 ·have hn':0<x.vs.length:=by omega
  have hs':=hs []
  have hcp:=copyK_full (i:=N+1+1) (cp:=some x.vs.length) hn' hs' (strs_len _) (by rw[T.get_set,if_pos rfl]) (by rw[hz];simp)
  simp(disch:=first|(simp;done)|omega|rfl) [-getElem?_pos,A.b60,o1,o2,hlen,splice,storeK2,partV,slc,a1,a2,hcp,Ret]
  refine⟨?_,.slice (N+1+1) 0 x.vs.length (some x.vs.length) 1,rfl,?_,by simp[rowV];omega,by simp[rowV]⟩
  ·exact((((((Keeps.refl.new _).new _).new _).set (by omega)).set (Nat.le_refl _)).set (by omega))
  ·refine .inr ⟨N+1+1,0,some x.vs.length,strs x.vs,47,true,by simp,by omega,by simp,by simp,by simp,by simp⟩
theorem delete_fn{h:T O}{N:Nat}{v:V}{l:List (List V)}{k:Nat}(s:Row 3 78 h v l)(hN:∀i∈rowV v,i<N)(hk:k<l.length)(hl:l.length<100000):FnD A.C (·∈rowV v) 61 [v,.int .i64 k,.int .i64 ((k:Int)+1)] h N (fun u h' n'=>n'=N∧rowV u=rowV v∧Row 3 78 h' u (l.take k++l.drop (k+1))):=by
 intro w
 obtain⟨v1,v2,v3,v4,h3,h4,w3,E⟩:=del_row (N:=N) (bytes:=40) (zero:=[.int .i64 0,.int .i64 0,.nilslice]) s (by decide) rfl hk (by omega)
 obtain⟨u0,ea⟩:=E.a []
 have eb:=E.b []
 have ec:=E.c []
 have ed:=E.d []
 have ef:=E.f (oldIds N w3)
 obtain⟨i,hi,eg⟩:=E.g (oldIds N w3)
 have hlen:=s.len
 have hlen3:=E.len
 have hne:¬(k:Int)=(k:Int)+1:=by omega
 simp only[List.append_nil]at ed
 rw[call_run,A.k61 (by simp)]
 simp(disch:=first|(simp;done)|omega|rfl) [-getElem?_pos, -oldIds,A.b61,hlen,hne,eqPrim,op_sliceSl_K,evOpt,ea,eb,ec,ed,hlen3,ef,op_clear_K,eg]
 refine retD_fin ?_ E.upd ⟨rfl,E.ids,E.row⟩
 intro j hj hN
 rcases List.mem_cons.1 hj with rfl|hj
 ·exact hi
 ·exact E.w _ (mem_old hj).1
end Go.Mx
