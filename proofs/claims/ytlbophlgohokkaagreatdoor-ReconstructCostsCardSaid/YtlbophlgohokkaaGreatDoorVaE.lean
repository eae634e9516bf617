/-
  CheckWeights, LargeRow.
-/
import Derived.Test.YtlbophlgohokkaaGreatDoorVaA
set_option linter.all false
namespace Go.Mx
open Go Go.Proofs
set_option maxRecDepth 1000000
def A.lb17_0:Zae:=.seq (sr [mv 13 7,mv 14 0,ln 15 14,bi 16 .lss 13 15]
 (cd 16
 (.skip)
 (.exit 0)))
 (.seq (.block 1 (.seq (sr [mv 19 0,mv 20 7,ia 21 1 19 20,ld 22 21,c1 23 93 22,mv 8 23]
 (sr [mv 24 8,ni 25 24 0]
 (cd 25
 (sr [mv 26 8,mv 6 26]
 (.ret))
 (.skip))))
 (sr [mv 27 0,mv 28 7,ia 29 1 27 28,ld 30 29,c1 31 94 30,mv 32 2,bi 33 .lss 31 32]
 (cd 33
 (sr [mc 6 3]
 (.ret))
 (.skip)))))
 (.reg [mv 17 7,bc 18 .add 17 1,mv 7 18]))
def A.b17:Zae:=sr [mc 6 0]
 (.seq (sr [mv 9 0,ln 10 9,mv 11 1,⟨(some 12),.bin .neq (.prim .int) false (.tmp 10) (.tmp 11),none⟩]
 (cd 12
 (sr [mc 6 2]
 (.ret))
 (.skip)))
 (.seq (sr [mc 7 0]
 (.block 0 (.loop A.lb17_0)))
 (sr [mc 6 0]
 (.ret))))
theorem A.c17:A.F 17=some ⟨34,[.tmp 6],A.b17⟩:=by kernel_rfl
def A.k17:=@A.kk 17 _ _ _ A.c17 rfl
def A.lb97_0:Zae:=.seq (sr [mv 4 3,mv 5 0,ln 6 5,bi 7 .lss 4 6]
 (cd 7
 (.skip)
 (.exit 0)))
 (.seq (.block 1 (sr [mv 10 0,mv 11 3,ia 12 1 10 11,ld 13 12,c1 14 110 13,ni 15 14 0]
 (cd 15
 (sr [mc 2 4]
 (.ret))
 (.skip))))
 (.reg [mv 8 3,bc 9 .add 8 1,mv 3 9]))
def A.b97:Zae:=sr [mc 2 0]
 (.seq (sr [mc 3 0]
 (.block 0 (.loop A.lb97_0)))
 (sr [mc 2 0]
 (.ret)))
theorem A.c97:A.F 97=some ⟨16,[.tmp 2],A.b97⟩:=by kernel_rfl
def A.k97:=@A.kk 97 _ _ _ A.c97 rfl
def Zgj(least:Int)(s:Str):Int:=if chkNum s=0 then (if sg3 (Zqe s).num<least then 3 else 0) else ((chkNum s:Nat):Int)
def Zso(l:List Str)(n:Nat)(least:Int):Int:=if l.length=n then Zak (l.map (Zgj least)) else 2
theorem Yns{h:T O}{N:Nat}{v:V}{l:List Str}{n:Nat}{z:Int}(hs:Sl h N v (strs l))(hl:l.length<100000)(hf0:∀s∈l,s.length≤100000):Fn A.C 17 [v,.int .i64 n,.int .i64 z] h N (fun u _ _=>u=.int .i64 (Zso l n z)):=by
 intro w
 have hlen:=hs.len
 rw[Zb3]at hlen
 rw[Zaa,A.k17 (by simp)]
 by_cases c:l.length=n
 ·have e1:Zso l n z=Zak (l.map (Zgj z)):=by simp[Zso,c]
  rw[e1]
  subst c
  simp[A.b17,hlen]
  refine Zaj [(6,8),(13,33)] (fun e r st=>Zac N st.w=[]∧Keeps h N st.h st.n∧((e=.exit 0∧Zak (l.map (Zgj z))=0)∨(e=.ret∧r.get 6=some (.int .i64 (Zak (l.map (Zgj z))))))) (fun m r st=>Zac N st.w=[]∧Keeps h N st.h st.n∧∃k,k+m=l.length∧r.get 7=some (.int .i64 k)∧Zak (l.map (Zgj z))=Zak ((l.drop k).map (Zgj z))) l.length ?_ ?_ ?_
  ·exact⟨by simp,Keeps.refl,0,by omega,by simp,by simp⟩
  ·rintro m r ⟨H,n1,W⟩ hr hf ⟨hW,hK,k,hk,h7,hz⟩
   simp only at hW hK
   rw[Zah]
   cases m with
   |zero=>
    obtain rfl:k=l.length:=by omega
    rw[Ysq,Ytn,Zak]at hz
    simp[A.lb17_0,hr,hf,h7,hlen,hz,hW,hK]
   |succ m=>
    have hlt:k<l.length:=by omega
    obtain⟨s,hc⟩:=Zag hlt
    have hc2:=Zf2 hc
    obtain⟨i,o,cc,e,rw,q1,q2,q3,q4⟩:=(hs.keep hK).at hc2
    rw[Zao hc,Yso,Zak]at hz
    have hk1:(k:Int)<(l.length:Int):=by omega
    simp[A.lb17_0,hr,h7,hk1,hlen,q1,q3,q4]
    refine Zab (Zqy (hf0 s (Yrv hc))) ?_
    rintro _ h3 n3 k3 rfl
    have kk:=hK.trans k3
    by_cases h0:chkNum s=0
    ·obtain⟨t1,_⟩:=Zkx h0
     obtain⟨i',o',cc',e',rw',p1,p2,p3,p4⟩:=(hs.keep kk).at hc2
     rw[←t1]at p4
     have h0':((chkNum s:Nat):Int)=0:=by omega
     by_cases h2:sg3 (Zqe s).num<z
     ·have e2:Zgj z s=3:=by simp[Zgj,h0,h2]
      rw[e2,Yrq (by decide)]at hz
      simp[hr,hf,h7,h0,hW,hk1,hlen,p1,p3,p4,Zph,h2,hz]
      exact kk
     ·have e2:Zgj z s=0:=by simp[Zgj,h0,h2]
      rw[e2,Yru rfl]at hz
      simp(disch:=first|(simp;done)|omega|rfl) [hr,hf,h7,h0,hW,hlen,p1,p3,p4,Zph,h2]
      exact⟨m,by omega,kk,k+1,by omega,by simp,by simpa using hz⟩
    ·have e2:Zgj z s=((chkNum s:Nat):Int):=by simp[Zgj,h0]
     have h0':¬((chkNum s:Nat):Int)=0:=by omega
     rw[e2,Yrq h0']at hz
     simp[hf,h0,hW,hz]
     exact kk
  ·rintro _ r ⟨H,n1,W⟩ hr ⟨hW,hK,⟨rfl,hz⟩|⟨rfl,h2⟩⟩
   ·simp only at hW hK
    simp[hz,Ret,hW,hK]
   ·simp only at hW hK
    simp[h2,Ret,hW,hK]
 ·have c':¬(l.length:Int)=(n:Int):=by omega
  simp[A.b17,hlen,c',Zso,c,Ret]
  exact Keeps.refl
def Zcd(l:List Rat):Bool:=l.any Zwg
theorem Zt3{h:T O}{N:Nat}{v:V}{l:List Rat}{w:List Nat}(hs:Tx h N v l)(hl:l.length<100000)(hf0:∀q∈l,(Za1 q).length<1000000):A.C.call (.func 97 [] []) [v] ⟨h,N,w⟩=some (.int .i64 (if Zcd l=true then 4 else 0),⟨h,N,w⟩):=by
 apply Call.eq
 have hlen:=hs.len
 rw[Zaa,A.k97 (by simp)]
 simp[A.b97]
 refine Zaj [(2,15)] (fun e r st=>st=⟨h,N,[]⟩∧((e=.exit 0∧Zcd l=false)∨(e=.ret∧Zcd l=true∧r.get 2=some (.int .i64 4)))) (fun m r st=>st=⟨h,N,[]⟩∧∃k,k+m=l.length∧r.get 3=some (.int .i64 k)∧Zcd l=Zcd (l.drop k)) l.length ?_ ?_ ?_
 ·exact⟨rfl,0,by omega,by simp,by simp⟩
 ·rintro m r _ hr hf ⟨rfl,k,hk,h7,hz⟩
  rw[Zah]
  cases m with
  |zero=>
   obtain rfl:k=l.length:=by omega
   rw[Ysq]at hz
   simp[Zcd]at hz
   simp[A.lb97_0,hr,hf,h7,hlen]
   simpa[Zcd]using hz
  |succ m=>
   have hlt:k<l.length:=by omega
   obtain⟨q,hc⟩:=Zag hlt
   obtain⟨i,o,cc,e,rw,q1,q2,q3,q4⟩:=Sl.at hs (Zjd hc)
   rw[Zao hc]at hz
   have hk1:(k:Int)<(l.length:Int):=by omega
   have hlg:=fun st=>Zm2 (st:=st) (hf0 q (Yrv hc))
   by_cases h0:Zwg q=true
   ·have e1:Zcd l=true:=by rw[hz];simp[Zcd,h0]
    rw[Yru h0]at hlg
    simp[A.lb97_0,hr,hf,h7,hk1,hlen,q1,q3,q4,hlg,e1]
   ·have e1:Zcd l=Zcd (l.drop (k+1)):=by rw[hz];simp[Zcd,h0]
    rw[Yrq h0]at hlg
    simp(disch:=first|(simp;done)|omega|rfl) [A.lb97_0,hr,hf,h7,hk1,hlen,q1,q3,q4,hlg]
    exact⟨m,by omega,k+1,by omega,by simp,e1⟩
 ·rintro _ r _ hr ⟨rfl,⟨rfl,hz⟩|⟨rfl,hz,h2⟩⟩
  ·simp[hz]
  ·simp[h2,hz]
variable {N:Nat} {h:T O}
def A.lb84_0:Zae:=sr [bi 11 .lss 10 9]
 (.seq (cd 11
 (.skip)
 (.exit 0))
 (.seq (.block 1 (sr [ia 12 1 8 10,ld 13 12,mv 6 13]
 (sr [mv 14 1,mv 15 6,⟨(some 16),.call (.tmp 14) [(.tmp 15)],none⟩,mv 7 16]
 (sr [mv 17 7,ni 18 17 0]
 (cd 18
 (sr [mv 19 7,mv 4 19]
 (.ret))
 (.skip))))))
 (.reg [bc 20 .add 10 1,mv 10 20])))
def A.b84:Zae:=sr [mc 4 0]
 (.seq (sr [mv 8 0,ln 9 8,mc 10 0]
 (.block 0 (.loop A.lb84_0)))
 (sr [mc 4 0]
 (.ret)))
theorem A.c84:A.F 84=some ⟨21,[.tmp 4],A.b84⟩:=by kernel_rfl
def A.k84:=@A.kk 84 _ _ _ A.c84 rfl
def A.b68:Zae:=sr [mc 4 0]
 (.seq (sr [mv 5 0,ln 6 5,mv 7 1,⟨(some 8),.bin .neq (.prim .int) false (.tmp 6) (.tmp 7),none⟩]
 (cd 8
 (sr [mc 4 2]
 (.ret))
 (.skip)))
 (sr [mv 9 0,⟨(some 10),.call (.const (.func 84 [] [])) [(.tmp 9),(.const (.func 151 [] []))],none⟩,mv 4 10]
 (.ret)))
theorem A.c68:A.F 68=some ⟨11,[.tmp 4],A.b68⟩:=by kernel_rfl
def A.k68:=@A.kk 68 _ _ _ A.c68 rfl
def A.b85:Zae:=sr [bx 1 3 0,⟨(some 2),.mov (.const .nilfunc),none⟩]
 (sr [⟨(some 3),.mkfunc 155 [] [(.tmp 1)],none⟩,mv 2 3]
 (.ret))
theorem A.c85:A.F 85=some ⟨4,[.tmp 2],A.b85⟩:=by kernel_rfl
def A.k85:=@A.kk 85 _ _ _ A.c85 rfl
def A.b155:Zae:=sr [mc 3 0]
 (.seq (sr [mv 5 0,c1 6 151 5,mv 4 6]
 (sr [mv 7 4,ni 8 7 0]
 (cd 8
 (sr [mv 9 4,mv 3 9]
 (.ret))
 (.skip))))
 (.seq (.regD [mv 10 0,c1 11 146 10,c1 12 128 11,ld 13 1,bi 14 .lss 12 13,⟨(some 15),.call (.const (.func 75 [] [])) [(.tmp 14),(.const (.int .i64 3))],none⟩,mv 3 15] [0,1,3,0,15,31,63])
 (.ret)))
theorem A.c155:A.F 155=some ⟨16,[.tmp 3],A.b155⟩:=by kernel_rfl
def A.k155:=@A.kk 155 _ _ _ A.c155 rfl
theorem Yci{v f:V}{l:List Str}(P:Str→Int)(hs:Sl h N v (strs l))(hl:l.length<100000)(hf:∀s∈l,∀h' n',Keeps h N h' n'→FnV A.C f [.str s] h' n' (fun u _ _=>u=.int .i64 (P s))):Fn A.C 84 [v,f] h N (fun u _ _=>u=.int .i64 (Zak (l.map P))):=by
 intro w
 have hlen:=hs.len
 rw[Zb3]at hlen
 rw[Zaa,A.k84 (by simp)]
 simp[A.b84,hlen]
 refine Zaj [(4,4),(6,7),(10,20)] (fun e r st=>Zac N st.w=[]∧Keeps h N st.h st.n∧((e=.exit 0∧Zak (l.map P)=0)∨(e=.ret∧r.get 4=some (.int .i64 (Zak (l.map P)))))) (fun m r st=>Zac N st.w=[]∧Keeps h N st.h st.n∧∃k,k+m=l.length∧r.get 10=some (.int .i64 k)∧Zak (l.map P)=Zak ((l.drop k).map P)) l.length ?_ ?_ ?_
 ·exact⟨by simp,Keeps.refl,0,by omega,by simp,by simp⟩
 ·rintro m r ⟨H,n1,W⟩ hr hf2 ⟨hW,hK,k,hk,h7,hz⟩
  simp only at hW hK
  rw[Zah]
  cases m with
  |zero=>
   obtain rfl:k=l.length:=by omega
   rw[Ysq,Ytn,Zak]at hz
   simp[A.lb84_0,hr,hf2,h7,hz,hW,hK]
  |succ m=>
   have hlt:k<l.length:=by omega
   obtain⟨s,hc⟩:=Zag hlt
   obtain⟨i,o,cc,e,rw,q1,q2,q3,q4⟩:=(hs.keep hK).at (Zf2 hc)
   rw[Zao hc,Yso,Zak]at hz
   have hk1:(k:Int)<(l.length:Int):=by omega
   simp[A.lb84_0,hr,h7,hk1,hlen,q1,q3,q4]
   refine Zkn (hf s (Yrv hc) _ _ hK) ?_
   rintro _ h3 n3 k3 rfl
   have kk:=hK.trans k3
   by_cases h0:P s=0
   ·rw[Yru h0]at hz
    simp(disch:=first|(simp;done)|omega|rfl) [hf2,h7,h0,hW]
    exact⟨m,by omega,kk,k+1,by omega,by simp,by simpa using hz⟩
   ·rw[Yrq h0]at hz
    simp[hf2,h0,hW,hz]
    exact kk
 ·rintro _ r ⟨H,n1,W⟩ hr ⟨hW,hK,⟨rfl,hz⟩|⟨rfl,h2⟩⟩
  ·simp only at hW hK
   simp[hz,Ret,hW,hK]
  ·simp only at hW hK
   simp[h2,Ret,hW,hK]
theorem Zg0{v:V}{l:List Str}{n:Nat}(hs:Sl h N v (strs l))(hl:l.length<100000)(hf0:∀s∈l,s.length≤100000):Fn A.C 68 [v,.int .i64 n] h N (fun u _ _=>u=.int .i64 (Zb1 l n)):=by
 intro w
 have hlen:=hs.len
 rw[Zb3]at hlen
 rw[Zaa,A.k68 (by simp)]
 by_cases c:l.length=n
 ·subst c
  simp[A.b68,hlen]
  refine Zab (Yci (fun s=>((chkNum s:Nat):Int)) hs hl fun s hs h' n' _=>Zv8 (hf0 s hs)) ?_
  rintro _ H2 n2 k2 rfl
  simp[Ret,Zb1]
  exact k2
 ·have c':¬(l.length:Int)=(n:Int):=by omega
  simp[A.b68,hlen,c',Zb1,c,Ret]
  exact Keeps.refl
theorem Zwv{q:Nat}{s:Str}{z:Int}{e:TypeId}{rw:Bool}(hq:h.get q=some (.cells [.int .i64 z] e rw))(hlt:q<N)(hl:s.length≤100000):FnV A.C (.func 155 [] [.ptr q 0]) [.str s] h N (fun u _ _=>u=.int .i64 (Zgj z s)):=by
 intro w
 rw[Zaa,A.k155 (by simp)]
 simp[A.b155]
 refine Zab (Zv8 hl) ?_
 rintro _ h2 n2 k2 rfl
 by_cases h0:chkNum s=0
 ·have h0':((chkNum s:Nat):Int)=0:=by omega
  obtain⟨t1,t2,t3⟩:=Zkx h0
  have l1:(decI (Zqe s).num).length≤100000:=by
   have:(decI (Zqe s).num).length≤(decN (Zqe s).num.natAbs).length+1:=by unfold decI;split<;>simp
   omega
  have hq2:=(k2.get q hlt).trans hq
  have hfr:=Ycb (q:=Zqe s) (h:=h2) (N:=n2) l1 (by omega)
  rw[t1]at hfr
  simp[h0]
  refine Zab hfr ?_
  rintro x3 h3 n3 k3 hx
  have kl2:=k2.le
  have hq3:=(k3.get q (by omega)).trans hq2
  simp[]
  refine Zab (Yfx hx) ?_
  rintro _ h4 n4 k4 rfl
  have kl3:=k3.le
  have hq4:=(k4.get q (by omega)).trans hq3
  have kl4:=k4.le
  have d4:q<n4:=by omega
  by_cases h5:sg3 (Zqe s).num<z
  ·simp[hq4,h5,Zey,Zgj,h0]
   refine(Zfo (by simp[-Zac,d4])).2 ?_
   simp[Ret]
   exact(k2.trans k3).trans k4
  ·simp[hq4,h5,Zey,Zgj,h0]
   refine(Zfo (by simp[-Zac,d4])).2 ?_
   simp[Ret]
   exact(k2.trans k3).trans k4
 ·have h0':¬((chkNum s:Nat):Int)=0:=by omega
  simp[h0,Ret,Zgj]
  exact k2
set_option maxHeartbeats 1000000
def A.b200:Zae:=sr [⟨(some 2),.alloc [(.int .i64 0),(.int .i64 0)] 151,none⟩]
 (sr [mv 3 0,ln 4 3,mv 5 0,⟨(some 6),.iaddrSl 1 (.tmp 5) (.const (.int .i64 0)),none⟩,ld 7 6,ln 8 7,⟨(some 9),.build [(.int .i64 0),(.int .i64 0)] [(0,1,(.tmp 4)),(1,1,(.tmp 8))],none⟩,⟨none,.store 2 (.tmp 2) (.tmp 9),none⟩]
 (.ret))
theorem A.c200:A.F 200=some ⟨10,[.cell 2 (some 2)],A.b200⟩:=by kernel_rfl
def A.k200:=@A.kk 200 _ _ _ A.c200 rfl
def A.lb131_0:Zae:=sr [bi 36 .lss 35 34]
 (.seq (cd 36
 (.skip)
 (.exit 0))
 (.seq (.block 1 (sr [ia 37 1 33 35,ld 38 37,mv 7 38]
 (sr [mv 39 7,⟨(some 40),.iaddrArr 2 1 (.tmp 5) (.const (.int .i64 1)),none⟩,ld 41 40,c2 42 68 39 41,mv 8 42]
 (sr [mv 43 8,ni 44 43 0]
 (cd 44
 (sr [mv 45 8,mv 4 45]
 (.ret))
 (.skip))))))
 (.reg [bc 46 .add 35 1,mv 35 46])))
def A.b131:Zae:=sr [bx 3 151 1,mc 4 0]
 (.seq (sr [mv 9 0,ln 10 9,ei 11 10 0,mv 12 11,mh 13 0 12,⟨(some 14),.iaddrSl 1 (.tmp 13) (.const (.int .i64 0)),(some (12,false))⟩,⟨(some 15),.load none (.tmp 14),(some (12,false))⟩,⟨(some 16),.len 1 (.tmp 15),(some (12,false))⟩,⟨(some 17),.bin .eql (.prim .int) true (.tmp 16) (.const (.int .i64 0)),(some (12,false))⟩,pt 18 12 17]
 (cd 18
 (sr [mc 4 12]
 (.ret))
 (.skip)))
 (sr [mv 19 0,c1 20 200 19,⟨(some 5),.alloc [(.int .i64 0),(.int .i64 0)] 151,none⟩,⟨none,.store 2 (.tmp 5) (.tmp 20),none⟩]
 (.seq (sr [⟨(some 21),.iaddrArr 2 1 (.tmp 5) (.const (.int .i64 0)),none⟩,ld 22 21,⟨(some 23),.iaddrArr 2 1 (.tmp 3) (.const (.int .i64 0)),none⟩,ld 24 23,bi 25 .gtr 22 24,mv 26 25,⟨(some 27),.iaddrArr 2 1 (.tmp 5) (.const (.int .i64 1)),(some (26,false))⟩,⟨(some 28),.load none (.tmp 27),(some (26,false))⟩,⟨(some 29),.iaddrArr 2 1 (.tmp 3) (.const (.int .i64 1)),(some (26,false))⟩,⟨(some 30),.load none (.tmp 29),(some (26,false))⟩,⟨(some 31),.bin .gtr (.node []) false (.tmp 28) (.tmp 30),(some (26,false))⟩,pt 32 26 31]
 (cd 32
 (sr [mc 4 5]
 (.ret))
 (.skip)))
 (.seq (sr [mv 33 0,ln 34 33,mc 35 0]
 (.block 0 (.loop A.lb131_0)))
 (sr [mc 4 0]
 (.ret))))))
theorem A.c131:A.F 131=some ⟨47,[.tmp 4],A.b131⟩:=by kernel_rfl
def A.k131:=@A.kk 131 _ _ _ A.c131 rfl
theorem Yd9{h:T O}{N:Nat}{v:V}{l:List (List Str)}{l0:List Str}(hs:MtS h N v l)(h0:l[0]?=some l0):Fn A.C 200 [v] h N (fun u _ _=>u=.agg [.int .i64 l.length,.int .i64 l0.length]):=by
 intro w
 have hlen:=hs.len
 have cpos:0<l.length:=Zbk h0
 have cpos':0<(l.length:Int):=by omega
 obtain⟨i0,o0,cc0,e0,rw0,u0,z1,z2,z3,z4,z5⟩:=hs.at h0
 have z6:=z5.len
 rw[Zb3]at z6
 rw[Ys9]at z4
 have d1:¬i0=N:=by omega
 have d2:¬N=i0:=by omega
 rw[Zaa,A.k200 (by simp)]
 simp[A.b200,hlen,cpos,z1,z3,z4,z6,d1,splice,Zan,Zam,slc,Ret]
 exact(Keeps.refl.new _).set (Yrr _)
theorem Yet{h:T O}{N:Nat}{v:V}{l:List (List Str)}{a b:Nat}(hs:MtS h N v l)(hl:l.length<100000)(hx:∀x∈l,x.length<100000∧∀s∈x,s.length≤100000):Fn A.C 131 [v,.agg [.int .i64 a,.int .i64 b]] h N (fun u _ _=>u=.int .i64 (Zhh l a b)):=by
 intro w
 have hlen:=hs.len
 rw[Zaa,A.k131 (by simp)]
 by_cases c0:l.length=0
 ·have c0':(l.length:Int)=0:=by omega
  simp[A.b131,hlen,c0,Zhh,Ret]
  exact Keeps.refl.new _
 have c0':¬(l.length:Int)=0:=by omega
 have cpos:0<l.length:=by omega
 have cpos':0<(l.length:Int):=by omega
 obtain⟨l0,hl0⟩:=Zag cpos
 obtain⟨i0,o0,cc0,e0,rw0,u0,z1,z2,z3,z4,z5⟩:=hs.at hl0
 have z6:=z5.len
 rw[Zb3]at z6
 rw[Ys9]at z4
 obtain⟨n,hn⟩:∃n,n=l0.length:=⟨_,rfl⟩
 have en:hdL l=n:=by simp[hdL,hl0,hn]
 rw[←hn]at z6
 have hn1:n<100000:=by have:=(hx l0 (Yrv hl0)).1;omega
 have d1:¬i0=N:=by omega
 have d2:¬N=i0:=by omega
 by_cases c1:n=0
 ·have c1':(n:Int)=0:=by omega
  simp[A.b131,hlen,c0,cpos,z1,z3,z4,z6,d1,c1,Zhh,en,Ret]
  exact Keeps.refl.new _
 have c1':¬(n:Int)=0:=by omega
 have e1:Zhh l a b=if a<l.length∨b<n then 5 else Zak (l.map fun x=>Zb1 x n):=by simp[Zhh,en,c0,c1]
 rw[e1]
 simp[A.b131,hlen,c0,cpos,z1,z3,z4,z6,d1,c1]
 generalize hH:h.set N (.cells [.int .i64 a,.int .i64 b] 151 true)=H
 have k1:Keeps h N H (N+1):=by rw[←hH];exact Keeps.refl.new _
 have g1:H.get N=some (.cells [.int .i64 a,.int .i64 b] 151 true):=by rw[←hH];simp
 clear hH
 refine Zab (Yd9 (hs.keep k1) hl0) ?_
 rintro _ H2 n2 k2 rfl
 rw[←hn]
 have kl2:=k2.le
 have g2:=(k2.get N (by omega)).trans g1
 have d3:¬N=n2:=by omega
 have d4:¬n2=N:=by omega
 have kz:Keeps h N ((H2.set n2 (.cells [.int .i64 0,.int .i64 0] 151 true)).set n2 (.cells [.int .i64 l.length,.int .i64 n] 151 true)) (n2+1):=((k1.trans k2).new _).set (by omega)
 by_cases c2:a<l.length
 ·have c2':(a:Int)<(l.length:Int):=by omega
  simp[g2,d3,splice,Zan,Zam,c2,c2',Ret]
  exact⟨by omega,kz⟩
 have c2':¬(a:Int)<(l.length:Int):=by omega
 by_cases c3:b<n
 ·have c3':(b:Int)<(n:Int):=by omega
  simp[g2,d3,splice,Zan,Zam,c2,c2',c3,c3',Ret]
  exact⟨by omega,kz⟩
 have c3':¬(b:Int)<(n:Int):=by omega
 simp[hlen,g2,d3,splice,Zan,Zam,c2,c2',c3,c3']
 generalize hH3:(H2.set n2 (.cells [.int .i64 0,.int .i64 0] 151 true)).set n2 (.cells [.int .i64 l.length,.int .i64 n] 151 true)=H3 at*
 have g3:H3.get n2=some (.cells [.int .i64 l.length,.int .i64 n] 151 true):=by rw[←hH3];simp
 clear hH3
 have kd:Keeps H3 (n2+1) H3 (n2+1):=Keeps.refl
 refine Zaj [(4,4),(7,8),(35,46)] (fun e r st=>Zac N st.w=[]∧Keeps h N st.h st.n∧((e=.exit 0∧Zak (l.map (fun x=>Zb1 x n))=0)∨(e=.ret∧r.get 4=some (.int .i64 (Zak (l.map (fun x=>Zb1 x n))))))) (fun m r st=>Zac N st.w=[]∧Keeps h N st.h st.n∧(n2<st.n∧st.h.get n2=H3.get n2)∧∃k,k+m=l.length∧r.get 35=some (.int .i64 k)∧Zak (l.map (fun x=>Zb1 x n))=Zak ((l.drop k).map (fun x=>Zb1 x n))) l.length ?_ ?_ ?_
 ·exact⟨by simp;omega,kz,⟨by simp,rfl⟩,0,by omega,by simp,by simp⟩
 ·rintro m r ⟨H,n1,W⟩ hr hf2 ⟨hW,hK,⟨hlt2,hG⟩,k,hk,h7,hz⟩
  simp only at hW hK hlt2 hG
  rw[Zah]
  cases m with
  |zero=>
   obtain rfl:k=l.length:=by omega
   rw[Ysq,Ytn,Zak]at hz
   simp[A.lb131_0,hr,hf2,h7,hz,hW,hK]
  |succ m=>
   have hlt:k<l.length:=by omega
   obtain⟨s,hc⟩:=Zag hlt
   obtain⟨i,o,cc,e,rw,u,q1,q2,q3,q4,q5⟩:=(hs.keep hK).at hc
   have g4:=hG.trans g3
   rw[Zao hc,Yso,Zak]at hz
   have hk1:(k:Int)<(l.length:Int):=by omega
   simp[A.lb131_0,hr,h7,hk1,hlen,q1,q3,q4,g4]
   refine Zab (Zg0 q5 (hx s (Yrv hc)).1 (hx s (Yrv hc)).2) ?_
   rintro _ h3 n3 k3 rfl
   have kk:=hK.trans k3
   by_cases h0:Zb1 s n=0
   ·rw[Yru h0]at hz
    simp(disch:=first|(simp;done)|omega|rfl) [hf2,h7,h0,hW]
    exact⟨m,by omega,kk,⟨by have:=k3.le;omega,(k3.get n2 hlt2).trans hG⟩,k+1,by omega,by simp,by simpa using hz⟩
   ·rw[Yrq h0]at hz
    simp[hf2,h0,hW,hz]
    exact kk
 ·rintro _ r ⟨H,n1,W⟩ hr ⟨hW,hK,⟨rfl,hz⟩|⟨rfl,h2⟩⟩
  ·simp only at hW hK
   simp[hz,Ret,hW,hK]
  ·simp only at hW hK
   simp[h2,Ret,hW,hK]
def A.lb64_0:Zae:=sr [bi 9 .lss 8 7]
 (.seq (cd 9
 (.skip)
 (.exit 0))
 (.seq (.block 1 (sr [ia 10 1 6 8,ld 11 10,mv 4 11]
 (sr [mv 12 4,⟨(some 13),.call (.tmp 12) [],none⟩,mv 5 13]
 (sr [mv 14 5,ni 15 14 0]
 (cd 15
 (sr [mv 16 5,mv 2 16]
 (.ret))
 (.skip))))))
 (.reg [bc 17 .add 8 1,mv 8 17])))
def A.b64:Zae:=sr [mc 2 0]
 (.seq (sr [mv 6 0,ln 7 6,mc 8 0]
 (.block 0 (.loop A.lb64_0)))
 (sr [mc 2 0]
 (.ret)))
theorem A.c64:A.F 64=some ⟨18,[.tmp 2],A.b64⟩:=by kernel_rfl
def A.k64:=@A.kk 64 _ _ _ A.c64 rfl
theorem Zqb{h:T O}{N:Nat}{v:V}{fs:List V}{l:List Int}(hs:Sl h N v fs)(hlen0:fs.length=l.length)(hl:l.length<1000)(hf:∀(j:Nat) (f:V) (e:Int),fs[j]?=some f→l[j]?=some e→(∀(i:Nat) (x:Int),i<j→l[i]?=some x→x=0)→∀h' n',Keeps h N h' n'→FnV A.C f [] h' n' (fun u _ _=>u=.int .i64 e)):Fn A.C 64 [v] h N (fun u _ _=>u=.int .i64 (Zak l)):=by
 intro w
 have hlen:=hs.len
 rw[hlen0]at hlen
 rw[Zaa,A.k64 (by simp)]
 simp[A.b64,hlen]
 refine Zaj [(2,2),(4,5),(8,17)] (fun e r st=>Zac N st.w=[]∧Keeps h N st.h st.n∧((e=.exit 0∧Zak l=0)∨(e=.ret∧r.get 2=some (.int .i64 (Zak l))))) (fun m r st=>Zac N st.w=[]∧Keeps h N st.h st.n∧∃k,k+m=l.length∧r.get 8=some (.int .i64 k)∧Zak l=Zak (l.drop k)∧∀(i:Nat) (x:Int),i<k→l[i]?=some x→x=0) l.length ?_ ?_ ?_
 ·exact⟨by simp,Keeps.refl,0,by omega,by simp,by simp,fun i x hi=>by omega⟩
 ·rintro m r ⟨H,n1,W⟩ hr hf2 ⟨hW,hK,k,hk,h7,hz,h00⟩
  simp only at hW hK
  rw[Zah]
  cases m with
  |zero=>
   obtain rfl:k=l.length:=by omega
   rw[Ysq,Zak]at hz
   simp[A.lb64_0,hr,hf2,h7,hz,hW,hK]
  |succ m=>
   have hlt:k<l.length:=by omega
   obtain⟨s,hc⟩:=Zag hlt
   obtain⟨f,hfk⟩:=Zag (show k<fs.length by omega)
   obtain⟨i,o,cc,e,rw,q1,q2,q3,q4⟩:=(hs.keep hK).at hfk
   rw[Zao hc,Zak]at hz
   have hk1:(k:Int)<(l.length:Int):=by omega
   simp[A.lb64_0,hr,h7,hk1,hlen,q1,q3,q4]
   refine Zkn (hf k f s hfk hc h00 _ _ hK) ?_
   rintro _ h3 n3 k3 rfl
   have kk:=hK.trans k3
   by_cases h0:s=0
   ·rw[Yru h0]at hz
    simp(disch:=first|(simp;done)|omega|rfl) [hf2,h7,h0,hW]
    refine⟨m,by omega,kk,k+1,by omega,by simp,hz,fun i x hi hx=>?_⟩
    by_cases hik:i<k
    ·exact h00 i x hik hx
    ·obtain rfl:i=k:=by omega
     rw[hc]at hx
     rw[←h0]
     simpa using hx.symm
   ·rw[Yrq h0]at hz
    simp[hf2,h0,hW,hz]
    exact kk
 ·rintro _ r ⟨H,n1,W⟩ hr ⟨hW,hK,⟨rfl,hz⟩|⟨rfl,h2⟩⟩
  ·simp only at hW hK
   simp[hz,Ret,hW,hK]
  ·simp only at hW hK
   simp[h2,Ret,hW,hK]
variable {N n n':Nat} {h h':T O} {l:List Rat} {u v:V}
set_option maxHeartbeats 2000000
def A.lb154_0:Zae:=sr [bi 11 .lss 10 9]
 (.seq (cd 11
 (.skip)
 (.exit 0))
 (.seq (.block 1 (sr [ia 12 1 8 10,ld 13 12,mv 7 13]
 (.reg [mv 14 5,mv 15 1,mv 16 7,⟨(some 17),.call (.tmp 15) [(.tmp 16)],none⟩,⟨(some 18),.bslice 97 1 1 [.nilslice] [(0,1,(.tmp 17))],none⟩,⟨(some 19),.append 1 24 97 [.nilslice] (.tmp 14) (.tmp 18),none⟩,mv 5 19])))
 (.reg [bc 20 .add 10 1,mv 10 20])))
def A.b154:Zae:=sr [mN 4]
 (sr [mN 5]
 (.seq (sr [mv 8 0,ln 9 8,mc 10 0]
 (.block 0 (.loop A.lb154_0)))
 (sr [mv 21 5,mv 4 21]
 (.ret))))
theorem A.c154:A.F 154=some ⟨22,[.tmp 4],A.b154⟩:=by kernel_rfl
def A.k154:=@A.kk 154 _ _ _ A.c154 rfl
theorem Yfi{f:V}{l:List V}{Q:Nat→T O→Nat→V→Prop}(Y:V→Prop)(hQ:∀j h n h' n' c u,Q j h n c→Upd (fun i=>i∈Zeg u) h n h' n'→Zy4 97 Y h u→Q j h' n' c)(hs:Sl h N v l)(hl:l.length<1000000)(hf:∀(j:Nat) (x:V),l[j]?=some x→∀h' n',Keeps h N h' n'→FnV A.C f [x] h' n' (fun u h2 n2=>∃y,u=y∧[y].length=1∧[y].all V.one=true∧(∀q∈[y],Y q)∧Q j h2 n2 y)):Fn A.C 154 [v,f] h N (fun u h' n'=>∃out,Own 1 97 N h' n' u out∧out.length=l.length∧∀(j:Nat),j<l.length→∃y,out[j]?=some [y]∧Q j h' n' y):=by
 intro w
 have hlen:=hs.len
 rw[Zaa,A.k154 (by simp)]
 simp[A.b154,hlen]
 refine Zaj [(5,5),(7,7),(10,20)] (fun e r st=>e=.exit 0∧Zac N st.w=[]∧Keeps h N st.h st.n∧∃u out,r.get 5=some u∧Own 1 97 N st.h st.n u out∧out.length=l.length∧∀(j:Nat),j<l.length→∃y,out[j]?=some [y]∧Q j st.h st.n y) (fun m r st=>Zac N st.w=[]∧Keeps h N st.h st.n∧∃k u out,k+m=l.length∧r.get 10=some (.int .i64 k)∧r.get 5=some u∧Own 1 97 N st.h st.n u out∧out.length=k∧(out=[]→u=.nilslice)∧(∀c∈out,∀y∈c,Y y)∧∀(j:Nat),j<k→∃y,out[j]?=some [y]∧Q j st.h st.n y) l.length ?_ ?_ ?_
 ·exact⟨by simp,Keeps.refl,0,.nilslice,[],by omega,by simp,by simp,Own.nil,rfl,fun _=>rfl,by simp,fun j hj=>by omega⟩
 ·rintro m r ⟨H,n1,W⟩ hr hf2 ⟨hW,hK,k,u,out,hk,h10,h5,ho,hol,hnil,hY,hout⟩
  simp only at hW hK ho hout
  rw[Zah]
  cases m with
  |zero=>
   have hkk:k=l.length:=by omega
   subst hkk
   simp[A.lb154_0,hr,hf2,h10,hW,hK]
   exact⟨u,h5,out,ho,hol,hout⟩
  |succ m=>
   have hlt:k<l.length:=by omega
   obtain⟨x,hx⟩:=Zag hlt
   obtain⟨i,o,cc,e,rw,q1,q2,q3,q4⟩:=(hs.keep hK).at hx
   have hk1:(k:Int)<(l.length:Int):=by omega
   have kA:=hK
   simp[A.lb154_0,hr,h10,h5,hk1,hlen,q1,q3,q4]
   refine Zkn (hf k x hx _ _ kA) ?_
   rintro y h3 n3 k3 ⟨_,rfl,c1,c2,cY,c3⟩
   have kle3:=k3.le
   have kn:=hK.le
   have kB:=kA.trans k3
   have b1:V.one y=true:=by simpa using c2
   have b2:V.cells y=[y]:=by cases y<;>first|rfl|cases b1
   simp[-V.cells, -V.one,b1,b2,splice]
   have ho3:Own 1 97 N (h3.set n3 (.cells [y] 97 true)) (n3+1) u out:=(ho.keep ((Keeps.refl).trans k3)).keep (Keeps.refl.new _)
   obtain⟨v',h',w',f1,f2,f3,f4,fD,f5⟩:=Zgm (Y:=Y) (x:=[y]) (u:=.slice n3 0 1 (some 1) 1) (bytes:=24) (w:=W) ho3 hnil hY (by omega) (by decide) c1 (by simp[Za2,St.row,slc]) (by omega)
   rw[f1]
   have wok:¬n1<N:=by omega
   have f6:Zac N w'=[]:=by rw[f2];simp[hW]
   have kz:=(kB.new (.cells [y] 97 true)).then f3
   have k4:Keeps h3 n3 (h3.set n3 (.cells [y] 97 true)) (n3+1):=Keeps.refl.new _
   have hq4:Q k (h3.set n3 (.cells [y] 97 true)) (n3+1) y:=hQ _ _ _ _ _ _ .nilslice c3 k4.upd Zy4.nil
   simp(disch:=first|(simp;done)|omega|rfl) [hf2,h10,f6]
   refine⟨m,by omega,kz,k+1,by omega,by simp,out++[[y]],f5,by simp[hol],by simp,fun c' hc z hz=>?_,fun j hj=>?_⟩
   ·rcases Ys1.1 hc with hc|hc
    ·exact hY c' hc z hz
    ·simp only[Ytk]at hc;subst hc;exact cY z hz
   by_cases hjk:j<k
   ·obtain⟨y,g1,g2⟩:=hout j hjk
    exact⟨y,by rw[Ysc (by omega)];exact g1,hQ _ _ _ _ _ _ _ (hQ _ _ _ _ _ _ .nilslice g2 (((Keeps.refl).trans k3).trans k4).upd Zy4.nil) f4 fD⟩
   ·obtain rfl:j=k:=by omega
    exact⟨y,by rw[Ysm (by omega),hol];simp,hQ _ _ _ _ _ _ _ hq4 f4 fD⟩
 ·rintro _ r ⟨H,n1,W⟩ hr ⟨rfl,hW,hK,u,out,h5,ho,hol,hout⟩
  simp only at hW hK ho hout
  simp[h5,Ret,hW,hK]
  exact⟨out,ho,hol,hout⟩
def A.lb86_0:Zae:=sr [bi 11 .lss 10 9]
 (.seq (cd 11
 (.skip)
 (.exit 0))
 (.seq (.block 1 (sr [ia 12 1 8 10,ld 13 12,mv 7 13]
 (.reg [mv 14 5,mv 15 1,mv 16 7,⟨(some 17),.call (.tmp 15) [(.tmp 16)],none⟩,⟨(some 18),.bslice 114 4 1 [(.int .i64 0),.nilslice,(.int .i64 0),.nilslice] [(0,4,(.tmp 17))],none⟩,⟨(some 19),.append 4 64 114 [(.int .i64 0),.nilslice,(.int .i64 0),.nilslice] (.tmp 14) (.tmp 18),none⟩,mv 5 19])))
 (.reg [bc 20 .add 10 1,mv 10 20])))
def A.b86:Zae:=sr [mN 4]
 (sr [mN 5]
 (.seq (sr [mv 8 0,ln 9 8,mc 10 0]
 (.block 0 (.loop A.lb86_0)))
 (sr [mv 21 5,mv 4 21]
 (.ret))))
theorem A.c86:A.F 86=some ⟨22,[.tmp 4],A.b86⟩:=by kernel_rfl
def A.k86:=@A.kk 86 _ _ _ A.c86 rfl
theorem Yfj{f:V}{l:List V}{Q:Nat→T O→Nat→List V→Prop}(Y:V→Prop)(hQ:∀j h n h' n' c u,Q j h n c→Upd (fun i=>i∈Zeg u) h n h' n'→Zy4 114 Y h u→Q j h' n' c)(hs:Sl h N v l)(hl:l.length<1000000)(hf:∀(j:Nat) (x:V),l[j]?=some x→∀h' n',Keeps h N h' n'→FnV A.C f [x] h' n' (fun u h2 n2=>∃c,u=(.agg c)∧c.length=4∧c.all V.one=true∧(∀q∈c,Y q)∧Q j h2 n2 c)):Fn A.C 86 [v,f] h N (fun u h' n'=>∃out,Own 4 114 N h' n' u out∧out.length=l.length∧∀(j:Nat),j<l.length→∃c,out[j]?=some c∧Q j h' n' c):=by
 intro w
 have hlen:=hs.len
 rw[Zaa,A.k86 (by simp)]
 simp[A.b86,hlen]
 refine Zaj [(5,5),(7,7),(10,20)] (fun e r st=>e=.exit 0∧Zac N st.w=[]∧Keeps h N st.h st.n∧∃u out,r.get 5=some u∧Own 4 114 N st.h st.n u out∧out.length=l.length∧∀(j:Nat),j<l.length→∃c,out[j]?=some c∧Q j st.h st.n c) (fun m r st=>Zac N st.w=[]∧Keeps h N st.h st.n∧∃k u out,k+m=l.length∧r.get 10=some (.int .i64 k)∧r.get 5=some u∧Own 4 114 N st.h st.n u out∧out.length=k∧(out=[]→u=.nilslice)∧(∀c∈out,∀y∈c,Y y)∧∀(j:Nat),j<k→∃c,out[j]?=some c∧Q j st.h st.n c) l.length ?_ ?_ ?_
 ·exact⟨by simp,Keeps.refl,0,.nilslice,[],by omega,by simp,by simp,Own.nil,rfl,fun _=>rfl,by simp,fun j hj=>by omega⟩
 ·rintro m r ⟨H,n1,W⟩ hr hf2 ⟨hW,hK,k,u,out,hk,h10,h5,ho,hol,hnil,hY,hout⟩
  simp only at hW hK ho hout
  rw[Zah]
  cases m with
  |zero=>
   have hkk:k=l.length:=by omega
   subst hkk
   simp[A.lb86_0,hr,hf2,h10,hW,hK]
   exact⟨u,h5,out,ho,hol,hout⟩
  |succ m=>
   have hlt:k<l.length:=by omega
   obtain⟨x,hx⟩:=Zag hlt
   obtain⟨i,o,cc,e,rw,q1,q2,q3,q4⟩:=(hs.keep hK).at hx
   have hk1:(k:Int)<(l.length:Int):=by omega
   have kA:=hK
   simp[A.lb86_0,hr,h10,h5,hk1,hlen,q1,q3,q4]
   refine Zkn (hf k x hx _ _ kA) ?_
   rintro _ h3 n3 k3 ⟨c,rfl,c1,c2,cY,c3⟩
   have kle3:=k3.le
   have kn:=hK.le
   have kB:=kA.trans k3
   have b1:∀v:List V,(V.agg v).cells=v:=fun _=>rfl
   have b2:splice [(.int .i64 0),.nilslice,(.int .i64 0),.nilslice] 0 c=c:=by unfold splice;rw[c1];simp
   simp[-V.cells, -V.one,b1,b2,c1,c2]
   have ho3:Own 4 114 N (h3.set n3 (.cells c 114 true)) (n3+1) u out:=(ho.keep ((Keeps.refl).trans k3)).keep (Keeps.refl.new _)
   obtain⟨v',h',w',f1,f2,f3,f4,fD,f5⟩:=Zgm (Y:=Y) (x:=c) (u:=.slice n3 0 1 (some 1) 4) (bytes:=64) (w:=W) ho3 hnil hY (by omega) (by decide) c1 (by simp only[Za2,St.row,T.get_set,if_true];unfold slc;simp[c1];exact Yr1 (by omega)) (by omega)
   rw[f1]
   have wok:¬n1<N:=by omega
   have f6:Zac N w'=[]:=by rw[f2];simp[hW]
   have kz:=(kB.new (.cells c 114 true)).then f3
   have k4:Keeps h3 n3 (h3.set n3 (.cells c 114 true)) (n3+1):=Keeps.refl.new _
   have hq4:Q k (h3.set n3 (.cells c 114 true)) (n3+1) c:=hQ _ _ _ _ _ _ .nilslice c3 k4.upd Zy4.nil
   simp(disch:=first|(simp;done)|omega|rfl) [hf2,h10,f6]
   refine⟨m,by omega,kz,k+1,by omega,by simp,out++[c],f5,by simp[hol],by simp,fun c' hc z hz=>?_,fun j hj=>?_⟩
   ·rcases Ys1.1 hc with hc|hc
    ·exact hY c' hc z hz
    ·simp only[Ytk]at hc;subst hc;exact cY z hz
   by_cases hjk:j<k
   ·obtain⟨c,g1,g2⟩:=hout j hjk
    exact⟨c,by rw[Ysc (by omega)];exact g1,hQ _ _ _ _ _ _ _ (hQ _ _ _ _ _ _ .nilslice g2 (((Keeps.refl).trans k3).trans k4).upd Zy4.nil) f4 fD⟩
   ·obtain rfl:j=k:=by omega
    exact⟨c,by rw[Ysm (by omega),hol];simp,hQ _ _ _ _ _ _ _ hq4 f4 fD⟩
 ·rintro _ r ⟨H,n1,W⟩ hr ⟨rfl,hW,hK,u,out,h5,ho,hol,hout⟩
  simp only at hW hK ho hout
  simp[h5,Ret,hW,hK]
  exact⟨out,ho,hol,hout⟩
def A.lb88_0:Zae:=sr [bi 11 .lss 10 9]
 (.seq (cd 11
 (.skip)
 (.exit 0))
 (.seq (.block 1 (sr [mv 12 10,mv 6 12]
 (.regD [lN 13 4 5,mv 14 0,mv 15 6,ia 16 4 14 15,lN 17 4 16,mv 18 1,mv 19 6,ia 20 4 18 19,lN 21 4 20,c2 22 90 17 21,c2 23 120 13 22,⟨none,.store 4 (.tmp 5) (.tmp 23),none⟩] [0,0,0,6,14,0,0,96,224,510,1023,2047])))
 (.reg [bc 24 .add 10 1,mv 10 24])))
def A.b88:Zae:=sr [⟨(some 4),.alloc [(.int .i64 0),.nilslice,(.int .i64 0),.nilslice] 114,none⟩]
 (sr [⟨(some 7),.call (.const (.func 118 [] [])) [(.const (.int .i64 0))],none⟩,⟨(some 5),.alloc [(.int .i64 0),.nilslice,(.int .i64 0),.nilslice] 114,none⟩,⟨none,.store 4 (.tmp 5) (.tmp 7),none⟩]
 (.seq (sr [mv 8 0,ln 9 8,mc 10 0]
 (.block 0 (.loop A.lb88_0)))
 (sr [lN 25 4 5,⟨none,.store 4 (.tmp 4) (.tmp 25),none⟩]
 (.ret))))
theorem A.c88:A.F 88=some ⟨26,[.cell 4 (some 4)],A.b88⟩:=by kernel_rfl
def A.k88:=@A.kk 88 _ _ _ A.c88 rfl
def A.b153:Zae:=sr [⟨(some 4),.alloc [(.int .i64 0),.nilslice,(.int .i64 0),.nilslice] 114,none⟩]
 (sr [mv 5 1,mv 6 0,c2 7 88 5 6,⟨none,.store 4 (.tmp 4) (.tmp 7),none⟩]
 (.ret))
theorem A.c153:A.F 153=some ⟨8,[.cell 4 (some 4)],A.b153⟩:=by kernel_rfl
def A.k153:=@A.kk 153 _ _ _ A.c153 rfl
abbrev NW(y:V):Prop:=∀m,y≠.int .u64 m
theorem In.moved{x:V}{z:Int}{e:TypeId}(s:In h n x z)(k:Upd (fun i=>i∈Zeg v) h n h' n')(hd:Zy4 e NW h v):In h' n' x z:=by
 rcases s with s|⟨i,o,l,c,s1,s2,s3⟩
 ·exact .inl s
 ·refine .inr ⟨i,o,l,c,s1,Sl.moved s2 k fun j hj hjv=>?_,s3⟩
  simp[Zeg]at hj
  subst hj
  obtain⟨z2,g1,_,g3⟩:=hd j hjv
  unfold Wn at s2
  have hne:wds z.natAbs≠[]:=fun h0=>by
   have:=Zbp z.natAbs
   rw[h0]at this
   simp[val]at this
   omega
  obtain⟨d,ds,hds⟩:=List.exists_cons_of_ne_nil hne
  have hat:(dg (wds z.natAbs))[0]?=some (.int .u64 d):=by rw[hds];simp[dg]
  obtain⟨i2,o2,c2,e2,rw2,q1,q2,q3,q4⟩:=Sl.at s2 hat
  simp[Znr]at q1
  obtain⟨rfl,rfl⟩:=q1
  rw[g1]at q3
  simp only[Yro,O.cells.injEq]at q3
  obtain⟨rfl,_⟩:=q3
  exact g3 _ (Yrv q4) _ rfl
theorem FcC.moved{c:List V}{q:Rat}{e:TypeId}(s:FcC h n c q)(k:Upd (fun i=>i∈Zeg v) h n h' n')(hd:Zy4 e NW h v):FcC h' n' c q:=by
 obtain⟨n1,u1,n2,u2,rfl,s1,s2⟩:=s
 exact⟨n1,u1,n2,u2,rfl,s1.moved k hd,s2.moved k hd⟩
theorem Sn.row_lt{z:Nat}{l:List (List V)}(s:Sn z h N v l):∀i∈Zeg v,i<N:=fun i hi=>by
 rcases s with⟨_,rfl|rfl⟩|⟨j,o,cp,c,e,rw,rfl,hj,_⟩
 ·simp[Zeg]at hi
 ·simp[Zeg]at hi
 ·simp[Zeg]at hi;omega
theorem Sn.moved{z:Nat}{D:Nat→Prop}{N':Nat}{l:List (List V)}(s:Sn z h N v l)(k:Upd D h N h' N')(hd:∀i∈Zeg v,¬D i):Sn z h' N' v l:=by
 rcases s with s|⟨i,o,cp,c,e,rw,rfl,h2,h3,h4⟩
 ·exact .inl s
 ·exact .inr ⟨i,o,cp,c,e,rw,rfl,Yr3 h2 k.le,(k.get i h2 (hd i (by simp[Zeg]))).trans h3,h4⟩
theorem FrT.keep{N':Nat}(s:FrT h N u l)(k:Keeps h N h' N'):FrT h' N' u l:=⟨s.1.keep k,fun i hi=>by
 obtain⟨cs,h1,_⟩:=s.1
 rw[k.get i (h1.row_lt i hi)]
 exact s.2 i hi⟩
theorem FrT.moved{e:TypeId}(s:FrT h n u l)(k:Upd (fun i=>i∈Zeg v) h n h' n')(hd:Zy4 e NW h v)(he:e≠114):FrT h' n' u l:=by
 obtain⟨⟨cs,h1,h2,h3⟩,h4⟩:=s
 have hn:∀i∈Zeg u,i∉Zeg v:=fun i hi hc=>by
  obtain⟨z,w,hz⟩:=h4 i hi
  obtain⟨z2,hz2,_⟩:=hd i hc
  rw[hz]at hz2
  simp at hz2
  exact he hz2.2.1.symm
 refine⟨⟨cs,h1.moved k hn,h2,fun j q hq=>?_⟩,fun i hi=>by rw[k.get i (h1.row_lt i hi) (hn i hi)];exact h4 i hi⟩
 obtain⟨c,g1,g2⟩:=h3 j q hq
 exact⟨c,g1,g2.moved k hd⟩
theorem Ymw{N0:Nat}{out:List (List V)}(s:Own 4 114 N0 h N v out)(hl:out.length=l.length)(hc:∀(j:Nat),j<l.length→∃c,out[j]?=some c∧∀q,l[j]?=some q→FcC h N c q):FrT h N v l:=by
 refine⟨⟨out,s.sn,hl,fun j q hq=>?_⟩,fun i hi=>?_⟩
 ·obtain⟨c,g1,g2⟩:=hc j (Zbk hq)
  exact⟨c,g1,g2 q hq⟩
 ·obtain⟨_,⟨_,rfl⟩|⟨j,rfl,_,_,hg⟩⟩:=s
  ·simp[Zeg]at hi
  ·simp[Zeg]at hi;subst hi;exact⟨_,_,hg⟩
structure DtI (h:T O) (N p:Nat) (a b:List Rat) (m:Nat) (r:T V) (st:St):Prop where
 w:Zac N st.w=[]
 keep:Keeps h N st.h st.n
 ex:∃(t:Nat) (c:List V),t+m=a.length∧r.get 10=some (.int .i64 t)∧p<st.n∧st.h.get N=some (.cells zF 114 true)∧st.h.get p=some (.cells c 114 true)∧FcC st.h st.n c (Znd a b t)
theorem Yh2{a b:List Rat}{j k:Nat}(hu:FrS h N u a)(hv:FrS h N v b)(hab:a.length≤b.length)(ha:∀q∈a,Qb j q)(hb:∀q∈b,Qb k q)(hj:1≤j)(hk:1≤k)(hl:a.length*(j+k+1)+j+k+1≤400000):Fn A.C 88 [u,v] h N (fun x h' n'=>Fc h' n' x (Zny a b)):=by
 intro w
 have l1:=hu.len
 have l2:=hv.len
 have hal:a.length≤400000:=by have:=Nat.le_mul_of_pos_right a.length (show 0<j+k+1 by omega);omega
 rw[Zaa,A.k88 (by simp)]
 simp[A.b88]
 refine Zab (Ypo (by omega) (by omega)) ?_
 rintro _ h1 n1 k1 hz
 obtain⟨c,rfl,hc⟩:=hz.c
 have kB:Keeps h N (h.set N (.cells zF 114 true)) (N+1):=Keeps.refl.new _
 have le1:=k1.le
 have g1:=k1.get N (by omega)
 rw[T.get_set,Yru rfl]at g1
 obtain⟨e1,e2⟩:=hc.len
 have hcc:(V.agg c).cells=c:=rfl
 have e4:splice zF 0 c=c:=by unfold splice;rw[e1];simp[zF]
 have hnz:NoU zF:=by intro x hx m;simp[zF]at hx;rcases hx with rfl|rfl|rfl|rfl<;>simp
 unfold zF at e4
 simp[-V.cells, -V.one,hcc,e1,e2,e4,Zan,l1]
 generalize hH:(h1.set n1 (.cells [.int .i64 0,.nilslice,.int .i64 0,.nilslice] 114 true)).set n1 (.cells c 114 true)=H1
 have kA:Keeps h1 n1 H1 (n1+1):=by rw[←hH];exact(Keeps.refl.new _).set (Yrr _)
 have kC:Keeps h N H1 (n1+1):=(kB.trans k1).trans kA
 have g2:H1.get n1=some (.cells c 114 true):=by rw[←hH];simp
 have g3:=(kA.get N (by omega)).trans g1
 clear hH
 refine Zaj [(6,6),(10,24)] (fun e r st=>e=.exit 0∧DtI h N n1 a b 0 r st) (DtI h N n1 a b) a.length ?_ ?_ ?_
 ·exact⟨by simp;omega,kC,0,c,by omega,by simp,by show n1<n1+1;omega,g3,g2,by simpa[Znd]using hc.keep kA⟩
 ·rintro m r ⟨H,n2,W⟩ hr hf ⟨hW,hK,t,c0,ht,h10,hpn,hg0,hgp,hcp⟩
  simp only at hW hK hpn hg0 hgp hcp
  rw[Zah]
  cases m with
  |zero=>
   obtain rfl:t=a.length:=by omega
   simp[A.lb88_0,hr,hf,h10]
   exact⟨hW,hK,a.length,c0,by omega,by simp[h10],hpn,hg0,hgp,hcp⟩
  |succ m=>
   have hlt:t<a.length:=by omega
   have hlt':(t:Int)<(a.length:Int):=by omega
   have hlb:t<b.length:=by omega
   have hlb':(t:Int)<(b.length:Int):=by omega
   obtain⟨x,hx⟩:=Zag hlt
   obtain⟨y,hy⟩:=Zag hlb
   have hpb:=ha x (Yrv hx)
   have hqb:=hb y (Yrv hy)
   have hsb:=Znc ha hb hj hk t
   have hpq:=hpb.mul hqb
   have hmul:t*(j+k+1)≤a.length*(j+k+1):=Yr7 _ (by omega)
   have ee:Znd a b (t+1)=Znd a b t+x*y:=by simp[Znd,hx,hy]
   obtain⟨i,o,cc,e,rw,ca,q1,q2,q3,q4,q5⟩:=(hu.keep hK).at hx
   obtain⟨i',o',cc',e',rw',cb,p1,p2,p3,p4,p5⟩:=(hv.keep hK).at hy
   have s0:slc c0 0 4=some c0:=by unfold slc;rw[hcp.len.1];simp;exact Yr1 (by rw[hcp.len.1];omega)
   simp[A.lb88_0,hr,h10,l1,l2,hlt',hlb',hgp,s0,q1,q2,q3,q4,p1,p2,p3,p4]
   have w1:=Zh4 hpb.1
   have w2:=Zh4 (z:=(x.den:Int)) (k:=j) (by rw[Yrw];exact hpb.2)
   have w3:=Zh4 hqb.1
   have w4:=Zh4 (z:=(y.den:Int)) (k:=k) (by rw[Yrw];exact hqb.2)
   have w5:=Zh4 hsb.1
   have w6:=Zh4 (z:=((Znd a b t).den:Int)) (by rw[Yrw];exact hsb.2)
   have w7:=Zh4 hpq.1
   have w8:=Zh4 (z:=((x*y).den:Int)) (by rw[Yrw];exact hpq.2)
   refine Zab (Ycc q5.fc p5.fc (by omega) (by omega) (by omega) (by omega)) ?_
   rintro x3 h3 n3 k3 hm3
   simp[]
   refine Zab (Ycf (hcp.keep k3).fc hm3 (by omega) (by omega) (by omega) (by omega)) ?_
   rintro _ h4' n4 k4 hs4
   rw[←ee]at hs4
   obtain⟨c4,rfl,hc4⟩:=hs4.c
   have le3:=k3.le
   have le4:=k4.le
   have gp4:=(k4.get n1 (by omega)).trans ((k3.get n1 (by omega)).trans hgp)
   have g04:=(k4.get N (by omega)).trans ((k3.get N (by omega)).trans hg0)
   obtain⟨f1,f2⟩:=hc4.len
   have f3:=hcp.len.1
   have hcc4:(V.agg c4).cells=c4:=rfl
   have e5:splice c0 0 c4=c4:=by unfold splice;rw[f1];simp[f3]
   simp[-V.cells, -V.one,hr,hcc4,f1,f2,f3,e5,gp4,Zan]
   have d2:n1<n4:=by omega
   have d3:¬N=n1:=by omega
   have d4:¬n1<N:=by omega
   refine(Zfo (by simp[-Zac,hpn,d2])).2 ?_
   simp(disch:=first|(simp;done)|omega|rfl) [hf,h10,d2]
   exact⟨m,by omega,by simp[Zac,hW,d4],((hK.trans k3).trans k4).set (by omega),t+1,c4,by omega,by simp,d2,by show T.get _ N=_;rw[T.get_set,Yrq d3];exact g04,by show T.get _ n1=_;rw[T.get_set,Yru rfl],hc4.setNU gp4 hcp.noU (by rw[f1,f3])⟩
 ·rintro _ r ⟨H,n2,W⟩ hr ⟨rfl,hW,hK,t,c0,ht,h10,hpn,hg0,hgp,hcp⟩
  simp only at hW hK hpn hg0 hgp hcp
  obtain rfl:t=a.length:=by omega
  have s0:slc c0 0 4=some c0:=by unfold slc;rw[hcp.len.1];simp;exact Yr1 (by rw[hcp.len.1];omega)
  have hcc0:(V.agg c0).cells=c0:=rfl
  have e5:splice zF 0 c0=c0:=by unfold splice;rw[hcp.len.1];simp[zF]
  have f1:=hcp.len.1
  have f2:=hcp.len.2
  unfold zF at e5 hg0
  simp[-V.cells, -V.one,hr,hgp,hg0,s0,Zan,hcc0,f1,f2,e5,Ret]
  exact⟨hW,hK.set (Yrr N),(hcp.setNU hg0 hnz (by rw[f1];rfl)).fc⟩
end Go.Mx
