/-
  CheckWeights, LargeRow.
-/
import Derived.Test.YtlbophlgohokkaaGreatDoorNfB
set_option linter.all false
namespace Go.Mx
open Go Go.Proofs
set_option maxRecDepth 1000000
def A.lb97_0:Zae:=.seq (sr [mv 4 3,mv 5 0,ln 6 5,bi 7 .lss 4 6]
 (cd 7
 (.skip)
 (.exit 0)))
 (.seq (.block 1 (sr [mv 10 0,mv 11 3,ia 12 1 10 11,ld 13 12,c1 14 110 13,ni 15 14 0]
 (cd 15
 (sr [mc 2 4]
 (.ret))
 (.skip))))
 (.reg [mv 8 3,bc 9 .add 8 1,mv 3 9]))
def A.b97:Zae:=sr [mc 2 0]
 (.seq (sr [mc 3 0]
 (.block 0 (.loop A.lb97_0)))
 (sr [mc 2 0]
 (.ret)))
theorem A.c97:A.F 97=some ⟨16,[.tmp 2],A.b97⟩:=by kernel_rfl
def A.k97:=@A.kk 97 _ _ _ A.c97 rfl
def Zd7(l:List Rat):Bool:=l.any Yfz
theorem Zzu{h:T O}{N:Nat}{v:V}{l:List Rat}{w:List Nat}(hs:Tx h N v l)(hl:l.length<100000)(hf0:∀q∈l,(Zax q).length<1000000):A.C.call (.func 97 [] []) [v] ⟨h,N,w⟩=some (.int .i64 (if Zd7 l=true then 4 else 0),⟨h,N,w⟩):=by
 apply Call.eq
 have hlen:=hs.len
 rw[Zab,A.k97 (by simp)]
 simp[A.b97]
 refine Zaj [(2,15)] (fun e r st=>st=⟨h,N,[]⟩∧((e=.exit 0∧Zd7 l=false)∨(e=.ret∧Zd7 l=true∧r.get 2=some (.int .i64 4)))) (fun m r st=>st=⟨h,N,[]⟩∧∃k,k+m=l.length∧r.get 3=some (.int .i64 k)∧Zd7 l=Zd7 (l.drop k)) l.length ?_ ?_ ?_
 ·exact⟨rfl,0,by omega,by simp,by simp⟩
 ·rintro m r _ hr hf ⟨rfl,k,hk,h7,hz⟩
  rw[Zah]
  cases m with
  |zero=>
   obtain rfl:k=l.length:=by omega
   rw[Yp6]at hz
   simp[Zd7]at hz
   simp[A.lb97_0,hr,hf,h7,hlen]
   simpa[Zd7]using hz
  |succ m=>
   have hlt:k<l.length:=by omega
   obtain⟨q,hc⟩:=Zaf hlt
   obtain⟨i,o,cc,e,rw,q1,q2,q3,q4⟩:=Sl.at hs (Zit hc)
   rw[Zas hc]at hz
   have hk1:(k:Int)<(l.length:Int):=by omega
   have hlg:=fun st=>Zz2 (st:=st) (hf0 q (Yo3 hc))
   by_cases h0:Yfz q=true
   ·have e1:Zd7 l=true:=by rw[hz];simp[Zd7,h0]
    rw[Yo4 h0]at hlg
    simp[A.lb97_0,hr,hf,h7,hk1,hlen,q1,q3,q4,hlg,e1]
   ·have e1:Zd7 l=Zd7 (l.drop (k+1)):=by rw[hz];simp[Zd7,h0]
    rw[Yo0 h0]at hlg
    simp(disch:=first|(simp;done)|omega|rfl) [A.lb97_0,hr,hf,h7,hk1,hlen,q1,q3,q4,hlg]
    exact⟨m,by omega,k+1,by omega,by simp,e1⟩
 ·rintro _ r _ hr ⟨rfl,⟨rfl,hz⟩|⟨rfl,hz,h2⟩⟩
  ·simp[hz]
  ·simp[h2,hz]
def A.lb84_0:Zae:=sr [bi 11 .lss 10 9]
 (.seq (cd 11
 (.skip)
 (.exit 0))
 (.seq (.block 1 (sr [ia 12 1 8 10,ld 13 12,mv 6 13]
 (sr [mv 14 1,mv 15 6,⟨(some 16),.call (.tmp 14) [(.tmp 15)],none⟩,mv 7 16]
 (sr [mv 17 7,ni 18 17 0]
 (cd 18
 (sr [mv 19 7,mv 4 19]
 (.ret))
 (.skip))))))
 (.reg [bc 20 .add 10 1,mv 10 20])))
def A.b84:Zae:=sr [mc 4 0]
 (.seq (sr [mv 8 0,ln 9 8,mc 10 0]
 (.block 0 (.loop A.lb84_0)))
 (sr [mc 4 0]
 (.ret)))
theorem A.c84:A.F 84=some ⟨21,[.tmp 4],A.b84⟩:=by kernel_rfl
def A.k84:=@A.kk 84 _ _ _ A.c84 rfl
def A.b68:Zae:=sr [mc 4 0]
 (.seq (sr [mv 5 0,ln 6 5,mv 7 1,⟨(some 8),.bin .neq (.prim .int) false (.tmp 6) (.tmp 7),none⟩]
 (cd 8
 (sr [mc 4 2]
 (.ret))
 (.skip)))
 (sr [mv 9 0,⟨(some 10),.call (.const (.func 84 [] [])) [(.tmp 9),(.const (.func 151 [] []))],none⟩,mv 4 10]
 (.ret)))
theorem A.c68:A.F 68=some ⟨11,[.tmp 4],A.b68⟩:=by kernel_rfl
def A.k68:=@A.kk 68 _ _ _ A.c68 rfl
theorem Yiq{h:T O}{N:Nat}{v f:V}{l:List Str}(P:Str→Int)(hs:Sl h N v (strs l))(hl:l.length<100000)(hf:∀s∈l,∀h' n',Keeps h N h' n'→FnV A.C f [.str s] h' n' (fun u _ _=>u=.int .i64 (P s))):Fn A.C 84 [v,f] h N (fun u _ _=>u=.int .i64 (Zau (l.map P))):=by
 intro w
 have hlen:=hs.len
 rw[Zda]at hlen
 rw[Zab,A.k84 (by simp)]
 simp[A.b84,hlen]
 refine Zaj [(4,4),(6,7),(10,20)] (fun e r st=>Zaa N st.w=[]∧Keeps h N st.h st.n∧((e=.exit 0∧Zau (l.map P)=0)∨(e=.ret∧r.get 4=some (.int .i64 (Zau (l.map P)))))) (fun m r st=>Zaa N st.w=[]∧Keeps h N st.h st.n∧∃k,k+m=l.length∧r.get 10=some (.int .i64 k)∧Zau (l.map P)=Zau ((l.drop k).map P)) l.length ?_ ?_ ?_
 ·exact⟨by simp,Keeps.refl,0,by omega,by simp,by simp⟩
 ·rintro m r ⟨H,n1,W⟩ hr hf2 ⟨hW,hK,k,hk,h7,hz⟩
  simp only at hW hK
  rw[Zah]
  cases m with
  |zero=>
   obtain rfl:k=l.length:=by omega
   rw[Yp6,Yrh,Zau]at hz
   simp[A.lb84_0,hr,hf2,h7,hz,hW,hK]
  |succ m=>
   have hlt:k<l.length:=by omega
   obtain⟨s,hc⟩:=Zaf hlt
   obtain⟨i,o,cc,e,rw,q1,q2,q3,q4⟩:=(hs.keep hK).at (Zg6 hc)
   rw[Zas hc,Yqg,Zau]at hz
   have hk1:(k:Int)<(l.length:Int):=by omega
   simp[A.lb84_0,hr,h7,hk1,hlen,q1,q3,q4]
   refine Zh2 (hf s (Yo3 hc) _ _ hK) ?_
   rintro _ h3 n3 k3 rfl
   have kk:=hK.trans k3
   by_cases h0:P s=0
   ·rw[Yo4 h0]at hz
    simp(disch:=first|(simp;done)|omega|rfl) [hf2,h7,h0,hW]
    exact⟨m,by omega,kk,k+1,by omega,by simp,by simpa using hz⟩
   ·rw[Yo0 h0]at hz
    simp[hf2,h0,hW,hz]
    exact kk
 ·rintro _ r ⟨H,n1,W⟩ hr ⟨hW,hK,⟨rfl,hz⟩|⟨rfl,h2⟩⟩
  ·simp only at hW hK
   simp[hz,Ret,hW,hK]
  ·simp only at hW hK
   simp[h2,Ret,hW,hK]
theorem Zyu{h:T O}{N:Nat}{v:V}{l:List Str}{n:Nat}(hs:Sl h N v (strs l))(hl:l.length<100000)(hf0:∀s∈l,s.length≤100000):Fn A.C 68 [v,.int .i64 n] h N (fun u _ _=>u=.int .i64 (Ze4 l n)):=by
 intro w
 have hlen:=hs.len
 rw[Zda]at hlen
 rw[Zab,A.k68 (by simp)]
 by_cases c:l.length=n
 ·subst c
  simp[A.b68,hlen]
  refine Zac (Yiq (fun s=>((chkNum s:Nat):Int)) hs hl fun s hs h' n' _=>Yer (hf0 s hs)) ?_
  rintro _ H2 n2 k2 rfl
  simp[Ret,Ze4]
  exact k2
 ·have c':¬(l.length:Int)=(n:Int):=by omega
  simp[A.b68,hlen,c',Ze4,c,Ret]
  exact Keeps.refl
set_option maxHeartbeats 1000000
def A.b200:Zae:=sr [⟨(some 2),.alloc [(.int .i64 0),(.int .i64 0)] 151,none⟩]
 (sr [mv 3 0,ln 4 3,mv 5 0,⟨(some 6),.iaddrSl 1 (.tmp 5) (.const (.int .i64 0)),none⟩,ld 7 6,ln 8 7,⟨(some 9),.build [(.int .i64 0),(.int .i64 0)] [(0,1,(.tmp 4)),(1,1,(.tmp 8))],none⟩,⟨none,.store 2 (.tmp 2) (.tmp 9),none⟩]
 (.ret))
theorem A.c200:A.F 200=some ⟨10,[.cell 2 (some 2)],A.b200⟩:=by kernel_rfl
def A.k200:=@A.kk 200 _ _ _ A.c200 rfl
def A.lb131_0:Zae:=sr [bi 36 .lss 35 34]
 (.seq (cd 36
 (.skip)
 (.exit 0))
 (.seq (.block 1 (sr [ia 37 1 33 35,ld 38 37,mv 7 38]
 (sr [mv 39 7,⟨(some 40),.iaddrArr 2 1 (.tmp 5) (.const (.int .i64 1)),none⟩,ld 41 40,c2 42 68 39 41,mv 8 42]
 (sr [mv 43 8,ni 44 43 0]
 (cd 44
 (sr [mv 45 8,mv 4 45]
 (.ret))
 (.skip))))))
 (.reg [bc 46 .add 35 1,mv 35 46])))
def A.b131:Zae:=sr [bx 3 151 1,mc 4 0]
 (.seq (sr [mv 9 0,ln 10 9,ei 11 10 0,mv 12 11,mh 13 0 12,⟨(some 14),.iaddrSl 1 (.tmp 13) (.const (.int .i64 0)),(some (12,false))⟩,⟨(some 15),.load none (.tmp 14),(some (12,false))⟩,⟨(some 16),.len 1 (.tmp 15),(some (12,false))⟩,⟨(some 17),.bin .eql (.prim .int) true (.tmp 16) (.const (.int .i64 0)),(some (12,false))⟩,pt 18 12 17]
 (cd 18
 (sr [mc 4 12]
 (.ret))
 (.skip)))
 (sr [mv 19 0,c1 20 200 19,⟨(some 5),.alloc [(.int .i64 0),(.int .i64 0)] 151,none⟩,⟨none,.store 2 (.tmp 5) (.tmp 20),none⟩]
 (.seq (sr [⟨(some 21),.iaddrArr 2 1 (.tmp 5) (.const (.int .i64 0)),none⟩,ld 22 21,⟨(some 23),.iaddrArr 2 1 (.tmp 3) (.const (.int .i64 0)),none⟩,ld 24 23,bi 25 .gtr 22 24,mv 26 25,⟨(some 27),.iaddrArr 2 1 (.tmp 5) (.const (.int .i64 1)),(some (26,false))⟩,⟨(some 28),.load none (.tmp 27),(some (26,false))⟩,⟨(some 29),.iaddrArr 2 1 (.tmp 3) (.const (.int .i64 1)),(some (26,false))⟩,⟨(some 30),.load none (.tmp 29),(some (26,false))⟩,⟨(some 31),.bin .gtr (.node []) false (.tmp 28) (.tmp 30),(some (26,false))⟩,pt 32 26 31]
 (cd 32
 (sr [mc 4 5]
 (.ret))
 (.skip)))
 (.seq (sr [mv 33 0,ln 34 33,mc 35 0]
 (.block 0 (.loop A.lb131_0)))
 (sr [mc 4 0]
 (.ret))))))
theorem A.c131:A.F 131=some ⟨47,[.tmp 4],A.b131⟩:=by kernel_rfl
def A.k131:=@A.kk 131 _ _ _ A.c131 rfl
theorem Yb5{h:T O}{N:Nat}{v:V}{l:List (List Str)}{l0:List Str}(hs:MtS h N v l)(h0:l[0]?=some l0):Fn A.C 200 [v] h N (fun u _ _=>u=.agg [.int .i64 l.length,.int .i64 l0.length]):=by
 intro w
 have hlen:=hs.len
 have cpos:0<l.length:=Za6 h0
 have cpos':0<(l.length:Int):=by omega
 obtain⟨i0,o0,cc0,e0,rw0,u0,z1,z2,z3,z4,z5⟩:=hs.at h0
 have z6:=z5.len
 rw[Zda]at z6
 rw[Yqd]at z4
 have d1:¬i0=N:=by omega
 have d2:¬N=i0:=by omega
 rw[Zab,A.k200 (by simp)]
 simp[A.b200,hlen,cpos,z1,z3,z4,z6,d1,splice,Zak,Zal,slc,Ret]
 exact(Keeps.refl.new _).set (Yoy _)
theorem Ycu{h:T O}{N:Nat}{v:V}{l:List (List Str)}{a b:Nat}(hs:MtS h N v l)(hl:l.length<100000)(hx:∀x∈l,x.length<100000∧∀s∈x,s.length≤100000):Fn A.C 131 [v,.agg [.int .i64 a,.int .i64 b]] h N (fun u _ _=>u=.int .i64 (Zmh l a b)):=by
 intro w
 have hlen:=hs.len
 rw[Zab,A.k131 (by simp)]
 by_cases c0:l.length=0
 ·have c0':(l.length:Int)=0:=by omega
  simp[A.b131,hlen,c0,Zmh,Ret]
  exact Keeps.refl.new _
 have c0':¬(l.length:Int)=0:=by omega
 have cpos:0<l.length:=by omega
 have cpos':0<(l.length:Int):=by omega
 obtain⟨l0,hl0⟩:=Zaf cpos
 obtain⟨i0,o0,cc0,e0,rw0,u0,z1,z2,z3,z4,z5⟩:=hs.at hl0
 have z6:=z5.len
 rw[Zda]at z6
 rw[Yqd]at z4
 obtain⟨n,hn⟩:∃n,n=l0.length:=⟨_,rfl⟩
 have en:hdL l=n:=by simp[hdL,hl0,hn]
 rw[←hn]at z6
 have hn1:n<100000:=by have:=(hx l0 (Yo3 hl0)).1;omega
 have d1:¬i0=N:=by omega
 have d2:¬N=i0:=by omega
 by_cases c1:n=0
 ·have c1':(n:Int)=0:=by omega
  simp[A.b131,hlen,c0,cpos,z1,z3,z4,z6,d1,c1,Zmh,en,Ret]
  exact Keeps.refl.new _
 have c1':¬(n:Int)=0:=by omega
 have e1:Zmh l a b=if a<l.length∨b<n then 5 else Zau (l.map fun x=>Ze4 x n):=by simp[Zmh,en,c0,c1]
 rw[e1]
 simp[A.b131,hlen,c0,cpos,z1,z3,z4,z6,d1,c1]
 generalize hH:h.set N (.cells [.int .i64 a,.int .i64 b] 151 true)=H
 have k1:Keeps h N H (N+1):=by rw[←hH];exact Keeps.refl.new _
 have g1:H.get N=some (.cells [.int .i64 a,.int .i64 b] 151 true):=by rw[←hH];simp
 clear hH
 refine Zac (Yb5 (hs.keep k1) hl0) ?_
 rintro _ H2 n2 k2 rfl
 rw[←hn]
 have kl2:=k2.le
 have g2:=(k2.get N (by omega)).trans g1
 have d3:¬N=n2:=by omega
 have d4:¬n2=N:=by omega
 have kz:Keeps h N ((H2.set n2 (.cells [.int .i64 0,.int .i64 0] 151 true)).set n2 (.cells [.int .i64 l.length,.int .i64 n] 151 true)) (n2+1):=((k1.trans k2).new _).set (by omega)
 by_cases c2:a<l.length
 ·have c2':(a:Int)<(l.length:Int):=by omega
  simp[g2,d3,splice,Zak,Zal,c2,c2',Ret]
  exact⟨by omega,kz⟩
 have c2':¬(a:Int)<(l.length:Int):=by omega
 by_cases c3:b<n
 ·have c3':(b:Int)<(n:Int):=by omega
  simp[g2,d3,splice,Zak,Zal,c2,c2',c3,c3',Ret]
  exact⟨by omega,kz⟩
 have c3':¬(b:Int)<(n:Int):=by omega
 simp[hlen,g2,d3,splice,Zak,Zal,c2,c2',c3,c3']
 generalize hH3:(H2.set n2 (.cells [.int .i64 0,.int .i64 0] 151 true)).set n2 (.cells [.int .i64 l.length,.int .i64 n] 151 true)=H3 at*
 have g3:H3.get n2=some (.cells [.int .i64 l.length,.int .i64 n] 151 true):=by rw[←hH3];simp
 clear hH3
 have kd:Keeps H3 (n2+1) H3 (n2+1):=Keeps.refl
 refine Zaj [(4,4),(7,8),(35,46)] (fun e r st=>Zaa N st.w=[]∧Keeps h N st.h st.n∧((e=.exit 0∧Zau (l.map (fun x=>Ze4 x n))=0)∨(e=.ret∧r.get 4=some (.int .i64 (Zau (l.map (fun x=>Ze4 x n))))))) (fun m r st=>Zaa N st.w=[]∧Keeps h N st.h st.n∧(n2<st.n∧st.h.get n2=H3.get n2)∧∃k,k+m=l.length∧r.get 35=some (.int .i64 k)∧Zau (l.map (fun x=>Ze4 x n))=Zau ((l.drop k).map (fun x=>Ze4 x n))) l.length ?_ ?_ ?_
 ·exact⟨by simp;omega,kz,⟨by simp,rfl⟩,0,by omega,by simp,by simp⟩
 ·rintro m r ⟨H,n1,W⟩ hr hf2 ⟨hW,hK,⟨hlt2,hG⟩,k,hk,h7,hz⟩
  simp only at hW hK hlt2 hG
  rw[Zah]
  cases m with
  |zero=>
   obtain rfl:k=l.length:=by omega
   rw[Yp6,Yrh,Zau]at hz
   simp[A.lb131_0,hr,hf2,h7,hz,hW,hK]
  |succ m=>
   have hlt:k<l.length:=by omega
   obtain⟨s,hc⟩:=Zaf hlt
   obtain⟨i,o,cc,e,rw,u,q1,q2,q3,q4,q5⟩:=(hs.keep hK).at hc
   have g4:=hG.trans g3
   rw[Zas hc,Yqg,Zau]at hz
   have hk1:(k:Int)<(l.length:Int):=by omega
   simp[A.lb131_0,hr,h7,hk1,hlen,q1,q3,q4,g4]
   refine Zac (Zyu q5 (hx s (Yo3 hc)).1 (hx s (Yo3 hc)).2) ?_
   rintro _ h3 n3 k3 rfl
   have kk:=hK.trans k3
   by_cases h0:Ze4 s n=0
   ·rw[Yo4 h0]at hz
    simp(disch:=first|(simp;done)|omega|rfl) [hf2,h7,h0,hW]
    exact⟨m,by omega,kk,⟨by have:=k3.le;omega,(k3.get n2 hlt2).trans hG⟩,k+1,by omega,by simp,by simpa using hz⟩
   ·rw[Yo0 h0]at hz
    simp[hf2,h0,hW,hz]
    exact kk
 ·rintro _ r ⟨H,n1,W⟩ hr ⟨hW,hK,⟨rfl,hz⟩|⟨rfl,h2⟩⟩
  ·simp only at hW hK
   simp[hz,Ret,hW,hK]
  ·simp only at hW hK
   simp[h2,Ret,hW,hK]
variable {N n n':Nat} {h h':T O} {l:List Rat} {v:V}
set_option maxHeartbeats 2000000
def A.lb154_0:Zae:=sr [bi 11 .lss 10 9]
 (.seq (cd 11
 (.skip)
 (.exit 0))
 (.seq (.block 1 (sr [ia 12 1 8 10,ld 13 12,mv 7 13]
 (.reg [mv 14 5,mv 15 1,mv 16 7,⟨(some 17),.call (.tmp 15) [(.tmp 16)],none⟩,⟨(some 18),.bslice 97 1 1 [.nilslice] [(0,1,(.tmp 17))],none⟩,⟨(some 19),.append 1 24 97 [.nilslice] (.tmp 14) (.tmp 18),none⟩,mv 5 19])))
 (.reg [bc 20 .add 10 1,mv 10 20])))
def A.b154:Zae:=sr [mN 4]
 (sr [mN 5]
 (.seq (sr [mv 8 0,ln 9 8,mc 10 0]
 (.block 0 (.loop A.lb154_0)))
 (sr [mv 21 5,mv 4 21]
 (.ret))))
theorem A.c154:A.F 154=some ⟨22,[.tmp 4],A.b154⟩:=by kernel_rfl
def A.k154:=@A.kk 154 _ _ _ A.c154 rfl
theorem Ydj{f:V}{l:List V}{Q:Nat→T O→Nat→V→Prop}(Y:V→Prop)(hQ:∀j h n h' n' c u,Q j h n c→Upd (fun i=>i∈Zcl u) h n h' n'→Zo7 97 Y h u→Q j h' n' c)(hs:Sl h N v l)(hl:l.length<1000000)(hf:∀(j:Nat) (x:V),l[j]?=some x→∀h' n',Keeps h N h' n'→FnV A.C f [x] h' n' (fun u h2 n2=>∃y,u=y∧[y].length=1∧[y].all V.one=true∧(∀q∈[y],Y q)∧Q j h2 n2 y)):Fn A.C 154 [v,f] h N (fun u h' n'=>∃out,Own 1 97 N h' n' u out∧out.length=l.length∧∀(j:Nat),j<l.length→∃y,out[j]?=some [y]∧Q j h' n' y):=by
 intro w
 have hlen:=hs.len
 rw[Zab,A.k154 (by simp)]
 simp[A.b154,hlen]
 refine Zaj [(5,5),(7,7),(10,20)] (fun e r st=>e=.exit 0∧Zaa N st.w=[]∧Keeps h N st.h st.n∧∃u out,r.get 5=some u∧Own 1 97 N st.h st.n u out∧out.length=l.length∧∀(j:Nat),j<l.length→∃y,out[j]?=some [y]∧Q j st.h st.n y) (fun m r st=>Zaa N st.w=[]∧Keeps h N st.h st.n∧∃k u out,k+m=l.length∧r.get 10=some (.int .i64 k)∧r.get 5=some u∧Own 1 97 N st.h st.n u out∧out.length=k∧(out=[]→u=.nilslice)∧(∀c∈out,∀y∈c,Y y)∧∀(j:Nat),j<k→∃y,out[j]?=some [y]∧Q j st.h st.n y) l.length ?_ ?_ ?_
 ·exact⟨by simp,Keeps.refl,0,.nilslice,[],by omega,by simp,by simp,Own.nil,rfl,fun _=>rfl,by simp,fun j hj=>by omega⟩
 ·rintro m r ⟨H,n1,W⟩ hr hf2 ⟨hW,hK,k,u,out,hk,h10,h5,ho,hol,hnil,hY,hout⟩
  simp only at hW hK ho hout
  rw[Zah]
  cases m with
  |zero=>
   have hkk:k=l.length:=by omega
   subst hkk
   simp[A.lb154_0,hr,hf2,h10,hW,hK]
   exact⟨u,h5,out,ho,hol,hout⟩
  |succ m=>
   have hlt:k<l.length:=by omega
   obtain⟨x,hx⟩:=Zaf hlt
   obtain⟨i,o,cc,e,rw,q1,q2,q3,q4⟩:=(hs.keep hK).at hx
   have hk1:(k:Int)<(l.length:Int):=by omega
   have kA:=hK
   simp[A.lb154_0,hr,h10,h5,hk1,hlen,q1,q3,q4]
   refine Zh2 (hf k x hx _ _ kA) ?_
   rintro y h3 n3 k3 ⟨_,rfl,c1,c2,cY,c3⟩
   have kle3:=k3.le
   have kn:=hK.le
   have kB:=kA.trans k3
   have b1:V.one y=true:=by simpa using c2
   have b2:V.cells y=[y]:=by cases y<;>first|rfl|cases b1
   simp[-V.cells, -V.one,b1,b2,splice]
   have ho3:Own 1 97 N (h3.set n3 (.cells [y] 97 true)) (n3+1) u out:=(ho.keep ((Keeps.refl).trans k3)).keep (Keeps.refl.new _)
   obtain⟨v',h',w',f1,f2,f3,f4,fD,f5⟩:=Zcy (Y:=Y) (x:=[y]) (u:=.slice n3 0 1 (some 1) 1) (bytes:=24) (w:=W) ho3 hnil hY (by omega) (by decide) c1 (by simp[Zaw,St.row,slc]) (by omega)
   rw[f1]
   have wok:¬n1<N:=by omega
   have f6:Zaa N w'=[]:=by rw[f2];simp[hW]
   have kz:=(kB.new (.cells [y] 97 true)).then f3
   have k4:Keeps h3 n3 (h3.set n3 (.cells [y] 97 true)) (n3+1):=Keeps.refl.new _
   have hq4:Q k (h3.set n3 (.cells [y] 97 true)) (n3+1) y:=hQ _ _ _ _ _ _ .nilslice c3 k4.upd Zo7.nil
   simp(disch:=first|(simp;done)|omega|rfl) [hf2,h10,f6]
   refine⟨m,by omega,kz,k+1,by omega,by simp,out++[[y]],f5,by simp[hol],by simp,fun c' hc z hz=>?_,fun j hj=>?_⟩
   ·rcases Yp2.1 hc with hc|hc
    ·exact hY c' hc z hz
    ·simp only[Yqp]at hc;subst hc;exact cY z hz
   by_cases hjk:j<k
   ·obtain⟨y,g1,g2⟩:=hout j hjk
    exact⟨y,by rw[Ypl (by omega)];exact g1,hQ _ _ _ _ _ _ _ (hQ _ _ _ _ _ _ .nilslice g2 (((Keeps.refl).trans k3).trans k4).upd Zo7.nil) f4 fD⟩
   ·obtain rfl:j=k:=by omega
    exact⟨y,by rw[Ypr (by omega),hol];simp,hQ _ _ _ _ _ _ _ hq4 f4 fD⟩
 ·rintro _ r ⟨H,n1,W⟩ hr ⟨rfl,hW,hK,u,out,h5,ho,hol,hout⟩
  simp only at hW hK ho hout
  simp[h5,Ret,hW,hK]
  exact⟨out,ho,hol,hout⟩
def A.lb86_0:Zae:=sr [bi 11 .lss 10 9]
 (.seq (cd 11
 (.skip)
 (.exit 0))
 (.seq (.block 1 (sr [ia 12 1 8 10,ld 13 12,mv 7 13]
 (.reg [mv 14 5,mv 15 1,mv 16 7,⟨(some 17),.call (.tmp 15) [(.tmp 16)],none⟩,⟨(some 18),.bslice 114 4 1 [(.int .i64 0),.nilslice,(.int .i64 0),.nilslice] [(0,4,(.tmp 17))],none⟩,⟨(some 19),.append 4 64 114 [(.int .i64 0),.nilslice,(.int .i64 0),.nilslice] (.tmp 14) (.tmp 18),none⟩,mv 5 19])))
 (.reg [bc 20 .add 10 1,mv 10 20])))
def A.b86:Zae:=sr [mN 4]
 (sr [mN 5]
 (.seq (sr [mv 8 0,ln 9 8,mc 10 0]
 (.block 0 (.loop A.lb86_0)))
 (sr [mv 21 5,mv 4 21]
 (.ret))))
theorem A.c86:A.F 86=some ⟨22,[.tmp 4],A.b86⟩:=by kernel_rfl
def A.k86:=@A.kk 86 _ _ _ A.c86 rfl
theorem Ydl{f:V}{l:List V}{Q:Nat→T O→Nat→List V→Prop}(Y:V→Prop)(hQ:∀j h n h' n' c u,Q j h n c→Upd (fun i=>i∈Zcl u) h n h' n'→Zo7 114 Y h u→Q j h' n' c)(hs:Sl h N v l)(hl:l.length<1000000)(hf:∀(j:Nat) (x:V),l[j]?=some x→∀h' n',Keeps h N h' n'→FnV A.C f [x] h' n' (fun u h2 n2=>∃c,u=(.agg c)∧c.length=4∧c.all V.one=true∧(∀q∈c,Y q)∧Q j h2 n2 c)):Fn A.C 86 [v,f] h N (fun u h' n'=>∃out,Own 4 114 N h' n' u out∧out.length=l.length∧∀(j:Nat),j<l.length→∃c,out[j]?=some c∧Q j h' n' c):=by
 intro w
 have hlen:=hs.len
 rw[Zab,A.k86 (by simp)]
 simp[A.b86,hlen]
 refine Zaj [(5,5),(7,7),(10,20)] (fun e r st=>e=.exit 0∧Zaa N st.w=[]∧Keeps h N st.h st.n∧∃u out,r.get 5=some u∧Own 4 114 N st.h st.n u out∧out.length=l.length∧∀(j:Nat),j<l.length→∃c,out[j]?=some c∧Q j st.h st.n c) (fun m r st=>Zaa N st.w=[]∧Keeps h N st.h st.n∧∃k u out,k+m=l.length∧r.get 10=some (.int .i64 k)∧r.get 5=some u∧Own 4 114 N st.h st.n u out∧out.length=k∧(out=[]→u=.nilslice)∧(∀c∈out,∀y∈c,Y y)∧∀(j:Nat),j<k→∃c,out[j]?=some c∧Q j st.h st.n c) l.length ?_ ?_ ?_
 ·exact⟨by simp,Keeps.refl,0,.nilslice,[],by omega,by simp,by simp,Own.nil,rfl,fun _=>rfl,by simp,fun j hj=>by omega⟩
 ·rintro m r ⟨H,n1,W⟩ hr hf2 ⟨hW,hK,k,u,out,hk,h10,h5,ho,hol,hnil,hY,hout⟩
  simp only at hW hK ho hout
  rw[Zah]
  cases m with
  |zero=>
   have hkk:k=l.length:=by omega
   subst hkk
   simp[A.lb86_0,hr,hf2,h10,hW,hK]
   exact⟨u,h5,out,ho,hol,hout⟩
  |succ m=>
   have hlt:k<l.length:=by omega
   obtain⟨x,hx⟩:=Zaf hlt
   obtain⟨i,o,cc,e,rw,q1,q2,q3,q4⟩:=(hs.keep hK).at hx
   have hk1:(k:Int)<(l.length:Int):=by omega
   have kA:=hK
   simp[A.lb86_0,hr,h10,h5,hk1,hlen,q1,q3,q4]
   refine Zh2 (hf k x hx _ _ kA) ?_
   rintro _ h3 n3 k3 ⟨c,rfl,c1,c2,cY,c3⟩
   have kle3:=k3.le
   have kn:=hK.le
   have kB:=kA.trans k3
   have b1:∀v:List V,(V.agg v).cells=v:=fun _=>rfl
   have b2:splice [(.int .i64 0),.nilslice,(.int .i64 0),.nilslice] 0 c=c:=by unfold splice;rw[c1];simp
   simp[-V.cells, -V.one,b1,b2,c1,c2]
   have ho3:Own 4 114 N (h3.set n3 (.cells c 114 true)) (n3+1) u out:=(ho.keep ((Keeps.refl).trans k3)).keep (Keeps.refl.new _)
   obtain⟨v',h',w',f1,f2,f3,f4,fD,f5⟩:=Zcy (Y:=Y) (x:=c) (u:=.slice n3 0 1 (some 1) 4) (bytes:=64) (w:=W) ho3 hnil hY (by omega) (by decide) c1 (by simp only[Zaw,St.row,T.get_set,if_true];unfold slc;simp[c1];exact Yo7 (by omega)) (by omega)
   rw[f1]
   have wok:¬n1<N:=by omega
   have f6:Zaa N w'=[]:=by rw[f2];simp[hW]
   have kz:=(kB.new (.cells c 114 true)).then f3
   have k4:Keeps h3 n3 (h3.set n3 (.cells c 114 true)) (n3+1):=Keeps.refl.new _
   have hq4:Q k (h3.set n3 (.cells c 114 true)) (n3+1) c:=hQ _ _ _ _ _ _ .nilslice c3 k4.upd Zo7.nil
   simp(disch:=first|(simp;done)|omega|rfl) [hf2,h10,f6]
   refine⟨m,by omega,kz,k+1,by omega,by simp,out++[c],f5,by simp[hol],by simp,fun c' hc z hz=>?_,fun j hj=>?_⟩
   ·rcases Yp2.1 hc with hc|hc
    ·exact hY c' hc z hz
    ·simp only[Yqp]at hc;subst hc;exact cY z hz
   by_cases hjk:j<k
   ·obtain⟨c,g1,g2⟩:=hout j hjk
    exact⟨c,by rw[Ypl (by omega)];exact g1,hQ _ _ _ _ _ _ _ (hQ _ _ _ _ _ _ .nilslice g2 (((Keeps.refl).trans k3).trans k4).upd Zo7.nil) f4 fD⟩
   ·obtain rfl:j=k:=by omega
    exact⟨c,by rw[Ypr (by omega),hol];simp,hQ _ _ _ _ _ _ _ hq4 f4 fD⟩
 ·rintro _ r ⟨H,n1,W⟩ hr ⟨rfl,hW,hK,u,out,h5,ho,hol,hout⟩
  simp only at hW hK ho hout
  simp[h5,Ret,hW,hK]
  exact⟨out,ho,hol,hout⟩
abbrev NW(y:V):Prop:=∀m,y≠.int .u64 m
theorem In.moved{x:V}{z:Int}{e:TypeId}(s:In h n x z)(k:Upd (fun i=>i∈Zcl v) h n h' n')(hd:Zo7 e NW h v):In h' n' x z:=by
 rcases s with s|⟨i,o,l,c,s1,s2,s3⟩
 ·exact .inl s
 ·refine .inr ⟨i,o,l,c,s1,Sl.moved s2 k fun j hj hjv=>?_,s3⟩
  simp[Zcl]at hj
  subst hj
  obtain⟨z2,g1,_,g3⟩:=hd j hjv
  unfold Wn at s2
  have hne:wds z.natAbs≠[]:=fun h0=>by
   have:=Zbo z.natAbs
   rw[h0]at this
   simp[val]at this
   omega
  obtain⟨d,ds,hds⟩:=List.exists_cons_of_ne_nil hne
  have hat:(dg (wds z.natAbs))[0]?=some (.int .u64 d):=by rw[hds];simp[dg]
  obtain⟨i2,o2,c2,e2,rw2,q1,q2,q3,q4⟩:=Sl.at s2 hat
  simp[Zkp]at q1
  obtain⟨rfl,rfl⟩:=q1
  rw[g1]at q3
  simp only[Yox,O.cells.injEq]at q3
  obtain⟨rfl,_⟩:=q3
  exact g3 _ (Yo3 q4) _ rfl
theorem FcC.moved{c:List V}{q:Rat}{e:TypeId}(s:FcC h n c q)(k:Upd (fun i=>i∈Zcl v) h n h' n')(hd:Zo7 e NW h v):FcC h' n' c q:=by
 obtain⟨n1,u1,n2,u2,rfl,s1,s2⟩:=s
 exact⟨n1,u1,n2,u2,rfl,s1.moved k hd,s2.moved k hd⟩
theorem Sn.row_lt{z:Nat}{l:List (List V)}(s:Sn z h N v l):∀i∈Zcl v,i<N:=fun i hi=>by
 rcases s with⟨_,rfl|rfl⟩|⟨j,o,cp,c,e,rw,rfl,hj,_⟩
 ·simp[Zcl]at hi
 ·simp[Zcl]at hi
 ·simp[Zcl]at hi;omega
theorem Sn.moved{z:Nat}{D:Nat→Prop}{N':Nat}{l:List (List V)}(s:Sn z h N v l)(k:Upd D h N h' N')(hd:∀i∈Zcl v,¬D i):Sn z h' N' v l:=by
 rcases s with s|⟨i,o,cp,c,e,rw,rfl,h2,h3,h4⟩
 ·exact .inl s
 ·exact .inr ⟨i,o,cp,c,e,rw,rfl,Yo8 h2 k.le,(k.get i h2 (hd i (by simp[Zcl]))).trans h3,h4⟩
theorem FrT.keep{N':Nat}{u:V}(s:FrT h N u l)(k:Keeps h N h' N'):FrT h' N' u l:=⟨s.1.keep k,fun i hi=>by
 obtain⟨cs,h1,_⟩:=s.1
 rw[k.get i (h1.row_lt i hi)]
 exact s.2 i hi⟩
theorem FrT.moved{u:V}{e:TypeId}(s:FrT h n u l)(k:Upd (fun i=>i∈Zcl v) h n h' n')(hd:Zo7 e NW h v)(he:e≠114):FrT h' n' u l:=by
 obtain⟨⟨cs,h1,h2,h3⟩,h4⟩:=s
 have hn:∀i∈Zcl u,i∉Zcl v:=fun i hi hc=>by
  obtain⟨z,w,hz⟩:=h4 i hi
  obtain⟨z2,hz2,_⟩:=hd i hc
  rw[hz]at hz2
  simp at hz2
  exact he hz2.2.1.symm
 refine⟨⟨cs,h1.moved k hn,h2,fun j q hq=>?_⟩,fun i hi=>by rw[k.get i (h1.row_lt i hi) (hn i hi)];exact h4 i hi⟩
 obtain⟨c,g1,g2⟩:=h3 j q hq
 exact⟨c,g1,g2.moved k hd⟩
theorem Yff{N0:Nat}{out:List (List V)}(s:Own 4 114 N0 h N v out)(hl:out.length=l.length)(hc:∀(j:Nat),j<l.length→∃c,out[j]?=some c∧∀q,l[j]?=some q→FcC h N c q):FrT h N v l:=by
 refine⟨⟨out,s.sn,hl,fun j q hq=>?_⟩,fun i hi=>?_⟩
 ·obtain⟨c,g1,g2⟩:=hc j (Za6 hq)
  exact⟨c,g1,g2 q hq⟩
 ·obtain⟨_,⟨_,rfl⟩|⟨j,rfl,_,_,hg⟩⟩:=s
  ·simp[Zcl]at hi
  ·simp[Zcl]at hi;subst hi;exact⟨_,_,hg⟩
structure DtI (h:T O) (N p:Nat) (a b:List Rat) (m:Nat) (r:T V) (st:St):Prop where
 w:Zaa N st.w=[]
 keep:Keeps h N st.h st.n
 ex:∃(t:Nat) (c:List V),t+m=a.length∧r.get 10=some (.int .i64 t)∧p<st.n∧st.h.get N=some (.cells zF 114 true)∧st.h.get p=some (.cells c 114 true)∧FcC st.h st.n c (Ync a b t)
variable {N:Nat} {h:T O} {m:List (List Rat)} {v:V}
def A.b141:Zae:=sr [bx 3 3 1,mN 4]
 (sr [mv 5 0,⟨(some 6),.mkfunc 209 [] [(.tmp 3)],none⟩,c2 7 86 5 6,mv 4 7]
 (.ret))
theorem A.c141:A.F 141=some ⟨8,[.tmp 4],A.b141⟩:=by kernel_rfl
def A.k141:=@A.kk 141 _ _ _ A.c141 rfl
def A.b209:Zae:=sr [⟨(some 3),.alloc [(.int .i64 0),.nilslice,(.int .i64 0),.nilslice] 114,none⟩]
 (sr [mv 4 0,ld 5 1,ia 6 4 4 5,lN 7 4 6,⟨none,.store 4 (.tmp 3) (.tmp 7),none⟩]
 (.ret))
theorem A.c209:A.F 209=some ⟨8,[.cell 3 (some 4)],A.b209⟩:=by kernel_rfl
def A.k209:=@A.kk 209 _ _ _ A.c209 rfl
def A.b71:Zae:=sr [mN 2]
 (sr [mv 3 0,⟨(some 4),.call (.const (.func 154 [] [])) [(.tmp 3),(.const (.func 72 [] []))],none⟩,mv 2 4]
 (.ret))
theorem A.c71:A.F 71=some ⟨5,[.tmp 2],A.b71⟩:=by kernel_rfl
def A.k71:=@A.kk 71 _ _ _ A.c71 rfl
def MfS(h:T O)(N:Nat)(v:V)(m:List (List Rat)):Prop:=∃us:List V,Sl h N v us∧us.length=m.length∧∀(j:Nat) (l:List Rat),m[j]?=some l→∃u,us[j]?=some u∧FrT h N u l
theorem MfS.keep{h':T O}{N':Nat}(s:MfS h N v m)(k:Keeps h N h' N'):MfS h' N' v m:=by
 obtain⟨us,h1,h2,h3⟩:=s
 refine⟨us,h1.keep k,h2,fun j l hl=>?_⟩
 obtain⟨u,g1,g2⟩:=h3 j l hl
 exact⟨u,g1,g2.keep k⟩
theorem MfS.len(s:MfS h N v m):Zl4 v=some m.length:=by
 obtain⟨us,h1,h2,_⟩:=s
 rw[h1.len,h2]
theorem FrS.form{l:List Rat}(s:FrS h N v l):V.one v=true∧V.cells v=[v]∧NW v:=by
 obtain⟨cs,⟨_,rfl|rfl⟩|⟨i,o,cp,c,e,rw,rfl,_⟩,_⟩:=s
 ·exact⟨rfl,rfl,fun m=>by simp⟩
 ·exact⟨rfl,rfl,fun m=>by simp⟩
 ·exact⟨rfl,rfl,fun m=>by simp⟩
theorem Ztm{k0:Nat}(hs:TxM h N v m)(hl:m.length<1000000)(hm:∀l∈m,l.length<1000000∧∀q∈l,Qb k0 q)(hk0:k0≤4000):Fn A.C 71 [v] h N (fun u h' n'=>MfS h' n' u m):=by
 intro w
 obtain⟨us,h1,h2,h3⟩:=hs
 rw[Zab,A.k71 (by simp)]
 simp[A.b71]
 refine Zac (Ydj (Q:=fun j h n u=>∀l,m[j]?=some l→FrT h n u l) NW (fun j h n h' n' c u hq k hd l hl=>(hq l hl).moved k hd (by simp)) h1 (by omega) ?_) ?_
 ·intro j x hx h' n' hk
  obtain⟨l,hl⟩:=Zaf (l:=m) (k:=j) (by have:=Za6 hx;omega)
  obtain⟨u,g1,g2⟩:=h3 j l hl
  rw[hx]at g1
  obtain rfl:x=u:=by simpa using g1
  obtain⟨b1,b2⟩:=hm l (Yo3 hl)
  refine fun w=>(Zw1 (k0:=k0) (g2.keep hk) b1 b2 hk0 w).mono fun y st=>?_
  rintro⟨q1,q2,q3⟩
  obtain⟨f1,f2,f3⟩:=q3.1.form
  refine⟨q1,q2,y,rfl,rfl,by simp only[List.all_cons,List.all_nil,f1,Bool.and_true],by simpa using f3,fun l' hl'=>?_⟩
  rw[hl]at hl'
  obtain rfl:l=l':=by simpa using hl'
  exact q3
 ·rintro u h4 n4 k4 ⟨out,o1,o2,o3⟩
  simp[Ret]
  refine⟨k4,?_⟩
  have hx:∀x∈out,∃y,x=[y]:=fun x hx=>by
   have:=o1.1 x hx
   cases x with
   |nil=>simp at this
   |cons y t=>cases t with
    |nil=>exact⟨y,rfl⟩
    |cons a b=>simp at this
  obtain⟨ys,hys⟩:∃ys:List V,out=ys.map fun y=>[y]:=by
   clear o1 o2 o3
   induction out with
   |nil=>exact⟨[],rfl⟩
   |cons x t ih=>
    obtain⟨y,rfl⟩:=hx x (by simp)
    obtain⟨ys,rfl⟩:=ih fun x hx'=>hx x (by simp[hx'])
    exact⟨y::ys,rfl⟩
  subst hys
  refine⟨ys,Sn.one.1 o1.sn,by simpa[h2]using o2,fun j l hl=>?_⟩
  obtain⟨y,g1,g2⟩:=o3 j (by have:=Za6 hl;omega)
  refine⟨y,?_,g2 l hl⟩
  rw[Ypp]at g1
  cases hy:ys[j]? with
  |none=>rw[hy]at g1;simp at g1
  |some z=>rw[hy]at g1;simpa using g1
theorem Yhy{f:V}(F:List Rat→Rat)(hs:MfS h N v m)(hl:m.length<1000000)(hf:∀l∈m,∀u h' n',Keeps h N h' n'→FrT h' n' u l→FnV A.C f [u] h' n' (fun x h2 n2=>Fc h2 n2 x (F l))):Fn A.C 86 [v,f] h N (fun u h' n'=>FrT h' n' u (m.map F)):=by
 obtain⟨us,h1,h2,h3⟩:=hs
 have key:=Ydl (f:=f) (Q:=fun j h n c=>∀q,(m.map F)[j]?=some q→FcC h n c q) NW (fun j h n h' n' c u hq k hd q hq'=>(hq q hq').moved k hd) h1 (by omega) ?_
 ·intro w
  refine(key w).mono fun u st=>?_
  rintro⟨q1,q2,out,o1,o2,o3⟩
  exact⟨q1,q2,Yff o1 (by simpa[h2]using o2) fun j hj=>o3 j (by simp at hj;omega)⟩
 ·intro j x hx h' n' hk
  obtain⟨l,hl⟩:=Zaf (l:=m) (k:=j) (by have:=Za6 hx;omega)
  obtain⟨u,g1,g2⟩:=h3 j l hl
  rw[hx]at g1
  obtain rfl:x=u:=by simpa using g1
  refine fun w=>(hf l (Yo3 hl) x h' n' hk (g2.keep hk) w).mono fun y st=>?_
  rintro⟨q1,q2,q3⟩
  obtain⟨c,rfl,hc⟩:=q3.c
  refine⟨q1,q2,c,rfl,hc.len.1,hc.len.2,hc.noU,fun q hq=>?_⟩
  simp[hl]at hq
  rw[←hq]
  exact hc
theorem Yi3{p:Nat}{u:V}{l:List Rat}{k:Nat}{e:TypeId}{rw:Bool}(hp:h.get p=some (.cells [.int .i64 k] e rw))(hpl:p<N)(hu:FrS h N u l)(hk:k<l.length):FnV A.C (.func 209 [] [.ptr p 0]) [u] h N (fun x h' n'=>Fc h' n' x (l[k]?.getD 0)):=by
 intro w
 have l1:=hu.len
 have hk':(k:Int)<(l.length:Int):=by omega
 obtain⟨q,hq⟩:=Zaf hk
 obtain⟨i,o,cc,e,rw,c,q1,q2,q3,q4,q5⟩:=hu.at hq
 obtain⟨e1,e2⟩:=q5.len
 have kB:Keeps h N (h.set N (.cells zF 114 true)) (N+1):=Keeps.refl.new _
 have hcc:(V.agg c).cells=c:=rfl
 have e4:splice zF 0 c=c:=by unfold splice;rw[e1];simp[zF]
 have hnz:NoU zF:=by intro x hx m;simp[zF]at hx;rcases hx with rfl|rfl|rfl|rfl<;>simp
 have s0:slc c 0 4=some c:=by unfold slc;rw[e1];simp;exact Yo7 (by omega)
 have kk:=kB.set (h:=h) (n:=N) (i:=N) (o:=.cells c 114 true) (Yoy N)
 have hfin:=((q5.keep kB).setNU (i:=N) (e0:=114) (w0:=true) (e1:=114) (w1:=true) (c1:=c) (by rw[T.get_set,Yo4 rfl]) hnz (by rw[e1];rfl)).fc
 have d1:¬p=N:=by omega
 have d2:¬i=N:=by omega
 rw[hq]
 unfold zF at e4
 rw[Zab,A.k209 (by simp)]
 simp[-V.cells, -V.one,A.b209,hp,d1,d2,l1,hk',q1,q3,q4,hcc,e1,e2,e4,s0,Zak,Ret]
 exact⟨kk,hfin⟩
theorem Yem{u:V}{k n:Nat}(hu:MfS h N u m)(hml:m.length<100000)(hm:∀r∈m,r.length=n)(hk:k<n):Fn A.C 141 [u,.int .i64 k] h N (fun x h' n'=>FrT h' n' x (Zxs m k)):=by
 intro w
 rw[Zab,A.k141 (by simp)]
 have kB:Keeps h N (h.set N (.cells [.int .i64 k] 3 true)) (N+1):=Keeps.refl.new _
 simp[A.b141]
 refine Zac (Yhy (fun r=>r[k]?.getD 0) (hu.keep kB) (by omega) fun l hl2 x h' n' hk2 hx=>?_) ?_
 ·exact Yi3 (e:=3) (rw:=true) (by rw[hk2.get N (by omega)];simp) (by have:=hk2.le;omega) hx.1 (by rw[hm l hl2];exact hk)
 ·rintro x h4 n4 k4 hx
  simp[Ret]
  exact⟨kB.trans k4,hx⟩
variable {N:Nat} {h:T O} {m:List (List Rat)} {v:V}
def A.lb198_0:Zae:=sr [bi 9 .lss 8 7]
 (.seq (cd 9
 (.skip)
 (.exit 0))
 (.seq (.block 1 (sr [mv 10 8,mv 5 10]
 (sr [mv 11 1,mv 12 0,mv 13 5,ia 14 4 12 13,lN 15 4 14,⟨(some 16),.call (.tmp 11) [(.tmp 15)],none⟩]
 (cd 16
 (sr [mv 17 5,mv 4 17]
 (.ret))
 (.skip)))))
 (.reg [bc 18 .add 8 1,mv 8 18])))
def A.b198:Zae:=sr [mc 4 0]
 (.seq (sr [mv 6 0,ln 7 6,mc 8 0]
 (.block 0 (.loop A.lb198_0)))
 (sr [⟨(some 4),.mov (.const (.int .i64 (-1))),none⟩]
 (.ret)))
theorem A.c198:A.F 198=some ⟨19,[.tmp 4],A.b198⟩:=by kernel_rfl
def A.k198:=@A.kk 198 _ _ _ A.c198 rfl
theorem Yie{f:V}(l:List (List V))(p:Nat→Bool)(hs:Sn 4 h N v l)(hl:l.length<1152921504606846976)(hf:∀(j:Nat) (x:List V),l[j]?=some x→∀h' n',Keeps h N h' n'→FnV A.C f [.agg x] h' n' (fun u _ _=>u=.bool (p j))):Fn A.C 198 [v,f] h N (fun u _ _=>u=.int .i64 (Zb8 p 0 l.length)):=by
 intro w
 have hlen:=hs.len
 rw[Zab,A.k198 (by simp)]
 simp[A.b198,hlen]
 refine Zaj [(4,5),(8,18)] (fun e r st=>Zaa N st.w=[]∧Keeps h N st.h st.n∧((e=.exit 0∧Zb8 p 0 l.length= -1)∨(e=.ret∧r.get 4=some (.int .i64 (Zb8 p 0 l.length))))) (fun m r st=>Zaa N st.w=[]∧Keeps h N st.h st.n∧∃k,k+m=l.length∧r.get 8=some (.int .i64 k)∧Zb8 p 0 l.length=Zb8 p k m) l.length ?_ ?_ ?_
 ·exact⟨by simp,Keeps.refl,0,by omega,by simp,rfl⟩
 ·rintro m r ⟨H,n1,W⟩ hr hf2 ⟨hW,hK,k,hk,h8,hz⟩
  simp only at hW hK
  rw[Zah]
  cases m with
  |zero=>
   have:k=l.length:=by omega
   subst this
   simp only[Zb8]at hz
   simp[A.lb198_0,hr,hf2,h8,hW,hK,hz]
  |succ m=>
   have hlt:k<l.length:=by omega
   obtain⟨c,hc⟩:=Zaf hlt
   obtain⟨i,o,cc,e,rw,q1,q2,q3,q4⟩:=hs.at hc
   have q3:=(hK.get _ q2).trans q3
   have hk1:(k:Int)<(l.length:Int):=by omega
   simp only[Zb8]at hz
   simp[A.lb198_0,hr,h8,hk1,hlen,q1,q3,q4]
   refine Zh2 (hf k c hc _ _ hK) ?_
   rintro v h2 n2 k2 rfl
   have kk:=hK.trans k2
   cases hp:p k
   ·rw[hp]at hz
    simp(disch:=first|(simp;done)|omega|rfl) [hf2,h8,hW,kk]
    exact⟨m,by omega,k+1,by omega,by simp,by simpa using hz⟩
   ·rw[hp]at hz
    simp[hf2,hW,kk]
    simpa using hz.symm
 ·rintro e r ⟨H,n1,W⟩ hr ⟨hW,hK,⟨rfl,hz⟩|⟨rfl,h4⟩⟩
  ·simp only at hW hK
   simp[hz,Ret,hW,hK]
  ·simp only at hW hK
   simp[h4,Ret,hW,hK]
def A.b126:Zae:=sr [⟨(some 4),.mov (.const (.bool false)),none⟩]
 (sr [mv 5 0,mv 6 1,c2 7 198 5 6,bc 8 .geq 7 0,mv 4 8]
 (.ret))
theorem A.c126:A.F 126=some ⟨9,[.tmp 4],A.b126⟩:=by kernel_rfl
def A.k126:=@A.kk 126 _ _ _ A.c126 rfl
def A.lb89_0:Zae:=sr [bi 15 .lss 14 13]
 (.seq (cd 15
 (.skip)
 (.exit 0))
 (.seq (.block 1 (sr [mv 16 14,mv 8 16]
 (.regD [mv 17 7,mv 18 8,mv 19 2,mv 20 0,mv 21 8,ia 22 4 20 21,lN 23 4 22,mv 24 1,mv 25 8,ia 26 4 24 25,lN 27 4 26,⟨(some 28),.call (.tmp 19) [(.tmp 23),(.tmp 27)],none⟩,ia 29 4 17 18,⟨none,.store 4 (.tmp 29) (.tmp 28),none⟩] [0,0,0,0,0,24,56,0,0,384,896,2044,4095,8191])))
 (.reg [bc 30 .add 14 1,mv 14 30])))
def A.b89:Zae:=sr [mN 6]
 (sr [mv 9 0,ln 10 9,⟨(some 11),.mkslice 114 4 64 [(.int .i64 0),.nilslice,(.int .i64 0),.nilslice] (.tmp 10) (.tmp 10),none⟩,mv 7 11]
 (.seq (sr [mv 12 0,ln 13 12,mc 14 0]
 (.block 0 (.loop A.lb89_0)))
 (sr [mv 31 7,mv 6 31]
 (.ret))))
theorem A.c89:A.F 89=some ⟨32,[.tmp 6],A.b89⟩:=by kernel_rfl
def A.k89:=@A.kk 89 _ _ _ A.c89 rfl
theorem Yei{f:V}(l:List (List V))(p:Nat→Bool)(hs:Sn 4 h N v l)(hl:l.length<1152921504606846976)(hf:∀(j:Nat) (x:List V),l[j]?=some x→∀h' n',Keeps h N h' n'→FnV A.C f [.agg x] h' n' (fun u _ _=>u=.bool (p j))):Fn A.C 126 [v,f] h N (fun u _ _=>u=.bool (decide (0≤Zb8 p 0 l.length))):=by
 intro w
 rw[Zab,A.k126 (by simp)]
 simp[A.b126]
 refine Zac (Yie l p hs hl hf) ?_
 rintro v h2 n2 k2 rfl
 simp[Ret,k2]
def MfO(N0:Nat)(h:T O)(N:Nat)(v:V)(m:List (List Rat)):Prop:=∃us:List V,Own 1 97 N0 h N v (us.map fun y=>[y])∧(us=[]→v=.nilslice)∧us.length=m.length∧∀(j:Nat) (l:List Rat),m[j]?=some l→∃u,us[j]?=some u∧FrT h N u l
theorem MfO.nil{N0:Nat}:MfO N0 h N .nilslice []:=⟨[],Own.nil,fun _=>rfl,rfl,fun j l hl=>by simp at hl⟩
theorem MfO.keep{N0:Nat}{h':T O}{N':Nat}(s:MfO N0 h N v m)(k:Keeps h N h' N'):MfO N0 h' N' v m:=by
 obtain⟨us,h1,h2,h3,h4⟩:=s
 refine⟨us,h1.keep k,h2,h3,fun j l hl=>?_⟩
 obtain⟨u,g1,g2⟩:=h4 j l hl
 exact⟨u,g1,g2.keep k⟩
theorem MfO.mfs{N0:Nat}(s:MfO N0 h N v m):MfS h N v m:=by
 obtain⟨us,h1,h2,h3,h4⟩:=s
 exact⟨us,Sn.one.1 h1.sn,h3,h4⟩
theorem MfO.push{N0:Nat}{u x:V}{l:List Rat}{w:List Nat}(s:MfO N0 h N v m)(hu:FrT h N u l)(hN:N0≤N)(hx:Zaw ⟨h,N,w⟩ 1 x=some (1,[u]))(hm:m.length<100000):
  ∃v' h' w',Zb2 ⟨h,N,w⟩ 1 24 97 v x=some (v',⟨h',N+1,w'⟩)∧Zaa N0 w'=Zaa N0 w∧Keeps h N0 h' (N+1)∧MfO N0 h' (N+1) v' (m++[l]):=by
 obtain⟨us,h1,h2,h3,h4⟩:=s
 obtain⟨v',h',w',f1,f2,f3,f4,fD,f5⟩:=Zcy (Y:=NW) (x:=[u]) (u:=x) (bytes:=24) (w:=w) h1 (fun h0=>h2 (List.map_eq_nil_iff.1 h0)) (fun c hc y hy=>by
  obtain⟨z,hz,rfl⟩:=Yql.1 hc
  obtain rfl:y=z:=by simpa using hy
  obtain⟨j,hj⟩:=Yrf hz
  obtain⟨r,hr⟩:=Zaf (l:=m) (k:=j) (by have:=Za6 hj;omega)
  obtain⟨u',g1,g2⟩:=h4 j r hr
  rw[hj]at g1
  obtain rfl:y=u':=by simpa using g1
  exact g2.1.form.2.2) hN (by decide) rfl hx (by rw[Yrc];omega)
 refine⟨v',h',w',f1,f2,f3,us++[u],by simpa using f5,by simp,by simp[h3],fun j r hr=>?_⟩
 by_cases hj:j<m.length
 ·rw[Ypl hj]at hr
  obtain⟨u',g1,g2⟩:=h4 j r hr
  exact⟨u',by rw[Ypl (by omega)];exact g1,g2.moved f4 fD (by simp)⟩
 ·rw[Ypr (by omega)]at hr
  cases hd:j-m.length with
  |zero=>
   rw[hd]at hr
   simp at hr
   subst hr
   exact⟨u,by rw[Ypr (by omega),h3,hd];rfl,hu.moved f4 fD (by simp)⟩
  |succ d=>rw[hd]at hr;simp at hr
end Go.Mx
