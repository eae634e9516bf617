/-
  reconstruct: sizes, checkMatrix, checkAny.
-/
import Derived.Test.YtlbophlgohokkaaGreatDoorVaB
set_option linter.all false
namespace Go.Mx
open Go Go.Proofs
set_option maxHeartbeats 1000000
set_option maxRecDepth 1000000
def A.b200:aq:=sr [⟨(some 2),.alloc [(.int .i64 0),(.int .i64 0)] 151,none⟩]
 (sr [mv 3 0,ln 4 3,mv 5 0,⟨(some 6),.aI 1 (.tmp 5) (.const (.int .i64 0)),none⟩,ld 7 6,ln 8 7,⟨(some 9),.build [(.int .i64 0),(.int .i64 0)] [(0,1,(.tmp 4)),(1,1,(.tmp 8))],none⟩,⟨none,.store 2 (.tmp 2) (.tmp 9),none⟩]
 (.ret))
theorem A.c200:A.F 200=some ⟨10,[.cell 2 (some 2)],A.b200⟩:=by kernel_rfl
def A.k200:=@A.kk 200 _ _ _ A.c200 rfl
def A.zce:aq:=sr [bi 36 .lss 35 34]
 (.seq (cd 36
 (.skip)
 (.exit 0))
 (.seq (.block 1 (sr [ia 37 1 33 35,ld 38 37,mv 7 38]
 (sr [mv 39 7,⟨(some 40),.bY 2 1 (.tmp 5) (.const (.int .i64 1)),none⟩,ld 41 40,c2 42 68 39 41,mv 8 42]
 (sr [mv 43 8,ni 44 43 0]
 (cd 44
 (sr [mv 45 8,mv 4 45]
 (.ret))
 (.skip))))))
 (.aL [bc 46 .add 35 1,mv 35 46])))
def A.b131:aq:=sr [bx 3 151 1,mc 4 0]
 (.seq (sr [mv 9 0,ln 10 9,ei 11 10 0,mv 12 11,mh 13 0 12,⟨(some 14),.aI 1 (.tmp 13) (.const (.int .i64 0)),(some (12,false))⟩,⟨(some 15),.load none (.tmp 14),(some (12,false))⟩,⟨(some 16),.len 1 (.tmp 15),(some (12,false))⟩,⟨(some 17),.bin .eql (.aH .int) true (.tmp 16) (.const (.int .i64 0)),(some (12,false))⟩,pt 18 12 17]
 (cd 18
 (sr [mc 4 12]
 (.ret))
 (.skip)))
 (sr [mv 19 0,c1 20 200 19,⟨(some 5),.alloc [(.int .i64 0),(.int .i64 0)] 151,none⟩,⟨none,.store 2 (.tmp 5) (.tmp 20),none⟩]
 (.seq (sr [⟨(some 21),.bY 2 1 (.tmp 5) (.const (.int .i64 0)),none⟩,ld 22 21,⟨(some 23),.bY 2 1 (.tmp 3) (.const (.int .i64 0)),none⟩,ld 24 23,bi 25 .gtr 22 24,mv 26 25,⟨(some 27),.bY 2 1 (.tmp 5) (.const (.int .i64 1)),(some (26,false))⟩,⟨(some 28),.load none (.tmp 27),(some (26,false))⟩,⟨(some 29),.bY 2 1 (.tmp 3) (.const (.int .i64 1)),(some (26,false))⟩,⟨(some 30),.load none (.tmp 29),(some (26,false))⟩,⟨(some 31),.bin .gtr (.node []) false (.tmp 28) (.tmp 30),(some (26,false))⟩,pt 32 26 31]
 (cd 32
 (sr [mc 4 5]
 (.ret))
 (.skip)))
 (.seq (sr [mv 33 0,ln 34 33,mc 35 0]
 (.block 0 (.loop A.zce)))
 (sr [mc 4 0]
 (.ret))))))
theorem A.c131:A.F 131=some ⟨47,[.tmp 4],A.b131⟩:=by kernel_rfl
def A.k131:=@A.kk 131 _ _ _ A.c131 rfl
theorem Yfe{h:T O}{N:Nat}{v:V}{l:List (List aX)}{l0:List aX}(hs:gI h N v l)(h0:l[0]?=some l0):Fn A.C 200 [v] h N (fun u _ _=>u=.agg [.int .i64 l.length,.int .i64 l0.length]):=by
 intro w
 have hlen:=hs.len
 have jL:0<l.length:=kc h0
 have AT:0<(l.length:Int):=by omega
 obtain⟨i0,o0,Mc,e0,AF,u0,z1,z2,z3,z4,z5⟩:=hs.at h0
 have z6:=z5.len
 rw[rE]at z6
 rw[jR]at z4
 have d1:¬i0=N:=by omega
 have d2:¬N=i0:=by omega
 rw[aP,A.k200 (by simp)]
 simp[A.b200,hlen,jL,z1,z3,z4,z6,d1,ag,bL,aO,aM,aA]
 exact(ab.refl.new _).set (aV _)
theorem Yf4{h:T O}{N:Nat}{v:V}{l:List (List aX)}{a b:Nat}(hs:gI h N v l)(hl:l.length<100000)(hx:∀x∈l,x.length<100000/\∀s∈x,s.length<=100000):Fn A.C 131 [v,.agg [.int .i64 a,.int .i64 b]] h N (fun u _ _=>u=.int .i64 (jl l a b)):=by
 intro w
 have hlen:=hs.len
 rw[aP,A.k131 (by simp)]
 by_cases c0:l.length=0
 ·have c0':(l.length:Int)=0:=by omega
  simp[A.b131,hlen,c0,jl,aA]
  exact ab.refl.new _
 have c0':¬(l.length:Int)=0:=by omega
 have jL:0<l.length:=by omega
 have AT:0<(l.length:Int):=by omega
 obtain⟨l0,ff⟩:=bs jL
 obtain⟨i0,o0,Mc,e0,AF,u0,z1,z2,z3,z4,z5⟩:=hs.at ff
 have z6:=z5.len
 rw[rE]at z6
 rw[jR]at z4
 obtain⟨n,hn⟩:∃n,n=l0.length:=⟨_,rfl⟩
 have en:gT l=n:=by simp[gT,ff,hn]
 rw[<-hn]at z6
 have xl:n<100000:=by have:=(hx l0 (cm ff)).1;omega
 have d1:¬i0=N:=by omega
 have d2:¬N=i0:=by omega
 by_cases c1:n=0
 ·have c1':(n:Int)=0:=by omega
  simp[A.b131,hlen,c0,jL,z1,z3,z4,z6,d1,c1,jl,en,aA]
  exact ab.refl.new _
 have c1':¬(n:Int)=0:=by omega
 have e1:jl l a b=if a<l.length\/b<n then 5 else bV (l.map fun x=>fI x n):=by simp[jl,en,c0,c1]
 rw[e1]
 simp[A.b131,hlen,c0,jL,z1,z3,z4,z6,d1,c1]
 generalize hH:h.set N (.cells [.int .i64 a,.int .i64 b] 151 true)=H
 have k1:ab h N H (N+1):=by rw[<-hH];exact ab.refl.new _
 have g1:H.get N=some (.cells [.int .i64 a,.int .i64 b] 151 true):=by rw[<-hH];simp
 clear hH
 refine ax (Yfe (hs.ad k1) ff) ?_
 rintro _ H2 n2 k2 rfl
 rw[<-hn]
 have kl2:=k2.le
 have g2:=(k2.get N (by omega)).trans g1
 have d3:¬N=n2:=by omega
 have d4:¬n2=N:=by omega
 have kz:ab h N ((H2.set n2 (.cells [.int .i64 0,.int .i64 0] 151 true)).set n2 (.cells [.int .i64 l.length,.int .i64 n] 151 true)) (n2+1):=((k1.trans k2).new _).set (by omega)
 by_cases c2:a<l.length
 ·have c2':(a:Int)<(l.length:Int):=by omega
  simp[g2,d3,ag,bL,aO,c2,c2',aA]
  exact⟨by omega,kz⟩
 have c2':¬(a:Int)<(l.length:Int):=by omega
 by_cases c3:b<n
 ·have c3':(b:Int)<(n:Int):=by omega
  simp[g2,d3,ag,bL,aO,c2,c2',c3,c3',aA]
  exact⟨by omega,kz⟩
 have c3':¬(b:Int)<(n:Int):=by omega
 simp[hlen,g2,d3,ag,bL,aO,c2,c2',c3,c3']
 generalize ZE:(H2.set n2 (.cells [.int .i64 0,.int .i64 0] 151 true)).set n2 (.cells [.int .i64 l.length,.int .i64 n] 151 true)=H3 at*
 have g3:H3.get n2=some (.cells [.int .i64 l.length,.int .i64 n] 151 true):=by rw[<-ZE];simp
 clear ZE
 have kd:ab H3 (n2+1) H3 (n2+1):=ab.refl
 refine bN [(4,4),(7,8),(35,46)] (fun e r st=>au N st.w=[]/\ab h N st.h st.n/\((e=.exit 0/\bV (l.map (fun x=>fI x n))=0)\/(e=.ret/\r.get 4=some (.int .i64 (bV (l.map (fun x=>fI x n))))))) (fun m r st=>au N st.w=[]/\ab h N st.h st.n/\(n2<st.n/\st.h.get n2=H3.get n2)/\∃k,k+m=l.length/\r.get 35=some (.int .i64 k)/\bV (l.map (fun x=>fI x n))=bV ((l.drop k).map (fun x=>fI x n))) l.length ?_ ?_ ?_
 ·exact⟨by simp;omega,kz,⟨by simp,rfl⟩,0,by omega,by simp,by simp⟩
 ·rintro m r ⟨H,n1,W⟩ hr dX ⟨hW,hK,⟨dW,hG⟩,k,hk,h7,hz⟩
  simp only at hW hK dW hG
  rw[bn]
  cases m with
  |zero=>
   obtain rfl:k=l.length:=by omega
   rw[lP,ql,bV]at hz
   simp[A.zce,hr,dX,h7,hz,hW,hK]
  |succ m=>
   have aB:k<l.length:=by omega
   obtain⟨s,hc⟩:=bs aB
   obtain⟨i,o,cc,e,rw,u,q1,q2,q3,q4,q5⟩:=(hs.ad hK).at hc
   have g4:=hG.trans g3
   rw[fP hc,jU,bV]at hz
   have bU:(k:Int)<(l.length:Int):=by omega
   simp[A.zce,hr,h7,bU,hlen,q1,q3,q4,g4]
   refine ax (ZD q5 (hx s (cm hc)).1 (hx s (cm hc)).2) ?_
   rintro _ h3 n3 k3 rfl
   have kk:=hK.trans k3
   by_cases h0:fI s n=0
   ·rw[aF h0]at hz
    simp(disch:=first|(simp;done)|omega|rfl) [dX,h7,h0,hW]
    exact⟨m,by omega,kk,⟨by have:=k3.le;omega,(k3.get n2 dW).trans hG⟩,k+1,by omega,by simp,by simpa using hz⟩
   ·rw[ar h0]at hz
    simp[dX,h0,hW,hz]
    exact kk
 ·rintro _ r ⟨H,n1,W⟩ hr ⟨hW,hK,⟨rfl,hz⟩|⟨rfl,h2⟩⟩
  ·simp only at hW hK
   simp[hz,aA,hW,hK]
  ·simp only at hW hK
   simp[h2,aA,hW,hK]
variable {N n n':Nat} {h h':T O} {l:List Rat} {v:V}
set_option maxHeartbeats 2000000
def A.zcf:aq:=sr [bi 11 .lss 10 9]
 (.seq (cd 11
 (.skip)
 (.exit 0))
 (.seq (.block 1 (sr [ia 12 1 8 10,ld 13 12,mv 7 13]
 (.aL [mv 14 5,mv 15 1,mv 16 7,⟨(some 17),.call (.tmp 15) [(.tmp 16)],none⟩,⟨(some 18),.aY 97 1 1 [.aa] [(0,1,(.tmp 17))],none⟩,⟨(some 19),.append 1 24 97 [.aa] (.tmp 14) (.tmp 18),none⟩,mv 5 19])))
 (.aL [bc 20 .add 10 1,mv 10 20])))
def A.b154:aq:=sr [mN 4]
 (sr [mN 5]
 (.seq (sr [mv 8 0,ln 9 8,mc 10 0]
 (.block 0 (.loop A.zcf)))
 (sr [mv 21 5,mv 4 21]
 (.ret))))
theorem A.c154:A.F 154=some ⟨22,[.tmp 4],A.b154⟩:=by kernel_rfl
def A.k154:=@A.kk 154 _ _ _ A.c154 rfl
theorem Ygv{f:V}{l:List V}{Q:Nat->T O->Nat->V->Prop}(Y:V->Prop)(hQ:∀j h n h' n' c u,Q j h n c->dC (fun i=>i∈dj u) h n h' n'->pV 97 Y h u->Q j h' n' c)(hs:Sl h N v l)(hl:l.length<1000000)(hf:∀(j:Nat) (x:V),l[j]?=some x->∀h' n',ab h N h' n'->q9 A.C f [x] h' n' (fun u h2 n2=>∃y,u=y/\[y].length=1/\[y].all V.one=true/\(∀q∈[y],Y q)/\Q j h2 n2 y)):Fn A.C 154 [v,f] h N (fun u h' n'=>∃out,Own 1 97 N h' n' u out/\out.length=l.length/\∀(j:Nat),j<l.length->∃y,out[j]?=some [y]/\Q j h' n' y):=by
 intro w
 have hlen:=hs.len
 rw[aP,A.k154 (by simp)]
 simp[A.b154,hlen]
 refine bN [(5,5),(7,7),(10,20)] (fun e r st=>e=.exit 0/\au N st.w=[]/\ab h N st.h st.n/\∃u out,r.get 5=some u/\Own 1 97 N st.h st.n u out/\out.length=l.length/\∀(j:Nat),j<l.length->∃y,out[j]?=some [y]/\Q j st.h st.n y) (fun m r st=>au N st.w=[]/\ab h N st.h st.n/\∃k u out,k+m=l.length/\r.get 10=some (.int .i64 k)/\r.get 5=some u/\Own 1 97 N st.h st.n u out/\out.length=k/\(out=[]->u=.aa)/\(∀c∈out,∀y∈c,Y y)/\∀(j:Nat),j<k->∃y,out[j]?=some [y]/\Q j st.h st.n y) l.length ?_ ?_ ?_
 ·exact⟨by simp,ab.refl,0,.aa,[],by omega,by simp,by simp,Own.nil,rfl,fun _=>rfl,by simp,fun j hj=>by omega⟩
 ·rintro m r ⟨H,n1,W⟩ hr dX ⟨hW,hK,k,u,out,hk,lO,h5,ho,kb,AZ,hY,fO⟩
  simp only at hW hK ho fO
  rw[bn]
  cases m with
  |zero=>
   have A1:k=l.length:=by omega
   subst A1
   simp[A.zcf,hr,dX,lO,hW,hK]
   exact⟨u,h5,out,ho,kb,fO⟩
  |succ m=>
   have aB:k<l.length:=by omega
   obtain⟨x,hx⟩:=bs aB
   obtain⟨i,o,cc,e,rw,q1,q2,q3,q4⟩:=(hs.ad hK).at hx
   have bU:(k:Int)<(l.length:Int):=by omega
   have kA:=hK
   simp[A.zcf,hr,lO,h5,bU,hlen,q1,q3,q4]
   refine Dk (hf k x hx _ _ kA) ?_
   rintro y h3 n3 k3 ⟨_,rfl,c1,c2,cY,c3⟩
   have iV:=k3.le
   have kn:=hK.le
   have kB:=kA.trans k3
   have b1:V.one y=true:=by simpa using c2
   have b2:V.cells y=[y]:=by cases y<;>first|rfl|cases b1
   simp[-V.cells, -V.one,b1,b2,ag]
   have th:Own 1 97 N (h3.set n3 (.cells [y] 97 true)) (n3+1) u out:=(ho.ad ((ab.refl).trans k3)).ad (ab.refl.new _)
   obtain⟨v',h',w',f1,f2,f3,f4,fD,f5⟩:=Dl (Y:=Y) (x:=[y]) (u:=.slice n3 0 1 (some 1) 1) (bytes:=24) (w:=W) th AZ hY (by omega) (by decide) c1 (by simp[ft,St.row,aM]) (by omega)
   rw[f1]
   have ix:¬n1<N:=by omega
   have f6:au N w'=[]:=by rw[f2];simp[hW]
   have kz:=(kB.new (.cells [y] 97 true)).then f3
   have k4:ab h3 n3 (h3.set n3 (.cells [y] 97 true)) (n3+1):=ab.refl.new _
   have Fk:Q k (h3.set n3 (.cells [y] 97 true)) (n3+1) y:=hQ _ _ _ _ _ _ .aa c3 k4.upd pV.nil
   simp(disch:=first|(simp;done)|omega|rfl) [dX,lO,f6]
   refine⟨m,by omega,kz,k+1,by omega,by simp,out++[[y]],f5,by simp[kb],by simp,fun c' hc z hz=>?_,fun j hj=>?_⟩
   ·rcases pw.1 hc with hc|hc
    ·exact hY c' hc z hz
    ·simp only[uf]at hc;subst hc;exact cY z hz
   by_cases px:j<k
   ·obtain⟨y,g1,g2⟩:=fO j px
    exact⟨y,by rw[jO (by omega)];exact g1,hQ _ _ _ _ _ _ _ (hQ _ _ _ _ _ _ .aa g2 (((ab.refl).trans k3).trans k4).upd pV.nil) f4 fD⟩
   ·obtain rfl:j=k:=by omega
    exact⟨y,by rw[od (by omega),kb];simp,hQ _ _ _ _ _ _ _ Fk f4 fD⟩
 ·rintro _ r ⟨H,n1,W⟩ hr ⟨rfl,hW,hK,u,out,h5,ho,kb,fO⟩
  simp only at hW hK ho fO
  simp[h5,aA,hW,hK]
  exact⟨out,ho,kb,fO⟩
abbrev NW(y:V):Prop:=∀m,y≠.int .u64 m
theorem In.cL{x:V}{z:Int}{e:TypeId}(s:In h n x z)(k:dC (fun i=>i∈dj v) h n h' n')(hd:pV e NW h v):In h' n' x z:=by
 rcases s with s|⟨i,o,l,c,s1,s2,s3⟩
 ·exact .inl s
 ·refine .inr ⟨i,o,l,c,s1,Sl.cL s2 k fun j hj hjv=>?_,s3⟩
  simp[dj]at hj
  subst hj
  obtain⟨z2,g1,_,g3⟩:=hd j hjv
  unfold Wn at s2
  have bA:aD z.natAbs≠[]:=fun h0=>by
   have:=j9 z.natAbs
   rw[h0]at this
   simp[val]at this
   omega
  obtain⟨d,ds,ks⟩:=List.exists_cons_of_ne_nil bA
  have CL:(dg (aD z.natAbs))[0]?=some (.int .u64 d):=by rw[ks];simp[dg]
  obtain⟨i2,o2,c2,e2,Nc,q1,q2,q3,q4⟩:=Sl.at s2 CL
  simp[tK]at q1
  obtain⟨rfl,rfl⟩:=q1
  rw[g1]at q3
  simp only[ai,O.cells.injEq]at q3
  obtain⟨rfl,_⟩:=q3
  exact g3 _ (cm q4) _ rfl
theorem eQ.cL{c:List V}{q:Rat}{e:TypeId}(s:eQ h n c q)(k:dC (fun i=>i∈dj v) h n h' n')(hd:pV e NW h v):eQ h' n' c q:=by
 obtain⟨n1,u1,n2,u2,rfl,s1,s2⟩:=s
 exact⟨n1,u1,n2,u2,rfl,s1.cL k hd,s2.cL k hd⟩
theorem Sn.wi{z:Nat}{l:List (List V)}(s:Sn z h N v l):∀i∈dj v,i<N:=fun i hi=>by
 rcases s with⟨_,rfl|rfl⟩|⟨j,o,cp,c,e,rw,rfl,hj,_⟩
 ·simp[dj]at hi
 ·simp[dj]at hi
 ·simp[dj]at hi;omega
theorem Sn.cL{z:Nat}{D:Nat->Prop}{N':Nat}{l:List (List V)}(s:Sn z h N v l)(k:dC D h N h' N')(hd:∀i∈dj v,¬D i):Sn z h' N' v l:=by
 rcases s with s|⟨i,o,cp,c,e,rw,rfl,h2,h3,h4⟩
 ·exact .inl s
 ·exact .inr ⟨i,o,cp,c,e,rw,rfl,dZ h2 k.le,(k.get i h2 (hd i (by simp[dj]))).trans h3,h4⟩
theorem jA.ad{N':Nat}{u:V}(s:jA h N u l)(k:ab h N h' N'):jA h' N' u l:=⟨s.1.ad k,fun i hi=>by
 obtain⟨cs,h1,_⟩:=s.1
 rw[k.get i (h1.wi i hi)]
 exact s.2 i hi⟩
theorem jA.cL{u:V}{e:TypeId}(s:jA h n u l)(k:dC (fun i=>i∈dj v) h n h' n')(hd:pV e NW h v)(he:e≠114):jA h' n' u l:=by
 obtain⟨⟨cs,h1,h2,h3⟩,h4⟩:=s
 have hn:∀i∈dj u,i∉dj v:=fun i hi hc=>by
  obtain⟨z,w,hz⟩:=h4 i hi
  obtain⟨z2,dP,_⟩:=hd i hc
  rw[hz]at dP
  simp at dP
  exact he dP.2.1.symm
 refine⟨⟨cs,h1.cL k hn,h2,fun j q hq=>?_⟩,fun i hi=>by rw[k.get i (h1.wi i hi) (hn i hi)];exact h4 i hi⟩
 obtain⟨c,g1,g2⟩:=h3 j q hq
 exact⟨c,g1,g2.cL k hd⟩
theorem Yn6{N0:Nat}{out:List (List V)}(s:Own 4 114 N0 h N v out)(hl:out.length=l.length)(hc:∀(j:Nat),j<l.length->∃c,out[j]?=some c/\∀q,l[j]?=some q->eQ h N c q):jA h N v l:=by
 refine⟨⟨out,s.sn,hl,fun j q hq=>?_⟩,fun i hi=>?_⟩
 ·obtain⟨c,g1,g2⟩:=hc j (kc hq)
  exact⟨c,g1,g2 q hq⟩
 ·obtain⟨_,⟨_,rfl⟩|⟨j,rfl,_,_,hg⟩⟩:=s
  ·simp[dj]at hi
  ·simp[dj]at hi;subst hi;exact⟨_,_,hg⟩
structure DtI (h:T O) (N p:Nat) (a b:List Rat) (m:Nat) (r:T V) (st:St):Prop where
 w:au N st.w=[]
 ad:ab h N st.h st.n
 ex:∃(t:Nat) (c:List V),t+m=a.length/\r.get 10=some (.int .i64 t)/\p<st.n/\st.h.get N=some (.cells zF 114 true)/\st.h.get p=some (.cells c 114 true)/\eQ st.h st.n c (Yo a b t)
variable {N:Nat} {h:T O} {m:List (List Rat)} {v:V}
def A.b71:aq:=sr [mN 2]
 (sr [mv 3 0,⟨(some 4),.call (.const (.func 154 [] [])) [(.tmp 3),(.const (.func 72 [] []))],none⟩,mv 2 4]
 (.ret))
theorem A.c71:A.F 71=some ⟨5,[.tmp 2],A.b71⟩:=by kernel_rfl
def A.k71:=@A.kk 71 _ _ _ A.c71 rfl
def oC(h:T O)(N:Nat)(v:V)(m:List (List Rat)):Prop:=∃us:List V,Sl h N v us/\us.length=m.length/\∀(j:Nat) (l:List Rat),m[j]?=some l->∃u,us[j]?=some u/\jA h N u l
theorem oC.ad{h':T O}{N':Nat}(s:oC h N v m)(k:ab h N h' N'):oC h' N' v m:=by
 obtain⟨us,h1,h2,h3⟩:=s
 refine⟨us,h1.ad k,h2,fun j l hl=>?_⟩
 obtain⟨u,g1,g2⟩:=h3 j l hl
 exact⟨u,g1,g2.ad k⟩
theorem oC.len(s:oC h N v m):kq v=some m.length:=by
 obtain⟨us,h1,h2,_⟩:=s
 rw[h1.len,h2]
theorem nO.form{l:List Rat}(s:nO h N v l):V.one v=true/\V.cells v=[v]/\NW v:=by
 obtain⟨cs,⟨_,rfl|rfl⟩|⟨i,o,cp,c,e,rw,rfl,_⟩,_⟩:=s
 ·exact⟨rfl,rfl,fun m=>by simp⟩
 ·exact⟨rfl,rfl,fun m=>by simp⟩
 ·exact⟨rfl,rfl,fun m=>by simp⟩
theorem Ma{k0:Nat}(hs:iO h N v m)(hl:m.length<1000000)(hm:∀l∈m,l.length<1000000/\∀q∈l,Qb k0 q)(oV:k0<=4000):Fn A.C 71 [v] h N (fun u h' n'=>oC h' n' u m):=by
 intro w
 obtain⟨us,h1,h2,h3⟩:=hs
 rw[aP,A.k71 (by simp)]
 simp[A.b71]
 refine ax (Ygv (Q:=fun j h n u=>∀l,m[j]?=some l->jA h n u l) NW (fun j h n h' n' c u hq k hd l hl=>(hq l hl).cL k hd (by simp)) h1 (by omega) ?_) ?_
 ·intro j x hx h' n' hk
  obtain⟨l,hl⟩:=bs (l:=m) (k:=j) (by have:=kc hx;omega)
  obtain⟨u,g1,g2⟩:=h3 j l hl
  rw[hx]at g1
  obtain rfl:x=u:=by simpa using g1
  obtain⟨b1,b2⟩:=hm l (cm hl)
  refine fun w=>(Zzb (k0:=k0) (g2.ad hk) b1 b2 oV w).mono fun y st=>?_
  rintro⟨q1,q2,q3⟩
  obtain⟨f1,f2,f3⟩:=q3.1.form
  refine⟨q1,q2,y,rfl,rfl,by simp only[List.all_cons,List.all_nil,f1,Bool.and_true],by simpa using f3,fun l' qH=>?_⟩
  rw[hl]at qH
  obtain rfl:l=l':=by simpa using qH
  exact q3
 ·rintro u h4 n4 k4 ⟨out,o1,o2,o3⟩
  simp[aA]
  refine⟨k4,?_⟩
  have hx:∀x∈out,∃y,x=[y]:=fun x hx=>by
   have:=o1.1 x hx
   cases x with
   |nil=>simp at this
   |cons y t=>cases t with
    |nil=>exact⟨y,rfl⟩
    |cons a b=>simp at this
  obtain⟨ys,Gt⟩:∃ys:List V,out=ys.map fun y=>[y]:=by
   clear o1 o2 o3
   induction out with
   |nil=>exact⟨[],rfl⟩
   |cons x t ih=>
    obtain⟨y,rfl⟩:=hx x (by simp)
    obtain⟨ys,rfl⟩:=ih fun x ja=>hx x (by simp[ja])
    exact⟨y::ys,rfl⟩
  subst Gt
  refine⟨ys,Sn.one.1 o1.sn,by simpa[h2]using o2,fun j l hl=>?_⟩
  obtain⟨y,g1,g2⟩:=o3 j (by have:=kc hl;omega)
  refine⟨y,?_,g2 l hl⟩
  rw[iX]at g1
  cases hy:ys[j]? with
  |none=>rw[hy]at g1;simp at g1
  |some z=>rw[hy]at g1;simpa using g1
variable {N:Nat} {h:T O} {l:List Rat} {m:List (List Rat)} {v:V}
def A.zcg:aq:=sr [bi 9 .lss 8 7]
 (.seq (cd 9
 (.skip)
 (.exit 0))
 (.seq (.block 1 (sr [mv 10 8,mv 5 10]
 (sr [mv 11 1,mv 12 0,mv 13 5,ia 14 4 12 13,lN 15 4 14,⟨(some 16),.call (.tmp 11) [(.tmp 15)],none⟩]
 (cd 16
 (sr [mv 17 5,mv 4 17]
 (.ret))
 (.skip)))))
 (.aL [bc 18 .add 8 1,mv 8 18])))
def A.b198:aq:=sr [mc 4 0]
 (.seq (sr [mv 6 0,ln 7 6,mc 8 0]
 (.block 0 (.loop A.zcg)))
 (sr [⟨(some 4),.aZ (.const (.int .i64 (-1))),none⟩]
 (.ret)))
theorem A.c198:A.F 198=some ⟨19,[.tmp 4],A.b198⟩:=by kernel_rfl
def A.k198:=@A.kk 198 _ _ _ A.c198 rfl
theorem Yl1{f:V}(l:List (List V))(p:Nat->Bool)(hs:Sn 4 h N v l)(hl:l.length<1152921504606846976)(hf:∀(j:Nat) (x:List V),l[j]?=some x->∀h' n',ab h N h' n'->q9 A.C f [.agg x] h' n' (fun u _ _=>u=.bool (p j))):Fn A.C 198 [v,f] h N (fun u _ _=>u=.int .i64 (ka p 0 l.length)):=by
 intro w
 have hlen:=hs.len
 rw[aP,A.k198 (by simp)]
 simp[A.b198,hlen]
 refine bN [(4,5),(8,18)] (fun e r st=>au N st.w=[]/\ab h N st.h st.n/\((e=.exit 0/\ka p 0 l.length= -1)\/(e=.ret/\r.get 4=some (.int .i64 (ka p 0 l.length))))) (fun m r st=>au N st.w=[]/\ab h N st.h st.n/\∃k,k+m=l.length/\r.get 8=some (.int .i64 k)/\ka p 0 l.length=ka p k m) l.length ?_ ?_ ?_
 ·exact⟨by simp,ab.refl,0,by omega,by simp,rfl⟩
 ·rintro m r ⟨H,n1,W⟩ hr dX ⟨hW,hK,k,hk,h8,hz⟩
  simp only at hW hK
  rw[bn]
  cases m with
  |zero=>
   have:k=l.length:=by omega
   subst this
   simp only[ka]at hz
   simp[A.zcg,hr,dX,h8,hW,hK,hz]
  |succ m=>
   have aB:k<l.length:=by omega
   obtain⟨c,hc⟩:=bs aB
   obtain⟨i,o,cc,e,rw,q1,q2,q3,q4⟩:=hs.at hc
   have q3:=(hK.get _ q2).trans q3
   have bU:(k:Int)<(l.length:Int):=by omega
   simp only[ka]at hz
   simp[A.zcg,hr,h8,bU,hlen,q1,q3,q4]
   refine Dk (hf k c hc _ _ hK) ?_
   rintro v h2 n2 k2 rfl
   have kk:=hK.trans k2
   cases hp:p k
   ·rw[hp]at hz
    simp(disch:=first|(simp;done)|omega|rfl) [dX,h8,hW,kk]
    exact⟨m,by omega,k+1,by omega,by simp,by simpa using hz⟩
   ·rw[hp]at hz
    simp[dX,hW,kk]
    simpa using hz.symm
 ·rintro e r ⟨H,n1,W⟩ hr ⟨hW,hK,⟨rfl,hz⟩|⟨rfl,h4⟩⟩
  ·simp only at hW hK
   simp[hz,aA,hW,hK]
  ·simp only at hW hK
   simp[h4,aA,hW,hK]
def A.b126:aq:=sr [⟨(some 4),.aZ (.const (.bool false)),none⟩]
 (sr [mv 5 0,mv 6 1,c2 7 198 5 6,bc 8 .geq 7 0,mv 4 8]
 (.ret))
theorem A.c126:A.F 126=some ⟨9,[.tmp 4],A.b126⟩:=by kernel_rfl
def A.k126:=@A.kk 126 _ _ _ A.c126 rfl
def A.b69:aq:=sr [mN 2,mc 3 0]
 (.seq (sr [mv 4 0,⟨(some 5),.call (.const (.func 126 [] [])) [(.tmp 4),(.const (.func 106 [] []))],none⟩]
 (cd 5
 (sr [mN 2,mc 3 4]
 (.ret))
 (.skip)))
 (sr [mv 6 0,c1 7 152 6,mv 2 7,mc 3 0]
 (.ret)))
theorem A.c69:A.F 69=some ⟨8,[.tmp 2,.tmp 3],A.b69⟩:=by kernel_rfl
def A.k69:=@A.kk 69 _ _ _ A.c69 rfl
def A.zcn:aq:=sr [bi 15 .lss 14 13]
 (.seq (cd 15
 (.skip)
 (.exit 0))
 (.seq (.block 1 (sr [mv 16 14,mv 8 16]
 (.aS [mv 17 7,mv 18 8,mv 19 2,mv 20 0,mv 21 8,ia 22 4 20 21,lN 23 4 22,mv 24 1,mv 25 8,ia 26 4 24 25,lN 27 4 26,⟨(some 28),.call (.tmp 19) [(.tmp 23),(.tmp 27)],none⟩,ia 29 4 17 18,⟨none,.store 4 (.tmp 29) (.tmp 28),none⟩] [0,0,0,0,0,24,56,0,0,384,896,2044,4095,8191])))
 (.aL [bc 30 .add 14 1,mv 14 30])))
def A.b89:aq:=sr [mN 6]
 (sr [mv 9 0,ln 10 9,⟨(some 11),.bD 114 4 64 [(.int .i64 0),.aa,(.int .i64 0),.aa] (.tmp 10) (.tmp 10),none⟩,mv 7 11]
 (.seq (sr [mv 12 0,ln 13 12,mc 14 0]
 (.block 0 (.loop A.zcn)))
 (sr [mv 31 7,mv 6 31]
 (.ret))))
theorem A.c89:A.F 89=some ⟨32,[.tmp 6],A.b89⟩:=by kernel_rfl
def A.k89:=@A.kk 89 _ _ _ A.c89 rfl
theorem Yhx{f:V}(l:List (List V))(p:Nat->Bool)(hs:Sn 4 h N v l)(hl:l.length<1152921504606846976)(hf:∀(j:Nat) (x:List V),l[j]?=some x->∀h' n',ab h N h' n'->q9 A.C f [.agg x] h' n' (fun u _ _=>u=.bool (p j))):Fn A.C 126 [v,f] h N (fun u _ _=>u=.bool (decide (0<=ka p 0 l.length))):=by
 intro w
 rw[aP,A.k126 (by simp)]
 simp[A.b126]
 refine ax (Yl1 l p hs hl hf) ?_
 rintro v h2 n2 k2 rfl
 simp[aA,k2]
theorem Zzc:decide (0<=ka (fun j=>tj (l[j]?.getD 0)) 0 l.length)=ke l:=by
 rw[Bool.eq_iff_iff,decide_eq_true_eq,TZ]
 unfold ke
 rw[List.any_eq_true]
 constructor
 ·rintro⟨j,_,h2,h3⟩
  obtain⟨q,hq⟩:=bs (l:=l) (k:=j) (by omega)
  rw[hq]at h3
  exact⟨q,cm hq,h3⟩
 ·rintro⟨q,hq,h3⟩
  obtain⟨j,hj⟩:=xP hq
  exact⟨j,pC _,by have:=kc hj;omega,by rw[hj];exact h3⟩
theorem Ye4{h:T O}{N:Nat}{u:V}{l:List Rat}{k:Nat}(hu:nO h N u l)(hP:jn h N)(hl:l.length<1000000)(hq:∀q∈l,Qb k q)(hk:k<=400000):Fn A.C 69 [u] h N (fun x h' n'=>(ke l=true/\x=.bb [.aa,.int .i64 4])\/(ke l=false/\∃v,x=.bb [v,.int .i64 0]/\pZ h' n' v l)):=by
 intro w
 obtain⟨cs,s1,s2,s3⟩:=id hu
 have key:=Yhx (f:=.func 106 [] []) cs (fun j=>tj (l[j]?.getD 0)) s1 (by omega) (fun j x hx h' n' ga=>by
  obtain⟨q,SO⟩:=bs (l:=l) (k:=j) (by have:=kc hx;omega)
  obtain⟨c,g1,g2⟩:=s3 j q SO
  rw[hx]at g1
  obtain rfl:x=c:=by simpa using g1
  simp only[SO,og]
  exact Ydg (g2.ad ga).fc (hP.ad ga) (hq q (cm SO)) (by omega))
 rw[s2,Zzc]at key
 rw[aP,A.k69 (by simp)]
 simp[A.b69]
 refine ax key ?_
 rintro _ h2 n2 k2 rfl
 cases hb:ke l with
 |true=>
  simp[aA]
  exact k2
 |false=>
  simp[]
  refine ax (Ye7 (k0:=k) (hu.ad k2) (hP.ad k2) hl hq hk) ?_
  rintro v h3 n3 k3 t1
  simp[aA]
  exact⟨k2.trans k3,t1⟩
def se(N0:Nat)(h:T O)(N:Nat)(v:V)(m:List (List Rat)):Prop:=∃us:List V,Own 1 97 N0 h N v (us.map fun y=>[y])/\(us=[]->v=.aa)/\us.length=m.length/\∀(j:Nat) (l:List Rat),m[j]?=some l->∃u,us[j]?=some u/\jA h N u l
theorem se.nil{N0:Nat}:se N0 h N .aa []:=⟨[],Own.nil,fun _=>rfl,rfl,fun j l hl=>by simp at hl⟩
theorem se.ad{N0:Nat}{h':T O}{N':Nat}(s:se N0 h N v m)(k:ab h N h' N'):se N0 h' N' v m:=by
 obtain⟨us,h1,h2,h3,h4⟩:=s
 refine⟨us,h1.ad k,h2,h3,fun j l hl=>?_⟩
 obtain⟨u,g1,g2⟩:=h4 j l hl
 exact⟨u,g1,g2.ad k⟩
theorem se.NP{N0:Nat}(s:se N0 h N v m):oC h N v m:=by
 obtain⟨us,h1,h2,h3,h4⟩:=s
 exact⟨us,Sn.one.1 h1.sn,h3,h4⟩
theorem se.push{N0:Nat}{u x:V}{w:List Nat}(s:se N0 h N v m)(hu:jA h N u l)(hN:N0<=N)(hx:ft ⟨h,N,w⟩ 1 x=some (1,[u]))(hm:m.length<100000):
  ∃v' h' w',jQ ⟨h,N,w⟩ 1 24 97 v x=some (v',⟨h',N+1,w'⟩)/\au N0 w'=au N0 w/\ab h N0 h' (N+1)/\se N0 h' (N+1) v' (m++[l]):=by
 obtain⟨us,h1,h2,h3,h4⟩:=s
 obtain⟨v',h',w',f1,f2,f3,f4,fD,f5⟩:=Dl (Y:=NW) (x:=[u]) (u:=x) (bytes:=24) (w:=w) h1 (fun h0=>h2 (List.map_eq_nil_iff.1 h0)) (fun c hc y hy=>by
  obtain⟨z,hz,rfl⟩:=jk.1 hc
  obtain rfl:y=z:=by simpa using hy
  obtain⟨j,hj⟩:=xP hz
  obtain⟨r,hr⟩:=bs (l:=m) (k:=j) (by have:=kc hj;omega)
  obtain⟨u',g1,g2⟩:=h4 j r hr
  rw[hj]at g1
  obtain rfl:y=u':=by simpa using g1
  exact g2.1.form.2.2) hN (by decide) rfl hx (by rw[si];omega)
 refine⟨v',h',w',f1,f2,f3,us++[u],by simpa using f5,by simp,by simp[h3],fun j r hr=>?_⟩
 by_cases hj:j<m.length
 ·rw[jO hj]at hr
  obtain⟨u',g1,g2⟩:=h4 j r hr
  exact⟨u',by rw[jO (by omega)];exact g1,g2.cL f4 fD (by simp)⟩
 ·rw[od (by omega)]at hr
  cases hd:j-m.length with
  |zero=>
   rw[hd]at hr
   simp at hr
   subst hr
   exact⟨u,by rw[od (by omega),h3,hd];rfl,hu.cL f4 fD (by simp)⟩
  |succ d=>rw[hd]at hr;simp at hr
variable {a b:List Rat}
set_option maxHeartbeats 2000000
def jP(F:Rat->Rat->Rat)(a b:List Rat)(n:Nat):List Rat:=(List.range n).map fun k=>F (a[k]?.getD 0) (b[k]?.getD 0)
theorem M6{F:Rat->Rat->Rat}{n j:Nat}(h:j<n):(jP F a b n)[j]?=some (F (a[j]?.getD 0) (b[j]?.getD 0)):=by
 simp[jP,h]
theorem A2{F:Rat->Rat->Rat}{n:Nat}:(jP F a b n).length=n:=by simp[jP]
structure ZF (F:Rat->Rat->Rat) (h:T O) (N:Nat) (a b:List Rat) (m:Nat) (r:T V) (st:St):Prop where
 w:au N st.w=[]
 ad:ab h N st.h st.n
 ex:∃(k:Nat) (cs:List (List V)),k+m=a.length/\r.get 14=some (.int .i64 k)/\N<st.n/\st.h.get N=some (.cells (cs.flatten++cj zF m) 114 true)/\cs.length=k/\∀(j:Nat) (q:Rat),j<k->(jP F a b a.length)[j]?=some q->∃c,cs[j]?=some c/\eQ st.h st.n c q
theorem Ylv{h:T O}{N:Nat}{u v f:V}(F:Rat->Rat->Rat)(hu:nO h N u a)(hv:nO h N v b)(eH:a.length<=b.length)(hF:∀x∈a,∀y∈b,∀(h':T O) (n':Nat) (ca cb:List V),ab h N h' n'->eQ h' n' ca x->eQ h' n' cb y->q9 A.C f [.agg ca,.agg cb] h' n' (fun z h2 n2=>Fc h2 n2 z (F x y)))(hl:a.length<1000000):Fn A.C 89 [u,v,f] h N (fun x h' n'=>jA h' n' x (jP F a b a.length)):=by
 intro w
 have l1:=hu.len
 have l2:=hv.len
 have c1:(64:Int)*(a.length:Int)<=140737488355328:=by omega
 have c2:(a.length:Int)<4611686018427387904:=by omega
 have kB:ab h N (h.set N (.cells (cj zF a.length) 114 true)) (N+1):=ab.refl.new _
 rw[aP,A.k89 (by simp)]
 simp[A.b89,l1,c1,c2]
 refine bN [(8,8),(14,30)] (fun e r st=>e=.exit 0/\ZF F h N a b 0 r st) (ZF F h N a b) a.length ?_ ?_ ?_
 ·exact⟨by simp,kB,0,[],by omega,by simp,by show N<N+1;omega,by rw[T.ah,aF rfl];rfl,rfl,fun j q hj=>by omega⟩
 ·rintro m r ⟨H,n1,W⟩ hr hf ⟨hW,hK,t,cs,ht,n9,lJ,hM,cr,i_⟩
  simp only at hW hK hM lJ i_
  rw[bn]
  cases m with
  |zero=>
   obtain rfl:t=a.length:=by omega
   simp[A.zcn,hr,hf,n9]
   exact⟨hW,hK,a.length,cs,by omega,by simp[n9],lJ,hM,cr,i_⟩
  |succ m=>
   have aB:t<a.length:=by omega
   have bj:(t:Int)<(a.length:Int):=by omega
   have kM:t<b.length:=by omega
   have SP:(t:Int)<(b.length:Int):=by omega
   obtain⟨x,hx⟩:=bs aB
   obtain⟨y,hy⟩:=bs kM
   obtain⟨i,o,cc,e,rw,ca,q1,q2,q3,q4,q5⟩:=(hu.ad hK).at hx
   obtain⟨i',o',cc',e',oD,cb,p1,p2,p3,p4,p5⟩:=(hv.ad hK).at hy
   have hi:i<N:=by
    obtain⟨i2,_,_,_,_,_,z1,z2,_⟩:=hu.at hx
    rw[q1]at z1
    simp at z1
    omega
   have gZ:i'<N:=by
    obtain⟨i2,_,_,_,_,_,z1,z2,_⟩:=hv.at hy
    rw[p1]at z1
    simp at z1
    omega
   simp[A.zcn,hr,n9,l1,l2,bj,SP,q1,q2,q3,q4,p1,p2,p3,p4]
   refine Dk (hF x (cm hx) y (cm hy) _ _ _ _ hK q5 p5) ?_
   rintro _ H2 n2 k2 dX
   obtain⟨c,rfl,hc⟩:=dX.c
   have mT:=k2.le
   have fi:=hK.le
   have nJ:=(k2.get N lJ).trans hM
   have C0:∀(j:Nat) (q:Rat),j<cs.length->(jP F a b a.length)[j]?=some q->∃c,cs[j]?=some c/\eQ H2 n2 c q:=fun j q hj hq=>by
    obtain⟨c,g1,g2⟩:=i_ j q (by omega) hq
    exact⟨c,g1,g2.ad k2⟩
   obtain⟨f1,f2,f3⟩:=Ii (l:=jP F a b a.length) (by rw[A2];omega) C0
   have jv:=rO f1
   obtain⟨e1,e2⟩:=hc.len
   have fz:ag (cs.flatten++cj zF (m+1)) (t*4) c=(cs++[c]).flatten++cj zF m:=by
    rw[AP,Ih (n:=4) (by rw[jv,cr]) rfl e1,Ey,nT]
   have hb4:t*4+4<=(cs.flatten++cj zF (m+1)).length:=by
    rw[fK,jv,RK];omega
   have jj:(V.agg c).cells=c:=rfl
   have v_:pW (cs.flatten++cj zF (m+1)):=f2.app Ij
   have lh:((cs++[c]).flatten++cj zF m).length=(cs.flatten++cj zF (m+1)).length:=by
    rw[AP,Ey];simp[e1,zF];omega
   generalize cs.flatten++cj zF (m+1)=X at*
   obtain⟨Y,hY⟩:∃Y,(cs++[c]).flatten++cj zF m=Y:=⟨_,rfl⟩
   rw[hY]at fz lh
   have d1:N<n2:=by omega
   have d2:¬i=N:=by omega
   have d3:¬i'=N:=by omega
   simp(disch:=first|(simp;done)|omega|rfl) [-V.cells, -V.one,hf,n9,nJ,bL,jj,e1,e2,hb4,fz]
   have ix:¬N<N:=by omega
   refine⟨m,by omega,⟨by simp[d1,au,hW],(hK.trans k2).set (aV N),t+1,cs++[c],by omega,by simp,d1,by show T.get _ N=_;rw[T.ah,aF rfl,hY],by simp[cr],fun j q' hj mU=>?_⟩⟩
   by_cases px:j<t
   ·obtain⟨c',g1,g2⟩:=i_ j q' px mU
    exact⟨c',by rw[jO (by omega)];exact g1,(g2.ad k2).aE nJ v_ lh⟩
   ·obtain rfl:j=t:=by omega
    rw[M6 aB,hx,hy]at mU
    simp only[og,ai]at mU
    subst mU
    exact⟨c,by rw[od (by omega),cr];simp,hc.aE nJ v_ lh⟩
 ·rintro _ r ⟨H,n1,W⟩ hr ⟨rfl,hW,hK,t,cs,ht,n9,lJ,hM,cr,i_⟩
  simp only at hW hK hM lJ i_
  obtain rfl:t=a.length:=by omega
  simp[hr,aA,hW,hK]
  have hz:cj zF 0=[]:=by simp[cj]
  obtain⟨f1,_,_⟩:=Ii (l:=jP F a b a.length) (by rw[A2];omega) (fun j q hj hq=>i_ j q (by omega) hq)
  have jv:=rO f1
  rw[hz,sJ]at hM
  refine⟨⟨cs,.inr ⟨N,0,some a.length,cs.flatten,_,true,by rw[cr],lJ,hM,fun j x hx=>by rw[qm];exact Ew f1 hx,by omega,fun k hk=>by simp at hk;omega⟩,by rw[A2];exact cr,fun j q hq=>i_ j q (by have:=kc hq;rw[A2]at this;omega) hq⟩,fun i hi=>?_⟩
  simp[dj]at hi
  subst hi
  exact⟨_,_,hM⟩
variable {l:List aX} {m:List (List aX)} {n:Nat}
set_option maxHeartbeats 2000000
def A.b11:aq:=sr [bx 2 22 0,bx 3 23 1,mN 4,mc 5 0]
 (sr [⟨(some 7),.cI 65 [] [(.tmp 2)],none⟩,⟨(some 8),.cI 67 [] [(.tmp 3),(.tmp 2)],none⟩,⟨(some 9),.aY 94 1 2 [.bg,.bg] [(0,1,(.tmp 7)),(1,1,(.tmp 8))],none⟩,c1 10 64 9,mv 6 10]
 (.seq (sr [mv 11 6,ni 12 11 0]
 (cd 12
 (sr [mv 13 6,mN 4,mv 5 13]
 (.ret))
 (.skip)))
 (.seq (.aS [ld 14 2,c1 15 71 14,ld 16 3,c1 17 72 16,c2 18 70 15 17,c1 19 69 18,xt 20 19 0,xt 21 19 1,mv 4 20,mv 5 21] [0,1,0,7,15,31,63,63,255,511])
 (.ret))))
theorem A.c11:A.F 11=some ⟨22,[.tmp 4,.tmp 5],A.b11⟩:=by kernel_rfl
def zf(l:List aX):List Rat:=l.map pD
def gb(m:List (List aX)):List (List Rat):=m.map zf
theorem Dp:∀{l:List Int},bV l=0->∀x∈l,x=0
 |[],_,x,hx=>by simp at hx
 |y::l,h,x,hx=>by
  simp only[bV]at h
  split at h
  ·rename_i h0
   rcases jN.1 hx with rfl|hx
   ·exact h0
   ·exact Dp h x hx
  ·rename_i h0;exact absurd h h0
def xE(l:List aX):Prop:=∀s∈l,bW s=0/\s.length<=24
theorem xE.ux(h:xE l):(zf l).map aN=l:=by
 unfold zf
 rw[List.map_map]
 conv=>rhs;rw[<-List.map_id l]
 apply uj
 intro s hs
 exact(Nv (h s hs).1).1
theorem xE.qb(h:xE l):∀q∈zf l,Qb 100 q:=fun q hq=>by
 obtain⟨s,hs,rfl⟩:=jk.1 hq
 exact Yo9 (h s hs).1 (h s hs).2
theorem xE.sl{h:T O}{N:Nat}{v:V}(hs:Sl h N v (strs l))(hl:xE l):Tx h N v (zf l):=by
 unfold Tx tx
 rw[hl.ux]
 exact hs
theorem gI.rat{h:T O}{N:Nat}{v:V}(hs:gI h N v m)(hm:∀r∈m,xE r):iO h N v (gb m):=by
 apply gI.A4
 have:((gb m).map fun l=>l.map aN)=m:=by
  unfold gb
  rw[List.map_map]
  conv=>rhs;rw[<-List.map_id m]
  apply uj
  intro r hr
  exact(hm r hr).ux
 rw[this]
 exact hs
theorem S7(h:fI l n=0)(hs:iU 6 l=true):l.length=n/\xE l:=by
 unfold fI at h
 split at h
 ·rename_i hn
  refine⟨hn,fun s im=>?_⟩
  have h1:=Dp h _ (jk.2 ⟨s,im,rfl⟩)
  have h2:l.all l_=true:=by
   unfold iU at hs
   rw[iB]at hs
   exact hs.2
  have h3:=lM.1 h2 s im
  simp[l_]at h3
  exact⟨by omega,h3⟩
 ·exact absurd h (by decide)
theorem S8(h:iU n l=true):oc l.length n=true:=by
 unfold iU at h
 rw[iB]at h
 exact h.1
structure uk (m:List (List aX)) (n:Nat):Prop where
 pos:0<m.length
 le:m.length<=6
 n1:0<n
 n6:n<=6
 row:∀r∈m,r.length=n/\xE r
theorem uk.rat(h:uk m n):∀r∈gb m,r.length=n/\∀q∈r,Qb 100 q:=fun r hr=>by
 obtain⟨s,hs,rfl⟩:=jk.1 hr
 exact⟨by simp[zf,(h.row s hs).1],(h.row s hs).2.qb⟩
theorem M9(h:mb 6 6 m=true):oc m.length 6=true/\∀r∈m,iU 6 r=true:=by
 unfold mb at h
 rw[iB,lM]at h
 exact h
theorem Yop(h:0<m.length):∃r∈m,gT m=r.length:=by
 obtain⟨r,hr⟩:=bs h
 exact⟨r,cm hr,by simp[gT,hr]⟩
theorem Na{k:Nat}(h:oc k 6=true)(h2:k<=64):k<=6:=by
 simp[oc]at h
 omega
theorem Zxn(h:iU 6 l=true):l.length<100000/\∀s∈l,s.length<=100000:=by
 refine⟨by have:=ZB (S8 h) (by omega);omega,fun s hs=>?_⟩
 unfold iU at h
 rw[iB]at h
 have h3:=lM.1 h.2 s hs
 simp[l_]at h3
 omega
theorem Ff(h:mb 6 6 m=true):m.length<100000/\∀r∈m,r.length<100000/\∀s∈r,s.length<=100000:=by
 obtain⟨s1,s2⟩:=M9 h
 exact⟨by have:=ZB s1 (by omega);omega,fun r hr=>Zxn (s2 r hr)⟩
def ZG(e:Int)(l:List Rat)(x:V)(h:T O)(n:Nat):Prop:=(e≠0/\x=.bb [.aa,.int .i64 e])\/(e=0/\((ke l=true/\x=.bb [.aa,.int .i64 4])\/(ke l=false/\∃v,x=.bb [v,.int .i64 0]/\Tx h n v l)))
set_option maxHeartbeats 2000000
def A.b13:aq:=sr [bx 2 22 0,bx 3 23 1,mN 4,mc 5 0]
 (sr [⟨(some 8),.cI 81 [] [(.tmp 2)],none⟩,⟨(some 9),.cI 82 [] [(.tmp 3),(.tmp 2)],none⟩,⟨(some 10),.cI 83 [] [(.tmp 3)],none⟩,⟨(some 11),.aY 94 1 3 [.bg,.bg,.bg] [(0,1,(.tmp 8)),(1,1,(.tmp 9)),(2,1,(.tmp 10))],none⟩,c1 12 64 11,mv 6 12]
 (.seq (sr [mv 13 6,ni 14 13 0]
 (cd 14
 (sr [mv 15 6,mN 4,mv 5 15]
 (.ret))
 (.skip)))
 (sr [ld 16 3,c1 17 72 16,⟨(some 7),.alloc [.aa] 97,none⟩,so 7 17]
 (sr [ld 18 2,c1 19 71 18,⟨(some 20),.cI 87 [] [(.tmp 7)],none⟩,c2 21 86 19 20,c1 22 69 21,xt 23 22 0,xt 24 22 1,mv 4 23,mv 5 24]
 (.ret)))))
theorem A.c13:A.F 13=some ⟨25,[.tmp 4,.tmp 5],A.b13⟩:=by kernel_rfl
def A.k13:=@A.kk 13 _ _ _ A.c13 rfl
set_option maxHeartbeats 2000000
def A.b12:aq:=sr [bx 2 22 0,bx 3 23 1,mN 4,mc 5 0]
 (sr [⟨(some 7),.cI 73 [] [(.tmp 2)],none⟩,⟨(some 8),.cI 76 [] [(.tmp 2)],none⟩,⟨(some 9),.cI 77 [] [(.tmp 2)],none⟩,⟨(some 10),.cI 79 [] [(.tmp 3),(.tmp 2)],none⟩,⟨(some 11),.aY 94 1 4 [.bg,.bg,.bg,.bg] [(0,1,(.tmp 7)),(1,1,(.tmp 8)),(2,1,(.tmp 9)),(3,1,(.tmp 10))],none⟩,c1 12 64 11,mv 6 12]
 (.seq (sr [mv 13 6,ni 14 13 0]
 (cd 14
 (sr [mv 15 6,mN 4,mv 5 15]
 (.ret))
 (.skip)))
 (.seq (.aS [ld 16 2,c1 17 71 16,ld 18 2,⟨(some 19),.aI 1 (.tmp 18) (.const (.int .i64 0)),none⟩,ld 20 19,ln 21 20,c2 22 80 17 21,ld 23 3,c1 24 72 23,c2 25 70 22 24,c1 26 69 25,xt 27 26 0,xt 28 26 1,mv 4 27,mv 5 28] [0,1,0,4,12,28,63,0,255,511,1023,2047,2047,8191,16383])
 (.ret))))
theorem A.c12:A.F 12=some ⟨29,[.tmp 4,.tmp 5],A.b12⟩:=by kernel_rfl
def A.k12:=@A.kk 12 _ _ _ A.c12 rfl
variable {h:T O} {l:List Rat}
def A.b22:aq:=sr [⟨(some 8),.aZ (.const (.bool false)),none⟩]
 (.seq (sr [mv 9 3,ei 10 9 0]
 (cd 10
 (.aL [mv 11 2,c1 12 97 11,mv 3 12])
 (.skip)))
 (sr [mv 13 1,mv 14 3,⟨(some 15),.bin .eql (.aH .int) false (.tmp 13) (.tmp 14),none⟩,mv 16 15,mg 17 3 16,⟨(some 18),.bin .eql (.aH .int) true (.tmp 17) (.const (.int .i64 0)),(some (16,true))⟩,mg 19 18 16,mg 20 0 19,mg 21 2 19,⟨(some 22),.call (.const (.func 60 [] [])) [(.tmp 20),(.tmp 21)],(some (19,true))⟩,⟨(some 23),.pick (.tmp 19) (.tmp 22) (.const (.bool false)),(some (16,true))⟩,mg 24 23 16,mh 25 3 24,⟨(some 26),.bin .neq (.aH .int) true (.tmp 25) (.const (.int .i64 0)),(some (24,false))⟩,mh 27 26 24,mg 28 0 27,⟨(some 29),.len 1 (.tmp 28),(some (27,true))⟩,⟨(some 30),.bin .eql (.aH .int) true (.tmp 29) (.const (.int .i64 0)),(some (27,true))⟩,⟨(some 31),.pick (.tmp 27) (.tmp 30) (.const (.bool false)),(some (24,false))⟩,⟨(some 32),.pick (.tmp 24) (.const (.bool true)) (.tmp 31),(some (16,true))⟩,pf 33 16 32,mv 8 33]
 (.ret)))
theorem A.c22:A.F 22=some ⟨34,[.tmp 8],A.b22⟩:=by kernel_rfl
def A.k22:=@A.kk 22 _ _ _ A.c22 rfl
def TP(e:Int)(l:List Rat)(v:V)(c:Int)(h:T O)(n:Nat):Prop:=(e≠0/\v=.aa/\c=e)\/(e=0/\((ke l=true/\v=.aa/\c=4)\/(ke l=false/\c=0/\Tx h n v l)))
theorem ZG.parts{e:Int}{x:V}{n:Nat}(s:ZG e l x h n):∃v c,x=.bb [v,.int .i64 c]/\TP e l v c h n:=by
 rcases s with⟨a,rfl⟩|⟨a,⟨b,rfl⟩|⟨b,v,rfl,c⟩⟩
 ·exact⟨_,_,rfl,.inl ⟨a,rfl,rfl⟩⟩
 ·exact⟨_,_,rfl,.inr ⟨a,.inl ⟨b,rfl,rfl⟩⟩⟩
 ·exact⟨_,_,rfl,.inr ⟨a,.inr ⟨b,rfl,c⟩⟩⟩
theorem TP.ad{e:Int}{v:V}{c:Int}{h':T O}{n n':Nat}(s:TP e l v c h n)(k:ab h n h' n'):TP e l v c h' n':=by
 rcases s with a|⟨a,b|⟨b,d,s⟩⟩
 ·exact .inl a
 ·exact .inr ⟨a,.inl b⟩
 ·exact .inr ⟨a,.inr ⟨b,d,s.ad k⟩⟩
theorem Ylo{N:Nat}{v u:V}{e c:Int}{w:List Nat}(hv:TP e l v c h N)(hu:e=0->Tx h N u l)(hl:l.length<100000)(hq:e=0->∀q∈l,(aN q).length<1000000):A.C.call (.func 22 [] []) [v,.int .i64 c,u,.int .i64 e] ⟨h,N,w⟩=some (.bool true,⟨h,N,w⟩):=by
 apply Call.eq
 rw[aP,A.k22 (by simp)]
 rcases hv with⟨a,rfl,rfl⟩|⟨rfl,⟨b,rfl,rfl⟩|⟨b,rfl,t⟩⟩
 ·simp[A.b22,a]
 ·have hr:=fun w=>Nd (w:=w) (hu rfl) hl (hq rfl)
  rw[b]at hr
  simp only[if_true]at hr
  simp[A.b22,hr]
 ·have hr:=fun w=>Nd (w:=w) (hu rfl) hl (hq rfl)
  rw[b]at hr
  simp only[eL,if_false]at hr
  have hs:=fun w=>Tf (w:=w) (l:=l.map aN) t (hu rfl) (by simpa using hl)
  simp[A.b22,hr,hs]
end Go.Mx
