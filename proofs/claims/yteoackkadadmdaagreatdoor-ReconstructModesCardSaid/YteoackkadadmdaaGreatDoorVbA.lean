/-reconstruct-/
import Derived.Test.YteoackkadadmdaaGreatDoorVaB
set_option linter.all false
namespace Go.Mx
open Go Go.Proofs
variable {N:Nat} {h:T O} {v:V}
set_option maxRecDepth 1000000
def A.we:av:=sr [bi 11 .lss 10 9]
 (.seq (cd 11
 (.skip)
 (.exit 0))
 (.seq (.block 1 (sr [ia 12 1 8 10,ld 13 12,mv 6 13]
 (sr [mv 14 1,mv 15 6,ge 16 (.call (tq 14) [tq 15]),mv 7 16]
 (sr [mv 17 7,ni 18 17 0]
 (cd 18
 (sr [mv 19 7,mv 4 19]
 (.ret))
 (.skip))))))
 (.aR [bc 20 .add 10 1,mv 10 20])))
def A.b93:av:=sr [mc 4 0]
 (.seq (sr [mv 8 0,ln 9 8,mc 10 0]
 (.block 0 (.loop A.we)))
 (sr [mc 4 0]
 (.ret)))
def A.c93:A.F 93=some ⟨21,[.tmp 4],A.b93⟩:=by kernel_rfl
def A.k93:=@A.kk 93 _ _ _ A.c93 rfl
def A.b60:av:=sr [mc 4 0]
 (.seq (sr [mv 5 0,ln 6 5,mv 7 1,ge 8 (.bin .neq (.aM .int) false (tq 6) (tq 7))]
 (cd 8
 (sr [mc 4 2]
 (.ret))
 (.skip)))
 (sr [mv 9 0,ge 10 (.call (fq 93) [tq 9,(fq 135)]),mv 4 10]
 (.ret)))
def A.c60:A.F 60=some ⟨11,[.tmp 4],A.b60⟩:=by kernel_rfl
def A.k60:=@A.kk 60 _ _ _ A.c60 rfl
def A.rF:av:=sr [bi 11 .lss 10 9]
 (.seq (cd 11
 (.skip)
 (.exit 0))
 (.seq (.block 1 (sr [ia 12 1 8 10,ld 13 12,mv 6 13]
 (sr [mv 14 6,mv 15 1,c2 16 60 14 15,mv 7 16]
 (sr [mv 17 7,ni 18 17 0]
 (cd 18
 (sr [mv 19 7,mv 4 19]
 (.ret))
 (.skip))))))
 (.aR [bc 20 .add 10 1,mv 10 20])))
def A.b103:av:=sr [mc 4 0]
 (.seq (sr [mv 8 0,ln 9 8,mc 10 0]
 (.block 0 (.loop A.rF)))
 (sr [mc 4 0]
 (.ret)))
def A.c103:A.F 103=some ⟨21,[.tmp 4],A.b103⟩:=by kernel_rfl
def A.k103:=@A.kk 103 _ _ _ A.c103 rfl
def A.b77:av:=sr [bx 1 3 0,ge 2 (.ba (.const .bs))]
 (sr [ge 3 (.cP 143 [] [tq 1]),mv 2 3]
 (.ret))
def A.c77:A.F 77=some ⟨4,[.tmp 2],A.b77⟩:=by kernel_rfl
def A.k77:=@A.kk 77 _ _ _ A.c77 rfl
def A.b143:av:=sr [mc 3 0]
 (.seq (sr [mv 5 0,c1 6 135 5,mv 4 6]
 (sr [mv 7 4,ni 8 7 0]
 (cd 8
 (sr [mv 9 4,mv 3 9]
 (.ret))
 (.skip))))
 (.seq (.aX [mv 10 0,c1 11 80 10,c1 12 110 11,ld 13 1,bi 14 .lss 12 13,ge 15 (.call (fq 91) [tq 14,.const (.int .i64 3)]),mv 3 15] [0,1,3,0,15,31,63])
 (.ret)))
def A.c143:A.F 143=some ⟨16,[.tmp 3],A.b143⟩:=by kernel_rfl
def A.k143:=@A.kk 143 _ _ _ A.c143 rfl
def Zc{f:V}{l:List aQ}(P:aQ->Int)(hs:Sl h N v (strs l))(hl:l.length<100000)(hf:∀s∈l,∀h' n',ab h N h' n'->jR A.C f [.str s] h' n' (fun u _ _=>u=.int .i64 (P s))):Fn A.C 93 [v,f] h N (fun u _ _=>u=.int .i64 (bK (l.map P))):=by
 intro w
 have hlen:=hs.len
 rw[tD]at hlen
 rw[aO,A.k93 (by simp)]
 simp[A.b93,hlen]
 refine bP [(4,4),(6,7),(10,20)] (fun e r st=>ax N st.w=[]/\ab h N st.h st.n/\((e=.exit 0/\bK (l.map P)=0)\/(e=.ret/\r.get 4=some (.int .i64 (bK (l.map P)))))) (fun m r st=>ax N st.w=[]/\ab h N st.h st.n/\∃k,k+m=l.length/\r.get 10=some (.int .i64 k)/\bK (l.map P)=bK ((l.drop k).map P)) l.length ?_ ?_ ?_
 ·exact⟨by simp,ab.refl,0,by omega,by simp,by simp⟩
 ·rintro m r ⟨H,n1,W⟩ hr c_ ⟨hW,hK,k,hk,h7,hz⟩
  simp only at hW hK
  rw[bq]
  cases m with
  |zero=>
   obtain rfl:k=l.length:=by omega
   rw[mm,uJ,bK]at hz
   simp[A.we,hr,c_,h7,hz,hW,hK]
  |succ m=>
   have ay:k<l.length:=by omega
   obtain⟨s,hc⟩:=bp ay
   obtain⟨i,o,cc,e,rw,q1,q2,q3,q4⟩:=(hs.ae hK).at (DM hc)
   rw[jq hc,my,bK]at hz
   have bR:(k:Int)<(l.length:Int):=by omega
   simp[A.we,hr,h7,bR,hlen,q1,q3,q4]
   refine Ca (hf s (cm hc) _ _ hK) ?_
   rintro _ h3 n3 k3 rfl
   have kk:=hK.trans k3
   by_cases h0:P s=0
   ·rw[aF h0]at hz
    simp(disch:=first|(simp;done)|omega|rfl) [c_,h7,h0,hW]
    exact⟨m,by omega,kk,k+1,by omega,by simp,by simpa using hz⟩
   ·rw[ar h0]at hz
    simp[c_,h0,hW,hz]
    exact kk
 ·rintro _ r ⟨H,n1,W⟩ hr ⟨hW,hK,⟨rfl,hz⟩|⟨rfl,h2⟩⟩
  ·simp only at hW hK
   simp[hz,az,hW,hK]
  ·simp only at hW hK
   simp[h2,az,hW,hK]
def Zsd{l:List aQ}{n:Nat}(hs:Sl h N v (strs l))(hl:l.length<100000)(tY:∀s∈l,s.length<=100000):Fn A.C 60 [v,.int .i64 n] h N (fun u _ _=>u=.int .i64 (iw l n)):=by
 intro w
 have hlen:=hs.len
 rw[tD]at hlen
 rw[aO,A.k60 (by simp)]
 by_cases c:l.length=n
 ·subst c
  simp[A.b60,hlen]
  refine aA (Zc (fun s=>((bz s:Nat):Int)) hs hl fun s hs h' n' _=>Zxr (tY s hs)) ?_
  rintro _ H2 n2 k2 rfl
  simp[az,iw]
  exact k2
 ·have c':¬(l.length:Int)=(n:Int):=by omega
  simp[A.b60,hlen,c',iw,c,az]
  exact ab.refl
def Yhb{l:List (List aQ)}{n:Nat}(hs:eP h N v l)(hl:l.length<100000)(hx:∀x∈l,x.length<100000/\∀s∈x,s.length<=100000):Fn A.C 103 [v,.int .i64 n] h N (fun u _ _=>u=.int .i64 (bK (l.map fun x=>iw x n))):=by
 intro w
 have hlen:=hs.len
 rw[aO,A.k103 (by simp)]
 simp[A.b103,hlen]
 refine bP [(4,4),(6,7),(10,20)] (fun e r st=>ax N st.w=[]/\ab h N st.h st.n/\((e=.exit 0/\bK (l.map (fun x=>iw x n))=0)\/(e=.ret/\r.get 4=some (.int .i64 (bK (l.map (fun x=>iw x n))))))) (fun m r st=>ax N st.w=[]/\ab h N st.h st.n/\∃k,k+m=l.length/\r.get 10=some (.int .i64 k)/\bK (l.map (fun x=>iw x n))=bK ((l.drop k).map (fun x=>iw x n))) l.length ?_ ?_ ?_
 ·exact⟨by simp,ab.refl,0,by omega,by simp,by simp⟩
 ·rintro m r ⟨H,n1,W⟩ hr c_ ⟨hW,hK,k,hk,h7,hz⟩
  simp only at hW hK
  rw[bq]
  cases m with
  |zero=>
   obtain rfl:k=l.length:=by omega
   rw[mm,uJ,bK]at hz
   simp[A.rF,hr,c_,h7,hz,hW,hK]
  |succ m=>
   have ay:k<l.length:=by omega
   obtain⟨s,hc⟩:=bp ay
   obtain⟨i,o,cc,e,rw,u,q1,q2,q3,q4,q5⟩:=(hs.ae hK).at hc
   rw[jq hc,my,bK]at hz
   have bR:(k:Int)<(l.length:Int):=by omega
   simp[A.rF,hr,h7,bR,hlen,q1,q3,q4]
   refine aA (Zsd q5 (hx s (cm hc)).1 (hx s (cm hc)).2) ?_
   rintro _ h3 n3 k3 rfl
   have kk:=hK.trans k3
   by_cases h0:iw s n=0
   ·rw[aF h0]at hz
    simp(disch:=first|(simp;done)|omega|rfl) [c_,h7,h0,hW]
    exact⟨m,by omega,kk,k+1,by omega,by simp,by simpa using hz⟩
   ·rw[ar h0]at hz
    simp[c_,h0,hW,hz]
    exact kk
 ·rintro _ r ⟨H,n1,W⟩ hr ⟨hW,hK,⟨rfl,hz⟩|⟨rfl,h2⟩⟩
  ·simp only at hW hK
   simp[hz,az,hW,hK]
  ·simp only at hW hK
   simp[h2,az,hW,hK]
def Zyf{q:Nat}{s:aQ}{z:Int}{e:TypeId}{rw:Bool}(hq:h.get q=some (.cells [.int .i64 z] e rw))(ay:q<N)(hl:s.length<=100000):jR A.C (.func 143 [] [.ptr q 0]) [.str s] h N (fun u _ _=>u=.int .i64 (pX z s)):=by
 intro w
 rw[aO,A.k143 (by simp)]
 simp[A.b143]
 refine aA (Zxr hl) ?_
 rintro _ h2 n2 k2 rfl
 by_cases h0:bz s=0
 ·have jc:((bz s:Nat):Int)=0:=by omega
  obtain⟨t1,t2,t3⟩:=JV h0
  have l1:(aN (oY s).num).length<=100000:=by
   have:(aN (oY s).num).length<=(aq (oY s).num.natAbs).length+1:=by unfold aN;split<;>simp
   omega
  have jV:=(k2.get q ay).trans hq
  have uY:=Yeb (q:=oY s) (h:=h2) (N:=n2) l1 (by omega)
  rw[t1]at uY
  simp[h0]
  refine aA uY ?_
  rintro x3 h3 n3 k3 hx
  have kl2:=k2.le
  have Mc:=(k3.get q (by omega)).trans jV
  simp[]
  refine aA (Ty hx) ?_
  rintro _ h4 n4 k4 rfl
  have kl3:=k3.le
  have yH:=(k4.get q (by omega)).trans Mc
  have kl4:=k4.le
  have d4:q<n4:=by omega
  by_cases h5:dW (oY s).num<z
  ·simp[yH,h5,Mm,pX,h0]
   refine(D9 (by simp[-ax,d4])).2 ?_
   simp[az]
   exact(k2.trans k3).trans k4
  ·simp[yH,h5,Mm,pX,h0]
   refine(D9 (by simp[-ax,d4])).2 ?_
   simp[az]
   exact(k2.trans k3).trans k4
 ·have jc:¬((bz s:Nat):Int)=0:=by omega
  simp[h0,az,pX]
  exact k2
set_option maxHeartbeats 1000000
def A.b187:av:=sr [ge 2 (.alloc [.int .i64 0,.int .i64 0] 148)]
 (sr [mv 3 0,ln 4 3,mv 5 0,ge 6 (.aU 1 (tq 5) (kq 0)),ld 7 6,ln 8 7,ge 9 (.build [.int .i64 0,.int .i64 0] [(0,1,(tq 4)),(1,1,(tq 8))]),gn (.store 2 (tq 2) (tq 9))]
 (.ret))
def A.c187:A.F 187=some ⟨10,[.cell 2 (some 2)],A.b187⟩:=by kernel_rfl
def A.k187:=@A.kk 187 _ _ _ A.c187 rfl
def A.rG:av:=sr [bi 36 .lss 35 34]
 (.seq (cd 36
 (.skip)
 (.exit 0))
 (.seq (.block 1 (sr [ia 37 1 33 35,ld 38 37,mv 7 38]
 (sr [mv 39 7,ge 40 (.cr 2 1 (tq 5) (kq 1)),ld 41 40,c2 42 60 39 41,mv 8 42]
 (sr [mv 43 8,ni 44 43 0]
 (cd 44
 (sr [mv 45 8,mv 4 45]
 (.ret))
 (.skip))))))
 (.aR [bc 46 .add 35 1,mv 35 46])))
def A.b127:av:=sr [bx 3 148 1,mc 4 0]
 (.seq (sr [mv 9 0,ln 10 9,ei 11 10 0,mv 12 11,mh 13 0 12,gz 14 12 (.aU 1 (tq 13) (kq 0)),gz 15 12 (.load none (tq 14)),gz 16 12 (.len 1 (tq 15)),gz 17 12 (.bin .eql (.aM .int) true (tq 16) (kq 0)),pt 18 12 17]
 (cd 18
 (sr [mc 4 12]
 (.ret))
 (.skip)))
 (sr [mv 19 0,c1 20 187 19,ge 5 (.alloc [.int .i64 0,.int .i64 0] 148),gn (.store 2 (tq 5) (tq 20))]
 (.seq (sr [ge 21 (.cr 2 1 (tq 5) (kq 0)),ld 22 21,ge 23 (.cr 2 1 (tq 3) (kq 0)),ld 24 23,bi 25 .gtr 22 24,mv 26 25,gz 27 26 (.cr 2 1 (tq 5) (kq 1)),gz 28 26 (.load none (tq 27)),gz 29 26 (.cr 2 1 (tq 3) (kq 1)),gz 30 26 (.load none (tq 29)),gz 31 26 (.bin .gtr (.node []) false (tq 28) (tq 30)),pt 32 26 31]
 (cd 32
 (sr [mc 4 5]
 (.ret))
 (.skip)))
 (.seq (sr [mv 33 0,ln 34 33,mc 35 0]
 (.block 0 (.loop A.rG)))
 (sr [mc 4 0]
 (.ret))))))
def A.c127:A.F 127=some ⟨47,[.tmp 4],A.b127⟩:=by kernel_rfl
def A.k127:=@A.kk 127 _ _ _ A.c127 rfl
def Ygo{h:T O}{N:Nat}{v:V}{l:List (List aQ)}{l0:List aQ}(hs:eP h N v l)(h0:l[0]?=some l0):Fn A.C 187 [v] h N (fun u _ _=>u=.agg [.int .i64 l.length,.int .i64 l0.length]):=by
 intro w
 have hlen:=hs.len
 have fm:0<l.length:=j_ h0
 have fU:0<(l.length:Int):=by omega
 obtain⟨i0,o0,YL,e0,Ev,u0,z1,z2,z3,z4,z5⟩:=hs.at h0
 have z6:=z5.len
 rw[tD]at z6
 rw[ka]at z4
 have d1:¬i0=N:=by omega
 have d2:¬N=i0:=by omega
 rw[aO,A.k187 (by simp)]
 simp[A.b187,hlen,fm,z1,z3,z4,z6,d1,ad,bO,aS,aE,az]
 exact(ab.refl.new _).set (aW _)
def Yhc{h:T O}{N:Nat}{v:V}{l:List (List aQ)}{a b:Nat}(hs:eP h N v l)(hl:l.length<100000)(hx:∀x∈l,x.length<100000/\∀s∈x,s.length<=100000):Fn A.C 127 [v,.agg [.int .i64 a,.int .i64 b]] h N (fun u _ _=>u=.int .i64 (ky l a b)):=by
 intro w
 have hlen:=hs.len
 rw[aO,A.k127 (by simp)]
 by_cases c0:l.length=0
 ·have c0':(l.length:Int)=0:=by omega
  simp[A.b127,hlen,c0,ky,az]
  exact ab.refl.new _
 have c0':¬(l.length:Int)=0:=by omega
 have fm:0<l.length:=by omega
 have fU:0<(l.length:Int):=by omega
 obtain⟨l0,fj⟩:=bp fm
 obtain⟨i0,o0,YL,e0,Ev,u0,z1,z2,z3,z4,z5⟩:=hs.at fj
 have z6:=z5.len
 rw[tD]at z6
 rw[ka]at z4
 obtain⟨n,hn⟩:∃n,n=l0.length:=⟨_,rfl⟩
 have en:iS l=n:=by simp[iS,fj,hn]
 rw[<-hn]at z6
 have wZ:n<100000:=by have:=(hx l0 (cm fj)).1;omega
 have d1:¬i0=N:=by omega
 have d2:¬N=i0:=by omega
 by_cases c1:n=0
 ·have c1':(n:Int)=0:=by omega
  simp[A.b127,hlen,c0,fm,z1,z3,z4,z6,d1,c1,ky,en,az]
  exact ab.refl.new _
 have c1':¬(n:Int)=0:=by omega
 have e1:ky l a b=if a<l.length\/b<n then 5 else bK (l.map fun x=>iw x n):=by simp[ky,en,c0,c1]
 rw[e1]
 simp[A.b127,hlen,c0,fm,z1,z3,z4,z6,d1,c1]
 generalize hH:h.set N (.cells [.int .i64 a,.int .i64 b] 148 true)=H
 have k1:ab h N H (N+1):=by rw[<-hH];exact ab.refl.new _
 have g1:H.get N=some (.cells [.int .i64 a,.int .i64 b] 148 true):=by rw[<-hH];simp
 clear hH
 refine aA (Ygo (hs.ae k1) fj) ?_
 rintro _ H2 n2 k2 rfl
 rw[<-hn]
 have kl2:=k2.le
 have g2:=(k2.get N (by omega)).trans g1
 have d3:¬N=n2:=by omega
 have d4:¬n2=N:=by omega
 have kz:ab h N ((H2.set n2 (.cells [.int .i64 0,.int .i64 0] 148 true)).set n2 (.cells [.int .i64 l.length,.int .i64 n] 148 true)) (n2+1):=((k1.trans k2).new _).set (by omega)
 by_cases c2:a<l.length
 ·have c2':(a:Int)<(l.length:Int):=by omega
  simp[g2,d3,ad,bO,aS,c2,c2',az]
  exact⟨by omega,kz⟩
 have c2':¬(a:Int)<(l.length:Int):=by omega
 by_cases c3:b<n
 ·have c3':(b:Int)<(n:Int):=by omega
  simp[g2,d3,ad,bO,aS,c2,c2',c3,c3',az]
  exact⟨by omega,kz⟩
 have c3':¬(b:Int)<(n:Int):=by omega
 simp[hlen,g2,d3,ad,bO,aS,c2,c2',c3,c3']
 generalize hH3:(H2.set n2 (.cells [.int .i64 0,.int .i64 0] 148 true)).set n2 (.cells [.int .i64 l.length,.int .i64 n] 148 true)=H3 at*
 have g3:H3.get n2=some (.cells [.int .i64 l.length,.int .i64 n] 148 true):=by rw[<-hH3];simp
 clear hH3
 have kd:ab H3 (n2+1) H3 (n2+1):=ab.refl
 refine bP [(4,4),(7,8),(35,46)] (fun e r st=>ax N st.w=[]/\ab h N st.h st.n/\((e=.exit 0/\bK (l.map (fun x=>iw x n))=0)\/(e=.ret/\r.get 4=some (.int .i64 (bK (l.map (fun x=>iw x n))))))) (fun m r st=>ax N st.w=[]/\ab h N st.h st.n/\(n2<st.n/\st.h.get n2=H3.get n2)/\∃k,k+m=l.length/\r.get 35=some (.int .i64 k)/\bK (l.map (fun x=>iw x n))=bK ((l.drop k).map (fun x=>iw x n))) l.length ?_ ?_ ?_
 ·exact⟨by simp;omega,kz,⟨by simp,rfl⟩,0,by omega,by simp,by simp⟩
 ·rintro m r ⟨H,n1,W⟩ hr c_ ⟨hW,hK,⟨cW,hG⟩,k,hk,h7,hz⟩
  simp only at hW hK cW hG
  rw[bq]
  cases m with
  |zero=>
   obtain rfl:k=l.length:=by omega
   rw[mm,uJ,bK]at hz
   simp[A.rG,hr,c_,h7,hz,hW,hK]
  |succ m=>
   have ay:k<l.length:=by omega
   obtain⟨s,hc⟩:=bp ay
   obtain⟨i,o,cc,e,rw,u,q1,q2,q3,q4,q5⟩:=(hs.ae hK).at hc
   have g4:=hG.trans g3
   rw[jq hc,my,bK]at hz
   have bR:(k:Int)<(l.length:Int):=by omega
   simp[A.rG,hr,h7,bR,hlen,q1,q3,q4,g4]
   refine aA (Zsd q5 (hx s (cm hc)).1 (hx s (cm hc)).2) ?_
   rintro _ h3 n3 k3 rfl
   have kk:=hK.trans k3
   by_cases h0:iw s n=0
   ·rw[aF h0]at hz
    simp(disch:=first|(simp;done)|omega|rfl) [c_,h7,h0,hW]
    exact⟨m,by omega,kk,⟨by have:=k3.le;omega,(k3.get n2 cW).trans hG⟩,k+1,by omega,by simp,by simpa using hz⟩
   ·rw[ar h0]at hz
    simp[c_,h0,hW,hz]
    exact kk
 ·rintro _ r ⟨H,n1,W⟩ hr ⟨hW,hK,⟨rfl,hz⟩|⟨rfl,h2⟩⟩
  ·simp only at hW hK
   simp[hz,az,hW,hK]
  ·simp only at hW hK
   simp[h2,az,hW,hK]
def A.wg:av:=sr [bi 9 .lss 8 7]
 (.seq (cd 9
 (.skip)
 (.exit 0))
 (.seq (.block 1 (sr [ia 10 1 6 8,ld 11 10,mv 4 11]
 (sr [mv 12 4,ge 13 (.call (tq 12) []),mv 5 13]
 (sr [mv 14 5,ni 15 14 0]
 (cd 15
 (sr [mv 16 5,mv 2 16]
 (.ret))
 (.skip))))))
 (.aR [bc 17 .add 8 1,mv 8 17])))
def A.b37:av:=sr [mc 2 0]
 (.seq (sr [mv 6 0,ln 7 6,mc 8 0]
 (.block 0 (.loop A.wg)))
 (sr [mc 2 0]
 (.ret)))
def A.c37:A.F 37=some ⟨18,[.tmp 2],A.b37⟩:=by kernel_rfl
def A.k37:=@A.kk 37 _ _ _ A.c37 rfl
def Zd{h:T O}{N:Nat}{v:V}{fs:List V}{l:List Int}(hs:Sl h N v fs)(NI:fs.length=l.length)(hl:l.length<1000)(hf:∀(j:Nat) (f:V) (e:Int),fs[j]?=some f->l[j]?=some e->(∀(i:Nat) (x:Int),i<j->l[i]?=some x->x=0)->∀h' n',ab h N h' n'->jR A.C f [] h' n' (fun u _ _=>u=.int .i64 e)):Fn A.C 37 [v] h N (fun u _ _=>u=.int .i64 (bK l)):=by
 intro w
 have hlen:=hs.len
 rw[NI]at hlen
 rw[aO,A.k37 (by simp)]
 simp[A.b37,hlen]
 refine bP [(2,2),(4,5),(8,17)] (fun e r st=>ax N st.w=[]/\ab h N st.h st.n/\((e=.exit 0/\bK l=0)\/(e=.ret/\r.get 2=some (.int .i64 (bK l))))) (fun m r st=>ax N st.w=[]/\ab h N st.h st.n/\∃k,k+m=l.length/\r.get 8=some (.int .i64 k)/\bK l=bK (l.drop k)/\∀(i:Nat) (x:Int),i<k->l[i]?=some x->x=0) l.length ?_ ?_ ?_
 ·exact⟨by simp,ab.refl,0,by omega,by simp,by simp,fun i x hi=>by omega⟩
 ·rintro m r ⟨H,n1,W⟩ hr c_ ⟨hW,hK,k,hk,h7,hz,J5⟩
  simp only at hW hK
  rw[bq]
  cases m with
  |zero=>
   obtain rfl:k=l.length:=by omega
   rw[mm,bK]at hz
   simp[A.wg,hr,c_,h7,hz,hW,hK]
  |succ m=>
   have ay:k<l.length:=by omega
   obtain⟨s,hc⟩:=bp ay
   obtain⟨f,hfk⟩:=bp (show k<fs.length by omega)
   obtain⟨i,o,cc,e,rw,q1,q2,q3,q4⟩:=(hs.ae hK).at hfk
   rw[jq hc,bK]at hz
   have bR:(k:Int)<(l.length:Int):=by omega
   simp[A.wg,hr,h7,bR,hlen,q1,q3,q4]
   refine Ca (hf k f s hfk hc J5 _ _ hK) ?_
   rintro _ h3 n3 k3 rfl
   have kk:=hK.trans k3
   by_cases h0:s=0
   ·rw[aF h0]at hz
    simp(disch:=first|(simp;done)|omega|rfl) [c_,h7,h0,hW]
    refine⟨m,by omega,kk,k+1,by omega,by simp,hz,fun i x hi hx=>?_⟩
    by_cases Kz:i<k
    ·exact J5 i x Kz hx
    ·obtain rfl:i=k:=by omega
     rw[hc]at hx
     rw[<-h0]
     simpa using hx.symm
   ·rw[ar h0]at hz
    simp[c_,h0,hW,hz]
    exact kk
 ·rintro _ r ⟨H,n1,W⟩ hr ⟨hW,hK,⟨rfl,hz⟩|⟨rfl,h2⟩⟩
  ·simp only at hW hK
   simp[hz,az,hW,hK]
  ·simp only at hW hK
   simp[h2,az,hW,hK]
variable {N n n':Nat} {h h':T O} {l:List Rat} {u v:V}
set_option maxHeartbeats 2000000
def A.rH:av:=sr [bi 11 .lss 10 9]
 (.seq (cd 11
 (.skip)
 (.exit 0))
 (.seq (.block 1 (sr [ia 12 1 8 10,ld 13 12,mv 7 13]
 (.aR [mv 14 5,mv 15 1,mv 16 7,ge 17 (.call (tq 15) [tq 16]),ge 18 (.aV 76 1 1 [.aa] [(0,1,(tq 17))]),ge 19 (.append 1 24 76 [.aa] (tq 14) (tq 18)),mv 5 19])))
 (.aR [bc 20 .add 10 1,mv 10 20])))
def A.b115:av:=sr [mN 4]
 (sr [mN 5]
 (.seq (sr [mv 8 0,ln 9 8,mc 10 0]
 (.block 0 (.loop A.rH)))
 (sr [mv 21 5,mv 4 21]
 (.ret))))
def A.c115:A.F 115=some ⟨22,[.tmp 4],A.b115⟩:=by kernel_rfl
def A.k115:=@A.kk 115 _ _ _ A.c115 rfl
def Yh8{f:V}{l:List V}{Q:Nat->T O->Nat->V->Prop}(Y:V->Prop)(hQ:∀j h n h' n' c u,Q j h n c->dP (fun i=>i∈cR u) h n h' n'->mr 76 Y h u->Q j h' n' c)(hs:Sl h N v l)(hl:l.length<1000000000)(hf:∀(j:Nat) (x:V),l[j]?=some x->∀h' n',ab h N h' n'->jR A.C f [x] h' n' (fun u h2 n2=>∃y,u=y/\[y].length=1/\[y].all V.one=true/\(∀q∈[y],Y q)/\Q j h2 n2 y)):Fn A.C 115 [v,f] h N (fun u h' n'=>∃out,Own 1 76 N h' n' u out/\out.length=l.length/\∀(j:Nat),j<l.length->∃y,out[j]?=some [y]/\Q j h' n' y):=by
 intro w
 have hlen:=hs.len
 rw[aO,A.k115 (by simp)]
 simp[A.b115,hlen]
 refine bP [(5,5),(7,7),(10,20)] (fun e r st=>e=.exit 0/\ax N st.w=[]/\ab h N st.h st.n/\∃u out,r.get 5=some u/\Own 1 76 N st.h st.n u out/\out.length=l.length/\∀(j:Nat),j<l.length->∃y,out[j]?=some [y]/\Q j st.h st.n y) (fun m r st=>ax N st.w=[]/\ab h N st.h st.n/\∃k u out,k+m=l.length/\r.get 10=some (.int .i64 k)/\r.get 5=some u/\Own 1 76 N st.h st.n u out/\out.length=k/\(out=[]->u=.aa)/\(∀c∈out,∀y∈c,Y y)/\∀(j:Nat),j<k->∃y,out[j]?=some [y]/\Q j st.h st.n y) l.length ?_ ?_ ?_
 ·exact⟨by simp,ab.refl,0,.aa,[],by omega,by simp,by simp,Own.nil,rfl,fun _=>rfl,by simp,fun j hj=>by omega⟩
 ·rintro m r ⟨H,n1,W⟩ hr c_ ⟨hW,hK,k,u,out,hk,gY,h5,ho,gV,vM,hY,dp⟩
  simp only at hW hK ho dp
  rw[bq]
  cases m with
  |zero=>
   have zV:k=l.length:=by omega
   subst zV
   simp[A.rH,hr,c_,gY,hW,hK]
   exact⟨u,h5,out,ho,gV,dp⟩
  |succ m=>
   have ay:k<l.length:=by omega
   obtain⟨x,hx⟩:=bp ay
   obtain⟨i,o,cc,e,rw,q1,q2,q3,q4⟩:=(hs.ae hK).at hx
   have bR:(k:Int)<(l.length:Int):=by omega
   have kA:=hK
   simp[A.rH,hr,gY,h5,bR,hlen,q1,q3,q4]
   refine Ca (hf k x hx _ _ kA) ?_
   rintro y h3 n3 k3 ⟨_,rfl,c1,c2,cY,c3⟩
   have jd:=k3.le
   have kn:=hK.le
   have kB:=kA.trans k3
   have b1:V.one y=true:=by simpa using c2
   have b2:V.cells y=[y]:=by cases y<;>first|rfl|cases b1
   simp[-V.cells, -V.one,b1,b2,ad]
   have tS:Own 1 76 N (h3.set n3 (.cells [y] 76 true)) (n3+1) u out:=(ho.ae ((ab.refl).trans k3)).ae (ab.refl.new _)
   obtain⟨v',h',w',f1,f2,f3,f4,fD,f5⟩:=De (Y:=Y) (x:=[y]) (u:=.slice n3 0 1 (some 1) 1) (bytes:=24) (w:=W) tS vM hY (by omega) (by decide) c1 (by simp[eD,St.row,aE]) (by omega)
   rw[f1]
   have ik:¬n1<N:=by omega
   have f6:ax N w'=[]:=by rw[f2];simp[hW]
   have kz:=(kB.new (.cells [y] 76 true)).then f3
   have k4:ab h3 n3 (h3.set n3 (.cells [y] 76 true)) (n3+1):=ab.refl.new _
   have yH:Q k (h3.set n3 (.cells [y] 76 true)) (n3+1) y:=hQ _ _ _ _ _ _ .aa c3 k4.upd mr.nil
   simp(disch:=first|(simp;done)|omega|rfl) [c_,gY,f6]
   refine⟨m,by omega,kz,k+1,by omega,by simp,out++[[y]],f5,by simp[gV],by simp,fun c' hc z hz=>?_,fun j hj=>?_⟩
   ·rcases kb.1 hc with hc|hc
    ·exact hY c' hc z hz
    ·simp only[wC]at hc;subst hc;exact cY z hz
   by_cases rV:j<k
   ·obtain⟨y,g1,g2⟩:=dp j rV
    exact⟨y,by rw[lE (by omega)];exact g1,hQ _ _ _ _ _ _ _ (hQ _ _ _ _ _ _ .aa g2 (((ab.refl).trans k3).trans k4).upd mr.nil) f4 fD⟩
   ·obtain rfl:j=k:=by omega
    exact⟨y,by rw[oV (by omega),gV];simp,hQ _ _ _ _ _ _ _ yH f4 fD⟩
 ·rintro _ r ⟨H,n1,W⟩ hr ⟨rfl,hW,hK,u,out,h5,ho,gV,dp⟩
  simp only at hW hK ho dp
  simp[h5,az,hW,hK]
  exact⟨out,ho,gV,dp⟩
def A.wh:av:=sr [bi 11 .lss 10 9]
 (.seq (cd 11
 (.skip)
 (.exit 0))
 (.seq (.block 1 (sr [ia 12 1 8 10,ld 13 12,mv 7 13]
 (.aR [mv 14 5,mv 15 1,mv 16 7,ge 17 (.call (tq 15) [tq 16]),ge 18 (.aV 103 4 1 [.int .i64 0,.aa,.int .i64 0,.aa] [(0,4,(tq 17))]),ge 19 (.append 4 64 103 [.int .i64 0,.aa,.int .i64 0,.aa] (tq 14) (tq 18)),mv 5 19])))
 (.aR [bc 20 .add 10 1,mv 10 20])))
def A.b94:av:=sr [mN 4]
 (sr [mN 5]
 (.seq (sr [mv 8 0,ln 9 8,mc 10 0]
 (.block 0 (.loop A.wh)))
 (sr [mv 21 5,mv 4 21]
 (.ret))))
def A.c94:A.F 94=some ⟨22,[.tmp 4],A.b94⟩:=by kernel_rfl
def A.k94:=@A.kk 94 _ _ _ A.c94 rfl
def Yib{f:V}{l:List V}{Q:Nat->T O->Nat->List V->Prop}(Y:V->Prop)(hQ:∀j h n h' n' c u,Q j h n c->dP (fun i=>i∈cR u) h n h' n'->mr 103 Y h u->Q j h' n' c)(hs:Sl h N v l)(hl:l.length<1000000000)(hf:∀(j:Nat) (x:V),l[j]?=some x->∀h' n',ab h N h' n'->jR A.C f [x] h' n' (fun u h2 n2=>∃c,u=(.agg c)/\c.length=4/\c.all V.one=true/\(∀q∈c,Y q)/\Q j h2 n2 c)):Fn A.C 94 [v,f] h N (fun u h' n'=>∃out,Own 4 103 N h' n' u out/\out.length=l.length/\∀(j:Nat),j<l.length->∃c,out[j]?=some c/\Q j h' n' c):=by
 intro w
 have hlen:=hs.len
 rw[aO,A.k94 (by simp)]
 simp[A.b94,hlen]
 refine bP [(5,5),(7,7),(10,20)] (fun e r st=>e=.exit 0/\ax N st.w=[]/\ab h N st.h st.n/\∃u out,r.get 5=some u/\Own 4 103 N st.h st.n u out/\out.length=l.length/\∀(j:Nat),j<l.length->∃c,out[j]?=some c/\Q j st.h st.n c) (fun m r st=>ax N st.w=[]/\ab h N st.h st.n/\∃k u out,k+m=l.length/\r.get 10=some (.int .i64 k)/\r.get 5=some u/\Own 4 103 N st.h st.n u out/\out.length=k/\(out=[]->u=.aa)/\(∀c∈out,∀y∈c,Y y)/\∀(j:Nat),j<k->∃c,out[j]?=some c/\Q j st.h st.n c) l.length ?_ ?_ ?_
 ·exact⟨by simp,ab.refl,0,.aa,[],by omega,by simp,by simp,Own.nil,rfl,fun _=>rfl,by simp,fun j hj=>by omega⟩
 ·rintro m r ⟨H,n1,W⟩ hr c_ ⟨hW,hK,k,u,out,hk,gY,h5,ho,gV,vM,hY,dp⟩
  simp only at hW hK ho dp
  rw[bq]
  cases m with
  |zero=>
   have zV:k=l.length:=by omega
   subst zV
   simp[A.wh,hr,c_,gY,hW,hK]
   exact⟨u,h5,out,ho,gV,dp⟩
  |succ m=>
   have ay:k<l.length:=by omega
   obtain⟨x,hx⟩:=bp ay
   obtain⟨i,o,cc,e,rw,q1,q2,q3,q4⟩:=(hs.ae hK).at hx
   have bR:(k:Int)<(l.length:Int):=by omega
   have kA:=hK
   simp[A.wh,hr,gY,h5,bR,hlen,q1,q3,q4]
   refine Ca (hf k x hx _ _ kA) ?_
   rintro _ h3 n3 k3 ⟨c,rfl,c1,c2,cY,c3⟩
   have jd:=k3.le
   have kn:=hK.le
   have kB:=kA.trans k3
   have b1:∀v:List V,(V.agg v).cells=v:=fun _=>rfl
   have b2:ad [(.int .i64 0),.aa,(.int .i64 0),.aa] 0 c=c:=by unfold ad;rw[c1];simp
   simp[-V.cells, -V.one,b1,b2,c1,c2]
   have tS:Own 4 103 N (h3.set n3 (.cells c 103 true)) (n3+1) u out:=(ho.ae ((ab.refl).trans k3)).ae (ab.refl.new _)
   obtain⟨v',h',w',f1,f2,f3,f4,fD,f5⟩:=De (Y:=Y) (x:=c) (u:=.slice n3 0 1 (some 1) 4) (bytes:=64) (w:=W) tS vM hY (by omega) (by decide) c1 (by simp only[eD,St.row,T.ag,if_true];unfold aE;simp[c1];exact eZ (by omega)) (by omega)
   rw[f1]
   have ik:¬n1<N:=by omega
   have f6:ax N w'=[]:=by rw[f2];simp[hW]
   have kz:=(kB.new (.cells c 103 true)).then f3
   have k4:ab h3 n3 (h3.set n3 (.cells c 103 true)) (n3+1):=ab.refl.new _
   have yH:Q k (h3.set n3 (.cells c 103 true)) (n3+1) c:=hQ _ _ _ _ _ _ .aa c3 k4.upd mr.nil
   simp(disch:=first|(simp;done)|omega|rfl) [c_,gY,f6]
   refine⟨m,by omega,kz,k+1,by omega,by simp,out++[c],f5,by simp[gV],by simp,fun c' hc z hz=>?_,fun j hj=>?_⟩
   ·rcases kb.1 hc with hc|hc
    ·exact hY c' hc z hz
    ·simp only[wC]at hc;subst hc;exact cY z hz
   by_cases rV:j<k
   ·obtain⟨c,g1,g2⟩:=dp j rV
    exact⟨c,by rw[lE (by omega)];exact g1,hQ _ _ _ _ _ _ _ (hQ _ _ _ _ _ _ .aa g2 (((ab.refl).trans k3).trans k4).upd mr.nil) f4 fD⟩
   ·obtain rfl:j=k:=by omega
    exact⟨c,by rw[oV (by omega),gV];simp,hQ _ _ _ _ _ _ _ yH f4 fD⟩
 ·rintro _ r ⟨H,n1,W⟩ hr ⟨rfl,hW,hK,u,out,h5,ho,gV,dp⟩
  simp only at hW hK ho dp
  simp[h5,az,hW,hK]
  exact⟨out,ho,gV,dp⟩
def A.wi:av:=sr [bi 11 .lss 10 9]
 (.seq (cd 11
 (.skip)
 (.exit 0))
 (.seq (.block 1 (sr [mv 12 10,mv 6 12]
 (.aX [lN 13 4 5,mv 14 0,mv 15 6,ia 16 4 14 15,lN 17 4 16,mv 18 1,mv 19 6,ia 20 4 18 19,lN 21 4 20,c2 22 86 17 21,c2 23 79 13 22,gn (.store 4 (tq 5) (tq 23))] [0,0,0,6,14,0,0,96,224,510,1023,2047])))
 (.aR [bc 24 .add 10 1,mv 10 24])))
def A.b85:av:=sr [ge 4 (.alloc [.int .i64 0,.aa,.int .i64 0,.aa] 103)]
 (sr [ge 7 (.call (fq 99) [.const (.int .i64 0)]),ge 5 (.alloc [.int .i64 0,.aa,.int .i64 0,.aa] 103),gn (.store 4 (tq 5) (tq 7))]
 (.seq (sr [mv 8 0,ln 9 8,mc 10 0]
 (.block 0 (.loop A.wi)))
 (sr [lN 25 4 5,gn (.store 4 (tq 4) (tq 25))]
 (.ret))))
def A.c85:A.F 85=some ⟨26,[.cell 4 (some 4)],A.b85⟩:=by kernel_rfl
def A.k85:=@A.kk 85 _ _ _ A.c85 rfl
def A.b140:av:=sr [ge 4 (.alloc [.int .i64 0,.aa,.int .i64 0,.aa] 103)]
 (sr [mv 5 1,mv 6 0,c2 7 85 5 6,gn (.store 4 (tq 4) (tq 7))]
 (.ret))
def A.c140:A.F 140=some ⟨8,[.cell 4 (some 4)],A.b140⟩:=by kernel_rfl
def A.k140:=@A.kk 140 _ _ _ A.c140 rfl
abbrev NW(y:V):Prop:=∀m,y≠.int .u64 m
def In.bV{x:V}{z:Int}{e:TypeId}(s:In h n x z)(k:dP (fun i=>i∈cR v) h n h' n')(hd:mr e NW h v):In h' n' x z:=by
 rcases s with s|⟨i,o,l,c,s1,s2,s3⟩
 ·exact .inl s
 ·refine .inr ⟨i,o,l,c,s1,Sl.bV s2 k fun j hj hjv=>?_,s3⟩
  simp[cR]at hj
  subst hj
  obtain⟨z2,g1,_,g3⟩:=hd j hjv
  unfold Wn at s2
  have bB:aJ z.natAbs≠[]:=fun h0=>by
   have:=mH z.natAbs
   rw[h0]at this
   simp[val]at this
   omega
  obtain⟨d,ds,pF⟩:=List.exists_cons_of_ne_nil bB
  have Xq:(dg (aJ z.natAbs))[0]?=some (.int .u64 d):=by rw[pF];simp[dg]
  obtain⟨i2,o2,c2,e2,HN,q1,q2,q3,q4⟩:=Sl.at s2 Xq
  simp[wB]at q1
  obtain⟨rfl,rfl⟩:=q1
  rw[g1]at q3
  simp only[al,O.cells.injEq]at q3
  obtain⟨rfl,_⟩:=q3
  exact g3 _ (cm q4) _ rfl
def fW.bV{c:List V}{q:Rat}{e:TypeId}(s:fW h n c q)(k:dP (fun i=>i∈cR v) h n h' n')(hd:mr e NW h v):fW h' n' c q:=by
 obtain⟨n1,u1,n2,u2,rfl,s1,s2⟩:=s
 exact⟨n1,u1,n2,u2,rfl,s1.bV k hd,s2.bV k hd⟩
def Sn.At{z:Nat}{l:List (List V)}(s:Sn z h N v l):∀i∈cR v,i<N:=fun i hi=>by
 rcases s with⟨_,rfl|rfl⟩|⟨j,o,cp,c,e,rw,rfl,hj,_⟩
 ·simp[cR]at hi
 ·simp[cR]at hi
 ·simp[cR]at hi;omega
def Sn.bV{z:Nat}{D:Nat->Prop}{N':Nat}{l:List (List V)}(s:Sn z h N v l)(k:dP D h N h' N')(hd:∀i∈cR v,¬D i):Sn z h' N' v l:=by
 rcases s with s|⟨i,o,cp,c,e,rw,rfl,h2,h3,h4⟩
 ·exact .inl s
 ·exact .inr ⟨i,o,cp,c,e,rw,rfl,fE h2 k.le,(k.get i h2 (hd i (by simp[cR]))).trans h3,h4⟩
def dZ.ae{N':Nat}(s:dZ h N u l)(k:ab h N h' N'):dZ h' N' u l:=⟨s.1.ae k,fun i hi=>by
 obtain⟨cs,h1,_⟩:=s.1
 rw[k.get i (h1.At i hi)]
 exact s.2 i hi⟩
def dZ.bV{e:TypeId}(s:dZ h n u l)(k:dP (fun i=>i∈cR v) h n h' n')(hd:mr e NW h v)(he:e≠103):dZ h' n' u l:=by
 obtain⟨⟨cs,h1,h2,h3⟩,h4⟩:=s
 have hn:∀i∈cR u,i∉cR v:=fun i hi hc=>by
  obtain⟨z,w,hz⟩:=h4 i hi
  obtain⟨z2,ed,_⟩:=hd i hc
  rw[hz]at ed
  simp at ed
  exact he ed.2.1.symm
 refine⟨⟨cs,h1.bV k hn,h2,fun j q hq=>?_⟩,fun i hi=>by rw[k.get i (h1.At i hi) (hn i hi)];exact h4 i hi⟩
 obtain⟨c,g1,g2⟩:=h3 j q hq
 exact⟨c,g1,g2.bV k hd⟩
def TO{N0:Nat}{out:List (List V)}(s:Own 4 103 N0 h N v out)(hl:out.length=l.length)(hc:∀(j:Nat),j<l.length->∃c,out[j]?=some c/\∀q,l[j]?=some q->fW h N c q):dZ h N v l:=by
 refine⟨⟨out,s.sn,hl,fun j q hq=>?_⟩,fun i hi=>?_⟩
 ·obtain⟨c,g1,g2⟩:=hc j (j_ hq)
  exact⟨c,g1,g2 q hq⟩
 ·obtain⟨_,⟨_,rfl⟩|⟨j,rfl,_,_,hg⟩⟩:=s
  ·simp[cR]at hi
  ·simp[cR]at hi;subst hi;exact⟨_,_,hg⟩
structure DtI (h:T O) (N p:Nat) (a b:List Rat) (m:Nat) (r:T V) (st:St):Prop where
 w:ax N st.w=[]
 ae:ab h N st.h st.n
 ex:∃(t:Nat) (c:List V),t+m=a.length/\r.get 10=some (.int .i64 t)/\p<st.n/\st.h.get N=some (.cells zF 103 true)/\st.h.get p=some (.cells c 103 true)/\fW st.h st.n c (ks a b t)
def Yrm{a b:List Rat}{j k:Nat}(hu:kM h N u a)(hv:kM h N v b)(h_:a.length<=b.length)(ha:∀q∈a,Qb j q)(hb:∀q∈b,Qb k q)(hj:1<=j)(hk:1<=k)(hl:a.length*(j+k+1)+j+k+1<=400000000):Fn A.C 85 [u,v] h N (fun x h' n'=>Fc h' n' x (l_ a b)):=by
 intro w
 have l1:=hu.len
 have l2:=hv.len
 have hal:a.length<=400000000:=by have:=Nat.le_mul_of_pos_right a.length (show 0<j+k+1 by omega);omega
 rw[aO,A.k85 (by simp)]
 simp[A.b85]
 refine aA (Ytu (by omega) (by omega)) ?_
 rintro _ h1 n1 k1 hz
 obtain⟨c,rfl,hc⟩:=hz.c
 have kB:ab h N (h.set N (.cells zF 103 true)) (N+1):=ab.refl.new _
 have yi:=k1.le
 have g1:=k1.get N (by omega)
 rw[T.ag,aF rfl]at g1
 obtain⟨e1,e2⟩:=hc.len
 have oz:(V.agg c).cells=c:=rfl
 have e4:ad zF 0 c=c:=by unfold ad;rw[e1];simp[zF]
 have Bm:vG zF:=by intro x hx m;simp[zF]at hx;rcases hx with rfl|rfl|rfl|rfl<;>simp
 unfold zF at e4
 simp[-V.cells, -V.one,oz,e1,e2,e4,bO,l1]
 generalize hH:(h1.set n1 (.cells [.int .i64 0,.aa,.int .i64 0,.aa] 103 true)).set n1 (.cells c 103 true)=H1
 have kA:ab h1 n1 H1 (n1+1):=by rw[<-hH];exact(ab.refl.new _).set (aW _)
 have kC:ab h N H1 (n1+1):=(kB.trans k1).trans kA
 have g2:H1.get n1=some (.cells c 103 true):=by rw[<-hH];simp
 have g3:=(kA.get N (by omega)).trans g1
 clear hH
 refine bP [(6,6),(10,24)] (fun e r st=>e=.exit 0/\DtI h N n1 a b 0 r st) (DtI h N n1 a b) a.length ?_ ?_ ?_
 ·exact⟨by simp;omega,kC,0,c,by omega,by simp,by show n1<n1+1;omega,g3,g2,by simpa[ks]using hc.ae kA⟩
 ·rintro m r ⟨H,n2,W⟩ hr hf ⟨hW,hK,t,c0,ht,gY,NJ,rY,lD,tZ⟩
  simp only at hW hK NJ rY lD tZ
  rw[bq]
  cases m with
  |zero=>
   obtain rfl:t=a.length:=by omega
   simp[A.wi,hr,hf,gY]
   exact⟨hW,hK,a.length,c0,by omega,by simp[gY],NJ,rY,lD,tZ⟩
  |succ m=>
   have ay:t<a.length:=by omega
   have bn:(t:Int)<(a.length:Int):=by omega
   have jk:t<b.length:=by omega
   have Ar:(t:Int)<(b.length:Int):=by omega
   obtain⟨x,hx⟩:=bp ay
   obtain⟨y,hy⟩:=bp jk
   have tF:=ha x (cm hx)
   have iJ:=hb y (cm hy)
   have yK:=QY ha hb hj hk t
   have Qi:=tF.mul iJ
   have hmul:t*(j+k+1)<=a.length*(j+k+1):=lV _ (by omega)
   have ee:ks a b (t+1)=ks a b t+x*y:=by simp[ks,hx,hy]
   obtain⟨i,o,cc,e,rw,ca,q1,q2,q3,q4,q5⟩:=(hu.ae hK).at hx
   obtain⟨i',o',YU,e',oC,cb,p1,p2,p3,p4,p5⟩:=(hv.ae hK).at hy
   have s0:aE c0 0 4=some c0:=by unfold aE;rw[tZ.len.1];simp;exact eZ (by rw[tZ.len.1];omega)
   simp[A.wi,hr,gY,l1,l2,bn,Ar,lD,s0,q1,q2,q3,q4,p1,p2,p3,p4]
   have w1:=tV tF.1
   have w2:=tV (z:=(x.den:Int)) (k:=j) (by rw[dJ];exact tF.2)
   have w3:=tV iJ.1
   have w4:=tV (z:=(y.den:Int)) (k:=k) (by rw[dJ];exact iJ.2)
   have w5:=tV yK.1
   have w6:=tV (z:=((ks a b t).den:Int)) (by rw[dJ];exact yK.2)
   have w7:=tV Qi.1
   have w8:=tV (z:=((x*y).den:Int)) (by rw[dJ];exact Qi.2)
   refine aA (Qh q5.fc p5.fc (by omega) (by omega) (by omega) (by omega)) ?_
   rintro x3 h3 n3 k3 hm3
   simp[]
   refine aA (Yeg (tZ.ae k3).fc hm3 (by omega) (by omega) (by omega) (by omega)) ?_
   rintro _ h4' n4 k4 Qs
   rw[<-ee]at Qs
   obtain⟨c4,rfl,hc4⟩:=Qs.c
   have yV:=k3.le
   have HV:=k4.le
   have gp4:=(k4.get n1 (by omega)).trans ((k3.get n1 (by omega)).trans lD)
   have g04:=(k4.get N (by omega)).trans ((k3.get N (by omega)).trans rY)
   obtain⟨f1,f2⟩:=hc4.len
   have f3:=tZ.len.1
   have YX:(V.agg c4).cells=c4:=rfl
   have e5:ad c0 0 c4=c4:=by unfold ad;rw[f1];simp[f3]
   simp[-V.cells, -V.one,hr,YX,f1,f2,f3,e5,gp4,bO]
   have d2:n1<n4:=by omega
   have d3:¬N=n1:=by omega
   have d4:¬n1<N:=by omega
   refine(D9 (by simp[-ax,NJ,d2])).2 ?_
   simp(disch:=first|(simp;done)|omega|rfl) [hf,gY,d2]
   exact⟨m,by omega,by simp[ax,hW,d4],((hK.trans k3).trans k4).set (by omega),t+1,c4,by omega,by simp,d2,by show T.get _ N=_;rw[T.ag,ar d3];exact g04,by show T.get _ n1=_;rw[T.ag,aF rfl],hc4.aK gp4 tZ.J6 (by rw[f1,f3])⟩
 ·rintro _ r ⟨H,n2,W⟩ hr ⟨rfl,hW,hK,t,c0,ht,gY,NJ,rY,lD,tZ⟩
  simp only at hW hK NJ rY lD tZ
  obtain rfl:t=a.length:=by omega
  have s0:aE c0 0 4=some c0:=by unfold aE;rw[tZ.len.1];simp;exact eZ (by rw[tZ.len.1];omega)
  have YY:(V.agg c0).cells=c0:=rfl
  have e5:ad zF 0 c0=c0:=by unfold ad;rw[tZ.len.1];simp[zF]
  have f1:=tZ.len.1
  have f2:=tZ.len.2
  unfold zF at e5 rY
  simp[-V.cells, -V.one,hr,lD,rY,s0,bO,YY,f1,f2,e5,az]
  exact⟨hW,hK.set (aW N),(tZ.aK rY Bm (by rw[f1];rfl)).fc⟩
variable {N k:Nat} {h:T O} {m:List (List Rat)} {u v:V}
def A.b65:av:=sr [mN 4]
 (sr [mv 6 1,ge 7 (.cP 140 [tq 6] []),mv 5 7]
 (sr [mv 8 0,mv 9 5,c2 10 94 8 9,mv 4 10]
 (.ret)))
def A.c65:A.F 65=some ⟨11,[.tmp 4],A.b65⟩:=by kernel_rfl
def A.k65:=@A.kk 65 _ _ _ A.c65 rfl
def A.b66:av:=sr [bx 3 3 1,mN 4]
 (sr [mv 5 0,ge 6 (.cP 141 [] [tq 3]),c2 7 94 5 6,mv 4 7]
 (.ret))
def A.c66:A.F 66=some ⟨8,[.tmp 4],A.b66⟩:=by kernel_rfl
def A.k66:=@A.kk 66 _ _ _ A.c66 rfl
def A.b141:av:=sr [ge 3 (.alloc [.int .i64 0,.aa,.int .i64 0,.aa] 103)]
 (sr [mv 4 0,ld 5 1,ia 6 4 4 5,lN 7 4 6,gn (.store 4 (tq 3) (tq 7))]
 (.ret))
def A.c141:A.F 141=some ⟨8,[.cell 3 (some 4)],A.b141⟩:=by kernel_rfl
def A.k141:=@A.kk 141 _ _ _ A.c141 rfl
def A.b43:av:=sr [mN 2]
 (sr [mv 3 0,ge 4 (.call (fq 115) [tq 3,(fq 44)]),mv 2 4]
 (.ret))
def A.c43:A.F 43=some ⟨5,[.tmp 2],A.b43⟩:=by kernel_rfl
def A.k43:=@A.kk 43 _ _ _ A.c43 rfl
def Ylg{a b:List Rat}{j:Nat}(hu:kM h N u a)(hv:kM h N v b)(h_:a.length<=b.length)(ha:∀q∈a,Qb j q)(hb:∀q∈b,Qb k q)(hj:1<=j)(hk:1<=k)(hl:a.length*(j+k+1)+j+k+1<=400000000):jR A.C (.func 140 [v] []) [u] h N (fun x h' n'=>Fc h' n' x (l_ a b)):=by
 intro w
 have kB:ab h N (h.set N (.cells zF 103 true)) (N+1):=ab.refl.new _
 rw[aO,A.k140 (by simp)]
 simp[A.b140]
 refine aA (Yrm (hu.ae kB) (hv.ae kB) h_ ha hb hj hk hl) ?_
 rintro _ h1 n1 k1 hz
 obtain⟨c,rfl,hc⟩:=hz.c
 have yi:=k1.le
 have g1:=k1.get N (by omega)
 rw[T.ag,aF rfl]at g1
 obtain⟨e1,e2⟩:=hc.len
 have oz:(V.agg c).cells=c:=rfl
 have e4:ad zF 0 c=c:=by unfold ad;rw[e1];simp[zF]
 have Bm:vG zF:=by intro x hx m;simp[zF]at hx;rcases hx with rfl|rfl|rfl|rfl<;>simp
 have kk:=(kB.trans k1).set (h:=h) (n:=N) (i:=N) (o:=.cells c 103 true) (aW N)
 have nT:=(hc.aK (e1:=103) (w1:=true) (c1:=c) g1 Bm (by rw[e1];rfl)).fc
 have s0:aE c 0 4=some c:=by unfold aE;rw[e1];simp;exact eZ (by omega)
 have ay:N<n1:=by omega
 unfold zF at e4
 simp[-V.cells, -V.one,oz,e1,e2,e4,s0,g1,bO,az]
 exact⟨kk,nT⟩
def gp(h:T O)(N:Nat)(v:V)(m:List (List Rat)):Prop:=∃us:List V,Sl h N v us/\us.length=m.length/\∀(j:Nat) (l:List Rat),m[j]?=some l->∃u,us[j]?=some u/\dZ h N u l
def gp.ae{h':T O}{N':Nat}(s:gp h N v m)(k:ab h N h' N'):gp h' N' v m:=by
 obtain⟨us,h1,h2,h3⟩:=s
 refine⟨us,h1.ae k,h2,fun j l hl=>?_⟩
 obtain⟨u,g1,g2⟩:=h3 j l hl
 exact⟨u,g1,g2.ae k⟩
def gp.len(s:gp h N v m):oD v=some m.length:=by
 obtain⟨us,h1,h2,_⟩:=s
 rw[h1.len,h2]
def kM.form{l:List Rat}(s:kM h N v l):V.one v=true/\V.cells v=[v]/\NW v:=by
 obtain⟨cs,⟨_,rfl|rfl⟩|⟨i,o,cp,c,e,rw,rfl,_⟩,_⟩:=s
 ·exact⟨rfl,rfl,fun m=>by simp⟩
 ·exact⟨rfl,rfl,fun m=>by simp⟩
 ·exact⟨rfl,rfl,fun m=>by simp⟩
def Zwg{k0:Nat}(hs:gh h N v m)(hl:m.length<1000000000)(hm:∀l∈m,l.length<1000000000/\∀q∈l,Qb k0 q)(jW:k0<=4000):Fn A.C 43 [v] h N (fun u h' n'=>gp h' n' u m):=by
 intro w
 obtain⟨us,h1,h2,h3⟩:=hs
 rw[aO,A.k43 (by simp)]
 simp[A.b43]
 refine aA (Yh8 (Q:=fun j h n u=>∀l,m[j]?=some l->dZ h n u l) NW (fun j h n h' n' c u hq k hd l hl=>(hq l hl).bV k hd (by simp)) h1 (by omega) ?_) ?_
 ·intro j x hx h' n' hk
  obtain⟨l,hl⟩:=bp (l:=m) (k:=j) (by have:=j_ hx;omega)
  obtain⟨u,g1,g2⟩:=h3 j l hl
  rw[hx]at g1
  obtain rfl:x=u:=by simpa using g1
  obtain⟨b1,b2⟩:=hm l (cm hl)
  refine fun w=>(Zp4 (k0:=k0) (g2.ae hk) b1 b2 jW w).mono fun y st=>?_
  rintro⟨q1,q2,q3⟩
  obtain⟨f1,f2,f3⟩:=q3.1.form
  refine⟨q1,q2,y,rfl,rfl,by simp only[List.all_cons,List.all_nil,f1,Bool.and_true],by simpa using f3,fun l' jS=>?_⟩
  rw[hl]at jS
  obtain rfl:l=l':=by simpa using jS
  exact q3
 ·rintro u h4 n4 k4 ⟨out,o1,o2,o3⟩
  simp[az]
  refine⟨k4,?_⟩
  have hx:∀x∈out,∃y,x=[y]:=fun x hx=>by
   have:=o1.1 x hx
   cases x with
   |nil=>simp at this
   |cons y t=>cases t with
    |nil=>exact⟨y,rfl⟩
    |cons a b=>simp at this
  obtain⟨ys,KS⟩:∃ys:List V,out=ys.map fun y=>[y]:=by
   clear o1 o2 o3
   induction out with
   |nil=>exact⟨[],rfl⟩
   |cons x t ih=>
    obtain⟨y,rfl⟩:=hx x (by simp)
    obtain⟨ys,rfl⟩:=ih fun x lI=>hx x (by simp[lI])
    exact⟨y::ys,rfl⟩
  subst KS
  refine⟨ys,Sn.one.1 o1.sn,by simpa[h2]using o2,fun j l hl=>?_⟩
  obtain⟨y,g1,g2⟩:=o3 j (by have:=j_ hl;omega)
  refine⟨y,?_,g2 l hl⟩
  rw[gG]at g1
  cases hy:ys[j]? with
  |none=>rw[hy]at g1;simp at g1
  |some z=>rw[hy]at g1;simpa using g1
def Yde{f:V}(F:List Rat->Rat)(hs:gp h N v m)(hl:m.length<1000000000)(hf:∀l∈m,∀u h' n',ab h N h' n'->dZ h' n' u l->jR A.C f [u] h' n' (fun x h2 n2=>Fc h2 n2 x (F l))):Fn A.C 94 [v,f] h N (fun u h' n'=>dZ h' n' u (m.map F)):=by
 obtain⟨us,h1,h2,h3⟩:=hs
 have key:=Yib (f:=f) (Q:=fun j h n c=>∀q,(m.map F)[j]?=some q->fW h n c q) NW (fun j h n h' n' c u hq k hd q uk=>(hq q uk).bV k hd) h1 (by omega) ?_
 ·intro w
  refine(key w).mono fun u st=>?_
  rintro⟨q1,q2,out,o1,o2,o3⟩
  exact⟨q1,q2,TO o1 (by simpa[h2]using o2) fun j hj=>o3 j (by simp at hj;omega)⟩
 ·intro j x hx h' n' hk
  obtain⟨l,hl⟩:=bp (l:=m) (k:=j) (by have:=j_ hx;omega)
  obtain⟨u,g1,g2⟩:=h3 j l hl
  rw[hx]at g1
  obtain rfl:x=u:=by simpa using g1
  refine fun w=>(hf l (cm hl) x h' n' hk (g2.ae hk) w).mono fun y st=>?_
  rintro⟨q1,q2,q3⟩
  obtain⟨c,rfl,hc⟩:=q3.c
  refine⟨q1,q2,c,rfl,hc.len.1,hc.len.2,hc.J6,fun q hq=>?_⟩
  simp[hl]at hq
  rw[<-hq]
  exact hc
def Ycd{b:List Rat}{j n:Nat}(hu:gp h N u m)(hv:kM h N v b)(hm:∀r∈m,r.length=n/\∀q∈r,Qb j q)(hn:n<=b.length)(hb:∀q∈b,Qb k q)(hj:1<=j)(hk:1<=k)(hl:n*(j+k+1)+j+k+1<=400000000)(jQ:m.length<100000):Fn A.C 65 [u,v] h N (fun x h' n'=>dZ h' n' x (m.map fun r=>l_ r b)):=by
 intro w
 rw[aO,A.k65 (by simp)]
 simp[A.b65]
 refine aA (Yde (fun r=>l_ r b) hu (by omega) fun l kO x h' n' hk2 hx=>?_) ?_
 ·obtain⟨b1,b2⟩:=hm l kO
  exact Ylg hx.1 (hv.ae hk2) (by omega) b2 hb hj hk (by rw[b1];exact hl)
 ·rintro x h4 n4 k4 hx
  simp[az]
  exact⟨k4,hx⟩
def You{p:Nat}{l:List Rat}{e:TypeId}{rw:Bool}(hp:h.get p=some (.cells [.int .i64 k] e rw))(kK:p<N)(hu:kM h N u l)(hk:k<l.length):jR A.C (.func 141 [] [.ptr p 0]) [u] h N (fun x h' n'=>Fc h' n' x (l[k]?.getD 0)):=by
 intro w
 have l1:=hu.len
 have gw:(k:Int)<(l.length:Int):=by omega
 obtain⟨q,hq⟩:=bp hk
 obtain⟨i,o,cc,e,rw,c,q1,q2,q3,q4,q5⟩:=hu.at hq
 obtain⟨e1,e2⟩:=q5.len
 have kB:ab h N (h.set N (.cells zF 103 true)) (N+1):=ab.refl.new _
 have oz:(V.agg c).cells=c:=rfl
 have e4:ad zF 0 c=c:=by unfold ad;rw[e1];simp[zF]
 have Bm:vG zF:=by intro x hx m;simp[zF]at hx;rcases hx with rfl|rfl|rfl|rfl<;>simp
 have s0:aE c 0 4=some c:=by unfold aE;rw[e1];simp;exact eZ (by omega)
 have kk:=kB.set (h:=h) (n:=N) (i:=N) (o:=.cells c 103 true) (aW N)
 have nT:=((q5.ae kB).aK (i:=N) (e0:=103) (w0:=true) (e1:=103) (w1:=true) (c1:=c) (by rw[T.ag,aF rfl]) Bm (by rw[e1];rfl)).fc
 have d1:¬p=N:=by omega
 have d2:¬i=N:=by omega
 rw[hq]
 unfold zF at e4
 rw[aO,A.k141 (by simp)]
 simp[-V.cells, -V.one,A.b141,hp,d1,d2,l1,gw,q1,q3,q4,oz,e1,e2,e4,s0,bO,az]
 exact⟨kk,nT⟩
def Zxn{n:Nat}(hu:gp h N u m)(jQ:m.length<100000)(hm:∀r∈m,r.length=n)(hk:k<n):Fn A.C 66 [u,.int .i64 k] h N (fun x h' n'=>dZ h' n' x (iQ m k)):=by
 intro w
 rw[aO,A.k66 (by simp)]
 have kB:ab h N (h.set N (.cells [.int .i64 k] 3 true)) (N+1):=ab.refl.new _
 simp[A.b66]
 refine aA (Yde (fun r=>r[k]?.getD 0) (hu.ae kB) (by omega) fun l kO x h' n' hk2 hx=>?_) ?_
 ·exact You (e:=3) (rw:=true) (by rw[hk2.get N (by omega)];simp) (by have:=hk2.le;omega) hx.1 (by rw[hm l kO];exact hk)
 ·rintro x h4 n4 k4 hx
  simp[az]
  exact⟨kB.trans k4,hx⟩
end Go.Mx
