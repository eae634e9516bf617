/-CheckWeights, LargeRow-/
import Derived.Test.YtokjleejipaidaaGreatDoorVaA
set_option linter.all false
namespace Go.Mx
noncomputable section
open Go Go.Proofs
set_option maxRecDepth 1000000
def A.w11:=A.q Tryz.f11
def A.xg:=A.ql A.w11 0 []
def A.b11:=(fun x0=>A.qb A.w11 [x0]) A.xg
def A.k11:=@A.kk 11 34 [.tmp 6] A.b11 (by kernel_rfl) rfl
def A.P4:=A.q Tryz.f134
def A.nZ:=A.ql A.P4 0 []
def A.b134:=(fun x0=>A.qb A.P4 [x0]) A.nZ
def A.k134:=@A.kk 134 16 [.tmp 2] A.b134 (by kernel_rfl) rfl
def qm(least:Int)(s:aQ):Int:=if bj s=0 then (if dL (kI s).num<least then 3 else 0) else ((bj s:Nat):Int)
def rf(l:List aQ)(n:Nat)(least:Int):Int:=if l.length=n then bn (l.map (qm least)) else 2
def Yt2{h:T O}{N:Nat}{v:V}{l:List aQ}{n:Nat}{z:Int}(hs:Sl h N v (strs l))(hl:l.length<100000)(vg:∀s∈l,s.length<=100000):Fn A.C 11 [v,.int .i64 n,.int .i64 z] h N (fun u _ _=>u=.int .i64 (rf l n z)):=by
 intro w
 have hlen:=hs.len
 rw[tn]at hlen
 rw[aM,A.k11 (by simp)]
 by_cases c:l.length=n
 ·have e1:rf l n z=bn (l.map (qm z)):=by simp[rf,c]
  rw[e1]
  subst c
  simp[A.b11,hlen]
  refine bA [(6,8),(13,33)] (fun e r st=>ar N st.w=[]/\ab h N st.h st.n/\((e=.exit 0/\bn (l.map (qm z))=0)\/(e=.ret/\r.get 6=some (.int .i64 (bn (l.map (qm z))))))) (fun m r st=>ar N st.w=[]/\ab h N st.h st.n/\∃k,k+m=l.length/\r.get 7=some (.int .i64 k)/\bn (l.map (qm z))=bn ((l.drop k).map (qm z))) l.length ?_ ?_ ?_
  ·exact⟨by simp,ab.refl,0,by omega,by simp,by simp⟩
  ·rintro m r ⟨H,n1,W⟩ hr hf ⟨hW,hK,k,hk,h7,hz⟩
   simp only at hW hK
   rw[bb]
   cases m with
   |zero=>
    obtain rfl:k=l.length:=by omega
    rw[mK,vR,bn]at hz
    simp[A.xg,hr,hf,h7,hlen,hz,hW,hK]
   |succ m=>
    have au:k<l.length:=by omega
    obtain⟨s,hc⟩:=a_ au
    have Dr:=B8 hc
    obtain⟨i,o,cc,e,rw,q1,q2,q3,q4⟩:=(hs.ad hK).at Dr
    rw[f_ hc,mU,bn]at hz
    have bG:(k:Int)<(l.length:Int):=by omega
    simp[A.xg,hr,h7,bG,hlen,q1,q3,q4]
    refine ay (Ztg (vg s (bM hc))) ?_
    rintro _ h3 n3 k3 rfl
    have kk:=hK.trans k3
    by_cases h0:bj s=0
    ·obtain⟨t1,_⟩:=Lk h0
     obtain⟨i',o',cc',e',mP,p1,p2,p3,p4⟩:=(hs.ad kk).at Dr
     rw[<-t1]at p4
     have fZ:((bj s:Nat):Int)=0:=by omega
     by_cases h2:dL (kI s).num<z
     ·have e2:qm z s=3:=by simp[qm,h0,h2]
      rw[e2,ak (by decide)]at hz
      simp[hr,hf,h7,h0,hW,bG,hlen,p1,p3,p4,Ta,h2,hz]
      exact kk
     ·have e2:qm z s=0:=by simp[qm,h0,h2]
      rw[e2,ax rfl]at hz
      simp(disch:=first|(simp;done)|omega|rfl) [hr,hf,h7,h0,hW,hlen,p1,p3,p4,Ta,h2]
      exact⟨m,by omega,kk,k+1,by omega,by simp,by simpa using hz⟩
    ·have e2:qm z s=((bj s:Nat):Int):=by simp[qm,h0]
     have fZ:¬((bj s:Nat):Int)=0:=by omega
     rw[e2,ak fZ]at hz
     simp[hf,h0,hW,hz]
     exact kk
  ·rintro _ r ⟨H,n1,W⟩ hr ⟨hW,hK,⟨rfl,hz⟩|⟨rfl,h2⟩⟩
   ·simp only at hW hK
    simp[hz,az,hW,hK]
   ·simp only at hW hK
    simp[h2,az,hW,hK]
 ·have c':¬(l.length:Int)=(n:Int):=by omega
  simp[A.b11,hlen,c',rf,c,az]
  exact ab.refl
def pS(l:List Rat):Bool:=l.any By
def Ypn{h:T O}{N:Nat}{v:V}{l:List Rat}{w:List Nat}(hs:Tx h N v l)(hl:l.length<100000)(vg:∀q∈l,(aP q).length<1000000000):A.C.call (.func 134 [] []) [v] ⟨h,N,w⟩=some (.int .i64 (if pS l=true then 4 else 0),⟨h,N,w⟩):=by
 apply Call.eq
 have hlen:=hs.len
 rw[aM,A.k134 (by simp)]
 simp[A.b134]
 refine bA [(2,15)] (fun e r st=>st=⟨h,N,[]⟩/\((e=.exit 0/\pS l=false)\/(e=.ret/\pS l=true/\r.get 2=some (.int .i64 4)))) (fun m r st=>st=⟨h,N,[]⟩/\∃k,k+m=l.length/\r.get 3=some (.int .i64 k)/\pS l=pS (l.drop k)) l.length ?_ ?_ ?_
 ·exact⟨rfl,0,by omega,by simp,by simp⟩
 ·rintro m r _ hr hf ⟨rfl,k,hk,h7,hz⟩
  rw[bb]
  cases m with
  |zero=>
   obtain rfl:k=l.length:=by omega
   rw[mK]at hz
   simp[pS]at hz
   simp[A.nZ,hr,hf,h7,hlen]
   simpa[pS]using hz
  |succ m=>
   have au:k<l.length:=by omega
   obtain⟨q,hc⟩:=a_ au
   obtain⟨i,o,cc,e,rw,q1,q2,q3,q4⟩:=Sl.at hs (xw hc)
   rw[f_ hc]at hz
   have bG:(k:Int)<(l.length:Int):=by omega
   have Tp:=fun st=>Yfb (st:=st) (vg q (bM hc))
   by_cases h0:By q=true
   ·have e1:pS l=true:=by rw[hz];simp[pS,h0]
    rw[ax h0]at Tp
    simp[A.nZ,hr,hf,h7,bG,au,hlen,q1,q2,q3,q4,Tp,aJ,e1]
   ·have e1:pS l=pS (l.drop (k+1)):=by rw[hz];simp[pS,h0]
    rw[ak h0]at Tp
    simp(disch:=first|(simp;done)|omega|rfl) [A.nZ,hr,hf,h7,bG,au,hlen,q1,q2,q3,q4,Tp,aJ]
    exact⟨m,by omega,k+1,by omega,by simp,e1⟩
 ·rintro _ r _ hr ⟨rfl,⟨rfl,hz⟩|⟨rfl,hz,h2⟩⟩
  ·simp[hr,hz]
  ·simp[hr,h2,hz]
variable {N:Nat} {h:T O} {v:V}
def A.w92:=A.q Tryz.f92
def A.xh:=A.ql A.w92 0 []
def A.b92:=(fun x0=>A.qb A.w92 [x0]) A.xh
def A.k92:=@A.kk 92 21 [.tmp 4] A.b92 (by kernel_rfl) rfl
def A.b62:=A.q Tryz.f62
def A.k62:=@A.kk 62 11 [.tmp 4] A.b62 (by kernel_rfl) rfl
def A.w44:=A.q Tryz.f44
def A.xj:=A.ql A.w44 0 []
def A.b44:=(fun x0=>A.qb A.w44 [x0]) A.xj
def A.k44:=@A.kk 44 21 [.tmp 4] A.b44 (by kernel_rfl) rfl
def A.b77:=A.q Tryz.f77
def A.k77:=@A.kk 77 4 [.tmp 2] A.b77 (by kernel_rfl) rfl
def A.b151:=A.q Tryz.f151
def A.k151:=@A.kk 151 16 [.tmp 3] A.b151 (by kernel_rfl) rfl
def Yf4{f:V}{l:List aQ}(P:aQ->Int)(hs:Sl h N v (strs l))(hl:l.length<100000)(hf:∀s∈l,∀h' n',ab h N h' n'->mw A.C f [.str s] h' n' (fun u _ _=>u=.int .i64 (P s))):Fn A.C 92 [v,f] h N (fun u _ _=>u=.int .i64 (bn (l.map P))):=by
 intro w
 have hlen:=hs.len
 rw[tn]at hlen
 rw[aM,A.k92 (by simp)]
 simp[A.b92,hlen]
 refine bA [(4,4),(6,7),(10,20)] (fun e r st=>ar N st.w=[]/\ab h N st.h st.n/\((e=.exit 0/\bn (l.map P)=0)\/(e=.ret/\r.get 4=some (.int .i64 (bn (l.map P)))))) (fun m r st=>ar N st.w=[]/\ab h N st.h st.n/\∃k,k+m=l.length/\r.get 10=some (.int .i64 k)/\bn (l.map P)=bn ((l.drop k).map P)) l.length ?_ ?_ ?_
 ·exact⟨by simp,ab.refl,0,by omega,by simp,by simp⟩
 ·rintro m r ⟨H,n1,W⟩ hr cG ⟨hW,hK,k,hk,h7,hz⟩
  simp only at hW hK
  rw[bb]
  cases m with
  |zero=>
   obtain rfl:k=l.length:=by omega
   rw[mK,vR,bn]at hz
   simp[A.xh,hr,cG,h7,hz,hW,hK]
  |succ m=>
   have au:k<l.length:=by omega
   obtain⟨s,hc⟩:=a_ au
   obtain⟨i,o,cc,e,rw,q1,q2,q3,q4⟩:=(hs.ad hK).at (B8 hc)
   rw[f_ hc,mU,bn]at hz
   have bG:(k:Int)<(l.length:Int):=by omega
   simp[A.xh,hr,cG,h7,bG,au,hlen,q1,q2,q3,q4]
   refine CG (hf s (bM hc) _ _ hK) ?_
   rintro _ h3 n3 k3 rfl
   have kk:=hK.trans k3
   by_cases h0:P s=0
   ·rw[ax h0]at hz
    simp(disch:=first|(simp;done)|omega|rfl) [hr,cG,h7,h0,hW,aJ]
    exact⟨m,by omega,kk,k+1,by omega,by simp,by simpa using hz⟩
   ·rw[ak h0]at hz
    simp[hr,cG,h7,h0,hW,aJ,hz]
    exact kk
 ·rintro _ r ⟨H,n1,W⟩ hr ⟨hW,hK,⟨rfl,hz⟩|⟨rfl,h2⟩⟩
  ·simp only at hW hK
   simp[hr,hz,az,hW,hK]
  ·simp only at hW hK
   simp[hr,h2,az,hW,hK]
def Ztj{l:List aQ}{n:Nat}(hs:Sl h N v (strs l))(hl:l.length<100000)(vg:∀s∈l,s.length<=100000):Fn A.C 62 [v,.int .i64 n] h N (fun u _ _=>u=.int .i64 (eR l n)):=by
 intro w
 have hlen:=hs.len
 rw[tn]at hlen
 rw[aM,A.k62 (by simp)]
 by_cases c:l.length=n
 ·subst c
  simp[A.b62,hlen,aJ]
  refine ay (Yf4 (fun s=>((bj s:Nat):Int)) hs hl fun s hs h' n' _=>Zy4 (vg s hs)) ?_
  rintro _ H2 n2 k2 rfl
  simp[az,eR]
  exact k2
 ·have c':¬(l.length:Int)=(n:Int):=by omega
  simp[A.b62,hlen,c',eR,c,az,aJ]
  exact ab.refl
def Yiy{l:List (List aQ)}{n:Nat}(hs:fC h N v l)(hl:l.length<100000)(hx:∀x∈l,x.length<100000/\∀s∈x,s.length<=100000):Fn A.C 44 [v,.int .i64 n] h N (fun u _ _=>u=.int .i64 (bn (l.map fun x=>eR x n))):=by
 intro w
 have hlen:=hs.len
 rw[aM,A.k44 (by simp)]
 simp[A.b44,hlen]
 refine bA [(4,4),(6,7),(10,20)] (fun e r st=>ar N st.w=[]/\ab h N st.h st.n/\((e=.exit 0/\bn (l.map (fun x=>eR x n))=0)\/(e=.ret/\r.get 4=some (.int .i64 (bn (l.map (fun x=>eR x n))))))) (fun m r st=>ar N st.w=[]/\ab h N st.h st.n/\∃k,k+m=l.length/\r.get 10=some (.int .i64 k)/\bn (l.map (fun x=>eR x n))=bn ((l.drop k).map (fun x=>eR x n))) l.length ?_ ?_ ?_
 ·exact⟨by simp,ab.refl,0,by omega,by simp,by simp⟩
 ·rintro m r ⟨H,n1,W⟩ hr cG ⟨hW,hK,k,hk,h7,hz⟩
  simp only at hW hK
  rw[bb]
  cases m with
  |zero=>
   obtain rfl:k=l.length:=by omega
   rw[mK,vR,bn]at hz
   simp[A.xj,hr,cG,h7,hz,hW,hK]
  |succ m=>
   have au:k<l.length:=by omega
   obtain⟨s,hc⟩:=a_ au
   obtain⟨i,o,cc,e,rw,u,q1,q2,q3,q4,q5⟩:=(hs.ad hK).at hc
   rw[f_ hc,mU,bn]at hz
   have bG:(k:Int)<(l.length:Int):=by omega
   simp[A.xj,hr,cG,h7,bG,au,hlen,q1,q2,q3,q4]
   refine ay (Ztj q5 (hx s (bM hc)).1 (hx s (bM hc)).2) ?_
   rintro _ h3 n3 k3 rfl
   have kk:=hK.trans k3
   by_cases h0:eR s n=0
   ·rw[ax h0]at hz
    simp(disch:=first|(simp;done)|omega|rfl) [hr,cG,h7,h0,hW,aJ]
    exact⟨m,by omega,kk,k+1,by omega,by simp,by simpa using hz⟩
   ·rw[ak h0]at hz
    simp[hr,cG,h7,h0,hW,aJ,hz]
    exact kk
 ·rintro _ r ⟨H,n1,W⟩ hr ⟨hW,hK,⟨rfl,hz⟩|⟨rfl,h2⟩⟩
  ·simp only at hW hK
   simp[hr,hz,az,hW,hK]
  ·simp only at hW hK
   simp[hr,h2,az,hW,hK]
def Zzs{q:Nat}{s:aQ}{z:Int}{e:TypeId}{rw:Bool}(hq:h.get q=some (.cells [.int .i64 z] e rw))(au:q<N)(hl:s.length<=100000):mw A.C (.func 151 [] [.ptr q 0]) [.str s] h N (fun u _ _=>u=.int .i64 (qm z s)):=by
 intro w
 rw[aM,A.k151 (by simp)]
 simp[A.b151]
 refine ay (Zy4 hl) ?_
 rintro _ h2 n2 k2 rfl
 by_cases h0:bj s=0
 ·have fZ:((bj s:Nat):Int)=0:=by omega
  obtain⟨t1,t2,t3⟩:=Lk h0
  have l1:(aL (kI s).num).length<=100000:=by
   have:(aL (kI s).num).length<=(aq (kI s).num.natAbs).length+1:=by unfold aL;split<;>simp
   omega
  have km:=(k2.get q au).trans hq
  have wu:=Yfs (q:=kI s) (h:=h2) (N:=n2) l1 (by omega)
  rw[t1]at wu
  simp[h0,fZ,aJ]
  refine ay wu ?_
  rintro x3 h3 n3 k3 hx
  have kl2:=k2.le
  have NP:=(k3.get q (by omega)).trans km
  simp[]
  refine ay (VM hx) ?_
  rintro _ h4 n4 k4 rfl
  have kl3:=k3.le
  have zo:=(k4.get q (by omega)).trans NP
  have kl4:=k4.le
  have d4:q<n4:=by omega
  by_cases h5:dL (kI s).num<z
  ·simp[zo,h5,N6,az,qm,h0]
   refine(HM (by simp[-ar,d4,Zsq,Zop])).2 ?_
   simp[az]
   exact(k2.trans k3).trans k4
  ·simp[zo,h5,N6,az,qm,h0]
   refine(HM (by simp[-ar,d4,Zsq,Zop])).2 ?_
   simp[az]
   exact(k2.trans k3).trans k4
 ·have fZ:¬((bj s:Nat):Int)=0:=by omega
  simp[h0,fZ,aJ,az,qm]
  exact k2
set_option maxHeartbeats 1000000
def A.b187:=A.q Tryz.f187
def A.k187:=@A.kk 187 10 [.cell 2 (some 2)] A.b187 (by kernel_rfl) rfl
def A.P5:=A.q Tryz.f135
def A.td:=A.ql A.P5 0 []
def A.b135:=(fun x0=>A.qb A.P5 [x0]) A.td
def A.k135:=@A.kk 135 47 [.tmp 4] A.b135 (by kernel_rfl) rfl
def Yh9{h:T O}{N:Nat}{v:V}{l:List (List aQ)}{l0:List aQ}(hs:fC h N v l)(h0:l[0]?=some l0):Fn A.C 187 [v] h N (fun u _ _=>u=.agg [.int .i64 l.length,.int .i64 l0.length]):=by
 intro w
 have hlen:=hs.len
 have mH:0<l.length:=jt h0
 have yx:0<(l.length:Int):=by omega
 obtain⟨i0,o0,cc0,e0,Ir,u0,z1,z2,z3,z4,z5⟩:=hs.at h0
 have z6:=z5.len
 rw[tn]at z6
 rw[iX]at z4
 have d1:¬i0=N:=by omega
 have d2:¬N=i0:=by omega
 rw[aM,A.k187 (by simp)]
 simp[A.b187,hlen,mH,z1,z3,z4,z6,d1,ae,bD,aR,aC,az]
 exact(ab.refl.new _).set (aO _)
def Yiz{h:T O}{N:Nat}{v:V}{l:List (List aQ)}{a b:Nat}(hs:fC h N v l)(hl:l.length<100000)(hx:∀x∈l,x.length<100000/\∀s∈x,s.length<=100000):Fn A.C 135 [v,.agg [.int .i64 a,.int .i64 b]] h N (fun u _ _=>u=.int .i64 (kJ l a b)):=by
 intro w
 have hlen:=hs.len
 rw[aM,A.k135 (by simp)]
 by_cases c0:l.length=0
 ·have c0':(l.length:Int)=0:=by omega
  simp[A.b135,hlen,c0,c0',kJ,az,aJ]
  exact ab.refl.new _
 have c0':¬(l.length:Int)=0:=by omega
 have mH:0<l.length:=by omega
 have yx:0<(l.length:Int):=by omega
 obtain⟨l0,eG⟩:=a_ mH
 obtain⟨i0,o0,cc0,e0,Ir,u0,z1,z2,z3,z4,z5⟩:=hs.at eG
 have z6:=z5.len
 rw[tn]at z6
 rw[iX]at z4
 obtain⟨n,hn⟩:∃n,n=l0.length:=⟨_,rfl⟩
 have en:fw l=n:=by simp[fw,eG,hn]
 rw[<-hn]at z6
 have xG:n<100000:=by have:=(hx l0 (bM eG)).1;omega
 have d1:¬i0=N:=by omega
 have d2:¬N=i0:=by omega
 by_cases c1:n=0
 ·have c1':(n:Int)=0:=by omega
  simp[A.b135,hlen,c0,c0',mH,yx,z1,z2,z3,z4,z6,d1,d2,c1,c1',kJ,en,az,aJ]
  exact ab.refl.new _
 have c1':¬(n:Int)=0:=by omega
 have e1:kJ l a b=if a<l.length\/b<n then 5 else bn (l.map fun x=>eR x n):=by simp[kJ,en,c0,c1]
 rw[e1]
 simp[A.b135,hlen,c0,c0',mH,yx,z1,z2,z3,z4,z6,d1,d2,c1,c1',aJ]
 generalize hH:h.set N (.cells [.int .i64 a,.int .i64 b] 155 true)=H
 have k1:ab h N H (N+1):=by rw[<-hH];exact ab.refl.new _
 have g1:H.get N=some (.cells [.int .i64 a,.int .i64 b] 155 true):=by rw[<-hH];simp
 clear hH
 refine ay (Yh9 (hs.ad k1) eG) ?_
 rintro _ H2 n2 k2 rfl
 rw[<-hn]
 have kl2:=k2.le
 have g2:=(k2.get N (by omega)).trans g1
 have d3:¬N=n2:=by omega
 have d4:¬n2=N:=by omega
 have kz:ab h N ((H2.set n2 (.cells [.int .i64 0,.int .i64 0] 155 true)).set n2 (.cells [.int .i64 l.length,.int .i64 n] 155 true)) (n2+1):=((k1.trans k2).new _).set (by omega)
 by_cases c2:a<l.length
 ·have c2':(a:Int)<(l.length:Int):=by omega
  simp[hlen,g2,d3,d4,ae,bD,aR,aC,c2,c2',az,aJ]
  exact⟨by omega,kz⟩
 have c2':¬(a:Int)<(l.length:Int):=by omega
 by_cases c3:b<n
 ·have c3':(b:Int)<(n:Int):=by omega
  simp[hlen,g2,d3,d4,ae,bD,aR,aC,c2,c2',c3,c3',az,aJ]
  exact⟨by omega,kz⟩
 have c3':¬(b:Int)<(n:Int):=by omega
 simp[hlen,g2,d3,d4,ae,bD,aR,aC,c2,c2',c3,c3',az,aJ]
 generalize hH3:(H2.set n2 (.cells [.int .i64 0,.int .i64 0] 155 true)).set n2 (.cells [.int .i64 l.length,.int .i64 n] 155 true)=H3 at*
 have g3:H3.get n2=some (.cells [.int .i64 l.length,.int .i64 n] 155 true):=by rw[<-hH3];simp
 clear hH3
 have kd:ab H3 (n2+1) H3 (n2+1):=ab.refl
 refine bA [(4,4),(7,8),(35,46)] (fun e r st=>ar N st.w=[]/\ab h N st.h st.n/\((e=.exit 0/\bn (l.map (fun x=>eR x n))=0)\/(e=.ret/\r.get 4=some (.int .i64 (bn (l.map (fun x=>eR x n))))))) (fun m r st=>ar N st.w=[]/\ab h N st.h st.n/\(n2<st.n/\st.h.get n2=H3.get n2)/\∃k,k+m=l.length/\r.get 35=some (.int .i64 k)/\bn (l.map (fun x=>eR x n))=bn ((l.drop k).map (fun x=>eR x n))) l.length ?_ ?_ ?_
 ·exact⟨by simp;omega,kz,⟨by simp,rfl⟩,0,by omega,by simp,by simp⟩
 ·rintro m r ⟨H,n1,W⟩ hr cG ⟨hW,hK,⟨cX,hG⟩,k,hk,h7,hz⟩
  simp only at hW hK cX hG
  rw[bb]
  cases m with
  |zero=>
   obtain rfl:k=l.length:=by omega
   rw[mK,vR,bn]at hz
   simp[A.td,hr,cG,h7,hz,hW,hK]
  |succ m=>
   have au:k<l.length:=by omega
   obtain⟨s,hc⟩:=a_ au
   obtain⟨i,o,cc,e,rw,u,q1,q2,q3,q4,q5⟩:=(hs.ad hK).at hc
   have g4:=hG.trans g3
   rw[f_ hc,mU,bn]at hz
   have bG:(k:Int)<(l.length:Int):=by omega
   simp[A.td,hr,cG,h7,bG,au,hlen,q1,q2,q3,q4,g4,cX]
   refine ay (Ztj q5 (hx s (bM hc)).1 (hx s (bM hc)).2) ?_
   rintro _ h3 n3 k3 rfl
   have kk:=hK.trans k3
   by_cases h0:eR s n=0
   ·rw[ax h0]at hz
    simp(disch:=first|(simp;done)|omega|rfl) [hr,cG,h7,h0,hW,aJ]
    exact⟨m,by omega,kk,⟨by have:=k3.le;omega,(k3.get n2 cX).trans hG⟩,k+1,by omega,by simp,by simpa using hz⟩
   ·rw[ak h0]at hz
    simp[hr,cG,h7,h0,hW,aJ,hz]
    exact kk
 ·rintro _ r ⟨H,n1,W⟩ hr ⟨hW,hK,⟨rfl,hz⟩|⟨rfl,h2⟩⟩
  ·simp only at hW hK
   simp[hr,hz,az,hW,hK]
  ·simp only at hW hK
   simp[hr,h2,az,hW,hK]
def A.w59:=A.q Tryz.f59
def A.xl:=A.ql A.w59 0 []
def A.b59:=(fun x0=>A.qb A.w59 [x0]) A.xl
def A.k59:=@A.kk 59 18 [.tmp 2] A.b59 (by kernel_rfl) rfl
def Ylf{h:T O}{N:Nat}{v:V}{fs:List V}{l:List Int}(hs:Sl h N v fs)(P6:fs.length=l.length)(hl:l.length<1000)(hf:∀(j:Nat) (f:V) (e:Int),fs[j]?=some f->l[j]?=some e->(∀(i:Nat) (x:Int),i<j->l[i]?=some x->x=0)->∀h' n',ab h N h' n'->mw A.C f [] h' n' (fun u _ _=>u=.int .i64 e)):Fn A.C 59 [v] h N (fun u _ _=>u=.int .i64 (bn l)):=by
 intro w
 have hlen:=hs.len
 rw[P6]at hlen
 rw[aM,A.k59 (by simp)]
 simp[A.b59,hlen]
 refine bA [(2,2),(4,5),(8,17)] (fun e r st=>ar N st.w=[]/\ab h N st.h st.n/\((e=.exit 0/\bn l=0)\/(e=.ret/\r.get 2=some (.int .i64 (bn l))))) (fun m r st=>ar N st.w=[]/\ab h N st.h st.n/\∃k,k+m=l.length/\r.get 8=some (.int .i64 k)/\bn l=bn (l.drop k)/\∀(i:Nat) (x:Int),i<k->l[i]?=some x->x=0) l.length ?_ ?_ ?_
 ·exact⟨by simp,ab.refl,0,by omega,by simp,by simp,fun i x hi=>by omega⟩
 ·rintro m r ⟨H,n1,W⟩ hr cG ⟨hW,hK,k,hk,h7,hz,LC⟩
  simp only at hW hK
  rw[bb]
  cases m with
  |zero=>
   obtain rfl:k=l.length:=by omega
   rw[mK,bn]at hz
   simp[A.xl,hr,cG,h7,hz,hW,hK]
  |succ m=>
   have au:k<l.length:=by omega
   obtain⟨s,hc⟩:=a_ au
   obtain⟨f,hfk⟩:=a_ (show k<fs.length by omega)
   obtain⟨i,o,cc,e,rw,q1,q2,q3,q4⟩:=(hs.ad hK).at hfk
   rw[f_ hc,bn]at hz
   have bG:(k:Int)<(l.length:Int):=by omega
   simp[A.xl,hr,cG,h7,bG,au,hlen,q1,q2,q3,q4]
   refine CG (hf k f s hfk hc LC _ _ hK) ?_
   rintro _ h3 n3 k3 rfl
   have kk:=hK.trans k3
   by_cases h0:s=0
   ·rw[ax h0]at hz
    simp(disch:=first|(simp;done)|omega|rfl) [hr,cG,h7,h0,hW,aJ]
    refine⟨m,by omega,kk,k+1,by omega,by simp,hz,fun i x hi hx=>?_⟩
    by_cases Mk:i<k
    ·exact LC i x Mk hx
    ·obtain rfl:i=k:=by omega
     rw[hc]at hx
     rw[<-h0]
     simpa using hx.symm
   ·rw[ak h0]at hz
    simp[hr,cG,h7,h0,hW,aJ,hz]
    exact kk
 ·rintro _ r ⟨H,n1,W⟩ hr ⟨hW,hK,⟨rfl,hz⟩|⟨rfl,h2⟩⟩
  ·simp only at hW hK
   simp[hr,hz,az,hW,hK]
  ·simp only at hW hK
   simp[hr,h2,az,hW,hK]
variable {N n n':Nat} {h h':T O} {l:List Rat} {u v:V}
set_option maxHeartbeats 2000000
def A.P7:=A.q Tryz.f116
def A.tf:=A.ql A.P7 0 []
def A.b116:=(fun x0=>A.qb A.P7 [x0]) A.tf
def A.k116:=@A.kk 116 22 [.tmp 4] A.b116 (by kernel_rfl) rfl
def Yjt{f:V}{l:List V}{Q:Nat->T O->Nat->V->Prop}(Y:V->Prop)(hQ:∀j h n h' n' c u,Q j h n c->dS (fun i=>i∈cQ u) h n h' n'->mM 72 Y h u->Q j h' n' c)(hs:Sl h N v l)(hl:l.length<1000000000)(hf:∀(j:Nat) (x:V),l[j]?=some x->∀h' n',ab h N h' n'->mw A.C f [x] h' n' (fun u h2 n2=>∃y,u=y/\[y].length=1/\[y].all V.one=true/\(∀q∈[y],Y q)/\Q j h2 n2 y)):Fn A.C 116 [v,f] h N (fun u h' n'=>∃out,Own 1 72 N h' n' u out/\out.length=l.length/\∀(j:Nat),j<l.length->∃y,out[j]?=some [y]/\Q j h' n' y):=by
 intro w
 have hlen:=hs.len
 rw[aM,A.k116 (by simp)]
 simp[A.b116,hlen]
 refine bA [(5,5),(7,7),(10,20)] (fun e r st=>e=.exit 0/\ar N st.w=[]/\ab h N st.h st.n/\∃u out,r.get 5=some u/\Own 1 72 N st.h st.n u out/\out.length=l.length/\∀(j:Nat),j<l.length->∃y,out[j]?=some [y]/\Q j st.h st.n y) (fun m r st=>ar N st.w=[]/\ab h N st.h st.n/\∃k u out,k+m=l.length/\r.get 10=some (.int .i64 k)/\r.get 5=some u/\Own 1 72 N st.h st.n u out/\out.length=k/\(out=[]->u=.aa)/\(∀c∈out,∀y∈c,Y y)/\∀(j:Nat),j<k->∃y,out[j]?=some [y]/\Q j st.h st.n y) l.length ?_ ?_ ?_
 ·exact⟨by simp,ab.refl,0,.aa,[],by omega,by simp,by simp,Own.nil,rfl,fun _=>rfl,by simp,fun j hj=>by omega⟩
 ·rintro m r ⟨H,n1,W⟩ hr cG ⟨hW,hK,k,u,out,hk,gT,h5,ho,gZ,vC,hY,dj⟩
  simp only at hW hK ho dj
  rw[bb]
  cases m with
  |zero=>
   have Af:k=l.length:=by omega
   subst Af
   simp[A.tf,hr,cG,gT,hW,hK]
   exact⟨u,h5,out,ho,gZ,dj⟩
  |succ m=>
   have au:k<l.length:=by omega
   obtain⟨x,hx⟩:=a_ au
   obtain⟨i,o,cc,e,rw,q1,q2,q3,q4⟩:=(hs.ad hK).at hx
   have bG:(k:Int)<(l.length:Int):=by omega
   have kA:=hK
   simp[A.tf,hr,cG,gT,h5,bG,au,hlen,q1,q3,q4]
   refine CG (hf k x hx _ _ kA) ?_
   rintro y h3 n3 k3 ⟨_,rfl,c1,c2,cY,c3⟩
   have je:=k3.le
   have kn:=hK.le
   have kB:=kA.trans k3
   have b1:V.one y=true:=by simpa using c2
   have b2:V.cells y=[y]:=by cases y<;>first|rfl|cases b1
   simp[-V.cells, -V.one,hr,cG,gT,h5,b1,b2,ae]
   have uP:Own 1 72 N (h3.set n3 (.cells [y] 72 true)) (n3+1) u out:=(ho.ad ((ab.refl).trans k3)).ad (ab.refl.new _)
   obtain⟨v',h',w',f1,f2,f3,f4,fD,f5⟩:=En (Y:=Y) (x:=[y]) (u:=.slice n3 0 1 (some 1) 1) (bytes:=24) (w:=W) uP vC hY (by omega) (by decide) c1 (by simp[ef,St.row,aC]) (by omega)
   rw[f1]
   have ix:¬n1<N:=by omega
   have f6:ar N w'=[]:=by rw[f2];simp[ar,hW,ix]
   have kz:=(kB.new (.cells [y] 72 true)).then f3
   have k4:ab h3 n3 (h3.set n3 (.cells [y] 72 true)) (n3+1):=ab.refl.new _
   have zo:Q k (h3.set n3 (.cells [y] 72 true)) (n3+1) y:=hQ _ _ _ _ _ _ .aa c3 k4.upd mM.nil
   simp(disch:=first|(simp;done)|omega|rfl) [hr,cG,gT,f6]
   refine⟨m,by omega,kz,k+1,by omega,by simp,out++[[y]],f5,by simp[gZ],by simp,fun c' hc z hz=>?_,fun j hj=>?_⟩
   ·rcases lI.1 hc with hc|hc
    ·exact hY c' hc z hz
    ·simp only[xC]at hc;subst hc;exact cY z hz
   by_cases tl:j<k
   ·obtain⟨y,g1,g2⟩:=dj j tl
    exact⟨y,by rw[iS (by omega)];exact g1,hQ _ _ _ _ _ _ _ (hQ _ _ _ _ _ _ .aa g2 (((ab.refl).trans k3).trans k4).upd mM.nil) f4 fD⟩
   ·obtain rfl:j=k:=by omega
    exact⟨y,by rw[lD (by omega),gZ];simp,hQ _ _ _ _ _ _ _ zo f4 fD⟩
 ·rintro _ r ⟨H,n1,W⟩ hr ⟨rfl,hW,hK,u,out,h5,ho,gZ,dj⟩
  simp only at hW hK ho dj
  simp[hr,h5,az,hW,hK]
  exact⟨out,ho,gZ,dj⟩
def A.w93:=A.q Tryz.f93
def A.xm:=A.ql A.w93 0 []
def A.b93:=(fun x0=>A.qb A.w93 [x0]) A.xm
def A.k93:=@A.kk 93 22 [.tmp 4] A.b93 (by kernel_rfl) rfl
def Yjw{f:V}{l:List V}{Q:Nat->T O->Nat->List V->Prop}(Y:V->Prop)(hQ:∀j h n h' n' c u,Q j h n c->dS (fun i=>i∈cQ u) h n h' n'->mM 108 Y h u->Q j h' n' c)(hs:Sl h N v l)(hl:l.length<1000000000)(hf:∀(j:Nat) (x:V),l[j]?=some x->∀h' n',ab h N h' n'->mw A.C f [x] h' n' (fun u h2 n2=>∃c,u=(.agg c)/\c.length=4/\c.all V.one=true/\(∀q∈c,Y q)/\Q j h2 n2 c)):Fn A.C 93 [v,f] h N (fun u h' n'=>∃out,Own 4 108 N h' n' u out/\out.length=l.length/\∀(j:Nat),j<l.length->∃c,out[j]?=some c/\Q j h' n' c):=by
 intro w
 have hlen:=hs.len
 rw[aM,A.k93 (by simp)]
 simp[A.b93,hlen]
 refine bA [(5,5),(7,7),(10,20)] (fun e r st=>e=.exit 0/\ar N st.w=[]/\ab h N st.h st.n/\∃u out,r.get 5=some u/\Own 4 108 N st.h st.n u out/\out.length=l.length/\∀(j:Nat),j<l.length->∃c,out[j]?=some c/\Q j st.h st.n c) (fun m r st=>ar N st.w=[]/\ab h N st.h st.n/\∃k u out,k+m=l.length/\r.get 10=some (.int .i64 k)/\r.get 5=some u/\Own 4 108 N st.h st.n u out/\out.length=k/\(out=[]->u=.aa)/\(∀c∈out,∀y∈c,Y y)/\∀(j:Nat),j<k->∃c,out[j]?=some c/\Q j st.h st.n c) l.length ?_ ?_ ?_
 ·exact⟨by simp,ab.refl,0,.aa,[],by omega,by simp,by simp,Own.nil,rfl,fun _=>rfl,by simp,fun j hj=>by omega⟩
 ·rintro m r ⟨H,n1,W⟩ hr cG ⟨hW,hK,k,u,out,hk,gT,h5,ho,gZ,vC,hY,dj⟩
  simp only at hW hK ho dj
  rw[bb]
  cases m with
  |zero=>
   have Af:k=l.length:=by omega
   subst Af
   simp[A.xm,hr,cG,gT,hW,hK]
   exact⟨u,h5,out,ho,gZ,dj⟩
  |succ m=>
   have au:k<l.length:=by omega
   obtain⟨x,hx⟩:=a_ au
   obtain⟨i,o,cc,e,rw,q1,q2,q3,q4⟩:=(hs.ad hK).at hx
   have bG:(k:Int)<(l.length:Int):=by omega
   have kA:=hK
   simp[A.xm,hr,cG,gT,h5,bG,au,hlen,q1,q3,q4]
   refine CG (hf k x hx _ _ kA) ?_
   rintro _ h3 n3 k3 ⟨c,rfl,c1,c2,cY,c3⟩
   have je:=k3.le
   have kn:=hK.le
   have kB:=kA.trans k3
   have b1:∀v:List V,(V.agg v).cells=v:=fun _=>rfl
   have b2:ae [(.int .i64 0),.aa,(.int .i64 0),.aa] 0 c=c:=by unfold ae;rw[c1];simp[c1]
   simp[-V.cells, -V.one,hr,cG,gT,h5,b1,b2,c1,c2]
   have uP:Own 4 108 N (h3.set n3 (.cells c 108 true)) (n3+1) u out:=(ho.ad ((ab.refl).trans k3)).ad (ab.refl.new _)
   obtain⟨v',h',w',f1,f2,f3,f4,fD,f5⟩:=En (Y:=Y) (x:=c) (u:=.slice n3 0 1 (some 1) 4) (bytes:=64) (w:=W) uP vC hY (by omega) (by decide) c1 (by simp only[ef,St.row,T.ag,if_true];unfold aC;simp[c1];exact fb (by omega)) (by omega)
   rw[f1]
   have ix:¬n1<N:=by omega
   have f6:ar N w'=[]:=by rw[f2];simp[ar,hW,ix]
   have kz:=(kB.new (.cells c 108 true)).then f3
   have k4:ab h3 n3 (h3.set n3 (.cells c 108 true)) (n3+1):=ab.refl.new _
   have zo:Q k (h3.set n3 (.cells c 108 true)) (n3+1) c:=hQ _ _ _ _ _ _ .aa c3 k4.upd mM.nil
   simp(disch:=first|(simp;done)|omega|rfl) [hr,cG,gT,f6]
   refine⟨m,by omega,kz,k+1,by omega,by simp,out++[c],f5,by simp[gZ],by simp,fun c' hc z hz=>?_,fun j hj=>?_⟩
   ·rcases lI.1 hc with hc|hc
    ·exact hY c' hc z hz
    ·simp only[xC]at hc;subst hc;exact cY z hz
   by_cases tl:j<k
   ·obtain⟨c,g1,g2⟩:=dj j tl
    exact⟨c,by rw[iS (by omega)];exact g1,hQ _ _ _ _ _ _ _ (hQ _ _ _ _ _ _ .aa g2 (((ab.refl).trans k3).trans k4).upd mM.nil) f4 fD⟩
   ·obtain rfl:j=k:=by omega
    exact⟨c,by rw[lD (by omega),gZ];simp,hQ _ _ _ _ _ _ _ zo f4 fD⟩
 ·rintro _ r ⟨H,n1,W⟩ hr ⟨rfl,hW,hK,u,out,h5,ho,gZ,dj⟩
  simp only at hW hK ho dj
  simp[hr,h5,az,hW,hK]
  exact⟨out,ho,gZ,dj⟩
def A.w85:=A.q Tryz.f85
def A.xn:=A.ql A.w85 0 []
def A.b85:=(fun x0=>A.qb A.w85 [x0]) A.xn
def A.k85:=@A.kk 85 26 [.cell 4 (some 4)] A.b85 (by kernel_rfl) rfl
def A.b148:=A.q Tryz.f148
def A.k148:=@A.kk 148 8 [.cell 4 (some 4)] A.b148 (by kernel_rfl) rfl
abbrev NW(y:V):Prop:=∀m,y≠.int .u64 m
def In.bO{x:V}{z:Int}{e:TypeId}(s:In h n x z)(k:dS (fun i=>i∈cQ v) h n h' n')(hd:mM e NW h v):In h' n' x z:=by
 rcases s with s|⟨i,o,l,c,s1,s2,s3⟩
 ·exact .inl s
 ·refine .inr ⟨i,o,l,c,s1,Sl.bO s2 k fun j hj hjv=>?_,s3⟩
  simp[cQ]at hj
  subst hj
  obtain⟨z2,g1,_,g3⟩:=hd j hjv
  unfold Wn at s2
  have aW:aG z.natAbs≠[]:=fun h0=>by
   have:=m7 z.natAbs
   rw[h0]at this
   simp[val]at this
   omega
  obtain⟨d,ds,qy⟩:=List.exists_cons_of_ne_nil aW
  have DZ:(dg (aG z.natAbs))[0]?=some (.int .u64 d):=by rw[qy];simp[dg]
  obtain⟨i2,o2,c2,e2,Jl,q1,q2,q3,q4⟩:=Sl.at s2 DZ
  simp[xA]at q1
  obtain⟨rfl,rfl⟩:=q1
  rw[g1]at q3
  simp only[an,O.cells.injEq]at q3
  obtain⟨rfl,_⟩:=q3
  exact g3 _ (bM q4) _ rfl
def fu.bO{c:List V}{q:Rat}{e:TypeId}(s:fu h n c q)(k:dS (fun i=>i∈cQ v) h n h' n')(hd:mM e NW h v):fu h' n' c q:=by
 obtain⟨n1,u1,n2,u2,rfl,s1,s2⟩:=s
 exact⟨n1,u1,n2,u2,rfl,s1.bO k hd,s2.bO k hd⟩
def Sn.Bu{z:Nat}{l:List (List V)}(s:Sn z h N v l):∀i∈cQ v,i<N:=fun i hi=>by
 rcases s with⟨_,rfl|rfl⟩|⟨j,o,cp,c,e,rw,rfl,hj,_⟩
 ·simp[cQ]at hi
 ·simp[cQ]at hi
 ·simp[cQ]at hi;omega
def Sn.bO{z:Nat}{D:Nat->Prop}{N':Nat}{l:List (List V)}(s:Sn z h N v l)(k:dS D h N h' N')(hd:∀i∈cQ v,¬D i):Sn z h' N' v l:=by
 rcases s with s|⟨i,o,cp,c,e,rw,rfl,h2,h3,h4⟩
 ·exact .inl s
 ·exact .inr ⟨i,o,cp,c,e,rw,rfl,e_ h2 k.le,(k.get i h2 (hd i (by simp[cQ]))).trans h3,h4⟩
def dT.ad{N':Nat}(s:dT h N u l)(k:ab h N h' N'):dT h' N' u l:=⟨s.1.ad k,fun i hi=>by
 obtain⟨cs,h1,_⟩:=s.1
 rw[k.get i (h1.Bu i hi)]
 exact s.2 i hi⟩
def dT.bO{e:TypeId}(s:dT h n u l)(k:dS (fun i=>i∈cQ v) h n h' n')(hd:mM e NW h v)(he:e≠108):dT h' n' u l:=by
 obtain⟨⟨cs,h1,h2,h3⟩,h4⟩:=s
 have hn:∀i∈cQ u,i∉cQ v:=fun i hi hc=>by
  obtain⟨z,w,hz⟩:=h4 i hi
  obtain⟨z2,eg,_⟩:=hd i hc
  rw[hz]at eg
  simp at eg
  exact he eg.2.1.symm
 refine⟨⟨cs,h1.bO k hn,h2,fun j q hq=>?_⟩,fun i hi=>by rw[k.get i (h1.Bu i hi) (hn i hi)];exact h4 i hi⟩
 obtain⟨c,g1,g2⟩:=h3 j q hq
 exact⟨c,g1,g2.bO k hd⟩
def VQ{N0:Nat}{out:List (List V)}(s:Own 4 108 N0 h N v out)(hl:out.length=l.length)(hc:∀(j:Nat),j<l.length->∃c,out[j]?=some c/\∀q,l[j]?=some q->fu h N c q):dT h N v l:=by
 refine⟨⟨out,s.sn,hl,fun j q hq=>?_⟩,fun i hi=>?_⟩
 ·obtain⟨c,g1,g2⟩:=hc j (jt hq)
  exact⟨c,g1,g2 q hq⟩
 ·obtain⟨_,⟨_,rfl⟩|⟨j,rfl,_,_,hg⟩⟩:=s
  ·simp[cQ]at hi
  ·simp[cQ]at hi;subst hi;exact⟨_,_,hg⟩
structure DtI (h:T O) (N p:Nat) (a b:List Rat) (m:Nat) (r:T V) (st:St):Prop where
 w:ar N st.w=[]
 ad:ab h N st.h st.n
 ex:∃(t:Nat) (c:List V),t+m=a.length/\r.get 10=some (.int .i64 t)/\p<st.n/\st.h.get N=some (.cells zF 108 true)/\st.h.get p=some (.cells c 108 true)/\fu st.h st.n c (jD a b t)
def Ytz{a b:List Rat}{j k:Nat}(hu:kf h N u a)(hv:kf h N v b)(ec:a.length<=b.length)(ha:∀q∈a,Qb j q)(hb:∀q∈b,Qb k q)(hj:1<=j)(hk:1<=k)(hl:a.length*(j+k+1)+j+k+1<=400000000):Fn A.C 85 [u,v] h N (fun x h' n'=>Fc h' n' x (lK a b)):=by
 intro w
 have l1:=hu.len
 have l2:=hv.len
 have hal:a.length<=400000000:=by have:=Nat.le_mul_of_pos_right a.length (show 0<j+k+1 by omega);omega
 rw[aM,A.k85 (by simp)]
 simp[A.b85]
 refine ay (Ytn (by omega) (by omega)) ?_
 rintro _ h1 n1 k1 hz
 obtain⟨c,rfl,hc⟩:=hz.c
 have kB:ab h N (h.set N (.cells zF 108 true)) (N+1):=ab.refl.new _
 have tL:=k1.le
 have g1:=k1.get N (by omega)
 rw[T.ag,ax rfl]at g1
 obtain⟨e1,e2⟩:=hc.len
 have ke:(V.agg c).cells=c:=rfl
 have e4:ae zF 0 c=c:=by unfold ae;rw[e1];simp[e1,zF]
 have Cq:tM zF:=by intro x hx m;simp[zF]at hx;rcases hx with rfl|rfl|rfl|rfl<;>simp
 unfold zF at e4
 simp[-V.cells, -V.one,ke,e1,e2,e4,bD,l1]
 generalize hH:(h1.set n1 (.cells [.int .i64 0,.aa,.int .i64 0,.aa] 108 true)).set n1 (.cells c 108 true)=H1
 have kA:ab h1 n1 H1 (n1+1):=by rw[<-hH];exact(ab.refl.new _).set (aO _)
 have kC:ab h N H1 (n1+1):=(kB.trans k1).trans kA
 have g2:H1.get n1=some (.cells c 108 true):=by rw[<-hH];simp
 have g3:=(kA.get N (by omega)).trans g1
 clear hH
 refine bA [(6,6),(10,24)] (fun e r st=>e=.exit 0/\DtI h N n1 a b 0 r st) (DtI h N n1 a b) a.length ?_ ?_ ?_
 ·exact⟨by simp;omega,kC,0,c,by omega,by simp,by show n1<n1+1;omega,g3,g2,by simpa[jD]using hc.ad kA⟩
 ·rintro m r ⟨H,n2,W⟩ hr hf ⟨hW,hK,t,c0,ht,gT,P8,tC,pV,vj⟩
  simp only at hW hK P8 tC pV vj
  rw[bb]
  cases m with
  |zero=>
   obtain rfl:t=a.length:=by omega
   simp[A.xn,hr,hf,gT]
   exact⟨hW,hK,a.length,c0,by omega,by simp[gT],P8,tC,pV,vj⟩
  |succ m=>
   have au:t<a.length:=by omega
   have aS:(t:Int)<(a.length:Int):=by omega
   have jw:t<b.length:=by omega
   have Br:(t:Int)<(b.length:Int):=by omega
   obtain⟨x,hx⟩:=a_ au
   obtain⟨y,hy⟩:=a_ jw
   have uL:=ha x (bM hx)
   have iU:=hb y (bM hy)
   have zR:=Tn ha hb hj hk t
   have pj:=uL.mul iU
   have hmul:t*(j+k+1)<=a.length*(j+k+1):=ki _ (by omega)
   have ee:jD a b (t+1)=jD a b t+x*y:=by simp[jD,hx,hy]
   obtain⟨i,o,cc,e,rw,ca,q1,q2,q3,q4,q5⟩:=(hu.ad hK).at hx
   obtain⟨i',o',cc',e',mP,cb,p1,p2,p3,p4,p5⟩:=(hv.ad hK).at hy
   have s0:aC c0 0 4=some c0:=by unfold aC;rw[vj.len.1];simp;exact fb (by rw[vj.len.1];omega)
   simp[A.xn,hr,hf,gT,l1,l2,au,aS,jw,Br,pV,s0,q1,q2,q3,q4,p1,p2,p3,p4]
   have w1:=ve uL.1
   have w2:=ve (z:=(x.den:Int)) (k:=j) (by rw[dH];exact uL.2)
   have w3:=ve iU.1
   have w4:=ve (z:=(y.den:Int)) (k:=k) (by rw[dH];exact iU.2)
   have w5:=ve zR.1
   have w6:=ve (z:=((jD a b t).den:Int)) (by rw[dH];exact zR.2)
   have w7:=ve pj.1
   have w8:=ve (z:=((x*y).den:Int)) (by rw[dH];exact pj.2)
   refine ay (Qr q5.fc p5.fc (by omega) (by omega) (by omega) (by omega)) ?_
   rintro x3 h3 n3 k3 hm3
   simp[]
   refine ay (Yfx (vj.ad k3).fc hm3 (by omega) (by omega) (by omega) (by omega)) ?_
   rintro _ h4' n4 k4 S6
   rw[<-ee]at S6
   obtain⟨c4,rfl,hc4⟩:=S6.c
   have BA:=k3.le
   have Lx:=k4.le
   have gp4:=(k4.get n1 (by omega)).trans ((k3.get n1 (by omega)).trans pV)
   have g04:=(k4.get N (by omega)).trans ((k3.get N (by omega)).trans tC)
   obtain⟨f1,f2⟩:=hc4.len
   have f3:=vj.len.1
   have zau:(V.agg c4).cells=c4:=rfl
   have e5:ae c0 0 c4=c4:=by unfold ae;rw[f1];simp[f3]
   simp[-V.cells, -V.one,hr,hf,gT,zau,f1,f2,f3,e5,gp4,bD]
   have d2:n1<n4:=by omega
   have d3:¬N=n1:=by omega
   have d4:¬n1<N:=by omega
   refine(HM (by simp[-ar,P8,d2,Zsq,Zop])).2 ?_
   simp(disch:=first|(simp;done)|omega|rfl) [hr,hf,gT,au,aS,d2]
   exact⟨m,by omega,by simp[ar,hW,d4],((hK.trans k3).trans k4).set (by omega),t+1,c4,by omega,by simp,d2,by show T.get _ N=_;rw[T.ag,ak d3];exact g04,by show T.get _ n1=_;rw[T.ag,ax rfl],hc4.aH gp4 vj.Ls (by rw[f1,f3])⟩
 ·rintro _ r ⟨H,n2,W⟩ hr ⟨rfl,hW,hK,t,c0,ht,gT,P8,tC,pV,vj⟩
  simp only at hW hK P8 tC pV vj
  obtain rfl:t=a.length:=by omega
  have s0:aC c0 0 4=some c0:=by unfold aC;rw[vj.len.1];simp;exact fb (by rw[vj.len.1];omega)
  have zav:(V.agg c0).cells=c0:=rfl
  have e5:ae zF 0 c0=c0:=by unfold ae;rw[vj.len.1];simp[vj.len.1,zF]
  have f1:=vj.len.1
  have f2:=vj.len.2
  unfold zF at e5 tC
  simp[-V.cells, -V.one,hr,pV,tC,s0,bD,zav,f1,f2,e5,az]
  exact⟨hW,hK.set (aO N),(vj.aH tC Cq (by rw[f1];rfl)).fc⟩
end
end Go.Mx
