/-lensletref01-/
import Derived.Test.YtgnadghjglamaaaGreatDoorMxQ2
set_option linter.all false
namespace Go.Mx
noncomputable section
open Go Go.Proofs
variable {n:Nat}
set_option maxRecDepth 1000000
def A.Rh:=A.q Tryz.f112
def A.oQ:=A.ql A.Rh 0 []
def A.b112:=(fun x0=>A.qb A.Rh [x0]) A.oQ
def A.k112:=@A.kk 112 25 [.tmp 4] A.b112 (by kernel_rfl) rfl
def A.Ri:=A.q Tryz.f151
def A.rK:=A.ql A.Ri 0 []
def A.b151:=(fun x0=>A.qb A.Ri [x0]) A.rK
def A.k151:=@A.kk 151 39 [.tmp 2] A.b151 (by kernel_rfl) rfl
def Yc0:iJ 0 0=[]:=by simp[iJ,tu]
def Yc1{m:Nat}(h:n≠0\/0<m):iJ n m=iJ (n/10) (m-1)++[dh n]:=by
 unfold iJ
 by_cases hn:n=0
 ·subst hn
  have hm:0<m:=by omega
  simp only[tu,Nat.zero_div,List.length_nil,Nat.sub_zero,AD]
  obtain⟨k,rfl⟩:∃k,m=k+1:=⟨m-1,by omega⟩
  have:dh 0=48:=by decide
  rw[this,List.replicate_succ',Nat.add_sub_cancel]
 ·rw[wZ hn]
  have:m-(dq (n/10)++[dh n]).length=m-1-(dq (n/10)).length:=by simp;omega
  rw[this,sQ]
def Yk1{k:Nat}(hk:k<10):(Yph.take (k+1)).drop k=[dh k]:=by
 have:k=0\/k=1\/k=2\/k=3\/k=4\/k=5\/k=6\/k=7\/k=8\/k=9:=by omega
 rcases this with rfl|rfl|rfl|rfl|rfl|rfl|rfl|rfl|rfl|rfl<;>decide
def Yk4(n:Nat):dh (n%10)=dh n:=by unfold dh;rw[Nat.mod_mod]
def ML{m:Nat}{st:St}(hn:n<9223372036854775808)(hm:m<1000):A.C.call (.func 112 [] []) [.int .i64 n,.int .i64 m] st=some (.str (iJ n m),st):=by
 apply Call.eq
 rw[aV,A.k112 (by simp)]
 simp(disch:=first|(simp;done)|omega|rfl) [-getElem?_pos,A.b112]
 have hlen:(iJ n m).length<2000:=by
  have:(dq n).length<=19:=pn.1 (by omega)
  unfold iJ
  simp;omega
 refine c_ [(0,0),(5,23)] (fun e r s1=>s1=⟨st.h,st.n,[]⟩/\e=.exit 0/\r.get 5=some (.str (iJ n m))) (fun q r s1=>s1=⟨st.h,st.n,[]⟩/\∃k s,q=k+(m-s.length)/\k<9223372036854775808/\r.get 0=some (.int .i64 k)/\r.get 5=some (.str s)/\iJ n m=iJ k (m-s.length)++s) (n+m) ?_ ?_ ?_
 ·exact⟨rfl,n,[],by simp,hn,by simp,by simp,by simp⟩
 ·rintro q r _ hr hf ⟨rfl,k,s,rfl,hk,h0,h5,hd⟩
  rw[dk]
  by_cases uO:k≠0\/0<m-s.length
  ·have fk:=Yc1 (n:=k) (m:=m-s.length) uO
   rw[fk,sQ,SL]at hd
   have cZ:s.length+1<2000:=by
    have:=congrArg List.length hd
    simp at this;omega
   have t1:(k:Int).tmod 10=((k%10:Nat):Int):=by rw[DH (by omega)];omega
   have t2:(k:Int).tdiv 10=((k/10:Nat):Int):=by rw[A2 (by omega)];omega
   have t3:bn .i64 ((k/10:Nat):Int)=((k/10:Nat):Int):=cL (by omega) (by omega)
   have t4:bn .i64 (((k%10:Nat):Int)+1)=((k%10+1:Nat):Int):=by rw[cL (by omega) (by omega)];omega
   have Rj:¬(9223372036854775807:Int)<1+(s.length:Int):=by omega
   have dP:IntKind.max .i64=9223372036854775807:=rfl
   have sl:∀st:St,Zcg st (some (.str [48,49,50,51,52,53,54,55,56,57])) (some (some (.int .i64 ((k:Int)%10)))) (some (some (.int .i64 ((k:Int)%10+1))))=some (.str [dh k],st):=fun st=>by
    rw[Zog (by omega) (by omega) (by simp;omega)]
    have e1:((k:Int)%10).toNat=k%10:=by omega
    have e2:((k:Int)%10+1).toNat=k%10+1:=by omega
    rw[e1,e2]
    have:=Yk1 (k:=k%10) (by omega)
    rw[Yk4]at this
    exact congrArg (fun x=>some (V.str x,st)) this
   have JA:0<k\/(¬0<k/\s.length<m):=by omega
   rcases JA with g1|⟨g1,g2⟩
   ·have i1:(0:Int)<(k:Int):=by omega
    simp(disch:=first|(simp;done)|omega|rfl) [-getElem?_pos,A.oQ,hr,hf,h0,h5,g1,i1,t1,t2,t3,t4,iX,dP,sl,Rj]
    exact⟨k/10+(m-(s.length+1)),by omega,k/10,dh k::s,by simp,by omega,by simp,by simp,by rw[hd,ak,Nat.sub_sub]⟩
   ·have i1:¬(0:Int)<(k:Int):=by omega
    have i2:(s.length:Int)<(m:Int):=by omega
    simp(disch:=first|(simp;done)|omega|rfl) [-getElem?_pos,A.oQ,hr,hf,h0,h5,g1,g2,i1,i2,t1,t2,t3,t4,iX,dP,sl,Rj]
    exact⟨k/10+(m-(s.length+1)),by omega,k/10,dh k::s,by simp,by omega,by simp,by simp,by rw[hd,ak,Nat.sub_sub]⟩
  ·have g1:¬0<k:=by omega
   have g2:¬s.length<m:=by omega
   have i1:¬(0:Int)<(k:Int):=by omega
   have i2:¬(s.length:Int)<(m:Int):=by omega
   obtain rfl:k=0:=by omega
   rw[show m-s.length=0 by omega,Yc0,List.nil_append]at hd
   simp(disch:=first|(simp;done)|omega|rfl) [-getElem?_pos,A.oQ,hr,hf,h0,h5,g1,g2,i1,i2,hd]
 ·rintro _ r _ hr ⟨rfl,rfl,h5⟩
  simp(disch:=first|(simp;done)|omega|rfl) [-getElem?_pos,hr,h5]
def Re:(av n).length<=9*(ds n).length+1:=by
 have h1:n<10^(9*(ds n).length):=by
  have h2:=vz (gm n)
  rw[gI,Tp]at h2
  have h3:=Int.ofNat_lt.1 h2
  rw[Nat.pow_mul]
  exact h3
 have:=pn.1 h1
 unfold av
 split<;>simp<;>omega
def Zug{k:Nat}:(av (n/k)).length<=9*(ds n).length+1:=by
 have h1:=Re (n:=n/k)
 have h2:=ud (uZ n k)
 omega
def MK{h:T O}{N:Nat}{x:V}{z:Int}(hx:Rg h N x z)(hl:(ds z.natAbs).length<100000000000):Fn A.C 151 [x] h N (fun u _ _=>u=.str (aR z)):=by
 intro w
 obtain⟨u,rfl,hu⟩:=hx
 have o1:=Sl.form hu |>.one
 have o2:=Sl.form hu |>.cells
 unfold V.one at o1
 unfold V.cells at o2
 have kB:=((ae.refl (h:=h) (n:=N)).new (.cells [.bool (decide (z<0)),u] 92 true))
 have fD:Sl (h.set N (.cells [.bool (decide (z<0)),u] 92 true)) (N+1) u (dI (ds z.natAbs)):=Sl.ah hu kB
 have lu:=fD.len
 rw[g_]at lu
 rw[aV,A.k151 (by simp)]
 by_cases h0:z=0
 ·subst h0
  have e0:(ds (0:Int).natAbs).length=0:=by rw[show (0:Int).natAbs=0 from rfl,sC];rfl
  rw[e0]at lu
  have e1:aR 0=[48]:=by decide
  simp(disch:=first|(simp;done)|omega|rfl) [-getElem?_pos,A.b151,o1,o2,ag,lu,aL,aF,e1]
  exact kB
 obtain⟨n,hn⟩:∃n,z.natAbs=n:=⟨_,rfl⟩
 rw[hn]at lu fD hl
 have Uz:n≠0:=by omega
 have tv:(ds n).length≠0:=fun hc=>Uz (BG.1 (kJ hc))
 obtain⟨L,hL⟩:∃L,(ds n).length=L+1:=⟨(ds n).length-1,by omega⟩
 have xF:=fun (k:Nat)=>Zug (n:=n) (k:=k)
 rw[hL]at lu
 obtain⟨f,hF⟩:∃f:Nat->aU,∀m,f m=av (n/1000000000^m):=⟨_,fun _=>rfl⟩
 obtain⟨g,hG⟩:∃g:Nat->Nat,∀m,g m=n/1000000000^m%1000000000:=⟨_,fun _=>rfl⟩
 have qA:f 0=av n:=by rw[hF];simp
 have w_:∀m,g m<1000000000:=fun m=>by rw[hG];exact kW _ (by omega)
 have hg:∀m,m<L+1->(ds n)[m]?=some (g m):=fun m hm=>by rw[hG];exact Tn (by omega)
 have UA:f L=iJ (g L) 1:=by rw[hF,hG];exact Ygn hL.symm
 have yc:∀m,m<L->f m=f (m+1)++iJ (g m) 9:=fun m hm=>by rw[hF,hF,hG];exact Yc2 (by omega)
 have pX:∀m,(f m).length<=9*(L+1)+1:=fun m=>by rw[hF,<-hL];exact xF _
 clear hF hG xF
 obtain⟨i,o,c,e,rw,q1,q2,q3,q4⟩:=fD.at (gQ (hg L (by omega)))
 have c1:¬((L:Int)+1=0):=by omega
 have c2:((L:Int)+1-1)=(L:Int):=by omega
 have c3:(L:Int)<(L:Int)+1:=by omega
 have c4:((L:Int)+1-2)=(L:Int)-1:=by omega
 have c5:bn .i64 ((L:Int)+1-1)=(L:Int):=by rw[c2];exact cL (by omega) (by omega)
 have c6:bn .i64 ((L:Int)+1-2)=(L:Int)-1:=by rw[c4];exact cL (by omega) (by omega)
 have Kq:∀m st,A.C.call (.func 112 [] []) [.int .i64 (g m),.int .i64 1] st=some (.str (iJ (g m) 1),st):=fun m st=>ML (n:=g m) (m:=1) (st:=st) (by have:=w_ m;omega) (by omega)
 have pG:∀m st,A.C.call (.func 112 [] []) [.int .i64 (g m),.int .i64 9] st=some (.str (iJ (g m) 9),st):=fun m st=>ML (n:=g m) (m:=9) (st:=st) (by have:=w_ m;omega) (by omega)
 simp(disch:=first|(simp;done)|omega|rfl) [-getElem?_pos,A.b151,o1,o2,ag,lu,aL,c1,c2,c3,c5,c6,q1,q3,q4,Kq]
 rw[<-UA]
 refine c_ [(3,4),(22,33)] (fun e r s1=>s1=⟨h.set N (.cells [.bool (decide (z<0)),u] 92 true),N+1,[]⟩/\e=.exit 0/\r.get 1=some (.ptr N 0)/\r.get 3=some (.str (av n))) (fun m r s1=>s1=⟨h.set N (.cells [.bool (decide (z<0)),u] 92 true),N+1,[]⟩/\m<=L/\r.get 1=some (.ptr N 0)/\r.get 4=some (.int .i64 ((m:Int)-1))/\r.get 3=some (.str (f m))) L ?_ ?_ ?_
 ·exact⟨rfl,by omega,by simp,by simp,by simp⟩
 ·rintro m r _ hr hf ⟨rfl,hm,h1,h4,h3⟩
  rw[dk]
  rcases m with _|m
  ·have e1:(((0:Nat):Int)-1<0):=by omega
   rw[qA]at h3
   simp(disch:=first|(simp;done)|omega|rfl) [-getElem?_pos,A.rK,hr,hf,h1,h3,h4,e1]
  ·have e3:(((m+1:Nat):Int)-1)=(m:Int):=by omega
   have e4:¬((m:Int)<0):=by omega
   rw[e3]at h4
   obtain⟨i,o,c,e,rw,q1,q2,q3,q4⟩:=fD.at (gQ (hg m (by omega)))
   have hp:(f m).length=(f (m+1)).length+(iJ (g m) 9).length:=by rw[yc m (by omega),jb]
   have ye:¬(9223372036854775807:Int)<((f (m+1)).length:Int)+((iJ (g m) 9).length:Int):=by have:=pX m;omega
   have dP:IntKind.max .i64=9223372036854775807:=rfl
   have w1:bn .i64 ((m:Int)-1)=(m:Int)-1:=cL (by omega) (by omega)
   have c7:(m:Int)<(L:Int)+1:=by omega
   have f1:=(yc m (by omega)).symm
   have f2:m<m+1/\m<=L:=by omega
   have KM:=pG m
   clear hp tv Uz hn hm hl hL yc pX pG Kq UA hg w_ qA
   simp(disch:=first|(simp;done)|omega|rfl) [-getElem?_pos,A.rK,hr,hf,h1,h3,h4,e4,o1,o2,ag,lu,c7,q1,q3,q4,KM,iX,dP,ye,w1,f1]
   exact⟨m,f2.1,f2.2,rfl,rfl⟩
 ·rintro _ r _ hr ⟨rfl,rfl,h1,h3⟩
  have oO:=Re (n:=n)
  have dP:IntKind.max .i64=9223372036854775807:=rfl
  have cZ:¬(9223372036854775807:Int)<1+((av n).length:Int):=by omega
  by_cases hz:z<0
  ·have e1:aR z=45::av n:=by unfold aR;rw[aQ hz,hn]
   clear oO tv Uz hn hL yc pX pG Kq UA hg w_ qA hl
   simp(disch:=first|(simp;done)|omega|rfl) [-getElem?_pos,hr,h1,h3,hz,o1,o2,ag,iX,dP,cZ,aF,e1]
   simpa[hz]using kB
  ·have e1:aR z=av n:=by unfold aR;rw[aA hz,hn]
   clear oO tv Uz hn hL yc pX pG Kq UA hg w_ qA hl
   simp(disch:=first|(simp;done)|omega|rfl) [-getElem?_pos,hr,h1,h3,hz,o1,o2,ag,aF,e1]
   simpa[hz]using kB
open Go
def Ym1{P d1 d2 d3 v1 v2 U' V' t r:Int}(hP:0<P)(JW:0<=U')(hU:U'<P)(wQ:0<=V')(hV:V'<P)(h1:0<=d1)(iW:d1<1000000000)(h2:0<=d2)(h3:0<=d3)(w1:500000000<=v1)(w2:0<=v2)(w2':v2<1000000000)
  (hW:U'+P*(d1+1000000000*(d3*1000000000+d2))<1000000000*(V'+P*(v2+1000000000*v1))) (ht:d3*1000000000+d2=t*v1+r) (kR:0<=r) (CU:r<v1):
  0<=t/\t<=1000000001/\U'+P*(d1+1000000000*(d3*1000000000+d2))<(t+1)*(V'+P*(v2+1000000000*v1)):=by
 generalize hT:d3*1000000000+d2=T at*
 have hT0:0<=T:=by omega
 have t0:0<=t:=by
  apply DM;intro hc
  have:t*v1<=(-1)*v1:=DG (by omega) (by omega)
  omega
 have a1:T<1000000000*(v1+1):=by
  apply LJ;intro hc
  have b1:P*(1000000000*(v1+1))<=P*T:=qR hc (by omega)
  have b2:0<=P*d1:=wC (by omega) h1
  have b3:P*v2<=P*999999999:=qR (by omega) (by omega)
  have b4:P*(d1+1000000000*T)=P*d1+1000000000*(P*T):=by grind
  have b5:P*(v2+1000000000*v1)=P*v2+1000000000*(P*v1):=by grind
  have b6:P*(1000000000*(v1+1))=1000000000*(P*v1)+1000000000*P:=by grind
  omega
 have a2:t<=1000000001:=by
  apply DM;intro hc
  have b1:1000000002*v1<=t*v1:=DG (by omega) (by omega)
  omega
 refine⟨t0,a2,?_⟩
 have c1:(t+1)*v1=t*v1+v1:=by grind
 have b1:P*(T+1)<=P*((t+1)*v1):=qR (by omega) (by omega)
 have b2:P*d1<=P*999999999:=qR (by omega) (by omega)
 have b3:0<=(t+1)*V':=wC (by omega) wQ
 have b4:0<=(t+1)*(P*v2):=wC (by omega) (wC (by omega) w2)
 have b5:P*(d1+1000000000*T)=P*d1+1000000000*(P*T):=by grind
 have b6:(t+1)*(V'+P*(v2+1000000000*v1))=(t+1)*V'+(t+1)*(P*v2)+1000000000*(P*((t+1)*v1)):=by grind
 have b7:P*(T+1)=P*T+P:=by grind
 omega
set_option maxHeartbeats 2000000
def A.Rk:=A.q Tryz.f206
def A.iR:=A.ql A.Rk 0 []
def A.b206:=(fun x0=>A.qb A.Rk [x0]) A.iR
def A.k206:=@A.kk 206 77 [.tmp 6] A.b206 (by kernel_rfl) rfl
structure GuR (W D v1 top:Int) (m:Nat) (r:T V):Prop where
 ex:∃t q:Int,t.toNat=m/\r.get 9=some (.int .i64 t)/\r.get 10=some (.int .i64 q)/\0<=t/\t<=1000000001/\0<=q/\q<1000000000/\top=t*v1+q/\W<(t+1)*D
def Yf5{h:T O}{N:Nat}{u v:V}{L Y:List Int}{j k:Nat}{d1 d2 d3 v1 v2 P U' V' W D:Int}{w:List Nat}(hu:Sl h N u (dI L))(hv:Sl h N v (dI Y))(hY:Y.length=k+2)(hL:L.length<1099511627776)(e1:L[j+k]?=some d1)(e2:L[j+k+1]?=some d2)(e3:L[j+k+2]?=some d3)(f2:Y[k]?=some v2)(f1:Y[k+1]?=some v1)
  (r1:0<=d1/\d1<1000000000) (r2:0<=d2/\d2<1000000000) (r3:0<=d3/\d3<1000000000) (r4:500000000<=v1/\v1<1000000000) (r5:0<=v2/\v2<1000000000) (hP:0<P) (JW:0<=U') (hU:U'<P) (wQ:0<=V') (hV:V'<P) (hW:W=U'+P*(d1+1000000000*(d3*1000000000+d2))) (hD:D=V'+P*(v2+1000000000*v1)) (hWD:W<1000000000*D):
  ∃t,A.C.call (.func 206 [] []) [u,v,.int .i64 j] ⟨h,N,w⟩=some (.int .i64 t,⟨h,N,w⟩)/\0<=t/\t<=1000000000/\(t-1)*D<=W/\W<(t+1)*D:=by
 have lu:=hu.len
 have lv:=hv.len
 rw[g_]at lu lv
 rw[hY]at lv
 have AL:=yS e3
 have goal:Call A.C (.func 206 [] []) [u,v,.int .i64 j] ⟨h,N,w⟩ (fun x s=>s=⟨h,N,w⟩/\∃t,x=.int .i64 t/\0<=t/\t<=1000000000/\(t-1)*D<=W/\W<(t+1)*D):=by
  obtain⟨a1,a2,a3,a4,a5,x1,x2,x3,x4⟩:=hu.at (gQ e1)
  obtain⟨a1',a2',Si,a4',a5',NI,La,AK,MM⟩:=hu.at (gQ e2)
  obtain⟨zfn,zfo,zfp,zfq,zfr,KN,zfs,KO,xR⟩:=hu.at (gQ e3)
  rw[x1]at NI KN
  simp only[au,bj]at NI KN
  obtain⟨rfl,rfl⟩:=NI
  obtain⟨rfl,rfl⟩:=KN
  rw[x3]at AK KO
  simp only[au,O.cells.injEq]at AK KO
  obtain⟨rfl,rfl,rfl⟩:=AK
  obtain⟨rfl,_,_⟩:=KO
  obtain⟨b1,b2,b3,b4,b5,y1,y2,y3,y4⟩:=hv.at (gQ f2)
  obtain⟨b1',b2',b3',b4',b5',NJ,y2',y3',MN⟩:=hv.at (gQ f1)
  rw[y1]at NJ
  simp only[au,bj]at NJ
  obtain⟨rfl,rfl⟩:=NJ
  rw[y3]at y3'
  simp only[au,O.cells.injEq]at y3'
  obtain⟨rfl,_,_⟩:=y3'
  have c1:((k:Int)+2-1)=(k:Int)+1:=by omega
  have c2:((j:Int)+((k:Int)+2)-1)=(j:Int)+(k:Int)+1:=by omega
  have c3:((j:Int)+((k:Int)+2)-2)=(j:Int)+(k:Int):=by omega
  have c4:((k:Int)+2-2)=(k:Int):=by omega
  have c5:((j:Int)+((k:Int)+2))=(j:Int)+(k:Int)+2:=by omega
  have i1:(j:Int)+(k:Int)+2<(L.length:Int):=by omega
  have i2:(j:Int)+(k:Int)+1<(L.length:Int):=by omega
  have i3:(j:Int)+(k:Int)<(L.length:Int):=by omega
  have i4:(0:Int)<=(j:Int)+(k:Int)+2:=by omega
  have i5:(0:Int)<=(j:Int)+(k:Int)+1:=by omega
  have i6:(0:Int)<=(j:Int)+(k:Int):=by omega
  have n1:((j:Int)+(k:Int)+2).toNat=j+k+2:=by omega
  have n2:((j:Int)+(k:Int)+1).toNat=j+k+1:=by omega
  have n3:((j:Int)+(k:Int)).toNat=j+k:=by omega
  have n4:((k:Int)+1).toNat=k+1:=by omega
  have k1:(k:Int)+1<(k:Int)+2:=by omega
  have k2:(k:Int)<(k:Int)+2:=by omega
  have k3:(0:Int)<=(k:Int)+1:=by omega
  have u1:bn .i64 (d3*1000000000)=d3*1000000000:=cL (by omega) (by omega)
  have u2:bn .i64 (d3*1000000000+d2)=d3*1000000000+d2:=cL (by omega) (by omega)
  have s0:0<=d3*1000000000+d2:=by omega
  have v0:¬v1=0:=by omega
  have t1:(d3*1000000000+d2).tdiv v1=(d3*1000000000+d2)/v1:=A2 s0
  have t2:(d3*1000000000+d2).tmod v1=(d3*1000000000+d2)%v1:=DH s0
  have t3:=DF (d3*1000000000+d2) v1
  have t4:=DK (d3*1000000000+d2) v0
  have t5:=DL (d3*1000000000+d2) (b:=v1) (by omega)
  have gi:=Ym1 (t:=(d3*1000000000+d2)/v1) (r:=(d3*1000000000+d2)%v1) hP JW hU wQ hV r1.1 r1.2 r2.1 r3.1 r4.1 r5.1 r5.2 (by rw[<-hW,<-hD];exact hWD) (by rw[Int.mul_comm (_/_) v1];exact t3.symm) t4 t5
  rw[<-hW,<-hD]at gi
  obtain⟨g1,g2,g3⟩:=gi
  have t6:bn .i64 ((d3*1000000000+d2)/v1)=(d3*1000000000+d2)/v1:=cL (by omega) (by omega)
  rw[aV,A.k206 (by simp)]
  simp(disch:=first|(simp;done)|omega|rfl) [-getElem?_pos,A.b206,lv,lu,c1,c2,c3,c4,c5,i1,i2,i3,i4,i5,i6,n1,n2,n3,n4,k1,k2,k3,x1,x2,x3,x4,MM,xR,y1,y2,y3,y4,MN,u1,u2,v0,t1,t2,t6]
  generalize Al:d3*1000000000+d2=D1 at*
  refine c_ [(6,6),(9,10),(42,75)] (fun e r st=>st=⟨h,N,[]⟩/\((e=.exit 0/\∃t,r.get 9=some (.int .i64 t)/\0<=t/\t<=1000000000/\(t-1)*D<=W/\W<(t+1)*D)\/(e=.ret/\∃t,r.get 6=some (.int .i64 t)/\0<=t/\t<=1000000000/\(t-1)*D<=W/\W<(t+1)*D))) (fun m r st=>st=⟨h,N,[]⟩/\GuR W D v1 D1 m r) (D1/v1).toNat ?_ ?_ ?_
  ·exact⟨rfl,⟨D1/v1,D1%v1,rfl,by simp,by simp,g1,g2,t4,by omega,by rw[Int.mul_comm (_/_) v1];exact t3.symm,g3⟩⟩
  ·rintro m r _ hr hf ⟨rfl,⟨t,q,rfl,h9,jw,UB,tq1,q0,q1,ka,aP⟩⟩
   rw[dk]
   by_cases hA:1000000000<=t
   ·have aP:W<t*D:=by
     have d0:0<=D:=by
      have:=wC (tX hP) (show 0<=v2+1000000000*v1 by omega)
      omega
     have:=DG hA d0
     omega
    have tp:1<=t:=by omega
    have lI:bn .i64 (q+v1)=q+v1:=cL (by omega) (by omega)
    have yz:bn .i64 (t-1)=t-1:=cL (by omega) (by omega)
    have e5:D1=t*v1+q:=ka
    have e6:(t-1)*v1+(q+v1)=t*v1+q:=by grind
    by_cases oV:1000000000<=q+v1
    ·simp(disch:=first|(simp;done)|omega|rfl) [-getElem?_pos,A.iR,hr,hf,h9,jw,lv,lu,c1,c2,c3,c4,c5,i1,i2,i3,i4,i5,i6,n1,n2,n3,n4,k1,k2,k3,x1,x2,x3,x4,MM,xR,y1,y2,y3,y4,MN,hA,lI,yz,oV]
     refine⟨by omega,by omega,?_,aP⟩
     have m1:(t-1)*v2<=1000000000*v2:=DG (by omega) r5.1
     have:=Zt3 (t:=t-1) (r:=q+v1) (v1:=v1) (u1:=D1) hP JW r1.1 s0 (by omega) r5.1 wQ hV (by omega) (by omega) (by rw[e6];exact ka) (by omega)
     rw[hW,hD]
     exact this
    ·simp(disch:=first|(simp;done)|omega|rfl) [-getElem?_pos,A.iR,hr,hf,h9,jw,lv,lu,c1,c2,c3,c4,c5,i1,i2,i3,i4,i5,i6,n1,n2,n3,n4,k1,k2,k3,x1,x2,x3,x4,MM,xR,y1,y2,y3,y4,MN,hA,lI,yz,oV]
     exact⟨(t-1).toNat,by omega,⟨t-1,q+v1,rfl,by simp,by simp,by omega,by omega,by omega,by omega,by rw[e6];exact ka,by rw[show t-1+1=t by omega];exact aP⟩⟩
   ·have hA':¬1000000000<=t:=hA
    have m0:0<=t*v2:=wC UB r5.1
    have m1:t*v2<=1000000000*1000000000:=Int.mul_le_mul (by omega) (by omega) r5.1 (by omega)
    have b1':bn .i64 (t*v2)=t*v2:=cL (by omega) (by omega)
    have b2':bn .i64 (q*1000000000)=q*1000000000:=cL (by omega) (by omega)
    have b3':bn .i64 (q*1000000000+d1)=q*1000000000+d1:=cL (by omega) (by omega)
    by_cases hB:q*1000000000+d1<t*v2
    ·have aP:W<t*D:=by
      have:=Ykh (t:=t) (r:=q) (v1:=v1) (u1:=D1) hP hU wQ UB ka hB
      rw[hW,hD];exact this
     have tz:t≠0:=fun hc=>by rw[hc]at hB;simp at hB;omega
     have tp:1<=t:=by omega
     have lI:bn .i64 (q+v1)=q+v1:=cL (by omega) (by omega)
     have yz:bn .i64 (t-1)=t-1:=cL (by omega) (by omega)
     have e5:D1=t*v1+q:=ka
     have e6:(t-1)*v1+(q+v1)=t*v1+q:=by grind
     by_cases oV:1000000000<=q+v1
     ·simp(disch:=first|(simp;done)|omega|rfl) [-getElem?_pos,A.iR,hr,hf,h9,jw,lv,lu,c1,c2,c3,c4,c5,i1,i2,i3,i4,i5,i6,n1,n2,n3,n4,k1,k2,k3,x1,x2,x3,x4,MM,xR,y1,y2,y3,y4,MN,hA',b1',b2',b3',hB,lI,yz,oV]
      refine⟨by omega,by omega,?_,aP⟩
      have m1:(t-1)*v2<=1000000000*v2:=DG (by omega) r5.1
      have:=Zt3 (t:=t-1) (r:=q+v1) (v1:=v1) (u1:=D1) hP JW r1.1 s0 (by omega) r5.1 wQ hV (by omega) (by omega) (by rw[e6];exact ka) (by omega)
      rw[hW,hD]
      exact this
     ·simp(disch:=first|(simp;done)|omega|rfl) [-getElem?_pos,A.iR,hr,hf,h9,jw,lv,lu,c1,c2,c3,c4,c5,i1,i2,i3,i4,i5,i6,n1,n2,n3,n4,k1,k2,k3,x1,x2,x3,x4,MM,xR,y1,y2,y3,y4,MN,hA',b1',b2',b3',hB,lI,yz,oV]
      exact⟨(t-1).toNat,by omega,⟨t-1,q+v1,rfl,by simp,by simp,by omega,by omega,by omega,by omega,by rw[e6];exact ka,by rw[show t-1+1=t by omega];exact aP⟩⟩
    ·simp(disch:=first|(simp;done)|omega|rfl) [-getElem?_pos,A.iR,hr,hf,h9,jw,lv,lu,c1,c2,c3,c4,c5,i1,i2,i3,i4,i5,i6,n1,n2,n3,n4,k1,k2,k3,x1,x2,x3,x4,MM,xR,y1,y2,y3,y4,MN,hA',b1',b2',b3',hB]
     refine⟨UB,by omega,?_,aP⟩
     have:=Zt3 (t:=t) (r:=q) (u1:=D1) hP JW r1.1 s0 (by omega) r5.1 wQ hV UB (by omega) ka (by omega)
     rw[hW,hD];exact this
  ·rintro e r _ hr ⟨rfl,⟨rfl,t,h9,ht⟩|⟨rfl,t,h6,ht⟩⟩
   ·simp(disch:=first|(simp;done)|omega|rfl) [-getElem?_pos,hr,h9];exact ht
   ·simp(disch:=first|(simp;done)|omega|rfl) [-getElem?_pos,hr,h6];exact ht
 obtain⟨x,s,hc,rfl,t,rfl,h1,h2,h3,h4⟩:=goal.ex
 exact⟨t,hc,h1,h2,h3,h4⟩
def A.Av:=A.q Tryz.f150
def A.o_:=A.ql A.Av 3 []
def A.ke:=A.ql A.Av 2 []
def A.o9:=(fun x0 x1=>A.ql A.Av 1 [x0,x1]) A.ke A.o_
def A.fE:=A.ql A.Av 0 []
def A.b150:=(fun x0 x1=>A.qb A.Av [x0,x1]) A.fE A.o9
def A.k150:=@A.kk 150 206 [.tmp 4,.tmp 5] A.b150 (by kernel_rfl) rfl
structure DvS (N:Nat) (h2:T O) (n2 iu iq n:Nat) (U Q:List Int) (st:St):Prop where
 w:aD N st.w=[]
 ah:ae h2 n2 st.h n
 n:st.n=n
 ru:st.h.get iu=some (.cells (dI U) 3 true)
 rq:st.h.get iq=some (.cells (dI Q) 3 true)
structure DvR (r0:T V) (v:V) (iu lu L j:Nat):Prop where
 r9:r0.get 9=some v
 oS:r0.get 10=some (.int .i64 L)
 pE:r0.get 11=some (.slice iu 0 lu none 1)
 ue:r0.get 13=some (.int .i64 j)
structure QP (N:Nat) (h2:T O) (n2 iu iq n:Nat) (U Q Y:List Int) (L j:Nat) (t:Int) (m:Nat) (r:T V) (st:St):Prop where
 ex:∃i U' c,i+m=L/\r.get 16=some (.int .i64 i)/\r.get 15=some (.int .i64 c)/\0<=c/\c<=1000000000/\DvS N h2 n2 iu iq n U' Q st/\U'.length=U.length/\(∀s,(s<j\/j+i<=s)->U'[s]?=U[s]?)/\Di U'/\vI U'-pI (j+i)*c=vI U-pI j*(t*vI (Y.take i))
def Yel{N:Nat}{h2:T O}{n2 iu iq n:Nat}{U Q Y:List Int}{L j:Nat}{t:Int}{v:V}{r0:T V}(hv:Sl h2 n2 v (dI Y))(hY:Y.length=L)(dY:Di Y)(AP:j+L<U.length)(hul:U.length<1099511627776)(R:DvR r0 v iu U.length L j)(MA:r0.get 14=some (.int .i64 t))(t0:0<=t)(t1:t<=1000000000)(a1:N<=n2)(a2:n2<=iu)(a3:iu<iq)(a4:iq<n):
  ∀k r st,(∀t,jR [(15,18),(90,125)] t=false->r.get t=r0.get t)->Fx [(15,18),(90,125)] r0 206 ⟨r,206,[]⟩->QP N h2 n2 iu iq n U Q Y L j t k r st->Code A.C none A.ke ⟨r,206,[]⟩ st (Rd [(15,18),(90,125)] r0 206 (QP N h2 n2 iu iq n U Q Y L j t) k (fun e r st=>e=.exit 4/\QP N h2 n2 iu iq n U Q Y L j t 0 r st)):=by
 rintro m r ⟨H,n1,W⟩ hr hf ⟨i,U',c,hi,BR,xl,c0,c1,⟨hW,hK,hn,ru,rq⟩,lB,eQ,iY,iB⟩
 simp only at hW hK hn ru rq
 subst hn
 obtain⟨r9,oS,pE,ue⟩:=R
 rw[dk]
 cases m with
 |zero=>
  have:i=L:=by omega
  subst this
  simp(disch:=first|(simp;done)|omega|rfl) [-getElem?_pos,A.ke,hr,hf,BR,oS]
  exact⟨i,U',c,by omega,by simp[BR],by simp[xl],c0,c1,⟨hW,hK,rfl,ru,rq⟩,lB,eQ,iY,iB⟩
 |succ m=>
  obtain⟨y,hy⟩:=fz (l:=Y) (k:=i) (by omega)
  have lv:=hv.len
  rw[g_,hY]at lv
  obtain⟨b1,b2,b3,b4,b5,z1,z2,z3,z4⟩:=hv.at (gQ hy)
  have z3:=(hK.get _ z2).trans z3
  have MI:=dY.get hy
  obtain⟨o,ho⟩:=fz (l:=U') (k:=i+j) (by omega)
  have hod:=iY.get ho
  have wS:(i:Int)<(L:Int):=by omega
  have Bu:i<L:=by omega
  have p0:0<=t*y:=wC t0 MI.1
  have p1:t*y<=1000000000*999999999:=Int.mul_le_mul t1 (by omega) MI.1 (by omega)
  have q1:(i:Int)+(j:Int)<(U.length:Int):=by omega
  have q2:i+j<U.length:=by omega
  have q3:(0:Int)<=(i:Int)+(j:Int):=by omega
  have nn:¬iu<N:=by omega
  have w8:=g_ U'
  have hsu:=CI ho
  have OE:=yy hy
  have hp:=Ty i j
  have uG:=qD (j+i)
  generalize hP:t*y=P at*
  have b1':bn .i64 P=P:=cL (by omega) (by omega)
  have b2':bn .i64 (P+c)=P+c:=cL (by omega) (by omega)
  have UC:(P+c).tmod 1000000000=(P+c)%1000000000:=DH (by omega)
  have UD:(P+c).tdiv 1000000000=(P+c)/1000000000:=A2 (by omega)
  have hm:=DF (P+c) 1000000000
  have e0:=DK (P+c) (b:=1000000000) (by decide)
  have e1:=DL (P+c) (b:=1000000000) (by decide)
  have key:∀(x' c':Int),x'-1000000000*c'=o-(P+c)->vI (U'.set (i+j) x')-pI (j+(i+1))*c'=vI U-pI j*(t*vI (Y.take (i+1))):=by
   intro x' c' hx
   rw[hsu,OE,show j+(i+1)=j+i+1 by omega,uG,show i+j=j+i by omega]
   have h3:vI U'=vI U-pI j*(t*vI (Y.take i))+pI (j+i)*c:=by omega
   have h4:x'=o-(P+c)+1000000000*c':=by omega
   rw[h3,h4,show j+i=i+j by omega,hp,<-hP]
   grind
  have same:∀(x':Int) (s:Nat),(s<j\/j+(i+1)<=s)->(U'.set (i+j) x')[s]?=U[s]?:=by
   intro x' s hs
   rw[eR (by omega)]
   exact eQ s (by omega)
  generalize (P+c)/1000000000=D at*
  generalize (P+c)%1000000000=M at*
  have b3':bn .i64 D=D:=cL (by omega) (by omega)
  have b4':bn .i64 (o-M)=o-M:=cL (by omega) (by omega)
  have d4:b1<n1:=by have:=hK.le;omega
  have d5:¬iq=iu:=by omega
  by_cases eI:o-M<0
  ·have b5':bn .i64 (o-M+1000000000)=o-M+1000000000:=cL (by omega) (by omega)
   have b6':bn .i64 (D+1)=D+1:=cL (by omega) (by omega)
   have w7:=Br (l:=U') (k:=i+j) (v:=o-M+1000000000) (by omega)
   simp(disch:=first|(simp;done)|omega|rfl) [-getElem?_pos,A.ke,hr,hf,BR,xl,r9,oS,pE,ue,MA,wS,Bu,lv,q1,q2,q3,ru,gQ ho,z1,z2,z3,z4,hP,b1',b2',b3',b4',b5',b6',UC,UD,eI,w7]
   refine⟨m,by omega,⟨i+1,U'.set (i+j) (o-M+1000000000),D+1,by omega,by simp,by simp,by omega,by omega,⟨by simp[aD,hW,nn],hK.set (by omega),rfl,by simp,by simp[d5,rq]⟩,by simp[lB],same _,iY.set (by omega) (by omega),key _ _ (by omega)⟩⟩
  ·have w7:=Br (l:=U') (k:=i+j) (v:=o-M) (by omega)
   simp(disch:=first|(simp;done)|omega|rfl) [-getElem?_pos,A.ke,hr,hf,BR,xl,r9,oS,pE,ue,MA,wS,Bu,lv,q1,q2,q3,ru,gQ ho,z1,z2,z3,z4,hP,b1',b2',b3',b4',UC,UD,eI,w7]
   refine⟨m,by omega,⟨i+1,U'.set (i+j) (o-M),D,by omega,by simp,by simp,by omega,by omega,⟨by simp[aD,hW,nn],hK.set (by omega),rfl,by simp,by simp[d5,rq]⟩,by simp[lB],same _,iY.set (by omega) (by omega),key _ _ (by omega)⟩⟩
structure QR (N:Nat) (h2:T O) (n2 iu iq n:Nat) (U Q Y:List Int) (L j:Nat) (m:Nat) (r:T V) (st:St):Prop where
 ex:∃i U' c,i+m=L/\r.get 20=some (.int .i64 i)/\r.get 19=some (.int .i64 c)/\0<=c/\c<=1/\DvS N h2 n2 iu iq n U' Q st/\U'.length=U.length/\(∀s,(s<j\/j+i<=s)->U'[s]?=U[s]?)/\(∀(s:Nat) (d:Int),s≠j+L->U'[s]?=some d->0<=d/\d<1000000000)/\vI U'+pI (j+i)*c=vI U+pI j*vI (Y.take i)
def Yg6{N:Nat}{h2:T O}{n2 iu iq n:Nat}{U Q Y:List Int}{L j:Nat}{v:V}{r0:T V}(hv:Sl h2 n2 v (dI Y))(hY:Y.length=L)(dY:Di Y)(AP:j+L<U.length)(hul:U.length<1099511627776)(R:DvR r0 v iu U.length L j)(a1:N<=n2)(a2:n2<=iu)(a3:iu<iq)(a4:iq<n):
  ∀k r st,(∀t,jR [(19,21),(148,174)] t=false->r.get t=r0.get t)->Fx [(19,21),(148,174)] r0 206 ⟨r,206,[]⟩->QR N h2 n2 iu iq n U Q Y L j k r st->Code A.C none A.o_ ⟨r,206,[]⟩ st (Rd [(19,21),(148,174)] r0 206 (QR N h2 n2 iu iq n U Q Y L j) k (fun e r st=>e=.exit 6/\QR N h2 n2 iu iq n U Q Y L j 0 r st)):=by
 rintro m r ⟨H,n1,W⟩ hr hf ⟨i,U',c,hi,Uo,Up,c0,c1,⟨hW,hK,hn,ru,rq⟩,lB,eQ,iY,iB⟩
 simp only at hW hK hn ru rq
 subst hn
 obtain⟨r9,oS,pE,ue⟩:=R
 rw[dk]
 cases m with
 |zero=>
  have:i=L:=by omega
  subst this
  simp(disch:=first|(simp;done)|omega|rfl) [-getElem?_pos,A.o_,hr,hf,Uo,oS]
  exact⟨i,U',c,by omega,by simp[Uo],by simp[Up],c0,c1,⟨hW,hK,rfl,ru,rq⟩,lB,eQ,iY,iB⟩
 |succ m=>
  obtain⟨y,hy⟩:=fz (l:=Y) (k:=i) (by omega)
  have lv:=hv.len
  rw[g_,hY]at lv
  obtain⟨b1,b2,b3,b4,b5,z1,z2,z3,z4⟩:=hv.at (gQ hy)
  have z3:=(hK.get _ z2).trans z3
  have MI:=dY.get hy
  obtain⟨o,ho⟩:=fz (l:=U') (k:=i+j) (by omega)
  have hod:=iY _ _ (by omega) ho
  have wS:(i:Int)<(L:Int):=by omega
  have Bu:i<L:=by omega
  have q1:(i:Int)+(j:Int)<(U.length:Int):=by omega
  have q2:i+j<U.length:=by omega
  have q3:(0:Int)<=(i:Int)+(j:Int):=by omega
  have nn:¬iu<N:=by omega
  have w8:=g_ U'
  have hsu:=CI ho
  have OE:=yy hy
  have hp:=Ty i j
  have uG:=qD (j+i)
  have b1':bn .i64 (o+y)=o+y:=cL (by omega) (by omega)
  have b2':bn .i64 (o+y+c)=o+y+c:=cL (by omega) (by omega)
  have UC:(o+y+c).tmod 1000000000=(o+y+c)%1000000000:=DH (by omega)
  have UD:(o+y+c).tdiv 1000000000=(o+y+c)/1000000000:=A2 (by omega)
  have hm:=DF (o+y+c) 1000000000
  have e0:=DK (o+y+c) (b:=1000000000) (by decide)
  have e1:=DL (o+y+c) (b:=1000000000) (by decide)
  have w7:=Br (l:=U') (k:=i+j) (v:=(o+y+c)%1000000000) (by omega)
  have d4:b1<n1:=by have:=hK.le;omega
  have d5:¬iq=iu:=by omega
  have d6:iu<n1:=by omega
  have b3':bn .i64 ((o+y+c)/1000000000)=(o+y+c)/1000000000:=cL (by omega) (by omega)
  simp(disch:=first|(simp;done)|omega|rfl) [-getElem?_pos,A.o_,hr,hf,Uo,Up,r9,oS,pE,ue,wS,Bu,lv,q1,q2,q3,ru,gQ ho,z1,z2,z3,z4,b1',b2',b3',UC,UD,w7,d4,d6]
  generalize (o+y+c)/1000000000=D at*
  generalize (o+y+c)%1000000000=M at*
  refine⟨m,by omega,⟨i+1,U'.set (i+j) M,D,by omega,by simp,by simp,by omega,by omega,⟨by simp[aD,hW,nn],hK.set (by omega),rfl,by simp,by simp[d5,rq]⟩,by simp[lB],fun s hs=>?_,fun s d hs hd=>?_,?_⟩⟩
  ·rw[eR (by omega)]
   exact eQ s (by omega)
  ·by_cases hsi:s=i+j
   ·subst hsi
    rw[sI (by omega)]at hd
    simp at hd
    omega
   ·rw[eR (fun h=>hsi h.symm)]at hd
    exact iY s d hs hd
  ·rw[hsu,OE,show j+(i+1)=j+i+1 by omega,uG,show i+j=j+i by omega]
   have h3:vI U'=vI U+pI j*vI (Y.take i)-pI (j+i)*c:=by omega
   have h4:M=o+y+c-1000000000*D:=by omega
   rw[h3,h4,show j+i=i+j by omega,hp]
   grind
end
end Go.Mx
