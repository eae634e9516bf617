/-lensletref01-/
import Derived.Test.YtlbnjhhebffhdaaGreatDoorMxQ2
set_option linter.all false
namespace Go.Mx
noncomputable section
open Go Go.Proofs
variable {n:Nat}
set_option maxRecDepth 1000000
def A.Rf:=A.q Tryz.f102
def A.mM:=A.ql A.Rf 0 []
def A.b102:=(fun x0=>A.qb A.Rf [x0]) A.mM
def A.k102:=@A.kk 102 25 [.tmp 4] A.b102 (by kernel_rfl) rfl
def A.Rh:=A.q Tryz.f159
def A.rj:=A.ql A.Rh 0 []
def A.b159:=(fun x0=>A.qb A.Rh [x0]) A.rj
def A.k159:=@A.kk 159 39 [.tmp 2] A.b159 (by kernel_rfl) rfl
def Yfp:Zip 0 0=[]:=by simp[Zip,sO]
def Yfq{m:Nat}(h:n≠0\/0<m):Zip n m=Zip (n/10) (m-1)++[di n]:=by
 unfold Zip
 by_cases hn:n=0
 ·subst hn
  have hm:0<m:=by omega
  simp only[sO,Nat.zero_div,List.length_nil,Nat.sub_zero,AP]
  obtain⟨k,rfl⟩:∃k,m=k+1:=⟨m-1,by omega⟩
  have:di 0=48:=by decide
  rw[this,List.replicate_succ',Nat.add_sub_cancel]
 ·rw[wE hn]
  have:m-(dk (n/10)++[di n]).length=m-1-(dk (n/10)).length:=by simp;omega
  rw[this,rB]
def Yoi{k:Nat}(hk:k<10):(Ytg.take (k+1)).drop k=[di k]:=by
 have:k=0\/k=1\/k=2\/k=3\/k=4\/k=5\/k=6\/k=7\/k=8\/k=9:=by omega
 rcases this with rfl|rfl|rfl|rfl|rfl|rfl|rfl|rfl|rfl|rfl<;>decide
def Yol(n:Nat):di (n%10)=di n:=by unfold di;rw[Nat.mod_mod]
def MR{m:Nat}{st:St}(hn:n<9223372036854775808)(hm:m<1000):A.C.call (.func 102 [] []) [.int .i64 n,.int .i64 m] st=some (.str (Zip n m),st):=by
 apply Call.eq
 rw[aZ,A.k102 (by simp)]
 simp[A.b102]
 have hlen:(Zip n m).length<2000:=by
  have:(dk n).length<=19:=oS.1 (by omega)
  unfold Zip
  simp;omega
 refine Zal [(0,0),(5,23)] (fun e r s1=>s1=⟨st.h,st.n,[]⟩/\e=.exit 0/\r.get 5=some (.str (Zip n m))) (fun q r s1=>s1=⟨st.h,st.n,[]⟩/\∃k s,q=k+(m-s.length)/\k<9223372036854775808/\r.get 0=some (.int .i64 k)/\r.get 5=some (.str s)/\Zip n m=Zip k (m-s.length)++s) (n+m) ?_ ?_ ?_
 ·exact⟨rfl,n,[],by simp,hn,by simp,by simp,by simp⟩
 ·rintro q r _ hr hf ⟨rfl,k,s,rfl,hk,h0,h5,hd⟩
  rw[cn]
  by_cases sJ:k≠0\/0<m-s.length
  ·have dM:=Yfq (n:=k) (m:=m-s.length) sJ
   rw[dM,rB,Te]at hd
   have de:s.length+1<2000:=by
    have:=congrArg List.length hd
    simp at this;omega
   have t1:(k:Int).tmod 10=((k%10:Nat):Int):=by rw[DE (by omega)];omega
   have t2:(k:Int).tdiv 10=((k/10:Nat):Int):=by rw[AL (by omega)];omega
   have t3:bA .i64 ((k/10:Nat):Int)=((k/10:Nat):Int):=cH (by omega) (by omega)
   have t4:bA .i64 (((k%10:Nat):Int)+1)=((k%10+1:Nat):Int):=by rw[cH (by omega) (by omega)];omega
   have Ri:¬(9223372036854775807:Int)<1+(s.length:Int):=by omega
   have dT:IntKind.max .i64=9223372036854775807:=rfl
   have sl:∀st:St,pR st (some (.str [48,49,50,51,52,53,54,55,56,57])) (some (some (.int .i64 ((k:Int)%10)))) (some (some (.int .i64 ((k:Int)%10+1))))=some (.str [di k],st):=fun st=>by
    rw[Zpd (by omega) (by omega) (by simp;omega)]
    have e1:((k:Int)%10).toNat=k%10:=by omega
    have e2:((k:Int)%10+1).toNat=k%10+1:=by omega
    rw[e1,e2]
    have:=Yoi (k:=k%10) (by omega)
    rw[Yol]at this
    exact congrArg (fun x=>some (V.str x,st)) this
   have JE:0<k\/(¬0<k/\s.length<m):=by omega
   rcases JE with g1|⟨g1,g2⟩
   ·have i1:(0:Int)<(k:Int):=by omega
    simp(disch:=first|(simp;done)|omega|rfl) [A.mM,hf,h0,h5,g1,t1,t2,iF,dT,sl,Ri]
    exact⟨k/10+(m-(s.length+1)),by omega,k/10,di k::s,by simp,by omega,by simp,by simp,by rw[hd,bC,Nat.sub_sub]⟩
   ·have i1:¬(0:Int)<(k:Int):=by omega
    have i2:(s.length:Int)<(m:Int):=by omega
    simp(disch:=first|(simp;done)|omega|rfl) [A.mM,hr,hf,h0,h5,g1,i2,t1,t2,iF,dT,sl,Ri]
    exact⟨k/10+(m-(s.length+1)),by omega,k/10,di k::s,by simp,by omega,by simp,by simp,by rw[hd,bC,Nat.sub_sub]⟩
  ·have g1:¬0<k:=by omega
   have g2:¬s.length<m:=by omega
   have i1:¬(0:Int)<(k:Int):=by omega
   have i2:¬(s.length:Int)<(m:Int):=by omega
   obtain rfl:k=0:=by omega
   rw[show m-s.length=0 by omega,Yfp,List.nil_append]at hd
   simp[A.mM,hr,hf,h0,h5,i2,hd]
 ·rintro _ r _ hr ⟨rfl,rfl,h5⟩
  simp[h5]
def Rc:(aq n).length<=9*(ds n).length+1:=by
 have h1:n<10^(9*(ds n).length):=by
  have h2:=uy (fW n)
  rw[ga,T3]at h2
  have h3:=Int.ofNat_lt.1 h2
  rw[Nat.pow_mul]
  exact h3
 have:=oS.1 h1
 unfold aq
 split<;>simp<;>omega
def Zvv{k:Nat}:(aq (n/k)).length<=9*(ds n).length+1:=by
 have h1:=Rc (n:=n/k)
 have h2:=tJ (th n k)
 omega
def MQ{h:T O}{N:Nat}{x:V}{z:Int}(hx:Rg h N x z)(hl:(ds z.natAbs).length<100000000000):Fn A.C 159 [x] h N (fun u _ _=>u=.str (aU z)):=by
 intro w
 obtain⟨u,rfl,hu⟩:=hx
 have o1:=Sl.form hu |>.one
 have o2:=Sl.form hu |>.cells
 unfold V.one at o1
 unfold V.cells at o2
 have kB:=((ah.refl (h:=h) (n:=N)).new (.cells [.bool (decide (z<0)),u] 129 true))
 have fi:Sl (h.set N (.cells [.bool (decide (z<0)),u] 129 true)) (N+1) u (dI (ds z.natAbs)):=Sl.ai hu kB
 have lu:=fi.len
 rw[gp]at lu
 rw[aZ,A.k159 (by simp)]
 by_cases h0:z=0
 ·subst h0
  have e0:(ds (0:Int).natAbs).length=0:=by rw[show (0:Int).natAbs=0 from rfl,ry];rfl
  rw[e0]at lu
  have e1:aU 0=[48]:=by decide
  simp[A.b159,o1,lu,Ret,e1]
  exact kB
 obtain⟨n,hn⟩:∃n,z.natAbs=n:=⟨_,rfl⟩
 rw[hn]at lu fi hl
 have Ve:n≠0:=by omega
 have sP:(ds n).length≠0:=fun hc=>Ve (Bz.1 (rz hc))
 obtain⟨L,hL⟩:∃L,(ds n).length=L+1:=⟨(ds n).length-1,by omega⟩
 have xh:=fun (k:Nat)=>Zvv (n:=n) (k:=k)
 rw[hL]at lu
 obtain⟨f,hF⟩:∃f:Nat->bj,∀m,f m=aq (n/1000000000^m):=⟨_,fun _=>rfl⟩
 obtain⟨g,hG⟩:∃g:Nat->Nat,∀m,g m=n/1000000000^m%1000000000:=⟨_,fun _=>rfl⟩
 have rA:f 0=aq n:=by rw[hF];simp
 have wF:∀m,g m<1000000000:=fun m=>by rw[hG];exact kf _ (by omega)
 have hg:∀m,m<L+1->(ds n)[m]?=some (g m):=fun m hm=>by rw[hG];exact T1 (by omega)
 have hft:f L=Zip (g L) 1:=by rw[hF,hG];exact Yjk hL.symm
 have xK:∀m,m<L->f m=f (m+1)++Zip (g m) 9:=fun m hm=>by rw[hF,hF,hG];exact Yfr (by omega)
 have oX:∀m,(f m).length<=9*(L+1)+1:=fun m=>by rw[hF,<-hL];exact xh _
 clear hF hG xh
 obtain⟨i,o,c,e,rw,q1,q2,q3,q4⟩:=fi.at (fY (hg L (by omega)))
 have c1:¬((L:Int)+1=0):=by omega
 have c2:((L:Int)+1-1)=(L:Int):=by omega
 have c3:(L:Int)<(L:Int)+1:=by omega
 have c4:((L:Int)+1-2)=(L:Int)-1:=by omega
 have c5:bA .i64 ((L:Int)+1-1)=(L:Int):=by rw[c2];exact cH (by omega) (by omega)
 have c6:bA .i64 ((L:Int)+1-2)=(L:Int)-1:=by rw[c4];exact cH (by omega) (by omega)
 have Kj:∀m st,A.C.call (.func 102 [] []) [.int .i64 (g m),.int .i64 1] st=some (.str (Zip (g m) 1),st):=fun m st=>MR (n:=g m) (m:=1) (st:=st) (by have:=wF m;omega) (by omega)
 have pw:∀m st,A.C.call (.func 102 [] []) [.int .i64 (g m),.int .i64 9] st=some (.str (Zip (g m) 9),st):=fun m st=>MR (n:=g m) (m:=9) (st:=st) (by have:=wF m;omega) (by omega)
 simp(disch:=omega) [A.b159,o1,lu,c1,c2,c6,q1,q3,q4,Kj]
 rw[<-hft]
 refine Zal [(3,4),(22,33)] (fun e r s1=>s1=⟨h.set N (.cells [.bool (decide (z<0)),u] 129 true),N+1,[]⟩/\e=.exit 0/\r.get 1=some (.ptr N 0)/\r.get 3=some (.str (aq n))) (fun m r s1=>s1=⟨h.set N (.cells [.bool (decide (z<0)),u] 129 true),N+1,[]⟩/\m<=L/\r.get 1=some (.ptr N 0)/\r.get 4=some (.int .i64 ((m:Int)-1))/\r.get 3=some (.str (f m))) L ?_ ?_ ?_
 ·exact⟨rfl,by omega,by simp,by simp,by simp⟩
 ·rintro m r _ hr hf ⟨rfl,hm,h1,h4,h3⟩
  rw[cn]
  rcases m with _|m
  ·have e1:(((0:Nat):Int)-1<0):=by omega
   rw[rA]at h3
   simp[A.rj,hr,hf,h3,h4]
  ·have e3:(((m+1:Nat):Int)-1)=(m:Int):=by omega
   have e4:¬((m:Int)<0):=by omega
   rw[e3]at h4
   obtain⟨i,o,c,e,rw,q1,q2,q3,q4⟩:=fi.at (fY (hg m (by omega)))
   have hp:(f m).length=(f (m+1)).length+(Zip (g m) 9).length:=by rw[xK m (by omega),iJ]
   have yb:¬(9223372036854775807:Int)<((f (m+1)).length:Int)+((Zip (g m) 9).length:Int):=by have:=oX m;omega
   have dT:IntKind.max .i64=9223372036854775807:=rfl
   have w1:bA .i64 ((m:Int)-1)=(m:Int)-1:=cH (by omega) (by omega)
   have c7:(m:Int)<(L:Int)+1:=by omega
   have f1:=(xK m (by omega)).symm
   have f2:m<m+1/\m<=L:=by omega
   have Kz:=pw m
   clear hp sP Ve hn hm hl hL xK oX pw Kj hft hg wF rA
   simp[A.rj,hr,hf,h3,h4,lu,c7,q1,q3,q4,Kz,iF,dT,yb,w1,f1]
   exact⟨m,f2.1,f2.2,rfl,rfl⟩
 ·rintro _ r _ hr ⟨rfl,rfl,h1,h3⟩
  have oG:=Rc (n:=n)
  have dT:IntKind.max .i64=9223372036854775807:=rfl
  have de:¬(9223372036854775807:Int)<1+((aq n).length:Int):=by omega
  by_cases hz:z<0
  ·have e1:aU z=45::aq n:=by unfold aU;rw[aR hz,hn]
   clear oG sP Ve hn hL xK oX pw Kj hft hg wF rA hl
   simp[hr,h3,hz,iF,dT,de,Ret,e1]
   simpa[hz]using kB
  ·have e1:aU z=aq n:=by unfold aU;rw[aA hz,hn]
   clear oG sP Ve hn hL xK oX pw Kj hft hg wF rA hl
   simp[hr,h3,hz,Ret,e1]
   simpa[hz]using kB
open Go
def Yq2{P d1 d2 d3 v1 v2 U' V' t r:Int}(hP:0<P)(JT:0<=U')(hU:U'<P)(vS:0<=V')(hV:V'<P)(h1:0<=d1)(iE:d1<1000000000)(h2:0<=d2)(h3:0<=d3)(w1:500000000<=v1)(w2:0<=v2)(w2':v2<1000000000)
  (hW:U'+P*(d1+1000000000*(d3*1000000000+d2))<1000000000*(V'+P*(v2+1000000000*v1))) (ht:d3*1000000000+d2=t*v1+r) (kh:0<=r) (Es:r<v1):
  0<=t/\t<=1000000001/\U'+P*(d1+1000000000*(d3*1000000000+d2))<(t+1)*(V'+P*(v2+1000000000*v1)):=by
 generalize hT:d3*1000000000+d2=T at*
 have hT0:0<=T:=by omega
 have t0:0<=t:=by
  apply DF;intro hc
  have:t*v1<=(-1)*v1:=DD (by omega) (by omega)
  omega
 have a1:T<1000000000*(v1+1):=by
  apply LC;intro hc
  have b1:P*(1000000000*(v1+1))<=P*T:=qE hc (by omega)
  have b2:0<=P*d1:=vO (by omega) h1
  have b3:P*v2<=P*999999999:=qE (by omega) (by omega)
  have b4:P*(d1+1000000000*T)=P*d1+1000000000*(P*T):=by grind
  have b5:P*(v2+1000000000*v1)=P*v2+1000000000*(P*v1):=by grind
  have b6:P*(1000000000*(v1+1))=1000000000*(P*v1)+1000000000*P:=by grind
  omega
 have a2:t<=1000000001:=by
  apply DF;intro hc
  have b1:1000000002*v1<=t*v1:=DD (by omega) (by omega)
  omega
 refine⟨t0,a2,?_⟩
 have c1:(t+1)*v1=t*v1+v1:=by grind
 have b1:P*(T+1)<=P*((t+1)*v1):=qE (by omega) (by omega)
 have b2:P*d1<=P*999999999:=qE (by omega) (by omega)
 have b3:0<=(t+1)*V':=vO (by omega) vS
 have b4:0<=(t+1)*(P*v2):=vO (by omega) (vO (by omega) w2)
 have b5:P*(d1+1000000000*T)=P*d1+1000000000*(P*T):=by grind
 have b6:(t+1)*(V'+P*(v2+1000000000*v1))=(t+1)*V'+(t+1)*(P*v2)+1000000000*(P*((t+1)*v1)):=by grind
 have b7:P*(T+1)=P*T+P:=by grind
 omega
set_option maxHeartbeats 2000000
def A.Rj:=A.q Tryz.f218
def A.ic:=A.ql A.Rj 0 []
def A.b218:=(fun x0=>A.qb A.Rj [x0]) A.ic
def A.k218:=@A.kk 218 77 [.tmp 6] A.b218 (by kernel_rfl) rfl
structure GuR (W D v1 top:Int) (m:Nat) (r:T V):Prop where
 ex:∃t q:Int,t.toNat=m/\r.get 9=some (.int .i64 t)/\r.get 10=some (.int .i64 q)/\0<=t/\t<=1000000001/\0<=q/\q<1000000000/\top=t*v1+q/\W<(t+1)*D
def Yi0{h:T O}{N:Nat}{u v:V}{L Y:List Int}{j k:Nat}{d1 d2 d3 v1 v2 P U' V' W D:Int}{w:List Nat}(hu:Sl h N u (dI L))(hv:Sl h N v (dI Y))(hY:Y.length=k+2)(hL:L.length<1099511627776)(e1:L[j+k]?=some d1)(e2:L[j+k+1]?=some d2)(e3:L[j+k+2]?=some d3)(f2:Y[k]?=some v2)(f1:Y[k+1]?=some v1)
  (r1:0<=d1/\d1<1000000000) (r2:0<=d2/\d2<1000000000) (r3:0<=d3/\d3<1000000000) (r4:500000000<=v1/\v1<1000000000) (r5:0<=v2/\v2<1000000000) (hP:0<P) (JT:0<=U') (hU:U'<P) (vS:0<=V') (hV:V'<P) (hW:W=U'+P*(d1+1000000000*(d3*1000000000+d2))) (hD:D=V'+P*(v2+1000000000*v1)) (hWD:W<1000000000*D):
  ∃t,A.C.call (.func 218 [] []) [u,v,.int .i64 j] ⟨h,N,w⟩=some (.int .i64 t,⟨h,N,w⟩)/\0<=t/\t<=1000000000/\(t-1)*D<=W/\W<(t+1)*D:=by
 have lu:=hu.len
 have lv:=hv.len
 rw[gp]at lu lv
 rw[hY]at lv
 have Az:=yz e3
 have goal:Call A.C (.func 218 [] []) [u,v,.int .i64 j] ⟨h,N,w⟩ (fun x s=>s=⟨h,N,w⟩/\∃t,x=.int .i64 t/\0<=t/\t<=1000000000/\(t-1)*D<=W/\W<(t+1)*D):=by
  obtain⟨a1,a2,a3,a4,a5,x1,x2,x3,x4⟩:=hu.at (fY e1)
  obtain⟨a1',a2',NK,a4',a5',Lc,x2',Ld,SD⟩:=hu.at (fY e2)
  obtain⟨zfY,zfZ,zf0,zf1,zf2,zhw,zf3,KD,zeN⟩:=hu.at (fY e3)
  rw[x1]at Lc zhw
  simp only[au,bE]at Lc zhw
  obtain⟨rfl,rfl⟩:=Lc
  obtain⟨rfl,rfl⟩:=zhw
  rw[x3]at Ld KD
  simp only[au,O.cells.injEq]at Ld KD
  obtain⟨rfl,rfl,rfl⟩:=Ld
  obtain⟨rfl,_,_⟩:=KD
  obtain⟨b1,b2,b3,b4,b5,y1,y2,y3,y4⟩:=hv.at (fY f2)
  obtain⟨b1',b2',b3',b4',b5',Nz,y2',y3',Rk⟩:=hv.at (fY f1)
  rw[y1]at Nz
  simp only[au,bE]at Nz
  obtain⟨rfl,rfl⟩:=Nz
  rw[y3]at y3'
  simp only[au,O.cells.injEq]at y3'
  obtain⟨rfl,_,_⟩:=y3'
  have c1:((k:Int)+2-1)=(k:Int)+1:=by omega
  have c4:((k:Int)+2-2)=(k:Int):=by omega
  have c5:((j:Int)+((k:Int)+2))=(j:Int)+(k:Int)+2:=by omega
  have n1:((j:Int)+(k:Int)+2).toNat=j+k+2:=by omega
  have n3:((j:Int)+(k:Int)).toNat=j+k:=by omega
  have n4:((k:Int)+1).toNat=k+1:=by omega
  have k2:(k:Int)<(k:Int)+2:=by omega
  have k3:(0:Int)<=(k:Int)+1:=by omega
  have u1:bA .i64 (d3*1000000000)=d3*1000000000:=cH (by omega) (by omega)
  have u2:bA .i64 (d3*1000000000+d2)=d3*1000000000+d2:=cH (by omega) (by omega)
  have s0:0<=d3*1000000000+d2:=by omega
  have v0:¬v1=0:=by omega
  have t1:(d3*1000000000+d2).tdiv v1=(d3*1000000000+d2)/v1:=AL s0
  have t2:(d3*1000000000+d2).tmod v1=(d3*1000000000+d2)%v1:=DE s0
  have t3:=DG (d3*1000000000+d2) v1
  have t4:=DI (d3*1000000000+d2) v0
  have t5:=DH (d3*1000000000+d2) (b:=v1) (by omega)
  have gi:=Yq2 (t:=(d3*1000000000+d2)/v1) (r:=(d3*1000000000+d2)%v1) hP JT hU vS hV r1.1 r1.2 r2.1 r3.1 r4.1 r5.1 r5.2 (by rw[<-hW,<-hD];exact hWD) (by rw[Int.mul_comm (_/_) v1];exact t3.symm) t4 t5
  rw[<-hW,<-hD]at gi
  obtain⟨g1,g2,g3⟩:=gi
  have t6:bA .i64 ((d3*1000000000+d2)/v1)=(d3*1000000000+d2)/v1:=cH (by omega) (by omega)
  rw[aZ,A.k218 (by simp)]
  simp(disch:=first|(simp;done)|omega|rfl) [A.b218,lv,lu,c1,c5,n1,n4,x1,x2,x3,SD,zeN,y1,y2,y3,Rk,u1,u2,t1,t2,t6]
  generalize Ac:d3*1000000000+d2=D1 at*
  refine Zal [(6,6),(9,10),(42,75)] (fun e r st=>st=⟨h,N,[]⟩/\((e=.exit 0/\∃t,r.get 9=some (.int .i64 t)/\0<=t/\t<=1000000000/\(t-1)*D<=W/\W<(t+1)*D)\/(e=.ret/\∃t,r.get 6=some (.int .i64 t)/\0<=t/\t<=1000000000/\(t-1)*D<=W/\W<(t+1)*D))) (fun m r st=>st=⟨h,N,[]⟩/\GuR W D v1 D1 m r) (D1/v1).toNat ?_ ?_ ?_
  ·exact⟨rfl,⟨D1/v1,D1%v1,rfl,by simp,by simp,g1,g2,t4,by omega,by rw[Int.mul_comm (_/_) v1];exact t3.symm,g3⟩⟩
  ·rintro m r _ hr hf ⟨rfl,⟨t,q,rfl,h9,xO,Vg,tq1,q0,q1,jI,aW⟩⟩
   rw[cn]
   by_cases hA:1000000000<=t
   ·have aW:W<t*D:=by
     have d0:0<=D:=by
      have:=vO (tr hP) (show 0<=v2+1000000000*v1 by omega)
      omega
     have:=DD hA d0
     omega
    have tp:1<=t:=by omega
    have kK:bA .i64 (q+v1)=q+v1:=cH (by omega) (by omega)
    have yh:bA .i64 (t-1)=t-1:=cH (by omega) (by omega)
    have e5:D1=t*v1+q:=jI
    have e6:(t-1)*v1+(q+v1)=t*v1+q:=by grind
    by_cases oB:1000000000<=q+v1
    ·simp(disch:=first|(simp;done)|omega|rfl) [A.ic,hr,hf,h9,xO,lv,c1,n4,y1,y3,Rk,hA,kK,yh,oB]
     refine⟨by omega,by omega,?_,aW⟩
     have m1:(t-1)*v2<=1000000000*v2:=DD (by omega) r5.1
     have:=Zvl (t:=t-1) (r:=q+v1) (v1:=v1) (u1:=D1) hP JT r1.1 s0 (by omega) r5.1 vS hV (by omega) (by omega) (by rw[e6];exact jI) (by omega)
     rw[hW,hD]
     exact this
    ·simp(disch:=first|(simp;done)|omega|rfl) [A.ic,hr,hf,h9,xO,lv,c1,n4,y1,y3,Rk,hA,kK,yh,oB]
     exact⟨(t-1).toNat,by omega,⟨t-1,q+v1,rfl,by simp,by simp,by omega,by omega,by omega,by omega,by rw[e6];exact jI,by rw[show t-1+1=t by omega];exact aW⟩⟩
   ·have hA':¬1000000000<=t:=hA
    have m0:0<=t*v2:=vO Vg r5.1
    have m1:t*v2<=1000000000*1000000000:=Int.mul_le_mul (by omega) (by omega) r5.1 (by omega)
    have b1':bA .i64 (t*v2)=t*v2:=cH (by omega) (by omega)
    have b2':bA .i64 (q*1000000000)=q*1000000000:=cH (by omega) (by omega)
    have b3':bA .i64 (q*1000000000+d1)=q*1000000000+d1:=cH (by omega) (by omega)
    by_cases hB:q*1000000000+d1<t*v2
    ·have aW:W<t*D:=by
      have:=Ynt (t:=t) (r:=q) (v1:=v1) (u1:=D1) hP hU vS Vg jI hB
      rw[hW,hD];exact this
     have tz:t≠0:=fun hc=>by rw[hc]at hB;simp at hB;omega
     have tp:1<=t:=by omega
     have kK:bA .i64 (q+v1)=q+v1:=cH (by omega) (by omega)
     have yh:bA .i64 (t-1)=t-1:=cH (by omega) (by omega)
     have e5:D1=t*v1+q:=jI
     have e6:(t-1)*v1+(q+v1)=t*v1+q:=by grind
     by_cases oB:1000000000<=q+v1
     ·simp(disch:=first|(simp;done)|omega|rfl) [A.ic,hr,hf,h9,xO,lv,lu,c1,c4,c5,n3,n4,x1,x2,x3,x4,y1,y2,y3,y4,Rk,hA',b1',b2',b3',hB,kK,yh,oB]
      refine⟨by omega,by omega,?_,aW⟩
      have m1:(t-1)*v2<=1000000000*v2:=DD (by omega) r5.1
      have:=Zvl (t:=t-1) (r:=q+v1) (v1:=v1) (u1:=D1) hP JT r1.1 s0 (by omega) r5.1 vS hV (by omega) (by omega) (by rw[e6];exact jI) (by omega)
      rw[hW,hD]
      exact this
     ·simp(disch:=first|(simp;done)|omega|rfl) [A.ic,hr,hf,h9,xO,lv,lu,c1,c4,c5,n3,n4,x1,x2,x3,x4,y1,y2,y3,y4,Rk,hA',b1',b2',b3',hB,kK,yh,oB]
      exact⟨(t-1).toNat,by omega,⟨t-1,q+v1,rfl,by simp,by simp,by omega,by omega,by omega,by omega,by rw[e6];exact jI,by rw[show t-1+1=t by omega];exact aW⟩⟩
    ·simp(disch:=first|(simp;done)|omega|rfl) [A.ic,hr,hf,h9,xO,lv,lu,c4,c5,n3,x1,x2,x3,x4,y1,y2,y3,y4,hA',b1',b2',b3',hB]
     refine⟨Vg,by omega,?_,aW⟩
     have:=Zvl (t:=t) (r:=q) (u1:=D1) hP JT r1.1 s0 (by omega) r5.1 vS hV Vg (by omega) jI (by omega)
     rw[hW,hD];exact this
  ·rintro e r _ hr ⟨rfl,⟨rfl,t,h9,ht⟩|⟨rfl,t,h6,ht⟩⟩
   ·simp[h9];exact ht
   ·simp[h6];exact ht
 obtain⟨x,s,hc,rfl,t,rfl,h1,h2,h3,h4⟩:=goal.ex
 exact⟨t,hc,h1,h2,h3,h4⟩
def A.Ao:=A.q Tryz.f167
def A.mO:=A.ql A.Ao 3 []
def A.jJ:=A.ql A.Ao 2 []
def A.mP:=(fun x0 x1=>A.ql A.Ao 1 [x0,x1]) A.jJ A.mO
def A.mL:=A.ql A.Ao 0 []
def A.b167:=(fun x0 x1=>A.qb A.Ao [x0,x1]) A.mL A.mP
def A.k167:=@A.kk 167 206 [.tmp 4,.tmp 5] A.b167 (by kernel_rfl) rfl
structure DvS (N:Nat) (h2:T O) (n2 iu iq n:Nat) (U Q:List Int) (st:St):Prop where
 w:aL N st.w=[]
 ai:ah h2 n2 st.h n
 n:st.n=n
 ru:st.h.get iu=some (.cells (dI U) 3 true)
 rq:st.h.get iq=some (.cells (dI Q) 3 true)
structure DvR (r0:T V) (v:V) (iu lu L j:Nat):Prop where
 r9:r0.get 9=some v
 oh:r0.get 10=some (.int .i64 L)
 r11:r0.get 11=some (.slice iu 0 lu none 1)
 tL:r0.get 13=some (.int .i64 j)
structure Rl (N:Nat) (h2:T O) (n2 iu iq n:Nat) (U Q Y:List Int) (L j:Nat) (t:Int) (m:Nat) (r:T V) (st:St):Prop where
 ex:∃i U' c,i+m=L/\r.get 16=some (.int .i64 i)/\r.get 15=some (.int .i64 c)/\0<=c/\c<=1000000000/\DvS N h2 n2 iu iq n U' Q st/\U'.length=U.length/\(∀s,(s<j\/j+i<=s)->U'[s]?=U[s]?)/\Di U'/\vI U'-pI (j+i)*c=vI U-pI j*(t*vI (Y.take i))
def Yg8{N:Nat}{h2:T O}{n2 iu iq n:Nat}{U Q Y:List Int}{L j:Nat}{t:Int}{v:V}{r0:T V}(hv:Sl h2 n2 v (dI Y))(hY:Y.length=L)(dY:Di Y)(TV:j+L<U.length)(hul:U.length<1099511627776)(R:DvR r0 v iu U.length L j)(ME:r0.get 14=some (.int .i64 t))(t0:0<=t)(t1:t<=1000000000)(a1:N<=n2)(a2:n2<=iu)(a3:iu<iq)(a4:iq<n):
  ∀k r st,(∀t,jx [(15,18),(90,125)] t=false->r.get t=r0.get t)->Fx [(15,18),(90,125)] r0 206 ⟨r,206,[]⟩->Rl N h2 n2 iu iq n U Q Y L j t k r st->Code A.C none A.jJ ⟨r,206,[]⟩ st (Rd [(15,18),(90,125)] r0 206 (Rl N h2 n2 iu iq n U Q Y L j t) k (fun e r st=>e=.exit 4/\Rl N h2 n2 iu iq n U Q Y L j t 0 r st)):=by
 rintro m r ⟨H,n1,W⟩ hr hf ⟨i,U',c,hi,Rm,CQ,c0,c1,⟨hW,hK,hn,ru,rq⟩,ko,zii,iG,zgm⟩
 simp only at hW hK hn ru rq
 subst hn
 obtain⟨r9,oh,r11,tL⟩:=R
 rw[cn]
 cases m with
 |zero=>
  have:i=L:=by omega
  subst this
  simp[A.jJ,hr,hf,Rm,oh]
  exact⟨i,U',c,by omega,by simp[Rm],by simp[CQ],c0,c1,⟨hW,hK,rfl,ru,rq⟩,ko,zii,iG,zgm⟩
 |succ m=>
  obtain⟨y,hy⟩:=eQ (l:=Y) (k:=i) (by omega)
  have lv:=hv.len
  rw[gp,hY]at lv
  obtain⟨b1,b2,b3,b4,b5,z1,z2,z3,z4⟩:=hv.at (fY hy)
  have z3:=(hK.get _ z2).trans z3
  have MN:=dY.get hy
  obtain⟨o,ho⟩:=eQ (l:=U') (k:=i+j) (by omega)
  have hod:=iG.get ho
  have yg:(i:Int)<(L:Int):=by omega
  have p0:0<=t*y:=vO t0 MN.1
  have p1:t*y<=1000000000*999999999:=Int.mul_le_mul t1 (by omega) MN.1 (by omega)
  have q1:(i:Int)+(j:Int)<(U.length:Int):=by omega
  have q2:i+j<U.length:=by omega
  have q3:(0:Int)<=(i:Int)+(j:Int):=by omega
  have nn:¬iu<N:=by omega
  have w8:=gp U'
  have hsu:=Ca ho
  have ON:=xZ hy
  have hp:=Tm i j
  have zS:=uw (j+i)
  generalize hP:t*y=P at*
  have b1':bA .i64 P=P:=cH (by omega) (by omega)
  have b2':bA .i64 (P+c)=P+c:=cH (by omega) (by omega)
  have Vh:(P+c).tmod 1000000000=(P+c)%1000000000:=DE (by omega)
  have Vi:(P+c).tdiv 1000000000=(P+c)/1000000000:=AL (by omega)
  have hm:=DG (P+c) 1000000000
  have e0:=DI (P+c) (b:=1000000000) (by decide)
  have e1:=DH (P+c) (b:=1000000000) (by decide)
  have key:∀(x' c':Int),x'-1000000000*c'=o-(P+c)->vI (U'.set (i+j) x')-pI (j+(i+1))*c'=vI U-pI j*(t*vI (Y.take (i+1))):=by
   intro x' c' hx
   rw[hsu,ON,show j+(i+1)=j+i+1 by omega,zS,show i+j=j+i by omega]
   have h3:vI U'=vI U-pI j*(t*vI (Y.take i))+pI (j+i)*c:=by omega
   have h4:x'=o-(P+c)+1000000000*c':=by omega
   rw[h3,h4,show j+i=i+j by omega,hp,<-hP]
   grind
  have same:∀(x':Int) (s:Nat),(s<j\/j+(i+1)<=s)->(U'.set (i+j) x')[s]?=U[s]?:=by
   intro x' s hs
   rw[eJ (by omega)]
   exact zii s (by omega)
  generalize (P+c)/1000000000=D at*
  generalize (P+c)%1000000000=M at*
  have b3':bA .i64 D=D:=cH (by omega) (by omega)
  have b4':bA .i64 (o-M)=o-M:=cH (by omega) (by omega)
  have d4:b1<n1:=by have:=hK.le;omega
  have d5:¬iq=iu:=by omega
  by_cases dN:o-M<0
  ·have b5':bA .i64 (o-M+1000000000)=o-M+1000000000:=cH (by omega) (by omega)
   have b6':bA .i64 (D+1)=D+1:=cH (by omega) (by omega)
   have w7:=Zi2 (l:=U') (k:=i+j) (v:=o-M+1000000000) (by omega)
   simp(disch:=first|(simp;done)|omega|rfl) [-getElem?_pos,A.jJ,hr,hf,Rm,CQ,r9,oh,r11,tL,ME,yg,lv,ru,fY ho,z1,z3,z4,hP,b1',b2',b3',b4',b5',b6',Vh,Vi,dN,w7]
   refine⟨m,by omega,⟨i+1,U'.set (i+j) (o-M+1000000000),D+1,by omega,by simp,by simp,by omega,by omega,⟨by simp[aL,hW,nn],hK.set (by omega),rfl,by simp,by simp[d5,rq]⟩,by simp[ko],same _,iG.set (by omega) (by omega),key _ _ (by omega)⟩⟩
  ·have w7:=Zi2 (l:=U') (k:=i+j) (v:=o-M) (by omega)
   simp(disch:=first|(simp;done)|omega|rfl) [-getElem?_pos,A.jJ,hr,hf,Rm,CQ,r9,oh,r11,tL,ME,yg,lv,ru,fY ho,z1,z3,z4,hP,b1',b2',b3',b4',Vh,Vi,dN,w7]
   refine⟨m,by omega,⟨i+1,U'.set (i+j) (o-M),D,by omega,by simp,by simp,by omega,by omega,⟨by simp[aL,hW,nn],hK.set (by omega),rfl,by simp,by simp[d5,rq]⟩,by simp[ko],same _,iG.set (by omega) (by omega),key _ _ (by omega)⟩⟩
structure AbR (N:Nat) (h2:T O) (n2 iu iq n:Nat) (U Q Y:List Int) (L j:Nat) (m:Nat) (r:T V) (st:St):Prop where
 ex:∃i U' c,i+m=L/\r.get 20=some (.int .i64 i)/\r.get 19=some (.int .i64 c)/\0<=c/\c<=1/\DvS N h2 n2 iu iq n U' Q st/\U'.length=U.length/\(∀s,(s<j\/j+i<=s)->U'[s]?=U[s]?)/\(∀(s:Nat) (d:Int),s≠j+L->U'[s]?=some d->0<=d/\d<1000000000)/\vI U'+pI (j+i)*c=vI U+pI j*vI (Y.take i)
def Yj5{N:Nat}{h2:T O}{n2 iu iq n:Nat}{U Q Y:List Int}{L j:Nat}{v:V}{r0:T V}(hv:Sl h2 n2 v (dI Y))(hY:Y.length=L)(dY:Di Y)(TV:j+L<U.length)(hul:U.length<1099511627776)(R:DvR r0 v iu U.length L j)(a1:N<=n2)(a2:n2<=iu)(a3:iu<iq)(a4:iq<n):
  ∀k r st,(∀t,jx [(19,21),(148,174)] t=false->r.get t=r0.get t)->Fx [(19,21),(148,174)] r0 206 ⟨r,206,[]⟩->AbR N h2 n2 iu iq n U Q Y L j k r st->Code A.C none A.mO ⟨r,206,[]⟩ st (Rd [(19,21),(148,174)] r0 206 (AbR N h2 n2 iu iq n U Q Y L j) k (fun e r st=>e=.exit 6/\AbR N h2 n2 iu iq n U Q Y L j 0 r st)):=by
 rintro m r ⟨H,n1,W⟩ hr hf ⟨i,U',c,hi,Vj,Vk,c0,c1,⟨hW,hK,hn,ru,rq⟩,ko,zii,iG,zgm⟩
 simp only at hW hK hn ru rq
 subst hn
 obtain⟨r9,oh,r11,tL⟩:=R
 rw[cn]
 cases m with
 |zero=>
  have:i=L:=by omega
  subst this
  simp[A.mO,hr,hf,Vj,oh]
  exact⟨i,U',c,by omega,by simp[Vj],by simp[Vk],c0,c1,⟨hW,hK,rfl,ru,rq⟩,ko,zii,iG,zgm⟩
 |succ m=>
  obtain⟨y,hy⟩:=eQ (l:=Y) (k:=i) (by omega)
  have lv:=hv.len
  rw[gp,hY]at lv
  obtain⟨b1,b2,b3,b4,b5,z1,z2,z3,z4⟩:=hv.at (fY hy)
  have z3:=(hK.get _ z2).trans z3
  have MN:=dY.get hy
  obtain⟨o,ho⟩:=eQ (l:=U') (k:=i+j) (by omega)
  have hod:=iG _ _ (by omega) ho
  have yg:(i:Int)<(L:Int):=by omega
  have nn:¬iu<N:=by omega
  have w8:=gp U'
  have hsu:=Ca ho
  have ON:=xZ hy
  have hp:=Tm i j
  have zS:=uw (j+i)
  have b1':bA .i64 (o+y)=o+y:=cH (by omega) (by omega)
  have b2':bA .i64 (o+y+c)=o+y+c:=cH (by omega) (by omega)
  have Vh:(o+y+c).tmod 1000000000=(o+y+c)%1000000000:=DE (by omega)
  have Vi:(o+y+c).tdiv 1000000000=(o+y+c)/1000000000:=AL (by omega)
  have hm:=DG (o+y+c) 1000000000
  have e0:=DI (o+y+c) (b:=1000000000) (by decide)
  have e1:=DH (o+y+c) (b:=1000000000) (by decide)
  have w7:=Zi2 (l:=U') (k:=i+j) (v:=(o+y+c)%1000000000) (by omega)
  have d4:b1<n1:=by have:=hK.le;omega
  have d5:¬iq=iu:=by omega
  have d6:iu<n1:=by omega
  have b3':bA .i64 ((o+y+c)/1000000000)=(o+y+c)/1000000000:=cH (by omega) (by omega)
  simp(disch:=first|(simp;done)|omega|rfl) [-getElem?_pos,A.mO,hr,hf,Vj,Vk,r9,oh,r11,tL,yg,lv,ru,fY ho,z1,z3,z4,b1',b2',b3',Vh,Vi,w7,d4,d6]
  generalize (o+y+c)/1000000000=D at*
  generalize (o+y+c)%1000000000=M at*
  refine⟨m,by omega,⟨i+1,U'.set (i+j) M,D,by omega,by simp,by simp,by omega,by omega,⟨by simp[aL,hW,nn],hK.set (by omega),rfl,by simp,by simp[d5,rq]⟩,by simp[ko],fun s hs=>?_,fun s d hs hd=>?_,?_⟩⟩
  ·rw[eJ (by omega)]
   exact zii s (by omega)
  ·by_cases hsi:s=i+j
   ·subst hsi
    rw[lM (by omega)]at hd
    simp at hd
    omega
   ·rw[eJ (fun h=>hsi h.symm)]at hd
    exact iG s d hs hd
  ·rw[hsu,ON,show j+(i+1)=j+i+1 by omega,zS,show i+j=j+i by omega]
   have h3:vI U'=vI U+pI j*vI (Y.take i)-pI (j+i)*c:=by omega
   have h4:M=o+y+c-1000000000*D:=by omega
   rw[h3,h4,show j+i=i+j by omega,hp]
   grind
def Yng{l:List Int}{d:Int}(h:d∈l):∃s:Nat,l[s]?=some d:=Nd h
def Yrc{l:List Int}(h:∀(s:Nat) (d:Int),l[s]?=some d->0<=d/\d<1000000000):Di l:=fun d hd=>by
 obtain⟨s,hs⟩:=Yng hd
 exact h s d hs
def Zx1{U U2:List Int}{j:Nat}{X:Int}(hj:j<=U.length)(hl:U2.length=U.length)(hs:∀s,s<j->U2[s]?=U[s]?)(hv:vI U2=vI U-pI j*X):vI (U2.drop j)=vI (U.drop j)-X:=by
 have h1:=Of U j hj
 have h2:=Of U2 j (by omega)
 have h3:U2.take j=U.take j:=by
  apply o8
  intro s
  rw[kW,kW]
  by_cases h:s<j
  ·rw[aR h,aR h];exact hs s h
  ·rw[aA h,aA h]
 rw[h3]at h2
 have h4:pI j*vI (U2.drop j)=pI j*(vI (U.drop j)-X):=by
  have:pI j*(vI (U.drop j)-X)=pI j*vI (U.drop j)-pI j*X:=by grind
  omega
 exact Int.eq_of_mul_eq_mul_left (Int.ne_of_gt (B8 j)) h4
def Ykg{U:List Int}{j L:Nat}{tt:Int}(hd:∀(s:Nat) (d:Int),s<j+L->U[s]?=some d->0<=d/\d<1000000000)(ht:U[j+L]?=some tt)(hz:∀s,j+L<s->s<U.length->U[s]?=some 0)(aW:vI (U.drop j)<pI L):(0<=vI (U.drop j)->tt=0)/\(vI (U.drop j)<0->tt<0):=by
 refine Yg2 (w:=U.drop j) (n:=L) ?_ (by rw[gH];exact ht) ?_ aW
 ·refine Yrc fun s d hs=>?_
  by_cases h:s<L
  ·rw[kW,aR h,gH]at hs
   exact hd (j+s) d (by omega) hs
  ·rw[kW,aA h]at hs;cases hs
 ·intro s h1 h2
  rw[gH]
  exact hz (j+s) (by omega) (by simp at h2;omega)
structure QZ (N:Nat) (h2:T O) (n2 iu iq n lu L:Nat) (A0:Int) (Y:List Int) (m:Nat) (r:T V) (st:St):Prop where
 ex:∃U Q,DvS N h2 n2 iu iq n U Q st/\r.get 13=some (.int .i64 ((m:Int)-1))/\U.length=lu/\Q.length=lu-L/\m<=lu-L/\Di U/\Di Q/\(∀s,m+L<=s->s<lu->U[s]?=some 0)/\vI (U.drop m)<vI Y/\(∀s,s<m->Q[s]?=some 0)/\vI U+vI Y*vI Q=A0
def Yh4{N:Nat}{h2:T O}{n2 iu iq n lu k:Nat}{A0 v1:Int}{Y:List Int}{v:V}{r0:T V}(hv:Sl h2 n2 v (dI Y))(hY:Y.length=k+2)(dY:Di Y)(nv:Y[k+1]?=some v1)(h5:500000000<=v1)(hlu:k+2<lu)(hul:lu<1099511627776)(r9:r0.get 9=some v)(oh:r0.get 10=some (.int .i64 (k+2:Nat)))(r11:r0.get 11=some (.slice iu 0 lu none 1))(Qv:r0.get 12=some (.slice iq 0 (lu-(k+2)) (some (lu-(k+2))) 1))(a1:N<=n2)(a2:n2<=iu)(a3:iu<iq)(a4:iq<n):
  ∀m r st,(∀t,jx [(13,21),(82,191)] t=false->r.get t=r0.get t)->Fx [(13,21),(82,191)] r0 206 ⟨r,206,[]⟩->QZ N h2 n2 iu iq n lu (k+2) A0 Y m r st->Code A.C none A.mP ⟨r,206,[]⟩ st (Rd [(13,21),(82,191)] r0 206 (QZ N h2 n2 iu iq n lu (k+2) A0 Y) m (fun e r st=>e=.exit 2/\QZ N h2 n2 iu iq n lu (k+2) A0 Y 0 r st)):=by
 rintro m r ⟨H,n1,W⟩ hr hf ⟨U,Q,⟨hW,hK,hn,ru,rq⟩,tL,ko,hql,hm,dU,dQ,hz,hdr,Ro,zgm⟩
 simp only at hW hK hn ru rq
 subst hn
 rw[cn]
 cases m with
 |zero=>
  simp[A.mP,hf,tL]
  exact⟨U,Q,⟨hW,hK,rfl,ru,rq⟩,by simp[tL],ko,hql,hm,dU,dQ,hz,hdr,Ro,zgm⟩
 |succ j=>
  have D4:(((j+1:Nat):Int)-1)=(j:Int):=by omega
  rw[D4]at tL
  have A9:(0:Int)<=(j:Int):=by omega
  obtain⟨v2,ix⟩:=eQ (l:=Y) (k:=k) (by omega)
  obtain⟨d1,e1⟩:=eQ (l:=U) (k:=j+k) (by omega)
  obtain⟨d2,e2⟩:=eQ (l:=U) (k:=j+k+1) (by omega)
  obtain⟨d3,e3⟩:=eQ (l:=U) (k:=j+k+2) (by omega)
  obtain⟨x0,oI⟩:=eQ (l:=U) (k:=j) (by omega)
  have hWt:=Ylu (w:=U.drop j) (k:=k) (a:=d1) (c:=d2) (d:=d3) (by rw[gH];exact e1) (by rw[gH,<-oZ];exact e2) (by rw[gH,<-oZ];exact e3) (fun t h1 h2=>by rw[gH];exact hz _ (by omega) (by simp at h2;omega))
  have hDt:=Ylv ix nv hY
  have hWd:vI (U.drop j)<1000000000*vI Y:=by
   rw[rV oI,vI]
   have:=dU.get oI
   omega
  have hUk:=uy ((dU.drop j).take k)
  rw[j9,AQ,oW (by omega)]at hUk
  have hVk:=uy (dY.take k)
  rw[j9,oW (by omega)]at hVk
  obtain⟨t,hg,t0,t1,fO,iH⟩:=Yi0 (w:=W) (Sl.row (cp:=none) (L:=lu) (show iu<n1 by omega) ru (by simp[ko]) (fun k hk=>by cases hk)) (hv.ai hK) hY (by omega) e1 e2 e3 ix nv (dU.get e1) (dU.get e2) (dU.get e3) ⟨h5,(dY.get nv).2⟩ (dY.get ix) (B8 k) (ux ((dU.drop j).take k)) hUk (ux (dY.take k)) hVk hWt hDt hWd
  have hVl:=uy dY
  rw[hY]at hVl
  have hVp:0<vI Y:=by have:=ux (dU.drop (j+1));omega
  simp[A.mP,hr,tL,A9,r9,r11,hg]
  refine Zal [(15,18),(90,125)] (fun e r st=>e=.exit 4/\Rl N h2 n2 iu iq n1 U Q Y (k+2) j t 0 r st) (Rl N h2 n2 iu iq n1 U Q Y (k+2) j t) (k+2) ?_ ?_ ?_
  ·exact⟨0,U,0,by omega,by simp,by simp,by omega,by omega,⟨hW,hK,rfl,ru,rq⟩,rfl,fun _ _=>rfl,dU,by simp[vI]⟩
  ·exact Yg8 hv hY dY (by omega) (by omega) ⟨by simp[hr,r9],by simp[hr,oh],by simp[hr,r11,ko],by simp[tL]⟩ (by simp) t0 t1 a1 a2 a3 a4
  ·rintro _ r2 ⟨H2,n3,W2⟩ dw ⟨rfl,i,U',c,hi,Rm,CQ,c0,c1,⟨dX,hK2,eP,ru2,rq2⟩,zi7,zii,km,zjh⟩
   simp only at dX hK2 eP ru2 rq2
   subst eP
   obtain rfl:i=k+2:=by omega
   have Dm:=hf.inner (D':=[(15,18),(90,125)]) rfl (by simp) dw
   rw[<-hY,At,hY]at zjh
   have e3':U'[j+(k+2)]?=some d3:=by rw[zii _ (.inr (Yv5 _))];rw[<-oZ];exact e3
   have hd3:=dU.get e3
   have q1:(j:Int)+((k:Int)+2)<(lu:Int):=by omega
   have q2:j+(k+2)<lu:=by omega
   have q3:(0:Int)<=(j:Int)+((k:Int)+2):=by omega
   have q4:((j:Int)+((k:Int)+2)).toNat=j+(k+2):=by omega
   have w8:=gp U'
   have b1':bA .i64 (d3-c)=d3-c:=cH (by omega) (by omega)
   have w7:=Zi2 (l:=U') (k:=j+(k+2)) (v:=d3-c) (by omega)
   have nn:¬iu<N:=by omega
   have d5:¬iq=iu:=by omega
   have d6:¬iu=iq:=by omega
   have nq:¬iq<N:=by omega
   have v2e:vI (U'.set (j+(k+2)) (d3-c))=vI U-pI j*(t*vI Y):=by
    rw[Ca e3']
    have:pI (j+(k+2))*(d3-c-d3)= -(pI (j+(k+2))*c):=by grind
    omega
   have hs2:∀s,s<j->(U'.set (j+(k+2)) (d3-c))[s]?=U[s]?:=fun s hs=>by
    rw[eJ (by omega)];exact zii s (.inl hs)
   have fK:∀s,j+(k+2)<s->s<lu->(U'.set (j+(k+2)) (d3-c))[s]?=some 0:=fun s h1 h2=>by
    rw[eJ (by omega),zii s (.inr (by omega))];exact hz s (by omega) h2
   have Ev:=Zx1 (by omega) (by simp[zi7]) hs2 v2e
   have jI:(U'.set (j+(k+2)) (d3-c))[j+(k+2)]?=some (d3-c):=lM (by omega)
   have zik:vI ((U'.set (j+(k+2)) (d3-c)).drop j)<vI Y:=by
    rw[Ev]
    have:(t+1)*vI Y=t*vI Y+vI Y:=by grind
    omega
   have hto:=Ykg (U:=U'.set (j+(k+2)) (d3-c)) (fun s d hs hd=>by
    rw[eJ (by omega)]at hd;exact km.get hd) jI (fun s h1 h2=>fK s h1 (by simp at h2;omega)) (by omega)
   have qj1:(j:Int)<((lu-(k+2):Nat):Int):=by omega
   have qj2:j<lu-(k+2):=by omega
   have wq8:=gp Q
   by_cases dN:d3-c<0
   ·have t1w:bA .i64 (t-1)=t-1:=cH (by omega) (by omega)
    simp(disch:=first|(simp;done)|omega|rfl) [-getElem?_pos,hr,dw,CQ,oh,r11,tL,q4,ru2,fY e3',b1',w7,fY jI,dN,t1w]
    generalize hU2:U'.set (j+(k+2)) (d3-c)=U2 at*
    have oG:U2.length=lu:=by rw[<-hU2];simp[zi7,ko]
    have zf4:vI (U2.drop j)<0:=by
     apply LC;intro hc
     have:=hto.1 hc
     omega
    have zeO:∀(s:Nat) (d:Int),s≠j+(k+2)->U2[s]?=some d->0<=d/\d<1000000000:=fun s d hs hd=>by
     rw[<-hU2,eJ (by omega)]at hd;exact km.get hd
    refine Zal [(19,21),(148,174)] (fun e r st=>e=.exit 6/\AbR N h2 n2 iu iq n3 U2 Q Y (k+2) j 0 r st) (AbR N h2 n2 iu iq n3 U2 Q Y (k+2) j) (k+2) ?_ ?_ ?_
    ·exact⟨0,U2,0,by omega,by simp,by simp,by omega,by omega,⟨by simp[aL,dX,nn],hK2.set (by omega),rfl,by simp,by simp[d5,rq2]⟩,rfl,fun _ _=>rfl,zeO,by simp[vI]⟩
    ·exact Yj5 hv hY dY (by omega) (by omega) ⟨by simp[hr,dw,r9],by simp[hr,dw,oh],by simp[hr,dw,r11,oG],by simp[dw,tL]⟩ a1 a2 a3 a4
    ·rintro _ r4 ⟨H4,n4,W4⟩ Bq ⟨rfl,i4,U3,c4,hi4,Vj,Vk,c40,c41,⟨J0,MP,Q0,Q1,Q3⟩,zji,ve,Rr,Rt⟩
     simp only at J0 MP Q0 Q1 Q3
     subst Q0
     obtain rfl:i4=k+2:=by omega
     have zeP:=Dm.inner (D':=[(19,21),(148,174)]) rfl (by simp) Bq
     rw[<-hY,At,hY]at Rt
     have e4:U3[j+(k+2)]?=some (d3-c):=by rw[ve _ (.inr (Yv5 _))];exact jI
     have x8:=gp U3
     have b4':bA .i64 (d3-c+c4)=d3-c+c4:=cH (by omega) (by omega)
     have x7:=Zi2 (l:=U3) (k:=j+(k+2)) (v:=d3-c+c4) (by omega)
     have v4e:vI (U3.set (j+(k+2)) (d3-c+c4))=vI U-pI j*((t-1)*vI Y):=by
      rw[Ca e4]
      have x1:pI (j+(k+2))*(d3-c+c4-(d3-c))=pI (j+(k+2))*c4:=by grind
      have x2:pI j*((t-1)*vI Y)=pI j*(t*vI Y)-pI j*vI Y:=by grind
      omega
     have hs4:∀s,s<j->(U3.set (j+(k+2)) (d3-c+c4))[s]?=U[s]?:=fun s hs=>by
      rw[eJ (by omega),ve s (.inl hs)];exact hs2 s hs
     have yl:∀s,j+(k+2)<s->s<lu->(U3.set (j+(k+2)) (d3-c+c4))[s]?=some 0:=fun s h1 h2=>by
      rw[eJ (by omega),ve s (.inr (by omega))];exact fK s h1 h2
     have Ru:=Zx1 (by omega) (by simp[zji,oG,ko]) hs4 v4e
     have Ap:(U3.set (j+(k+2)) (d3-c+c4))[j+(k+2)]?=some (d3-c+c4):=lM (by omega)
     have xt:(t-1)*vI Y=t*vI Y-vI Y:=by grind
     have zeQ:vI ((U3.set (j+(k+2)) (d3-c+c4)).drop j)<vI Y:=by
      rw[Ru];omega
     have zeR:0<=vI ((U3.set (j+(k+2)) (d3-c+c4)).drop j):=by
      rw[Ru];omega
     have zeS:=Ykg (U:=U3.set (j+(k+2)) (d3-c+c4)) (fun s d hs hd=>by
      rw[eJ (by omega)]at hd;exact Rr s d (by omega) hd) Ap (fun s h1 h2=>yl s h1 (by simp at h2;omega)) (by omega)
     have tI:=zeS.1 zeR
     have w9:=Zi2 (l:=Q) (k:=j) (v:=t-1) (by omega)
     have xw:=Ro j (by omega)
     have zf5:1<=t:=by
      apply DF;intro hc
      have:t=0:=by omega
      rw[this]at Ev
      have:=ux (dU.drop j)
      omega
     simp(disch:=first|(simp;done)|omega|rfl) [-getElem?_pos,hr,dw,Bq,zeP,Vk,oh,r11,Qv,tL,q4,Q1,Q3,fY e4,b4',x7,d5,w9]
     refine⟨j,by omega,⟨U3.set (j+(k+2)) (d3-c+c4),Q.set j (t-1),⟨by simp[aL,J0,nn,nq],?_,rfl,by simp[d6],by simp⟩,by simp,by simp[zji,oG],by simp[hql],by omega,?_,dQ.set (by omega) (by omega),?_,?_,?_,?_⟩⟩
     ·exact(MP.set (by omega)).set (by omega)
     ·refine Yrc fun s d hd=>?_
      by_cases hs:s=j+(k+2)
      ·subst hs
       rw[Ap,tI]at hd
       simp at hd
       omega
      ·rw[eJ (fun h=>hs h.symm)]at hd
       exact Rr s d hs hd
     ·intro s h1 h2
      by_cases hs:s=j+(k+2)
      ·rw[hs,Ap,tI]
      ·exact yl s (by omega) h2
     ·exact zeQ
     ·intro s hs
      rw[eJ (by omega)];exact Ro s (by omega)
     ·rw[v4e,Ca xw,<-zgm]
      grind
   ·have UJ:0<=vI ((U'.set (j+(k+2)) (d3-c)).drop j):=by
     apply DF;intro hc;exact dN (hto.2 hc)
    have tI:=hto.1 UJ
    have w9:=Zi2 (l:=Q) (k:=j) (v:=t) (by omega)
    have xw:=Ro j (by omega)
    rw[Ev]at UJ zik
    have tlt:t<1000000000:=by
     apply LC;intro hc
     have:=DD hc (tr hVp)
     omega
    simp(disch:=first|(simp;done)|omega|rfl) [-getElem?_pos,hr,dw,Dm,CQ,oh,r11,Qv,tL,q4,ru2,rq2,fY e3',b1',w7,fY jI,dN,d5,w9]
    refine⟨j,by omega,⟨U'.set (j+(k+2)) (d3-c),Q.set j t,⟨by simp[aL,dX,nn,nq],?_,rfl,by simp[d6],by simp⟩,by simp,by simp[zi7,ko],by simp[hql],by omega,?_,dQ.set t0 tlt,?_,?_,?_,?_⟩⟩
    ·exact(hK2.set (by omega)).set (by omega)
    ·rw[tI];exact km.set (by omega) (by omega)
    ·intro s h1 h2
     by_cases hs:s=j+(k+2)
     ·rw[hs,jI,tI]
     ·exact fK s (by omega) h2
    ·rw[Ev];exact zik
    ·intro s hs
     rw[eJ (by omega)];exact Ro s (by omega)
    ·rw[v2e,Ca xw,<-zgm]
     grind
end
end Go.Mx
