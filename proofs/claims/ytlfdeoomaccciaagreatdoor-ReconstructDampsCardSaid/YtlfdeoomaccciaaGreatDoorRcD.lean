/-lensletref01-/
import Derived.Test.YtlfdeoomaccciaaGreatDoorMxQ
set_option linter.all false
namespace Go.Mx
noncomputable section
open Go Go.Proofs
variable {n:Nat}
set_option maxRecDepth 1000000
def A.OC:=A.q Tryz.f204
def A.nJ:=A.ql A.OC 0 []
def A.b204:=(fun x0=>A.qb A.OC [x0]) A.nJ
def A.k204:=@A.kk 204 25 [.tmp 4] A.b204 (by kernel_rfl) rfl
def A.OD:=A.q Tryz.f206
def A.r_:=A.ql A.OD 0 []
def A.b206:=(fun x0=>A.qb A.OD [x0]) A.r_
def A.k206:=@A.kk 206 39 [.tmp 2] A.b206 (by kernel_rfl) rfl
def Ye1:iA 0 0=[]:=by simp[iA,tO]
def Ye2{m:Nat}(h:n≠0\/0<m):iA n m=iA (n/10) (m-1)++[cZ n]:=by
 unfold iA
 by_cases hn:n=0
 ·subst hn
  have hm:0<m:=by omega
  simp only[tO,Nat.zero_div,List.length_nil,Nat.sub_zero,zy]
  obtain⟨k,rfl⟩:∃k,m=k+1:=⟨m-1,by omega⟩
  have:cZ 0=48:=by decide
  rw[this,List.replicate_succ',Nat.add_sub_cancel]
 ·rw[xB hn]
  have:m-(de (n/10)++[cZ n]).length=m-1-(de (n/10)).length:=by simp;omega
  rw[this,tv]
def Yo5{k:Nat}(hk:k<10):(Wl.take (k+1)).drop k=[cZ k]:=by
 have:k=0\/k=1\/k=2\/k=3\/k=4\/k=5\/k=6\/k=7\/k=8\/k=9:=by omega
 rcases this with rfl|rfl|rfl|rfl|rfl|rfl|rfl|rfl|rfl|rfl<;>decide
def Yo9(n:Nat):cZ (n%10)=cZ n:=by unfold cZ;rw[Nat.mod_mod]
def Kh{m:Nat}{st:St}(hn:n<9223372036854775808)(hm:m<1000):A.C.call (.func 204 [] []) [.int .i64 n,.int .i64 m] st=some (.str (iA n m),st):=by
 apply Call.eq
 rw[aN,A.k204 (by simp)]
 simp[A.b204]
 have hlen:(iA n m).length<2000:=by
  have:(de n).length<=19:=pK.1 (by omega)
  unfold iA
  simp;omega
 refine bG [(0,0),(5,23)] (fun e r s1=>s1=⟨st.h,st.n,[]⟩/\e=.exit 0/\r.get 5=some (.str (iA n m))) (fun q r s1=>s1=⟨st.h,st.n,[]⟩/\∃k s,q=k+(m-s.length)/\k<9223372036854775808/\r.get 0=some (.int .i64 k)/\r.get 5=some (.str s)/\iA n m=iA k (m-s.length)++s) (n+m) ?_ ?_ ?_
 ·exact⟨rfl,n,[],by simp,hn,by simp,by simp,by simp⟩
 ·rintro q r _ hr hf ⟨rfl,k,s,rfl,hk,h0,h5,hd⟩
  rw[bk]
  by_cases tM:k≠0\/0<m-s.length
  ·have dJ:=Ye2 (n:=k) (m:=m-s.length) tM
   rw[dJ,tv,P9]at hd
   have cy:s.length+1<2000:=by
    have:=congrArg List.length hd
    simp at this;omega
   have t1:(k:Int).tmod 10=((k%10:Nat):Int):=by rw[D5 (by omega)];omega
   have t2:(k:Int).tdiv 10=((k/10:Nat):Int):=by rw[Bl (by omega)];omega
   have t3:bl .i64 ((k/10:Nat):Int)=((k/10:Nat):Int):=cA (by omega) (by omega)
   have t4:bl .i64 (((k%10:Nat):Int)+1)=((k%10+1:Nat):Int):=by rw[cA (by omega) (by omega)];omega
   have OE:¬(9223372036854775807:Int)<1+(s.length:Int):=by omega
   have df:IntKind.max .i64=9223372036854775807:=rfl
   have sl:∀st:St,tV st (some (.str [48,49,50,51,52,53,54,55,56,57])) (some (some (.int .i64 ((k:Int)%10)))) (some (some (.int .i64 ((k:Int)%10+1))))=some (.str [cZ k],st):=fun st=>by
    rw[Zph (by omega) (by omega) (by simp;omega)]
    have e1:((k:Int)%10).toNat=k%10:=by omega
    have e2:((k:Int)%10+1).toNat=k%10+1:=by omega
    rw[e1,e2]
    have:=Yo5 (k:=k%10) (by omega)
    rw[Yo9]at this
    exact congrArg (fun x=>some (V.str x,st)) this
   have Hj:0<k\/(¬0<k/\s.length<m):=by omega
   rcases Hj with g1|⟨g1,g2⟩
   ·have i1:(0:Int)<(k:Int):=by omega
    simp(disch:=first|(simp;done)|omega|rfl) [A.nJ,hr,hf,h0,h5,g1,i1,t1,t2,t3,t4,g_,df,sl,OE]
    exact⟨k/10+(m-(s.length+1)),by omega,k/10,cZ k::s,by simp,by omega,by simp,by simp,by rw[hd,bp,Nat.sub_sub]⟩
   ·have i1:¬(0:Int)<(k:Int):=by omega
    have i2:(s.length:Int)<(m:Int):=by omega
    simp(disch:=first|(simp;done)|omega|rfl) [A.nJ,hr,hf,h0,h5,g1,g2,i1,i2,t1,t2,t3,t4,g_,df,sl,OE]
    exact⟨k/10+(m-(s.length+1)),by omega,k/10,cZ k::s,by simp,by omega,by simp,by simp,by rw[hd,bp,Nat.sub_sub]⟩
  ·have g1:¬0<k:=by omega
   have g2:¬s.length<m:=by omega
   have i1:¬(0:Int)<(k:Int):=by omega
   have i2:¬(s.length:Int)<(m:Int):=by omega
   obtain rfl:k=0:=by omega
   rw[show m-s.length=0 by omega,Ye1,List.nil_append]at hd
   simp[A.nJ,hr,hf,h0,h5,g1,g2,i1,i2,hd]
 ·rintro _ r _ hr ⟨rfl,rfl,h5⟩
  simp[hr,h5]
def OA:(ar n).length<=9*(ds n).length+1:=by
 have h1:n<10^(9*(ds n).length):=by
  have h2:=vG (fY n)
  rw[gm,QS]at h2
  have h3:=Int.ofNat_lt.1 h2
  rw[Nat.pow_mul]
  exact h3
 have:=pK.1 h1
 unfold ar
 split<;>simp<;>omega
def Zv6{k:Nat}:(ar (n/k)).length<=9*(ds n).length+1:=by
 have h1:=OA (n:=n/k)
 have h2:=uI (vu n k)
 omega
def Kg{h:T O}{N:Nat}{x:V}{z:Int}(hx:Rg h N x z)(hl:(ds z.natAbs).length<100000000000):Fn A.C 206 [x] h N (fun u _ _=>u=.str (aK z)):=by
 intro w
 obtain⟨u,rfl,hu⟩:=hx
 have o1:=Sl.form hu |>.one
 have o2:=Sl.form hu |>.cells
 unfold V.one at o1
 unfold V.cells at o2
 have kB:=((ab.refl (h:=h) (n:=N)).new (.cells [.bool (decide (z<0)),u] 146 true))
 have fm:Sl (h.set N (.cells [.bool (decide (z<0)),u] 146 true)) (N+1) u (dI (ds z.natAbs)):=Sl.ae hu kB
 have lu:=fm.len
 rw[ib]at lu
 rw[aN,A.k206 (by simp)]
 by_cases h0:z=0
 ·subst h0
  have e0:(ds (0:Int).natAbs).length=0:=by rw[show (0:Int).natAbs=0 from rfl,tB];rfl
  rw[e0]at lu
  have e1:aK 0=[48]:=by decide
  simp[A.b206,o1,o2,ad,lu,aE,aA,e1]
  exact kB
 obtain⟨n,hn⟩:∃n,z.natAbs=n:=⟨_,rfl⟩
 rw[hn]at lu fm hl
 have BW:n≠0:=by omega
 have ry:(ds n).length≠0:=fun hc=>BW (CH.1 (q8 hc))
 obtain⟨L,hL⟩:∃L,(ds n).length=L+1:=⟨(ds n).length-1,by omega⟩
 have yq:=fun (k:Nat)=>Zv6 (n:=n) (k:=k)
 rw[hL]at lu
 obtain⟨f,hF⟩:∃f:Nat->aM,∀m,f m=ar (n/1000000000^m):=⟨_,fun _=>rfl⟩
 obtain⟨g,hG⟩:∃g:Nat->Nat,∀m,g m=n/1000000000^m%1000000000:=⟨_,fun _=>rfl⟩
 have uM:f 0=ar n:=by rw[hF];simp
 have xK:∀m,g m<1000000000:=fun m=>by rw[hG];exact kZ _ (by omega)
 have hg:∀m,m<L+1->(ds n)[m]?=some (g m):=fun m hm=>by rw[hG];exact QQ (by omega)
 have Sf:f L=iA (g L) 1:=by rw[hF,hG];exact Yjk hL.symm
 have CW:∀m,m<L->f m=f (m+1)++iA (g m) 9:=fun m hm=>by rw[hF,hF,hG];exact Ye3 (by omega)
 have mA:∀m,(f m).length<=9*(L+1)+1:=fun m=>by rw[hF,<-hL];exact yq _
 clear hF hG yq
 obtain⟨i,o,c,e,rw,q1,q2,q3,q4⟩:=fm.at (ic (hg L (by omega)))
 have c1:¬((L:Int)+1=0):=by omega
 have c2:((L:Int)+1-1)=(L:Int):=by omega
 have c3:(L:Int)<(L:Int)+1:=by omega
 have c4:((L:Int)+1-2)=(L:Int)-1:=by omega
 have c5:bl .i64 ((L:Int)+1-1)=(L:Int):=by rw[c2];exact cA (by omega) (by omega)
 have c6:bl .i64 ((L:Int)+1-2)=(L:Int)-1:=by rw[c4];exact cA (by omega) (by omega)
 have H9:∀m st,A.C.call (.func 204 [] []) [.int .i64 (g m),.int .i64 1] st=some (.str (iA (g m) 1),st):=fun m st=>Kh (n:=g m) (m:=1) (st:=st) (by have:=xK m;omega) (by omega)
 have qj:∀m st,A.C.call (.func 204 [] []) [.int .i64 (g m),.int .i64 9] st=some (.str (iA (g m) 9),st):=fun m st=>Kh (n:=g m) (m:=9) (st:=st) (by have:=xK m;omega) (by omega)
 simp(disch:=omega) [A.b206,o1,o2,ad,lu,aE,c1,c2,c3,c5,c6,q1,q3,q4,H9]
 rw[<-Sf]
 refine bG [(3,4),(22,33)] (fun e r s1=>s1=⟨h.set N (.cells [.bool (decide (z<0)),u] 146 true),N+1,[]⟩/\e=.exit 0/\r.get 1=some (.ptr N 0)/\r.get 3=some (.str (ar n))) (fun m r s1=>s1=⟨h.set N (.cells [.bool (decide (z<0)),u] 146 true),N+1,[]⟩/\m<=L/\r.get 1=some (.ptr N 0)/\r.get 4=some (.int .i64 ((m:Int)-1))/\r.get 3=some (.str (f m))) L ?_ ?_ ?_
 ·exact⟨rfl,by omega,by simp,by simp,by simp⟩
 ·rintro m r _ hr hf ⟨rfl,hm,h1,h4,h3⟩
  rw[bk]
  rcases m with _|m
  ·have e1:(((0:Nat):Int)-1<0):=by omega
   rw[uM]at h3
   simp[A.r_,hr,hf,h1,h3,h4,e1]
  ·have e3:(((m+1:Nat):Int)-1)=(m:Int):=by omega
   have e4:¬((m:Int)<0):=by omega
   rw[e3]at h4
   obtain⟨i,o,c,e,rw,q1,q2,q3,q4⟩:=fm.at (ic (hg m (by omega)))
   have hp:(f m).length=(f (m+1)).length+(iA (g m) 9).length:=by rw[CW m (by omega),i_]
   have zg:¬(9223372036854775807:Int)<((f (m+1)).length:Int)+((iA (g m) 9).length:Int):=by have:=mA m;omega
   have df:IntKind.max .i64=9223372036854775807:=rfl
   have w1:bl .i64 ((m:Int)-1)=(m:Int)-1:=cA (by omega) (by omega)
   have c7:(m:Int)<(L:Int)+1:=by omega
   have f1:=(CW m (by omega)).symm
   have f2:m<m+1/\m<=L:=by omega
   have yg:=qj m
   clear hp ry BW hn hm hl hL CW mA qj H9 Sf hg xK uM
   simp[A.r_,hr,hf,h1,h3,h4,e4,o1,o2,ad,lu,c7,q1,q3,q4,yg,g_,df,zg,w1,f1]
   exact⟨m,f2.1,f2.2,rfl,rfl⟩
 ·rintro _ r _ hr ⟨rfl,rfl,h1,h3⟩
  have iV:=OA (n:=n)
  have df:IntKind.max .i64=9223372036854775807:=rfl
  have cy:¬(9223372036854775807:Int)<1+((ar n).length:Int):=by omega
  by_cases hz:z<0
  ·have e1:aK z=45::ar n:=by unfold aK;rw[ay hz,hn]
   clear iV ry BW hn hL CW mA qj H9 Sf hg xK uM hl
   simp[hr,h1,h3,hz,o1,o2,ad,g_,df,cy,aA,e1]
   simpa[hz]using kB
  ·have e1:aK z=ar n:=by unfold aK;rw[ak hz,hn]
   clear iV ry BW hn hL CW mA qj H9 Sf hg xK uM hl
   simp[hr,h1,h3,hz,o1,o2,ad,aA,e1]
   simpa[hz]using kB
open Go
def Yry{P d1 d2 d3 v1 v2 U' V' t r:Int}(hP:0<P)(HC:0<=U')(hU:U'<P)(xo:0<=V')(hV:V'<P)(h1:0<=d1)(fL:d1<1000000000)(h2:0<=d2)(h3:0<=d3)(w1:500000000<=v1)(w2:0<=v2)(w2':v2<1000000000)
  (hW:U'+P*(d1+1000000000*(d3*1000000000+d2))<1000000000*(V'+P*(v2+1000000000*v1))) (ht:d3*1000000000+d2=t*v1+r) (ef:0<=r) (jr:r<v1):
  0<=t/\t<=1000000001/\U'+P*(d1+1000000000*(d3*1000000000+d2))<(t+1)*(V'+P*(v2+1000000000*v1)):=by
 generalize hT:d3*1000000000+d2=T at*
 have hT0:0<=T:=by omega
 have t0:0<=t:=by
  apply Ea;intro hc
  have:t*v1<=(-1)*v1:=D4 (by omega) (by omega)
  omega
 have a1:T<1000000000*(v1+1):=by
  apply Je;intro hc
  have b1:P*(1000000000*(v1+1))<=P*T:=q9 hc (by omega)
  have b2:0<=P*d1:=xh (by omega) h1
  have b3:P*v2<=P*999999999:=q9 (by omega) (by omega)
  have b4:P*(d1+1000000000*T)=P*d1+1000000000*(P*T):=by grind
  have b5:P*(v2+1000000000*v1)=P*v2+1000000000*(P*v1):=by grind
  have b6:P*(1000000000*(v1+1))=1000000000*(P*v1)+1000000000*P:=by grind
  omega
 have a2:t<=1000000001:=by
  apply Ea;intro hc
  have b1:1000000002*v1<=t*v1:=D4 (by omega) (by omega)
  omega
 refine⟨t0,a2,?_⟩
 have c1:(t+1)*v1=t*v1+v1:=by grind
 have b1:P*(T+1)<=P*((t+1)*v1):=q9 (by omega) (by omega)
 have b2:P*d1<=P*999999999:=q9 (by omega) (by omega)
 have b3:0<=(t+1)*V':=xh (by omega) xo
 have b4:0<=(t+1)*(P*v2):=xh (by omega) (xh (by omega) w2)
 have b5:P*(d1+1000000000*T)=P*d1+1000000000*(P*T):=by grind
 have b6:(t+1)*(V'+P*(v2+1000000000*v1))=(t+1)*V'+(t+1)*(P*v2)+1000000000*(P*((t+1)*v1)):=by grind
 have b7:P*(T+1)=P*T+P:=by grind
 omega
set_option maxHeartbeats 2000000
def A.OF:=A.q Tryz.f244
def A.iE:=A.ql A.OF 0 []
def A.b244:=(fun x0=>A.qb A.OF [x0]) A.iE
def A.k244:=@A.kk 244 77 [.tmp 6] A.b244 (by kernel_rfl) rfl
structure GuR (W D v1 top:Int) (m:Nat) (r:T V):Prop where
 ex:∃t q:Int,t.toNat=m/\r.get 9=some (.int .i64 t)/\r.get 10=some (.int .i64 q)/\0<=t/\t<=1000000001/\0<=q/\q<1000000000/\top=t*v1+q/\W<(t+1)*D
def Yiy{h:T O}{N:Nat}{u v:V}{L Y:List Int}{j k:Nat}{d1 d2 d3 v1 v2 P U' V' W D:Int}{w:List Nat}(hu:Sl h N u (dI L))(hv:Sl h N v (dI Y))(hY:Y.length=k+2)(hL:L.length<1099511627776)(e1:L[j+k]?=some d1)(e2:L[j+k+1]?=some d2)(e3:L[j+k+2]?=some d3)(f2:Y[k]?=some v2)(f1:Y[k+1]?=some v1)
  (r1:0<=d1/\d1<1000000000) (r2:0<=d2/\d2<1000000000) (r3:0<=d3/\d3<1000000000) (r4:500000000<=v1/\v1<1000000000) (r5:0<=v2/\v2<1000000000) (hP:0<P) (HC:0<=U') (hU:U'<P) (xo:0<=V') (hV:V'<P) (hW:W=U'+P*(d1+1000000000*(d3*1000000000+d2))) (hD:D=V'+P*(v2+1000000000*v1)) (hWD:W<1000000000*D):
  ∃t,A.C.call (.func 244 [] []) [u,v,.int .i64 j] ⟨h,N,w⟩=some (.int .i64 t,⟨h,N,w⟩)/\0<=t/\t<=1000000000/\(t-1)*D<=W/\W<(t+1)*D:=by
 have lu:=hu.len
 have lv:=hv.len
 rw[ib]at lu lv
 rw[hY]at lv
 have p_:=f_ e3
 have goal:Call A.C (.func 244 [] []) [u,v,.int .i64 j] ⟨h,N,w⟩ (fun x s=>s=⟨h,N,w⟩/\∃t,x=.int .i64 t/\0<=t/\t<=1000000000/\(t-1)*D<=W/\W<(t+1)*D):=by
  obtain⟨a1,a2,a3,a4,a5,x1,x2,x3,x4⟩:=hu.at (ic e1)
  obtain⟨RA,a2',a3',a4',a5',x1',x2',x3',Ki⟩:=hu.at (ic e2)
  obtain⟨zaM,zaN,zaO,zaP,zaQ,Ir,zaR,Is,yz⟩:=hu.at (ic e3)
  rw[x1]at x1' Ir
  simp only[aq,bs]at x1' Ir
  obtain⟨rfl,rfl⟩:=x1'
  obtain⟨rfl,rfl⟩:=Ir
  rw[x3]at x3' Is
  simp only[aq,O.cells.injEq]at x3' Is
  obtain⟨rfl,rfl,rfl⟩:=x3'
  obtain⟨rfl,_,_⟩:=Is
  obtain⟨b1,b2,b3,b4,b5,y1,y2,y3,y4⟩:=hv.at (ic f2)
  obtain⟨b1',b2',b3',b4',b5',y1',y2',y3',Kj⟩:=hv.at (ic f1)
  rw[y1]at y1'
  simp only[aq,bs]at y1'
  obtain⟨rfl,rfl⟩:=y1'
  rw[y3]at y3'
  simp only[aq,O.cells.injEq]at y3'
  obtain⟨rfl,_,_⟩:=y3'
  have c1:((k:Int)+2-1)=(k:Int)+1:=by omega
  have c2:((j:Int)+((k:Int)+2)-1)=(j:Int)+(k:Int)+1:=by omega
  have c3:((j:Int)+((k:Int)+2)-2)=(j:Int)+(k:Int):=by omega
  have c4:((k:Int)+2-2)=(k:Int):=by omega
  have c5:((j:Int)+((k:Int)+2))=(j:Int)+(k:Int)+2:=by omega
  have i1:(j:Int)+(k:Int)+2<(L.length:Int):=by omega
  have i2:(j:Int)+(k:Int)+1<(L.length:Int):=by omega
  have i3:(j:Int)+(k:Int)<(L.length:Int):=by omega
  have i4:(0:Int)<=(j:Int)+(k:Int)+2:=by omega
  have i5:(0:Int)<=(j:Int)+(k:Int)+1:=by omega
  have i6:(0:Int)<=(j:Int)+(k:Int):=by omega
  have n1:((j:Int)+(k:Int)+2).toNat=j+k+2:=by omega
  have n2:((j:Int)+(k:Int)+1).toNat=j+k+1:=by omega
  have n3:((j:Int)+(k:Int)).toNat=j+k:=by omega
  have n4:((k:Int)+1).toNat=k+1:=by omega
  have k1:(k:Int)+1<(k:Int)+2:=by omega
  have k2:(k:Int)<(k:Int)+2:=by omega
  have k3:(0:Int)<=(k:Int)+1:=by omega
  have u1:bl .i64 (d3*1000000000)=d3*1000000000:=cA (by omega) (by omega)
  have u2:bl .i64 (d3*1000000000+d2)=d3*1000000000+d2:=cA (by omega) (by omega)
  have s0:0<=d3*1000000000+d2:=by omega
  have v0:¬v1=0:=by omega
  have t1:(d3*1000000000+d2).tdiv v1=(d3*1000000000+d2)/v1:=Bl s0
  have t2:(d3*1000000000+d2).tmod v1=(d3*1000000000+d2)%v1:=D5 s0
  have t3:=D8 (d3*1000000000+d2) v1
  have t4:=D6 (d3*1000000000+d2) v0
  have t5:=D9 (d3*1000000000+d2) (b:=v1) (by omega)
  have gi:=Yry (t:=(d3*1000000000+d2)/v1) (r:=(d3*1000000000+d2)%v1) hP HC hU xo hV r1.1 r1.2 r2.1 r3.1 r4.1 r5.1 r5.2 (by rw[<-hW,<-hD];exact hWD) (by rw[Int.mul_comm (_/_) v1];exact t3.symm) t4 t5
  rw[<-hW,<-hD]at gi
  obtain⟨g1,g2,g3⟩:=gi
  have t6:bl .i64 ((d3*1000000000+d2)/v1)=(d3*1000000000+d2)/v1:=cA (by omega) (by omega)
  rw[aN,A.k244 (by simp)]
  simp(disch:=first|(simp;done)|omega|rfl) [A.b244,lv,lu,c1,c2,c3,c4,c5,i1,i2,i3,i4,i5,i6,n1,n2,n3,n4,k1,k2,k3,x1,x2,x3,x4,Ki,yz,y1,y2,y3,y4,Kj,u1,u2,v0,t1,t2,t6]
  generalize AI:d3*1000000000+d2=D1 at*
  refine bG [(6,6),(9,10),(42,75)] (fun e r st=>st=⟨h,N,[]⟩/\((e=.exit 0/\∃t,r.get 9=some (.int .i64 t)/\0<=t/\t<=1000000000/\(t-1)*D<=W/\W<(t+1)*D)\/(e=.ret/\∃t,r.get 6=some (.int .i64 t)/\0<=t/\t<=1000000000/\(t-1)*D<=W/\W<(t+1)*D))) (fun m r st=>st=⟨h,N,[]⟩/\GuR W D v1 D1 m r) (D1/v1).toNat ?_ ?_ ?_
  ·exact⟨rfl,⟨D1/v1,D1%v1,rfl,by simp,by simp,g1,g2,t4,by omega,by rw[Int.mul_comm (_/_) v1];exact t3.symm,g3⟩⟩
  ·rintro m r _ hr hf ⟨rfl,⟨t,q,rfl,h9,fx,Sg,tq1,q0,q1,j9,ax⟩⟩
   rw[bk]
   by_cases hA:1000000000<=t
   ·have ax:W<t*D:=by
     have d0:0<=D:=by
      have:=xh (uE hP) (show 0<=v2+1000000000*v1 by omega)
      omega
     have:=D4 hA d0
     omega
    have tp:1<=t:=by omega
    have kp:bl .i64 (q+v1)=q+v1:=cA (by omega) (by omega)
    have xb:bl .i64 (t-1)=t-1:=cA (by omega) (by omega)
    have e5:D1=t*v1+q:=j9
    have e6:(t-1)*v1+(q+v1)=t*v1+q:=by grind
    by_cases pr:1000000000<=q+v1
    ·simp(disch:=first|(simp;done)|omega|rfl) [A.iE,hr,hf,h9,fx,lv,lu,c1,c2,c3,c4,c5,i1,i2,i3,i4,i5,i6,n1,n2,n3,n4,k1,k2,k3,x1,x2,x3,x4,Ki,yz,y1,y2,y3,y4,Kj,hA,kp,xb,pr]
     refine⟨by omega,by omega,?_,ax⟩
     have m1:(t-1)*v2<=1000000000*v2:=D4 (by omega) r5.1
     have:=Wh (t:=t-1) (r:=q+v1) (v1:=v1) (u1:=D1) hP HC r1.1 s0 (by omega) r5.1 xo hV (by omega) (by omega) (by rw[e6];exact j9) (by omega)
     rw[hW,hD]
     exact this
    ·simp(disch:=first|(simp;done)|omega|rfl) [A.iE,hr,hf,h9,fx,lv,lu,c1,c2,c3,c4,c5,i1,i2,i3,i4,i5,i6,n1,n2,n3,n4,k1,k2,k3,x1,x2,x3,x4,Ki,yz,y1,y2,y3,y4,Kj,hA,kp,xb,pr]
     exact⟨(t-1).toNat,by omega,⟨t-1,q+v1,rfl,by simp,by simp,by omega,by omega,by omega,by omega,by rw[e6];exact j9,by rw[show t-1+1=t by omega];exact ax⟩⟩
   ·have hA':¬1000000000<=t:=hA
    have m0:0<=t*v2:=xh Sg r5.1
    have m1:t*v2<=1000000000*1000000000:=Int.mul_le_mul (by omega) (by omega) r5.1 (by omega)
    have b1':bl .i64 (t*v2)=t*v2:=cA (by omega) (by omega)
    have b2':bl .i64 (q*1000000000)=q*1000000000:=cA (by omega) (by omega)
    have b3':bl .i64 (q*1000000000+d1)=q*1000000000+d1:=cA (by omega) (by omega)
    by_cases hB:q*1000000000+d1<t*v2
    ·have ax:W<t*D:=by
      have:=Yoc (t:=t) (r:=q) (v1:=v1) (u1:=D1) hP hU xo Sg j9 hB
      rw[hW,hD];exact this
     have tz:t≠0:=fun hc=>by rw[hc]at hB;simp at hB;omega
     have tp:1<=t:=by omega
     have kp:bl .i64 (q+v1)=q+v1:=cA (by omega) (by omega)
     have xb:bl .i64 (t-1)=t-1:=cA (by omega) (by omega)
     have e5:D1=t*v1+q:=j9
     have e6:(t-1)*v1+(q+v1)=t*v1+q:=by grind
     by_cases pr:1000000000<=q+v1
     ·simp(disch:=first|(simp;done)|omega|rfl) [A.iE,hr,hf,h9,fx,lv,lu,c1,c2,c3,c4,c5,i1,i2,i3,i4,i5,i6,n1,n2,n3,n4,k1,k2,k3,x1,x2,x3,x4,Ki,yz,y1,y2,y3,y4,Kj,hA',b1',b2',b3',hB,kp,xb,pr]
      refine⟨by omega,by omega,?_,ax⟩
      have m1:(t-1)*v2<=1000000000*v2:=D4 (by omega) r5.1
      have:=Wh (t:=t-1) (r:=q+v1) (v1:=v1) (u1:=D1) hP HC r1.1 s0 (by omega) r5.1 xo hV (by omega) (by omega) (by rw[e6];exact j9) (by omega)
      rw[hW,hD]
      exact this
     ·simp(disch:=first|(simp;done)|omega|rfl) [A.iE,hr,hf,h9,fx,lv,lu,c1,c2,c3,c4,c5,i1,i2,i3,i4,i5,i6,n1,n2,n3,n4,k1,k2,k3,x1,x2,x3,x4,Ki,yz,y1,y2,y3,y4,Kj,hA',b1',b2',b3',hB,kp,xb,pr]
      exact⟨(t-1).toNat,by omega,⟨t-1,q+v1,rfl,by simp,by simp,by omega,by omega,by omega,by omega,by rw[e6];exact j9,by rw[show t-1+1=t by omega];exact ax⟩⟩
    ·simp(disch:=first|(simp;done)|omega|rfl) [A.iE,hr,hf,h9,fx,lv,lu,c1,c2,c3,c4,c5,i1,i2,i3,i4,i5,i6,n1,n2,n3,n4,k1,k2,k3,x1,x2,x3,x4,Ki,yz,y1,y2,y3,y4,Kj,hA',b1',b2',b3',hB]
     refine⟨Sg,by omega,?_,ax⟩
     have:=Wh (t:=t) (r:=q) (u1:=D1) hP HC r1.1 s0 (by omega) r5.1 xo hV Sg (by omega) j9 (by omega)
     rw[hW,hD];exact this
  ·rintro e r _ hr ⟨rfl,⟨rfl,t,h9,ht⟩|⟨rfl,t,h6,ht⟩⟩
   ·simp[hr,h9];exact ht
   ·simp[hr,h6];exact ht
 obtain⟨x,s,hc,rfl,t,rfl,h1,h2,h3,h4⟩:=goal.ex
 exact⟨t,hc,h1,h2,h3,h4⟩
def A.AS:=A.q Tryz.f200
def A.nK:=A.ql A.AS 3 []
def A.ka:=A.ql A.AS 2 []
def A.nH:=(fun x0 x1=>A.ql A.AS 1 [x0,x1]) A.ka A.nK
def A.nI:=A.ql A.AS 0 []
def A.b200:=(fun x0 x1=>A.qb A.AS [x0,x1]) A.nI A.nH
def A.k200:=@A.kk 200 206 [.tmp 4,.tmp 5] A.b200 (by kernel_rfl) rfl
structure ZO (N:Nat) (h2:T O) (n2 iu iq n:Nat) (U Q:List Int) (st:St):Prop where
 w:av N st.w=[]
 ae:ab h2 n2 st.h n
 n:st.n=n
 ru:st.h.get iu=some (.cells (dI U) 3 true)
 rq:st.h.get iq=some (.cells (dI Q) 3 true)
structure DvR (r0:T V) (v:V) (iu lu L j:Nat):Prop where
 r9:r0.get 9=some v
 tZ:r0.get 10=some (.int .i64 L)
 v_:r0.get 11=some (.slice iu 0 lu none 1)
 uL:r0.get 13=some (.int .i64 j)
structure N6 (N:Nat) (h2:T O) (n2 iu iq n:Nat) (U Q Y:List Int) (L j:Nat) (t:Int) (m:Nat) (r:T V) (st:St):Prop where
 ex:∃i U' c,i+m=L/\r.get 16=some (.int .i64 i)/\r.get 15=some (.int .i64 c)/\0<=c/\c<=1000000000/\ZO N h2 n2 iu iq n U' Q st/\U'.length=U.length/\(∀s,(s<j\/j+i<=s)->U'[s]?=U[s]?)/\Di U'/\vI U'-pI (j+i)*c=vI U-pI j*(t*vI (Y.take i))
def Ygp{N:Nat}{h2:T O}{n2 iu iq n:Nat}{U Q Y:List Int}{L j:Nat}{t:Int}{v:V}{r0:T V}(hv:Sl h2 n2 v (dI Y))(hY:Y.length=L)(dY:Di Y)(F3:j+L<U.length)(wM:U.length<1099511627776)(R:DvR r0 v iu U.length L j)(J3:r0.get 14=some (.int .i64 t))(t0:0<=t)(t1:t<=1000000000)(a1:N<=n2)(a2:n2<=iu)(a3:iu<iq)(a4:iq<n):
  ∀k r st,(∀t,jS [(15,18),(90,125)] t=false->r.get t=r0.get t)->Fx [(15,18),(90,125)] r0 206 ⟨r,206,[]⟩->N6 N h2 n2 iu iq n U Q Y L j t k r st->Code A.C none A.ka ⟨r,206,[]⟩ st (Rd [(15,18),(90,125)] r0 206 (N6 N h2 n2 iu iq n U Q Y L j t) k (fun e r st=>e=.exit 4/\N6 N h2 n2 iu iq n U Q Y L j t 0 r st)):=by
 rintro m r ⟨H,n1,W⟩ hr hf ⟨i,U',c,hi,Oa,De,c0,c1,⟨hW,hK,hn,ru,rq⟩,ji,eD,iQ,im⟩
 simp only at hW hK hn ru rq
 subst hn
 obtain⟨r9,tZ,v_,uL⟩:=R
 rw[bk]
 cases m with
 |zero=>
  have:i=L:=by omega
  subst this
  simp[A.ka,hr,hf,Oa,tZ]
  exact⟨i,U',c,by omega,by simp[Oa],by simp[De],c0,c1,⟨hW,hK,rfl,ru,rq⟩,ji,eD,iQ,im⟩
 |succ m=>
  obtain⟨y,hy⟩:=bh (l:=Y) (k:=i) (by omega)
  have lv:=hv.len
  rw[ib,hY]at lv
  obtain⟨b1,b2,b3,b4,b5,z1,z2,z3,z4⟩:=hv.at (ic hy)
  have z3:=(hK.get _ z2).trans z3
  have Kd:=dY.get hy
  obtain⟨o,ho⟩:=bh (l:=U') (k:=i+j) (by omega)
  have hod:=iQ.get ho
  have xF:(i:Int)<(L:Int):=by omega
  have zi:i<L:=by omega
  have p0:0<=t*y:=xh t0 Kd.1
  have p1:t*y<=1000000000*999999999:=Int.mul_le_mul t1 (by omega) Kd.1 (by omega)
  have q1:(i:Int)+(j:Int)<(U.length:Int):=by omega
  have q2:i+j<U.length:=by omega
  have q3:(0:Int)<=(i:Int)+(j:Int):=by omega
  have nn:¬iu<N:=by omega
  have w8:=ib U'
  have hsu:=CG ho
  have KH:=ze hy
  have hp:=Qi i j
  have uy:=vE (j+i)
  generalize hP:t*y=P at*
  have b1':bl .i64 P=P:=cA (by omega) (by omega)
  have b2':bl .i64 (P+c)=P+c:=cA (by omega) (by omega)
  have Sh:(P+c).tmod 1000000000=(P+c)%1000000000:=D5 (by omega)
  have Si:(P+c).tdiv 1000000000=(P+c)/1000000000:=Bl (by omega)
  have hm:=D8 (P+c) 1000000000
  have e0:=D6 (P+c) (b:=1000000000) (by decide)
  have e1:=D9 (P+c) (b:=1000000000) (by decide)
  have key:∀(x' c':Int),x'-1000000000*c'=o-(P+c)->vI (U'.set (i+j) x')-pI (j+(i+1))*c'=vI U-pI j*(t*vI (Y.take (i+1))):=by
   intro x' c' hx
   rw[hsu,KH,show j+(i+1)=j+i+1 by omega,uy,show i+j=j+i by omega]
   have h3:vI U'=vI U-pI j*(t*vI (Y.take i))+pI (j+i)*c:=by omega
   have h4:x'=o-(P+c)+1000000000*c':=by omega
   rw[h3,h4,show j+i=i+j by omega,hp,<-hP]
   grind
  have same:∀(x':Int) (s:Nat),(s<j\/j+(i+1)<=s)->(U'.set (i+j) x')[s]?=U[s]?:=by
   intro x' s hs
   rw[dW (by omega)]
   exact eD s (by omega)
  generalize (P+c)/1000000000=D at*
  generalize (P+c)%1000000000=M at*
  have b3':bl .i64 D=D:=cA (by omega) (by omega)
  have b4':bl .i64 (o-M)=o-M:=cA (by omega) (by omega)
  have d4:b1<n1:=by have:=hK.le;omega
  have d5:¬iq=iu:=by omega
  by_cases er:o-M<0
  ·have b5':bl .i64 (o-M+1000000000)=o-M+1000000000:=cA (by omega) (by omega)
   have b6':bl .i64 (D+1)=D+1:=cA (by omega) (by omega)
   have w7:=Bz (l:=U') (k:=i+j) (v:=o-M+1000000000) (by omega)
   simp(disch:=first|(simp;done)|omega|rfl) [-getElem?_pos,A.ka,hr,hf,Oa,De,r9,tZ,v_,uL,J3,xF,zi,lv,q1,q2,q3,ru,ic ho,z1,z2,z3,z4,hP,b1',b2',b3',b4',b5',b6',Sh,Si,er,w7]
   refine⟨m,by omega,⟨i+1,U'.set (i+j) (o-M+1000000000),D+1,by omega,by simp,by simp,by omega,by omega,⟨by simp[av,hW,nn],hK.set (by omega),rfl,by simp,by simp[d5,rq]⟩,by simp[ji],same _,iQ.set (by omega) (by omega),key _ _ (by omega)⟩⟩
  ·have w7:=Bz (l:=U') (k:=i+j) (v:=o-M) (by omega)
   simp(disch:=first|(simp;done)|omega|rfl) [-getElem?_pos,A.ka,hr,hf,Oa,De,r9,tZ,v_,uL,J3,xF,zi,lv,q1,q2,q3,ru,ic ho,z1,z2,z3,z4,hP,b1',b2',b3',b4',Sh,Si,er,w7]
   refine⟨m,by omega,⟨i+1,U'.set (i+j) (o-M),D,by omega,by simp,by simp,by omega,by omega,⟨by simp[av,hW,nn],hK.set (by omega),rfl,by simp,by simp[d5,rq]⟩,by simp[ji],same _,iQ.set (by omega) (by omega),key _ _ (by omega)⟩⟩
structure Oc (N:Nat) (h2:T O) (n2 iu iq n:Nat) (U Q Y:List Int) (L j:Nat) (m:Nat) (r:T V) (st:St):Prop where
 ex:∃i U' c,i+m=L/\r.get 20=some (.int .i64 i)/\r.get 19=some (.int .i64 c)/\0<=c/\c<=1/\ZO N h2 n2 iu iq n U' Q st/\U'.length=U.length/\(∀s,(s<j\/j+i<=s)->U'[s]?=U[s]?)/\(∀(s:Nat) (d:Int),s≠j+L->U'[s]?=some d->0<=d/\d<1000000000)/\vI U'+pI (j+i)*c=vI U+pI j*vI (Y.take i)
def Yj9{N:Nat}{h2:T O}{n2 iu iq n:Nat}{U Q Y:List Int}{L j:Nat}{v:V}{r0:T V}(hv:Sl h2 n2 v (dI Y))(hY:Y.length=L)(dY:Di Y)(F3:j+L<U.length)(wM:U.length<1099511627776)(R:DvR r0 v iu U.length L j)(a1:N<=n2)(a2:n2<=iu)(a3:iu<iq)(a4:iq<n):
  ∀k r st,(∀t,jS [(19,21),(148,174)] t=false->r.get t=r0.get t)->Fx [(19,21),(148,174)] r0 206 ⟨r,206,[]⟩->Oc N h2 n2 iu iq n U Q Y L j k r st->Code A.C none A.nK ⟨r,206,[]⟩ st (Rd [(19,21),(148,174)] r0 206 (Oc N h2 n2 iu iq n U Q Y L j) k (fun e r st=>e=.exit 6/\Oc N h2 n2 iu iq n U Q Y L j 0 r st)):=by
 rintro m r ⟨H,n1,W⟩ hr hf ⟨i,U',c,hi,RZ,R4,c0,c1,⟨hW,hK,hn,ru,rq⟩,ji,eD,iQ,im⟩
 simp only at hW hK hn ru rq
 subst hn
 obtain⟨r9,tZ,v_,uL⟩:=R
 rw[bk]
 cases m with
 |zero=>
  have:i=L:=by omega
  subst this
  simp[A.nK,hr,hf,RZ,tZ]
  exact⟨i,U',c,by omega,by simp[RZ],by simp[R4],c0,c1,⟨hW,hK,rfl,ru,rq⟩,ji,eD,iQ,im⟩
 |succ m=>
  obtain⟨y,hy⟩:=bh (l:=Y) (k:=i) (by omega)
  have lv:=hv.len
  rw[ib,hY]at lv
  obtain⟨b1,b2,b3,b4,b5,z1,z2,z3,z4⟩:=hv.at (ic hy)
  have z3:=(hK.get _ z2).trans z3
  have Kd:=dY.get hy
  obtain⟨o,ho⟩:=bh (l:=U') (k:=i+j) (by omega)
  have hod:=iQ _ _ (by omega) ho
  have xF:(i:Int)<(L:Int):=by omega
  have zi:i<L:=by omega
  have q1:(i:Int)+(j:Int)<(U.length:Int):=by omega
  have q2:i+j<U.length:=by omega
  have q3:(0:Int)<=(i:Int)+(j:Int):=by omega
  have nn:¬iu<N:=by omega
  have w8:=ib U'
  have hsu:=CG ho
  have KH:=ze hy
  have hp:=Qi i j
  have uy:=vE (j+i)
  have b1':bl .i64 (o+y)=o+y:=cA (by omega) (by omega)
  have b2':bl .i64 (o+y+c)=o+y+c:=cA (by omega) (by omega)
  have Sh:(o+y+c).tmod 1000000000=(o+y+c)%1000000000:=D5 (by omega)
  have Si:(o+y+c).tdiv 1000000000=(o+y+c)/1000000000:=Bl (by omega)
  have hm:=D8 (o+y+c) 1000000000
  have e0:=D6 (o+y+c) (b:=1000000000) (by decide)
  have e1:=D9 (o+y+c) (b:=1000000000) (by decide)
  have w7:=Bz (l:=U') (k:=i+j) (v:=(o+y+c)%1000000000) (by omega)
  have d4:b1<n1:=by have:=hK.le;omega
  have d5:¬iq=iu:=by omega
  have d6:iu<n1:=by omega
  have b3':bl .i64 ((o+y+c)/1000000000)=(o+y+c)/1000000000:=cA (by omega) (by omega)
  simp(disch:=first|(simp;done)|omega|rfl) [-getElem?_pos,A.nK,hr,hf,RZ,R4,r9,tZ,v_,uL,xF,zi,lv,q1,q2,q3,ru,ic ho,z1,z2,z3,z4,b1',b2',b3',Sh,Si,w7,d4,d6]
  generalize (o+y+c)/1000000000=D at*
  generalize (o+y+c)%1000000000=M at*
  refine⟨m,by omega,⟨i+1,U'.set (i+j) M,D,by omega,by simp,by simp,by omega,by omega,⟨by simp[av,hW,nn],hK.set (by omega),rfl,by simp,by simp[d5,rq]⟩,by simp[ji],fun s hs=>?_,fun s d hs hd=>?_,?_⟩⟩
  ·rw[dW (by omega)]
   exact eD s (by omega)
  ·by_cases hsi:s=i+j
   ·subst hsi
    rw[gK (by omega)]at hd
    simp at hd
    omega
   ·rw[dW (fun h=>hsi h.symm)]at hd
    exact iQ s d hs hd
  ·rw[hsu,KH,show j+(i+1)=j+i+1 by omega,uy,show i+j=j+i by omega]
   have h3:vI U'=vI U+pI j*vI (Y.take i)-pI (j+i)*c:=by omega
   have h4:M=o+y+c-1000000000*D:=by omega
   rw[h3,h4,show j+i=i+j by omega,hp]
   grind
end
end Go.Mx
