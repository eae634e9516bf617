/-lensletref01-/
import Derived.Test.YtdlikflhcjmkeaaGreatDoorMxP
set_option linter.all false
namespace Go.Mx
noncomputable section
open Go Go.Proofs
set_option maxHeartbeats 2000000
set_option maxRecDepth 1000000
def A.w231:=A.q Tryz.f231
def A.lb231_0:=A.ql A.w231 0 []
def A.b231:=(fun x0=>A.qb A.w231 [x0]) A.lb231_0
def A.k231:=@A.kk 231 77 [.tmp 6] A.b231 (by kernel_rfl) rfl
structure GuR (W D v1 top:Int) (m:Nat) (r:T V):Prop where
 ex:∃t q:Int,t.toNat=m∧r.get 9=some (.int .i64 t)∧r.get 10=some (.int .i64 q)∧0≤t∧t≤1000000001∧0≤q∧q<1000000000∧top=t*v1+q∧W<(t+1)*D
def Yey{h:T O}{N:Nat}{u v:V}{L Y:List Int}{j k:Nat}{d1 d2 d3 v1 v2 P U' V' W D:Int}{w:List Nat}(hu:Sl h N u (dI L))(hv:Sl h N v (dI Y))(hY:Y.length=k+2)(hL:L.length<1099511627776)(e1:L[j+k]?=some d1)(e2:L[j+k+1]?=some d2)(e3:L[j+k+2]?=some d3)(f2:Y[k]?=some v2)(f1:Y[k+1]?=some v1)
  (r1:0≤d1∧d1<1000000000) (r2:0≤d2∧d2<1000000000) (r3:0≤d3∧d3<1000000000) (r4:500000000≤v1∧v1<1000000000) (r5:0≤v2∧v2<1000000000) (hP:0<P) (hU0:0≤U') (hU:U'<P) (hV0:0≤V') (hV:V'<P) (hW:W=U'+P*(d1+1000000000*(d3*1000000000+d2))) (hD:D=V'+P*(v2+1000000000*v1)) (hWD:W<1000000000*D):
  ∃t,A.C.call (.func 231 [] []) [u,v,.int .i64 j] ⟨h,N,w⟩=some (.int .i64 t,⟨h,N,w⟩)∧0≤t∧t≤1000000000∧(t-1)*D≤W∧W<(t+1)*D:=by
 have lu:=hu.len
 have lv:=hv.len
 rw[Zas]at lu lv
 rw[hY]at lv
 have hjk:=Zct e3
 have goal:Call A.C (.func 231 [] []) [u,v,.int .i64 j] ⟨h,N,w⟩ (fun x s=>s=⟨h,N,w⟩∧∃t,x=.int .i64 t∧0≤t∧t≤1000000000∧(t-1)*D≤W∧W<(t+1)*D):=by
  obtain⟨a1,a2,a3,a4,a5,x1,x2,x3,x4⟩:=hu.at (Zbf e1)
  obtain⟨a1',a2',a3',a4',a5',x1',x2',x3',x4'⟩:=hu.at (Zbf e2)
  obtain⟨a1'',a2'',a3'',a4'',a5'',x1'',x2'',x3'',x4''⟩:=hu.at (Zbf e3)
  rw[x1]at x1' x1''
  simp only[Yqc,Yqf]at x1' x1''
  obtain⟨rfl,rfl⟩:=x1'
  obtain⟨rfl,rfl⟩:=x1''
  rw[x3]at x3' x3''
  simp only[Yqc,O.cells.injEq]at x3' x3''
  obtain⟨rfl,rfl,rfl⟩:=x3'
  obtain⟨rfl,_,_⟩:=x3''
  obtain⟨b1,b2,b3,b4,b5,y1,y2,y3,y4⟩:=hv.at (Zbf f2)
  obtain⟨b1',b2',b3',b4',b5',y1',y2',y3',y4'⟩:=hv.at (Zbf f1)
  rw[y1]at y1'
  simp only[Yqc,Yqf]at y1'
  obtain⟨rfl,rfl⟩:=y1'
  rw[y3]at y3'
  simp only[Yqc,O.cells.injEq]at y3'
  obtain⟨rfl,_,_⟩:=y3'
  have c1:((k:Int)+2-1)=(k:Int)+1:=by omega
  have c4:((k:Int)+2-2)=(k:Int):=by omega
  have c5:((j:Int)+((k:Int)+2))=(j:Int)+(k:Int)+2:=by omega
  have n1:((j:Int)+(k:Int)+2).toNat=j+k+2:=by omega
  have n3:((j:Int)+(k:Int)).toNat=j+k:=by omega
  have n4:((k:Int)+1).toNat=k+1:=by omega
  have k2:(k:Int)<(k:Int)+2:=by omega
  have k3:(0:Int)≤(k:Int)+1:=by omega
  have u1:Zao .i64 (d3*1000000000)=d3*1000000000:=Zag (by omega) (by omega)
  have u2:Zao .i64 (d3*1000000000+d2)=d3*1000000000+d2:=Zag (by omega) (by omega)
  have s0:0≤d3*1000000000+d2:=by omega
  have v0:¬v1=0:=by omega
  have t1:(d3*1000000000+d2).tdiv v1=(d3*1000000000+d2)/v1:=Yrk s0
  have t2:(d3*1000000000+d2).tmod v1=(d3*1000000000+d2)%v1:=Yr3 s0
  have t3:=Ysl (d3*1000000000+d2) v1
  have t4:=Yti (d3*1000000000+d2) v0
  have t5:=Ysw (d3*1000000000+d2) (b:=v1) (by omega)
  have gi:=Yl0 (t:=(d3*1000000000+d2)/v1) (r:=(d3*1000000000+d2)%v1) hP hU0 hU hV0 hV r1.1 r1.2 r2.1 r3.1 r4.1 r5.1 r5.2 (by rw[←hW,←hD];exact hWD) (by rw[Int.mul_comm (_/_) v1];exact t3.symm) t4 t5
  rw[←hW,←hD]at gi
  obtain⟨g1,g2,g3⟩:=gi
  have t6:Zao .i64 ((d3*1000000000+d2)/v1)=(d3*1000000000+d2)/v1:=Zag (by omega) (by omega)
  rw[Zab,A.k231 (by simp)]
  simp(disch:=first|(simp;done)|omega|rfl) [A.b231,lv,lu,c1,c5,n1,n4,x1,x2,x3,x4',x4'',y1,y2,y3,y4',u1,u2,t1,t2,t6]
  generalize hD1:d3*1000000000+d2=D1 at*
  refine Zaj [(6,6),(9,10),(42,75)] (fun e r st=>st=⟨h,N,[]⟩∧((e=.exit 0∧∃t,r.get 9=some (.int .i64 t)∧0≤t∧t≤1000000000∧(t-1)*D≤W∧W<(t+1)*D)∨(e=.ret∧∃t,r.get 6=some (.int .i64 t)∧0≤t∧t≤1000000000∧(t-1)*D≤W∧W<(t+1)*D))) (fun m r st=>st=⟨h,N,[]⟩∧GuR W D v1 D1 m r) (D1/v1).toNat ?_ ?_ ?_
  ·exact⟨rfl,⟨D1/v1,D1%v1,rfl,by simp,by simp,g1,g2,t4,by omega,by rw[Int.mul_comm (_/_) v1];exact t3.symm,g3⟩⟩
  ·rintro m r _ hr hf ⟨rfl,⟨t,q,rfl,h9,h10,tq0,tq1,q0,q1,htop,hlt⟩⟩
   rw[Zai]
   by_cases hA:1000000000≤t
   ·have hlt:W<t*D:=by
     have d0:0≤D:=by
      have:=Yr6 (Yr8 hP) (show 0≤v2+1000000000*v1 by omega)
      omega
     have:=Yru hA d0
     omega
    have tp:1≤t:=by omega
    have hq2:Zao .i64 (q+v1)=q+v1:=Zag (by omega) (by omega)
    have ht2:Zao .i64 (t-1)=t-1:=Zag (by omega) (by omega)
    have e5:D1=t*v1+q:=htop
    have e6:(t-1)*v1+(q+v1)=t*v1+q:=by grind
    by_cases hge:1000000000≤q+v1
    ·simp(disch:=first|(simp;done)|omega|rfl) [A.lb231_0,hr,hf,h9,h10,lv,c1,n4,y1,y3,y4',hA,hq2,ht2,hge]
     refine⟨by omega,by omega,?_,hlt⟩
     have m1:(t-1)*v2≤1000000000*v2:=Yru (by omega) r5.1
     have:=Ztd (t:=t-1) (r:=q+v1) (v1:=v1) (u1:=D1) hP hU0 r1.1 s0 (by omega) r5.1 hV0 hV (by omega) (by omega) (by rw[e6];exact htop) (by omega)
     rw[hW,hD]
     exact this
    ·simp(disch:=first|(simp;done)|omega|rfl) [A.lb231_0,hr,hf,h9,h10,lv,c1,n4,y1,y3,y4',hA,hq2,ht2,hge]
     exact⟨(t-1).toNat,by omega,⟨t-1,q+v1,rfl,by simp,by simp,by omega,by omega,by omega,by omega,by rw[e6];exact htop,by rw[show t-1+1=t by omega];exact hlt⟩⟩
   ·have hA':¬1000000000≤t:=hA
    have m0:0≤t*v2:=Yr6 tq0 r5.1
    have m1:t*v2≤1000000000*1000000000:=Int.mul_le_mul (by omega) (by omega) r5.1 (by omega)
    have b1':Zao .i64 (t*v2)=t*v2:=Zag (by omega) (by omega)
    have b2':Zao .i64 (q*1000000000)=q*1000000000:=Zag (by omega) (by omega)
    have b3':Zao .i64 (q*1000000000+d1)=q*1000000000+d1:=Zag (by omega) (by omega)
    by_cases hB:q*1000000000+d1<t*v2
    ·have hlt:W<t*D:=by
      have:=Yjb (t:=t) (r:=q) (v1:=v1) (u1:=D1) hP hU hV0 tq0 htop hB
      rw[hW,hD];exact this
     have tz:t≠0:=fun hc=>by rw[hc]at hB;simp at hB;omega
     have tp:1≤t:=by omega
     have hq2:Zao .i64 (q+v1)=q+v1:=Zag (by omega) (by omega)
     have ht2:Zao .i64 (t-1)=t-1:=Zag (by omega) (by omega)
     have e5:D1=t*v1+q:=htop
     have e6:(t-1)*v1+(q+v1)=t*v1+q:=by grind
     by_cases hge:1000000000≤q+v1
     ·simp(disch:=first|(simp;done)|omega|rfl) [A.lb231_0,hr,hf,h9,h10,lv,lu,c1,c4,c5,n3,n4,x1,x2,x3,x4,y1,y2,y3,y4,y4',hA',b1',b2',b3',hB,hq2,ht2,hge]
      refine⟨by omega,by omega,?_,hlt⟩
      have m1:(t-1)*v2≤1000000000*v2:=Yru (by omega) r5.1
      have:=Ztd (t:=t-1) (r:=q+v1) (v1:=v1) (u1:=D1) hP hU0 r1.1 s0 (by omega) r5.1 hV0 hV (by omega) (by omega) (by rw[e6];exact htop) (by omega)
      rw[hW,hD]
      exact this
     ·simp(disch:=first|(simp;done)|omega|rfl) [A.lb231_0,hr,hf,h9,h10,lv,lu,c1,c4,c5,n3,n4,x1,x2,x3,x4,y1,y2,y3,y4,y4',hA',b1',b2',b3',hB,hq2,ht2,hge]
      exact⟨(t-1).toNat,by omega,⟨t-1,q+v1,rfl,by simp,by simp,by omega,by omega,by omega,by omega,by rw[e6];exact htop,by rw[show t-1+1=t by omega];exact hlt⟩⟩
    ·simp(disch:=first|(simp;done)|omega|rfl) [A.lb231_0,hr,hf,h9,h10,lv,lu,c4,c5,n3,x1,x2,x3,x4,y1,y2,y3,y4,hA',b1',b2',b3',hB]
     refine⟨tq0,by omega,?_,hlt⟩
     have:=Ztd (t:=t) (r:=q) (u1:=D1) hP hU0 r1.1 s0 (by omega) r5.1 hV0 hV tq0 (by omega) htop (by omega)
     rw[hW,hD];exact this
  ·rintro e r _ hr ⟨rfl,⟨rfl,t,h9,ht⟩|⟨rfl,t,h6,ht⟩⟩
   ·simp[h9];exact ht
   ·simp[h6];exact ht
 obtain⟨x,s,hc,rfl,t,rfl,h1,h2,h3,h4⟩:=goal.ex
 exact⟨t,hc,h1,h2,h3,h4⟩
def A.w182:=A.q Tryz.f182
def A.lb182_0:=A.ql A.w182 3 []
def A.lb182_1:=A.ql A.w182 2 []
def A.lb182_2:=(fun x0 x1=>A.ql A.w182 1 [x0,x1]) A.lb182_1 A.lb182_0
def A.lb182_3:=A.ql A.w182 0 []
def A.b182:=(fun x0 x1=>A.qb A.w182 [x0,x1]) A.lb182_3 A.lb182_2
def A.k182:=@A.kk 182 206 [.tmp 4,.tmp 5] A.b182 (by kernel_rfl) rfl
structure DvS (N:Nat) (h2:T O) (n2 iu iq n:Nat) (U Q:List Int) (st:St):Prop where
 w:Zac N st.w=[]
 keep:Keeps h2 n2 st.h n
 n:st.n=n
 ru:st.h.get iu=some (.cells (dI U) 3 true)
 rq:st.h.get iq=some (.cells (dI Q) 3 true)
structure DvR (r0:T V) (v:V) (iu lu L j:Nat):Prop where
 r9:r0.get 9=some v
 r10:r0.get 10=some (.int .i64 L)
 r11:r0.get 11=some (.slice iu 0 lu none 1)
 r13:r0.get 13=some (.int .i64 j)
structure SbR (N:Nat) (h2:T O) (n2 iu iq n:Nat) (U Q Y:List Int) (L j:Nat) (t:Int) (m:Nat) (r:T V) (st:St):Prop where
 ex:∃i U' c,i+m=L∧r.get 16=some (.int .i64 i)∧r.get 15=some (.int .i64 c)∧0≤c∧c≤1000000000∧DvS N h2 n2 iu iq n U' Q st∧U'.length=U.length∧(∀s,(s<j∨j+i≤s)→U'[s]?=U[s]?)∧Di U'∧vI U'-pI (j+i)*c=vI U-pI j*(t*vI (Y.take i))
def Yde{N:Nat}{h2:T O}{n2 iu iq n:Nat}{U Q Y:List Int}{L j:Nat}{t:Int}{v:V}{r0:T V}(hv:Sl h2 n2 v (dI Y))(hY:Y.length=L)(dY:Di Y)(hjl:j+L<U.length)(hul:U.length<1099511627776)(R:DvR r0 v iu U.length L j)(r14:r0.get 14=some (.int .i64 t))(t0:0≤t)(t1:t≤1000000000)(a1:N≤n2)(a2:n2≤iu)(a3:iu<iq)(a4:iq<n):
  ∀k r st,(∀t,inD [(15,18),(90,125)] t=false→r.get t=r0.get t)→Fx [(15,18),(90,125)] r0 206 ⟨r,206,[]⟩→SbR N h2 n2 iu iq n U Q Y L j t k r st→Code A.C none A.lb182_1 ⟨r,206,[]⟩ st (Rd [(15,18),(90,125)] r0 206 (SbR N h2 n2 iu iq n U Q Y L j t) k (fun e r st=>e=.exit 4∧SbR N h2 n2 iu iq n U Q Y L j t 0 r st)):=by
 rintro m r ⟨H,n1,W⟩ hr hf ⟨i,U',c,hi,h16,h15,c0,c1,⟨hW,hK,hn,ru,rq⟩,hul',hsame,hdi,hval⟩
 simp only at hW hK hn ru rq
 subst hn
 obtain⟨r9,r10,r11,r13⟩:=R
 rw[Zai]
 cases m with
 |zero=>
  have:i=L:=by omega
  subst this
  simp[A.lb182_1,hr,hf,h16,r10]
  exact⟨i,U',c,by omega,by simp[h16],by simp[h15],c0,c1,⟨hW,hK,rfl,ru,rq⟩,hul',hsame,hdi,hval⟩
 |succ m=>
  obtain⟨y,hy⟩:=Zan (l:=Y) (k:=i) (by omega)
  have lv:=hv.len
  rw[Zas,hY]at lv
  obtain⟨b1,b2,b3,b4,b5,z1,z2,z3,z4⟩:=hv.at (Zbf hy)
  have z3:=(hK.get _ z2).trans z3
  have hyd:=dY.get hy
  obtain⟨o,ho⟩:=Zan (l:=U') (k:=i+j) (by omega)
  have hod:=hdi.get ho
  have hi1:(i:Int)<(L:Int):=by omega
  have p0:0≤t*y:=Yr6 t0 hyd.1
  have p1:t*y≤1000000000*999999999:=Int.mul_le_mul t1 (by omega) hyd.1 (by omega)
  have q1:(i:Int)+(j:Int)<(U.length:Int):=by omega
  have q2:i+j<U.length:=by omega
  have q3:(0:Int)≤(i:Int)+(j:Int):=by omega
  have nn:¬iu<N:=by omega
  have w8:=Zas U'
  have hsu:=Zi5 ho
  have hty:=Zbb hy
  have hp:=Zui i j
  have hps:=Zc1 (j+i)
  generalize hP:t*y=P at*
  have b1':Zao .i64 P=P:=Zag (by omega) (by omega)
  have b2':Zao .i64 (P+c)=P+c:=Zag (by omega) (by omega)
  have t1':(P+c).tmod 1000000000=(P+c)%1000000000:=Yr3 (by omega)
  have t2':(P+c).tdiv 1000000000=(P+c)/1000000000:=Yrk (by omega)
  have hm:=Ysl (P+c) 1000000000
  have e0:=Yti (P+c) (b:=1000000000) (by decide)
  have e1:=Ysw (P+c) (b:=1000000000) (by decide)
  have key:∀(x' c':Int),x'-1000000000*c'=o-(P+c)→vI (U'.set (i+j) x')-pI (j+(i+1))*c'=vI U-pI j*(t*vI (Y.take (i+1))):=by
   intro x' c' hx
   rw[hsu,hty,show j+(i+1)=j+i+1 by omega,hps,show i+j=j+i by omega]
   have h3:vI U'=vI U-pI j*(t*vI (Y.take i))+pI (j+i)*c:=by omega
   have h4:x'=o-(P+c)+1000000000*c':=by omega
   rw[h3,h4,show j+i=i+j by omega,hp,←hP]
   grind
  have same:∀(x':Int) (s:Nat),(s<j∨j+(i+1)≤s)→(U'.set (i+j) x')[s]?=U[s]?:=by
   intro x' s hs
   rw[Yqj (by omega)]
   exact hsame s (by omega)
  generalize (P+c)/1000000000=D at*
  generalize (P+c)%1000000000=M at*
  have b3':Zao .i64 D=D:=Zag (by omega) (by omega)
  have b4':Zao .i64 (o-M)=o-M:=Zag (by omega) (by omega)
  have d4:b1<n1:=by have:=hK.le;omega
  have d5:¬iq=iu:=by omega
  by_cases hneg:o-M<0
  ·have b5':Zao .i64 (o-M+1000000000)=o-M+1000000000:=Zag (by omega) (by omega)
   have b6':Zao .i64 (D+1)=D+1:=Zag (by omega) (by omega)
   have w7:=Zh2 (l:=U') (k:=i+j) (v:=o-M+1000000000) (by omega)
   simp(disch:=first|(simp;done)|omega|rfl) [-getElem?_pos,A.lb182_1,hr,hf,h16,h15,r9,r10,r11,r13,r14,hi1,lv,ru,Zbf ho,z1,z3,z4,hP,b1',b2',b3',b4',b5',b6',t1',t2',hneg,w7]
   refine⟨m,by omega,⟨i+1,U'.set (i+j) (o-M+1000000000),D+1,by omega,by simp,by simp,by omega,by omega,⟨by simp[Zac,hW,nn],hK.set (by omega),rfl,by simp,by simp[d5,rq]⟩,by simp[hul'],same _,hdi.set (by omega) (by omega),key _ _ (by omega)⟩⟩
  ·have w7:=Zh2 (l:=U') (k:=i+j) (v:=o-M) (by omega)
   simp(disch:=first|(simp;done)|omega|rfl) [-getElem?_pos,A.lb182_1,hr,hf,h16,h15,r9,r10,r11,r13,r14,hi1,lv,ru,Zbf ho,z1,z3,z4,hP,b1',b2',b3',b4',t1',t2',hneg,w7]
   refine⟨m,by omega,⟨i+1,U'.set (i+j) (o-M),D,by omega,by simp,by simp,by omega,by omega,⟨by simp[Zac,hW,nn],hK.set (by omega),rfl,by simp,by simp[d5,rq]⟩,by simp[hul'],same _,hdi.set (by omega) (by omega),key _ _ (by omega)⟩⟩
structure AbR (N:Nat) (h2:T O) (n2 iu iq n:Nat) (U Q Y:List Int) (L j:Nat) (m:Nat) (r:T V) (st:St):Prop where
 ex:∃i U' c,i+m=L∧r.get 20=some (.int .i64 i)∧r.get 19=some (.int .i64 c)∧0≤c∧c≤1∧DvS N h2 n2 iu iq n U' Q st∧U'.length=U.length∧(∀s,(s<j∨j+i≤s)→U'[s]?=U[s]?)∧(∀(s:Nat) (d:Int),s≠j+L→U'[s]?=some d→0≤d∧d<1000000000)∧vI U'+pI (j+i)*c=vI U+pI j*vI (Y.take i)
def Yfx{N:Nat}{h2:T O}{n2 iu iq n:Nat}{U Q Y:List Int}{L j:Nat}{v:V}{r0:T V}(hv:Sl h2 n2 v (dI Y))(hY:Y.length=L)(dY:Di Y)(hjl:j+L<U.length)(hul:U.length<1099511627776)(R:DvR r0 v iu U.length L j)(a1:N≤n2)(a2:n2≤iu)(a3:iu<iq)(a4:iq<n):
  ∀k r st,(∀t,inD [(19,21),(148,174)] t=false→r.get t=r0.get t)→Fx [(19,21),(148,174)] r0 206 ⟨r,206,[]⟩→AbR N h2 n2 iu iq n U Q Y L j k r st→Code A.C none A.lb182_0 ⟨r,206,[]⟩ st (Rd [(19,21),(148,174)] r0 206 (AbR N h2 n2 iu iq n U Q Y L j) k (fun e r st=>e=.exit 6∧AbR N h2 n2 iu iq n U Q Y L j 0 r st)):=by
 rintro m r ⟨H,n1,W⟩ hr hf ⟨i,U',c,hi,h20,h19,c0,c1,⟨hW,hK,hn,ru,rq⟩,hul',hsame,hdi,hval⟩
 simp only at hW hK hn ru rq
 subst hn
 obtain⟨r9,r10,r11,r13⟩:=R
 rw[Zai]
 cases m with
 |zero=>
  have:i=L:=by omega
  subst this
  simp[A.lb182_0,hr,hf,h20,r10]
  exact⟨i,U',c,by omega,by simp[h20],by simp[h19],c0,c1,⟨hW,hK,rfl,ru,rq⟩,hul',hsame,hdi,hval⟩
 |succ m=>
  obtain⟨y,hy⟩:=Zan (l:=Y) (k:=i) (by omega)
  have lv:=hv.len
  rw[Zas,hY]at lv
  obtain⟨b1,b2,b3,b4,b5,z1,z2,z3,z4⟩:=hv.at (Zbf hy)
  have z3:=(hK.get _ z2).trans z3
  have hyd:=dY.get hy
  obtain⟨o,ho⟩:=Zan (l:=U') (k:=i+j) (by omega)
  have hod:=hdi _ _ (by omega) ho
  have hi1:(i:Int)<(L:Int):=by omega
  have nn:¬iu<N:=by omega
  have w8:=Zas U'
  have hsu:=Zi5 ho
  have hty:=Zbb hy
  have hp:=Zui i j
  have hps:=Zc1 (j+i)
  have b1':Zao .i64 (o+y)=o+y:=Zag (by omega) (by omega)
  have b2':Zao .i64 (o+y+c)=o+y+c:=Zag (by omega) (by omega)
  have t1':(o+y+c).tmod 1000000000=(o+y+c)%1000000000:=Yr3 (by omega)
  have t2':(o+y+c).tdiv 1000000000=(o+y+c)/1000000000:=Yrk (by omega)
  have hm:=Ysl (o+y+c) 1000000000
  have e0:=Yti (o+y+c) (b:=1000000000) (by decide)
  have e1:=Ysw (o+y+c) (b:=1000000000) (by decide)
  have w7:=Zh2 (l:=U') (k:=i+j) (v:=(o+y+c)%1000000000) (by omega)
  have d4:b1<n1:=by have:=hK.le;omega
  have d5:¬iq=iu:=by omega
  have d6:iu<n1:=by omega
  have b3':Zao .i64 ((o+y+c)/1000000000)=(o+y+c)/1000000000:=Zag (by omega) (by omega)
  simp(disch:=first|(simp;done)|omega|rfl) [-getElem?_pos,A.lb182_0,hr,hf,h20,h19,r9,r10,r11,r13,hi1,lv,ru,Zbf ho,z1,z3,z4,b1',b2',b3',t1',t2',w7,d4,d6]
  generalize (o+y+c)/1000000000=D at*
  generalize (o+y+c)%1000000000=M at*
  refine⟨m,by omega,⟨i+1,U'.set (i+j) M,D,by omega,by simp,by simp,by omega,by omega,⟨by simp[Zac,hW,nn],hK.set (by omega),rfl,by simp,by simp[d5,rq]⟩,by simp[hul'],fun s hs=>?_,fun s d hs hd=>?_,?_⟩⟩
  ·rw[Yqj (by omega)]
   exact hsame s (by omega)
  ·by_cases hsi:s=i+j
   ·subst hsi
    rw[Yq7 (by omega)]at hd
    simp at hd
    omega
   ·rw[Yqj (fun h=>hsi h.symm)]at hd
    exact hdi s d hs hd
  ·rw[hsu,hty,show j+(i+1)=j+i+1 by omega,hps,show i+j=j+i by omega]
   have h3:vI U'=vI U+pI j*vI (Y.take i)-pI (j+i)*c:=by omega
   have h4:M=o+y+c-1000000000*D:=by omega
   rw[h3,h4,show j+i=i+j by omega,hp]
   grind
def Yi0{l:List Int}{d:Int}(h:d∈l):∃s:Nat,l[s]?=some d:=Ytr h
def Yl9{l:List Int}(h:∀(s:Nat) (d:Int),l[s]?=some d→0≤d∧d<1000000000):Di l:=fun d hd=>by
 obtain⟨s,hs⟩:=Yi0 hd
 exact h s d hs
def Zvc{U U2:List Int}{j:Nat}{X:Int}(hj:j≤U.length)(hl:U2.length=U.length)(hs:∀s,s<j→U2[s]?=U[s]?)(hv:vI U2=vI U-pI j*X):vI (U2.drop j)=vI (U.drop j)-X:=by
 have h1:=Zi4 U j hj
 have h2:=Zi4 U2 j (by omega)
 have h3:U2.take j=U.take j:=by
  apply Yq9
  intro s
  rw[Yqy,Yqy]
  by_cases h:s<j
  ·rw[Yqi h,Yqi h];exact hs s h
  ·rw[Yqe h,Yqe h]
 rw[h3]at h2
 have h4:pI j*vI (U2.drop j)=pI j*(vI (U.drop j)-X):=by
  have:pI j*(vI (U.drop j)-X)=pI j*vI (U.drop j)-pI j*X:=by grind
  omega
 exact Int.eq_of_mul_eq_mul_left (Int.ne_of_gt (Zjk j)) h4
def Yf2{U:List Int}{j L:Nat}{tt:Int}(hd:∀(s:Nat) (d:Int),s<j+L→U[s]?=some d→0≤d∧d<1000000000)(ht:U[j+L]?=some tt)(hz:∀s,j+L<s→s<U.length→U[s]?=some 0)(hlt:vI (U.drop j)<pI L):(0≤vI (U.drop j)→tt=0)∧(vI (U.drop j)<0→tt<0):=by
 refine Yc9 (w:=U.drop j) (n:=L) ?_ (by rw[Yqo];exact ht) ?_ hlt
 ·refine Yl9 fun s d hs=>?_
  by_cases h:s<L
  ·rw[Yqy,Yqi h,Yqo]at hs
   exact hd (j+s) d (by omega) hs
  ·rw[Yqy,Yqe h]at hs;cases hs
 ·intro s h1 h2
  rw[Yqo]
  exact hz (j+s) (by omega) (by simp at h2;omega)
structure OuI (N:Nat) (h2:T O) (n2 iu iq n lu L:Nat) (A0:Int) (Y:List Int) (m:Nat) (r:T V) (st:St):Prop where
 ex:∃U Q,DvS N h2 n2 iu iq n U Q st∧r.get 13=some (.int .i64 ((m:Int)-1))∧U.length=lu∧Q.length=lu-L∧m≤lu-L∧Di U∧Di Q∧(∀s,m+L≤s→s<lu→U[s]?=some 0)∧vI (U.drop m)<vI Y∧(∀s,s<m→Q[s]?=some 0)∧vI U+vI Y*vI Q=A0
def Yd2{N:Nat}{h2:T O}{n2 iu iq n lu k:Nat}{A0 v1:Int}{Y:List Int}{v:V}{r0:T V}(hv:Sl h2 n2 v (dI Y))(hY:Y.length=k+2)(dY:Di Y)(hv1:Y[k+1]?=some v1)(h5:500000000≤v1)(hlu:k+2<lu)(hul:lu<1099511627776)(r9:r0.get 9=some v)(r10:r0.get 10=some (.int .i64 (k+2:Nat)))(r11:r0.get 11=some (.slice iu 0 lu none 1))(r12:r0.get 12=some (.slice iq 0 (lu-(k+2)) (some (lu-(k+2))) 1))(a1:N≤n2)(a2:n2≤iu)(a3:iu<iq)(a4:iq<n):
  ∀m r st,(∀t,inD [(13,21),(82,191)] t=false→r.get t=r0.get t)→Fx [(13,21),(82,191)] r0 206 ⟨r,206,[]⟩→OuI N h2 n2 iu iq n lu (k+2) A0 Y m r st→Code A.C none A.lb182_2 ⟨r,206,[]⟩ st (Rd [(13,21),(82,191)] r0 206 (OuI N h2 n2 iu iq n lu (k+2) A0 Y) m (fun e r st=>e=.exit 2∧OuI N h2 n2 iu iq n lu (k+2) A0 Y 0 r st)):=by
 rintro m r ⟨H,n1,W⟩ hr hf ⟨U,Q,⟨hW,hK,hn,ru,rq⟩,r13,hul',hql,hm,dU,dQ,hz,hdr,hqz,hval⟩
 simp only at hW hK hn ru rq
 subst hn
 rw[Zai]
 cases m with
 |zero=>
  simp[A.lb182_2,hf,r13]
  exact⟨U,Q,⟨hW,hK,rfl,ru,rq⟩,by simp[r13],hul',hql,hm,dU,dQ,hz,hdr,hqz,hval⟩
 |succ j=>
  have hj1:(((j+1:Nat):Int)-1)=(j:Int):=by omega
  rw[hj1]at r13
  have hj0:(0:Int)≤(j:Int):=by omega
  obtain⟨v2,hv2⟩:=Zan (l:=Y) (k:=k) (by omega)
  obtain⟨d1,e1⟩:=Zan (l:=U) (k:=j+k) (by omega)
  obtain⟨d2,e2⟩:=Zan (l:=U) (k:=j+k+1) (by omega)
  obtain⟨d3,e3⟩:=Zan (l:=U) (k:=j+k+2) (by omega)
  obtain⟨x0,hx0⟩:=Zan (l:=U) (k:=j) (by omega)
  have hWt:=Yhb (w:=U.drop j) (k:=k) (a:=d1) (c:=d2) (d:=d3) (by rw[Yqo];exact e1) (by rw[Yqo,←Yrq];exact e2) (by rw[Yqo,←Yrq];exact e3) (fun t h1 h2=>by rw[Yqo];exact hz _ (by omega) (by simp at h2;omega))
  have hDt:=Yhc hv2 hv1 hY
  have hWd:vI (U.drop j)<1000000000*vI Y:=by
   rw[Za2 hx0,vI]
   have:=dU.get hx0
   omega
  have hUk:=Zh8 ((dU.drop j).take k)
  rw[Yq0,Yso,Yrb (by omega)]at hUk
  have hVk:=Zh8 (dY.take k)
  rw[Yq0,Yrb (by omega)]at hVk
  obtain⟨t,hg,t0,t1,hlo,hhi⟩:=Yey (w:=W) (Sl.row (cp:=none) (L:=lu) (show iu<n1 by omega) ru (by simp[hul']) (fun k hk=>by cases hk)) (hv.keep hK) hY (by omega) e1 e2 e3 hv2 hv1 (dU.get e1) (dU.get e2) (dU.get e3) ⟨h5,(dY.get hv1).2⟩ (dY.get hv2) (Zjk k) (Zh7 ((dU.drop j).take k)) hUk (Zh7 (dY.take k)) hVk hWt hDt hWd
  have hVl:=Zh8 dY
  rw[hY]at hVl
  have hVp:0<vI Y:=by have:=Zh7 (dU.drop (j+1));omega
  simp[A.lb182_2,hr,r13,hj0,r9,r11,hg]
  refine Zaj [(15,18),(90,125)] (fun e r st=>e=.exit 4∧SbR N h2 n2 iu iq n1 U Q Y (k+2) j t 0 r st) (SbR N h2 n2 iu iq n1 U Q Y (k+2) j t) (k+2) ?_ ?_ ?_
  ·exact⟨0,U,0,by omega,by simp,by simp,by omega,by omega,⟨hW,hK,rfl,ru,rq⟩,rfl,fun _ _=>rfl,dU,by simp[vI]⟩
  ·exact Yde hv hY dY (by omega) (by omega) ⟨by simp[hr,r9],by simp[hr,r10],by simp[hr,r11,hul'],by simp[r13]⟩ (by simp) t0 t1 a1 a2 a3 a4
  ·rintro _ r2 ⟨H2,n3,W2⟩ hr2 ⟨rfl,i,U',c,hi,h16,h15,c0,c1,⟨hW2,hK2,hn2,ru2,rq2⟩,hul2,hsame,hdi2,hval2⟩
   simp only at hW2 hK2 hn2 ru2 rq2
   subst hn2
   obtain rfl:i=k+2:=by omega
   have hfi:=hf.inner (D':=[(15,18),(90,125)]) rfl (by simp) hr2
   rw[←hY,Ysp,hY]at hval2
   have e3':U'[j+(k+2)]?=some d3:=by rw[hsame _ (.inr (Yqg _))];rw[←Yrq];exact e3
   have hd3:=dU.get e3
   have q1:(j:Int)+((k:Int)+2)<(lu:Int):=by omega
   have q2:j+(k+2)<lu:=by omega
   have q3:(0:Int)≤(j:Int)+((k:Int)+2):=by omega
   have q4:((j:Int)+((k:Int)+2)).toNat=j+(k+2):=by omega
   have w8:=Zas U'
   have b1':Zao .i64 (d3-c)=d3-c:=Zag (by omega) (by omega)
   have w7:=Zh2 (l:=U') (k:=j+(k+2)) (v:=d3-c) (by omega)
   have nn:¬iu<N:=by omega
   have d5:¬iq=iu:=by omega
   have d6:¬iu=iq:=by omega
   have nq:¬iq<N:=by omega
   have v2e:vI (U'.set (j+(k+2)) (d3-c))=vI U-pI j*(t*vI Y):=by
    rw[Zi5 e3']
    have:pI (j+(k+2))*(d3-c-d3)= -(pI (j+(k+2))*c):=by grind
    omega
   have hs2:∀s,s<j→(U'.set (j+(k+2)) (d3-c))[s]?=U[s]?:=fun s hs=>by
    rw[Yqj (by omega)];exact hsame s (.inl hs)
   have hz2:∀s,j+(k+2)<s→s<lu→(U'.set (j+(k+2)) (d3-c))[s]?=some 0:=fun s h1 h2=>by
    rw[Yqj (by omega),hsame s (.inr (by omega))];exact hz s (by omega) h2
   have hdv:=Zvc (by omega) (by simp[hul2]) hs2 v2e
   have htop:(U'.set (j+(k+2)) (d3-c))[j+(k+2)]?=some (d3-c):=Yq7 (by omega)
   have hlt2:vI ((U'.set (j+(k+2)) (d3-c)).drop j)<vI Y:=by
    rw[hdv]
    have:(t+1)*vI Y=t*vI Y+vI Y:=by grind
    omega
   have hto:=Yf2 (U:=U'.set (j+(k+2)) (d3-c)) (fun s d hs hd=>by
    rw[Yqj (by omega)]at hd;exact hdi2.get hd) htop (fun s h1 h2=>hz2 s h1 (by simp at h2;omega)) (by omega)
   have qj1:(j:Int)<((lu-(k+2):Nat):Int):=by omega
   have qj2:j<lu-(k+2):=by omega
   have wq8:=Zas Q
   by_cases hneg:d3-c<0
   ·have t1w:Zao .i64 (t-1)=t-1:=Zag (by omega) (by omega)
    simp(disch:=first|(simp;done)|omega|rfl) [-getElem?_pos,hr,hr2,h15,r10,r11,r13,q4,ru2,Zbf e3',b1',w7,Zbf htop,hneg,t1w]
    generalize hU2:U'.set (j+(k+2)) (d3-c)=U2 at*
    have hl2:U2.length=lu:=by rw[←hU2];simp[hul2,hul']
    have hWlt:vI (U2.drop j)<0:=by
     apply Ytu;intro hc
     have:=hto.1 hc
     omega
    have hdig:∀(s:Nat) (d:Int),s≠j+(k+2)→U2[s]?=some d→0≤d∧d<1000000000:=fun s d hs hd=>by
     rw[←hU2,Yqj (by omega)]at hd;exact hdi2.get hd
    refine Zaj [(19,21),(148,174)] (fun e r st=>e=.exit 6∧AbR N h2 n2 iu iq n3 U2 Q Y (k+2) j 0 r st) (AbR N h2 n2 iu iq n3 U2 Q Y (k+2) j) (k+2) ?_ ?_ ?_
    ·exact⟨0,U2,0,by omega,by simp,by simp,by omega,by omega,⟨by simp[Zac,hW2,nn],hK2.set (by omega),rfl,by simp,by simp[d5,rq2]⟩,rfl,fun _ _=>rfl,hdig,by simp[vI]⟩
    ·exact Yfx hv hY dY (by omega) (by omega) ⟨by simp[hr,hr2,r9],by simp[hr,hr2,r10],by simp[hr,hr2,r11,hl2],by simp[hr2,r13]⟩ a1 a2 a3 a4
    ·rintro _ r4 ⟨H4,n4,W4⟩ hr4 ⟨rfl,i4,U3,c4,hi4,h20,h19,c40,c41,⟨hW4,hK4,hn4,ru4,rq4⟩,hul4,hsame4,hdi4,hval4⟩
     simp only at hW4 hK4 hn4 ru4 rq4
     subst hn4
     obtain rfl:i4=k+2:=by omega
     have hfi4:=hfi.inner (D':=[(19,21),(148,174)]) rfl (by simp) hr4
     rw[←hY,Ysp,hY]at hval4
     have e4:U3[j+(k+2)]?=some (d3-c):=by rw[hsame4 _ (.inr (Yqg _))];exact htop
     have x8:=Zas U3
     have b4':Zao .i64 (d3-c+c4)=d3-c+c4:=Zag (by omega) (by omega)
     have x7:=Zh2 (l:=U3) (k:=j+(k+2)) (v:=d3-c+c4) (by omega)
     have v4e:vI (U3.set (j+(k+2)) (d3-c+c4))=vI U-pI j*((t-1)*vI Y):=by
      rw[Zi5 e4]
      have x1:pI (j+(k+2))*(d3-c+c4-(d3-c))=pI (j+(k+2))*c4:=by grind
      have x2:pI j*((t-1)*vI Y)=pI j*(t*vI Y)-pI j*vI Y:=by grind
      omega
     have hs4:∀s,s<j→(U3.set (j+(k+2)) (d3-c+c4))[s]?=U[s]?:=fun s hs=>by
      rw[Yqj (by omega),hsame4 s (.inl hs)];exact hs2 s hs
     have hz4:∀s,j+(k+2)<s→s<lu→(U3.set (j+(k+2)) (d3-c+c4))[s]?=some 0:=fun s h1 h2=>by
      rw[Yqj (by omega),hsame4 s (.inr (by omega))];exact hz2 s h1 h2
     have hdv4:=Zvc (by omega) (by simp[hul4,hl2,hul']) hs4 v4e
     have htop4:(U3.set (j+(k+2)) (d3-c+c4))[j+(k+2)]?=some (d3-c+c4):=Yq7 (by omega)
     have xt:(t-1)*vI Y=t*vI Y-vI Y:=by grind
     have hlt4:vI ((U3.set (j+(k+2)) (d3-c+c4)).drop j)<vI Y:=by
      rw[hdv4];omega
     have hge4:0≤vI ((U3.set (j+(k+2)) (d3-c+c4)).drop j):=by
      rw[hdv4];omega
     have hto4:=Yf2 (U:=U3.set (j+(k+2)) (d3-c+c4)) (fun s d hs hd=>by
      rw[Yqj (by omega)]at hd;exact hdi4 s d (by omega) hd) htop4 (fun s h1 h2=>hz4 s h1 (by simp at h2;omega)) (by omega)
     have hz0:=hto4.1 hge4
     have w9:=Zh2 (l:=Q) (k:=j) (v:=t-1) (by omega)
     have hq0:=hqz j (by omega)
     have tpos:1≤t:=by
      apply Ytg;intro hc
      have:t=0:=by omega
      rw[this]at hdv
      have:=Zh7 (dU.drop j)
      omega
     simp(disch:=first|(simp;done)|omega|rfl) [-getElem?_pos,hr,hr2,hr4,hfi4,h19,r10,r11,r12,r13,q4,ru4,rq4,Zbf e4,b4',x7,d5,w9]
     refine⟨j,by omega,⟨U3.set (j+(k+2)) (d3-c+c4),Q.set j (t-1),⟨by simp[Zac,hW4,nn,nq],?_,rfl,by simp[d6],by simp⟩,by simp,by simp[hul4,hl2],by simp[hql],by omega,?_,dQ.set (by omega) (by omega),?_,?_,?_,?_⟩⟩
     ·exact(hK4.set (by omega)).set (by omega)
     ·refine Yl9 fun s d hd=>?_
      by_cases hs:s=j+(k+2)
      ·subst hs
       rw[htop4,hz0]at hd
       simp at hd
       omega
      ·rw[Yqj (fun h=>hs h.symm)]at hd
       exact hdi4 s d hs hd
     ·intro s h1 h2
      by_cases hs:s=j+(k+2)
      ·rw[hs,htop4,hz0]
      ·exact hz4 s (by omega) h2
     ·exact hlt4
     ·intro s hs
      rw[Yqj (by omega)];exact hqz s (by omega)
     ·rw[v4e,Zi5 hq0,←hval]
      grind
   ·have hnn:0≤vI ((U'.set (j+(k+2)) (d3-c)).drop j):=by
     apply Ytg;intro hc;exact hneg (hto.2 hc)
    have hz0:=hto.1 hnn
    have w9:=Zh2 (l:=Q) (k:=j) (v:=t) (by omega)
    have hq0:=hqz j (by omega)
    rw[hdv]at hnn hlt2
    have tlt:t<1000000000:=by
     apply Ytu;intro hc
     have:=Yru hc (Yr8 hVp)
     omega
    simp(disch:=first|(simp;done)|omega|rfl) [-getElem?_pos,hr,hr2,hfi,h15,r10,r11,r12,r13,q4,ru2,rq2,Zbf e3',b1',w7,Zbf htop,hneg,d5,w9]
    refine⟨j,by omega,⟨U'.set (j+(k+2)) (d3-c),Q.set j t,⟨by simp[Zac,hW2,nn,nq],?_,rfl,by simp[d6],by simp⟩,by simp,by simp[hul2,hul'],by simp[hql],by omega,?_,dQ.set t0 tlt,?_,?_,?_,?_⟩⟩
    ·exact(hK2.set (by omega)).set (by omega)
    ·rw[hz0];exact hdi2.set (by omega) (by omega)
    ·intro s h1 h2
     by_cases hs:s=j+(k+2)
     ·rw[hs,htop,hz0]
     ·exact hz2 s (by omega) h2
    ·rw[hdv];exact hlt2
    ·intro s hs
     rw[Yqj (by omega)];exact hqz s (by omega)
    ·rw[v2e,Zi5 hq0,←hval]
     grind
variable {N:Nat}
def Zgw{N n2:Nat}(h:N≤n2):∀{w:List Nat},Zac n2 w=[]→Zac N w=[]
 |[],_=>rfl
 |i::w,hw=>by
  simp only[Zac]at hw ⊢
  by_cases h1:i<n2
  ·rw[Yqi h1]at hw
   unfold Zfi at hw
   split at hw
   ·rename_i hc
    rw[hw]at hc;simp at hc
   ·cases hw
  ·rw[Yqe h1]at hw
   rw[Yqe (by omega)]
   exact Zgw h hw
def Zrp{h:T O}{i:Nat}{w:List Nat}{v:V}{l:List Int}(hr:h.get i=some (.cells [] 3 true))(hs:Sl h N v (dI l))(hne:l≠[])(hl:l.length<1099511627776):
  Zc7 ⟨h,N,w⟩ 1 8 3 (.slice i 0 0 (some 0) 1) v=some (.slice N 0 l.length none 1,⟨h.set N (.cells (dI l) 3 true),N+1,w⟩):=by
 have h0:l.length≠0:=fun hc=>hne (Yqw hc)
 have hs':=Yk6 (w:=w) hs
 rw[Zas]at hs'
 have hb:¬(Zd5<(2*(0+l.length)+1000)*8):=by unfold Zd5;omega
 simp only[Zc7,hs']
 rw[Yqe h0,Yqe (by rintro(h|h|h)<;>omega)]
 simp only[St.row,hr]
 rw[Yqe (by omega)]
 simp[slc,St.alloc]
def Ygb(k:Nat):pI k=((1000000000^k:Nat):Int):=by unfold pI;simp
def Zmy{b k:Nat}(h:(ds b).length=k+1):∃x,(ds b)[k]?=some x∧0<x∧x<1000000000∧pI k*x≤b∧(b:Int)<pI k*(x+1):=by
 have hb:b≠0:=fun hc=>by rw[hc,Zch]at h;simp at h
 obtain⟨x,hx,hx0⟩:=Yju hb
 rw[h,Nat.add_sub_cancel]at hx
 have hd:=(Zb9 b).get hx
 have hv:=Zbd b
 rw[Zyn hx,Yrr (by omega),vI,Int.mul_zero,Int.add_zero]at hv
 have h1:=Zh7 ((Zb9 b).take k)
 have h2:=Zh8 ((Zb9 b).take k)
 rw[Yq0,Yrb (by omega)]at h2
 have h3:pI k*(x+1)=pI k*x+pI k:=by grind
 exact⟨x,hx,hx0,hd.2,by omega,by omega⟩
def Yik{b k:Nat}(h:(ds b).length=k+1){x:Int}(hx:(ds b)[k]?=some x):∃f:Nat,(f:Int)=1000000000/(x+1)∧0<f∧f<1000000000∧(ds (b*f)).length=k+1∧∃y,(ds (b*f))[k]?=some y∧500000000≤y:=by
 obtain⟨x',hx',x0,x1,lo,hi⟩:=Zmy h
 obtain rfl:x=x':=Yrc (hx.symm.trans hx')
 have hd:(x+1)*(1000000000/(x+1))+1000000000%(x+1)=1000000000:=Ysl ..
 have hr0:0≤1000000000%(x+1):=Yti _ (by omega)
 have hr1:1000000000%(x+1)<x+1:=Ysw _ (by omega)
 have hh:=Zz2 (x:=x) (by omega) x1
 have f0:0<1000000000/(x+1):=by
  apply Ytu;intro hc
  have:=Int.mul_nonpos_of_nonneg_of_nonpos (a:=x) (by omega) hc
  omega
 have f1:1000000000/(x+1)<1000000000:=Int.ediv_lt_of_lt_mul (by omega) (by omega)
 obtain⟨f,hf⟩:=Ysd (Yr8 f0)
 rw[hf]at hd hh f0 f1
 have hp:=Zjk k
 have hb1:((b*f:Nat):Int)=(b:Int)*f:=by simp
 have up:(b:Int)*f<1000000000*pI k:=by
  have g1:(b:Int)*f<pI k*(x+1)*f:=Int.mul_lt_mul_of_pos_right hi f0
  have g2:pI k*(x+1)*f=pI k*((x+1)*f):=by grind
  have g3:pI k*((x+1)*f)≤pI k*1000000000:=Yqt (by omega) (Yr8 hp)
  omega
 have low:500000000*pI k≤(b:Int)*f:=by
  have g1:pI k*x*f≤(b:Int)*f:=Yru lo (Yr8 f0)
  have g2:pI k*x*f=pI k*(x*f):=by grind
  have g3:pI k*500000000≤pI k*(x*f):=Yqt hh (Yr8 hp)
  omega
 have len1:(ds (b*f)).length≤k+1:=Zfl (by
  have:((b*f:Nat):Int)<((1000000000^(k+1):Nat):Int):=by rw[←Ygb,Zc1,hb1];exact up
  exact_mod_cast this)
 have len2:(ds b).length≤(ds (b*f)).length:=Zcn (Nat.le_mul_of_pos_right b (by omega))
 have len:(ds (b*f)).length=k+1:=by omega
 obtain⟨y,hy,y0,y1,ylo,yhi⟩:=Zmy len
 refine⟨f,hf.symm,by omega,by omega,len,y,hy,?_⟩
 apply Ytg
 intro hc
 have:pI k*(y+1)≤pI k*500000000:=Yqt (by omega) (Yr8 hp)
 omega
def PdI(N:Nat)(h2:T O)(n2 la:Nat)(A0:Int)(m:Nat)(r:T V)(st:St):Prop:=Zac n2 st.w=[]∧Keeps h2 n2 st.h st.n∧∃u l,r.get 11=some u∧Own 1 3 n2 st.h st.n u (Ze7 l)∧l.length+m=la+1∧vI l=A0∧Di l
def Yd0{N:Nat}{h2:T O}{n2 la:Nat}{A0:Int}{u0:V}{r0:T V}{la':List Int}(hu0:Sl h2 n2 u0 (dI la'))(hla:la'.length=la)(hl:la<1099511627776)(r0e:r0.get 0=some u0):
  ∀m r st,(∀t,inD [(11,11),(63,71)] t=false→r.get t=r0.get t)→Fx [(11,11),(63,71)] r0 206 ⟨r,206,[]⟩→PdI N h2 n2 la A0 m r st→Code A.C none A.lb182_3 ⟨r,206,[]⟩ st (Rd [(11,11),(63,71)] r0 206 (PdI N h2 n2 la A0) m (fun e r st=>e=.exit 0∧PdI N h2 n2 la A0 0 r st)):=by
 rintro m r ⟨H,n1,W⟩ hr hf ⟨hW,hK,u,l,h11,ho,hm,hv,hd⟩
 simp only at hW hK ho
 have lu:=hu0.len
 rw[Zas,hla]at lu
 have lo:=ho.len
 rw[Zdj]at lo
 rw[Zai]
 cases m with
 |zero=>
  have:¬(l.length:Int)<(la:Int)+1:=by omega
  simp(disch:=first|(simp;done)|omega|rfl) [A.lb182_3,hr,hf,r0e,h11,lu,lo,this]
  exact⟨hW,hK,u,l,by simp[h11],ho,hm,hv,hd⟩
 |succ m=>
  have h1:(l.length:Int)<(la:Int)+1:=by omega
  have nle:=hK.le
  obtain⟨v',h',w',e1,e2,e3,e4,e5⟩:=Zbw (x:=[.int .i64 0]) (u:=.slice n1 0 1 (some 1) 1) (bytes:=8) (w:=W) (ho.keep (Keeps.refl.new (.cells [.int .i64 0] 3 true))) (by omega) (by decide) rfl (by simp[Zbc,St.row,slc]) (by rw[Zdj];omega)
  rw[←Zdb]at e5
  simp(disch:=first|(simp;done)|omega|rfl) [A.lb182_3,hr,hf,r0e,h11,lu,lo,h1,splice,e1]
  refine⟨m,by omega,⟨by rw[e2];exact hW,((hK.new _).then e3),v',l++[0],by simp,e5,by simp;omega,by rw[Zfs,hv];simp,hd.app (Di.one (by omega) (by omega))⟩⟩
end
end Go.Mx
