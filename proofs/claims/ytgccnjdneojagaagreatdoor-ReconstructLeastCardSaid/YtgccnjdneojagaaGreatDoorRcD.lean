/-lensletref01-/
import Derived.Test.YtgccnjdneojagaaGreatDoorMxQ
set_option linter.all false
namespace Go.Mx
noncomputable section
open Go Go.Proofs
variable {n:Nat}
set_option maxRecDepth 1000000
def A.RA:=A.q Tryz.f150
def A.po:=A.ql A.RA 0 []
def A.b150:=(fun x0=>A.qb A.RA [x0]) A.po
def A.k150:=@A.kk 150 25 [.tmp 4] A.b150 (by kernel_rfl) rfl
def A.RB:=A.q Tryz.f152
def A.uv:=A.ql A.RB 0 []
def A.b152:=(fun x0=>A.qb A.RB [x0]) A.uv
def A.k152:=@A.kk 152 39 [.tmp 2] A.b152 (by kernel_rfl) rfl
def Yjn:jg 0 0=[]:=by simp[jg,vV]
def Yjo{m:Nat}(h:n≠0\/0<m):jg n m=jg (n/10) (m-1)++[dp n]:=by
 unfold jg;by_cases hn:n=0
 ·subst hn;have hm:0<m:=by omega
  simp only[vV,Nat.zero_div,List.length_nil,Nat.sub_zero,zQ];obtain⟨k,rfl⟩:∃k,m=k+1:=⟨m-1,by omega⟩;have:dp 0=48:=by decide
  rw[this,List.replicate_succ',Nat.add_sub_cancel]
 rw[zn hn];have:m-(du (n/10)++[dp n]).length=m-1-(du (n/10)).length:=by simp;omega
 rw[this,uQ]
def Yuw{k:Nat}(hk:k<10):(Xaw.take (k+1)).drop k=[dp k]:=by
 have:k=0\/k=1\/k=2\/k=3\/k=4\/k=5\/k=6\/k=7\/k=8\/k=9:=by omega
 rcases this with rfl|rfl|rfl|rfl|rfl|rfl|rfl|rfl|rfl|rfl<;>decide
def Yu0(n:Nat):dp (n%10)=dp n:=by unfold dp;rw[Nat.mod_mod]
def MU{m:Nat}{st:St}(hn:n<9223372036854775808)(hm:m<1000):A.C.call (.func 150 [] []) [.int .i64 n,.int .i64 m] st=some (.str (jg n m),st):=by
 apply Call.eq;rw[aQ,A.k150 (by simp)];simp[A.b150];have hlen:(jg n m).length<2000:=by have:(du n).length<=19:=rE.1 (by omega);unfold jg;simp;omega
 refine b_ [(0,0),(5,23)] (fun e r s1=>s1=⟨st.h,st.n,[]⟩/\e=.exit 0/\r.get 5=some (.str (jg n m))) (fun q r s1=>s1=⟨st.h,st.n,[]⟩/\∃k s,q=k+(m-s.length)/\k<9223372036854775808/\r.get 0=some (.int .i64 k)/\r.get 5=some (.str s)/\jg n m=jg k (m-s.length)++s) (n+m) ?_ ?_ ?_
 ·exact⟨rfl,n,[],by simp,hn,by simp,by simp,by simp⟩
 ·rintro q r _ hr hf ⟨rfl,k,s,rfl,hk,h0,h5,hd⟩;rw[bu];by_cases vT:k≠0\/0<m-s.length
  ·have fj:=Yjo (n:=k) (m:=m-s.length) vT;rw[fj,uQ,TR]at hd;have cC:s.length+1<2000:=by have:=congrArg List.length hd;simp at this;omega
   have t1:(k:Int).tmod 10=((k%10:Nat):Int):=by rw[Gg (by omega)];omega
   have t2:(k:Int).tdiv 10=((k/10:Nat):Int):=by rw[Dh (by omega)];omega
   have t3:bn .i64 ((k/10:Nat):Int)=((k/10:Nat):Int):=cL (by omega) (by omega);have t4:bn .i64 (((k%10:Nat):Int)+1)=((k%10+1:Nat):Int):=by rw[cL (by omega) (by omega)];omega
   have RC:¬(9223372036854775807:Int)<1+(s.length:Int):=by omega
   have cU:IntKind.max .i64=9223372036854775807:=rfl;have sl:∀st:St,uW st (some (.str [48,49,50,51,52,53,54,55,56,57])) (some (some (.int .i64 ((k:Int)%10)))) (some (some (.int .i64 ((k:Int)%10+1))))=some (.str [dp k],st):=fun st=>by
    rw[Zro (by omega) (by omega) (by simp;omega)];have e1:((k:Int)%10).toNat=k%10:=by omega
    have e2:((k:Int)%10+1).toNat=k%10+1:=by omega
    rw[e1,e2];have:=Yuw (k:=k%10) (by omega);rw[Yu0]at this;exact congrArg (fun x=>some (V.str x,st)) this
   have JO:0<k\/(¬0<k/\s.length<m):=by omega
   rcases JO with g1|⟨g1,g2⟩
   ·have i1:(0:Int)<(k:Int):=by omega
    simp(disch:=first|(simp;done)|omega|rfl) [A.po,hf,h0,h5,g1,t1,t2,jE,cU,sl,RC];exact⟨k/10+(m-(s.length+1)),by omega,k/10,dp k::s,by simp,by omega,by simp,by simp,by rw[hd,bl,Nat.sub_sub]⟩
   have i1:¬(0:Int)<(k:Int):=by omega
   have i2:(s.length:Int)<(m:Int):=by omega
   simp(disch:=first|(simp;done)|omega|rfl) [A.po,hr,hf,h0,h5,g1,i2,t1,t2,jE,cU,sl,RC];exact⟨k/10+(m-(s.length+1)),by omega,k/10,dp k::s,by simp,by omega,by simp,by simp,by rw[hd,bl,Nat.sub_sub]⟩
  have g1:¬0<k:=by omega
  have g2:¬s.length<m:=by omega
  have i1:¬(0:Int)<(k:Int):=by omega
  have i2:¬(s.length:Int)<(m:Int):=by omega
  obtain rfl:k=0:=by omega
  rw[show m-s.length=0 by omega,Yjn,List.nil_append]at hd;simp[A.po,hr,hf,h0,h5,i2,hd]
 rintro _ r _ hr ⟨rfl,rfl,h5⟩;simp[h5]
def RD:(aq n).length<=9*(ds n).length+1:=by
 have h1:n<10^(9*(ds n).length):=by have h2:=xJ (ig n);rw[iC,UD]at h2;have h3:=Int.ofNat_lt.1 h2;rw[Nat.pow_mul];exact h3
 have:=rE.1 h1;unfold aq;split<;>simp<;>omega
def Zy5{k:Nat}:(aq (n/k)).length<=9*(ds n).length+1:=by have h1:=RD (n:=n/k);have h2:=wL (xD n k);omega
def MV{h:T O}{N:Nat}{x:V}{z:Int}(hx:Rg h N x z)(hl:(ds z.natAbs).length<100000000000):Fn A.C 152 [x] h N (fun u _ _=>u=.str (aN z)):=by
 intro w;obtain⟨u,rfl,hu⟩:=hx;have o1:=Sl.form hu |>.one;have o2:=Sl.form hu |>.cells;unfold V.one at o1;unfold V.cells at o2;have kB:=((ab.refl (h:=h) (n:=N)).new (.cells [.bool (decide (z<0)),u] 105 true));have fX:Sl (h.set N (.cells [.bool (decide (z<0)),u] 105 true)) (N+1) u (dI (ds z.natAbs)):=Sl.ad hu kB;have lu:=fX.len;rw[h_]at lu;rw[aQ,A.k152 (by simp)];by_cases h0:z=0
 ·subst h0;have e0:(ds (0:Int).natAbs).length=0:=by rw[show (0:Int).natAbs=0 from rfl,vG];rfl
  rw[e0]at lu;have e1:aN 0=[48]:=by decide
  simp[A.b152,o1,lu,az,e1];exact kB
 obtain⟨n,hn⟩:∃n,z.natAbs=n:=⟨_,rfl⟩;rw[hn]at lu fX hl;have Aj:n≠0:=by omega
 have pO:(ds n).length≠0:=fun hc=>Aj (EL.1 (th hc));obtain⟨L,hL⟩:∃L,(ds n).length=L+1:=⟨(ds n).length-1,by omega⟩;have zf:=fun (k:Nat)=>Zy5 (n:=n) (k:=k);rw[hL]at lu;obtain⟨f,hF⟩:∃f:Nat->aG,∀m,f m=aq (n/1000000000^m):=⟨_,fun _=>rfl⟩;obtain⟨g,hG⟩:∃g:Nat->Nat,∀m,g m=n/1000000000^m%1000000000:=⟨_,fun _=>rfl⟩;have wO:f 0=aq n:=by rw[hF];simp
 have zy:∀m,g m<1000000000:=fun m=>by rw[hG];exact m8 _ (by omega)
 have hg:∀m,m<L+1->(ds n)[m]?=some (g m):=fun m hm=>by rw[hG];exact UA (by omega)
 have V0:f L=jg (g L) 1:=by rw[hF,hG];exact Yoe hL.symm
 have sJ:∀m,m<L->f m=f (m+1)++jg (g m) 9:=fun m hm=>by rw[hF,hF,hG];exact Yjp (by omega)
 have jr:∀m,(f m).length<=9*(L+1)+1:=fun m=>by rw[hF,<-hL];exact zf _
 clear hF hG zf;obtain⟨i,o,c,e,rw,q1,q2,q3,q4⟩:=fX.at (iB (hg L (by omega)));have c1:¬((L:Int)+1=0):=by omega
 have c2:((L:Int)+1-1)=(L:Int):=by omega
 have c3:(L:Int)<(L:Int)+1:=by omega
 have c4:((L:Int)+1-2)=(L:Int)-1:=by omega
 have c5:bn .i64 ((L:Int)+1-1)=(L:Int):=by rw[c2];exact cL (by omega) (by omega)
 have c6:bn .i64 ((L:Int)+1-2)=(L:Int)-1:=by rw[c4];exact cL (by omega) (by omega)
 have Ku:∀m st,A.C.call (.func 150 [] []) [.int .i64 (g m),.int .i64 1] st=some (.str (jg (g m) 1),st):=fun m st=>MU (n:=g m) (m:=1) (st:=st) (by have:=zy m;omega) (by omega);have pM:∀m st,A.C.call (.func 150 [] []) [.int .i64 (g m),.int .i64 9] st=some (.str (jg (g m) 9),st):=fun m st=>MU (n:=g m) (m:=9) (st:=st) (by have:=zy m;omega) (by omega);simp(disch:=omega) [A.b152,o1,lu,c1,c2,c6,q1,q3,q4,Ku];rw[<-V0];refine b_ [(3,4),(22,33)] (fun e r s1=>s1=⟨h.set N (.cells [.bool (decide (z<0)),u] 105 true),N+1,[]⟩/\e=.exit 0/\r.get 1=some (.ptr N 0)/\r.get 3=some (.str (aq n))) (fun m r s1=>s1=⟨h.set N (.cells [.bool (decide (z<0)),u] 105 true),N+1,[]⟩/\m<=L/\r.get 1=some (.ptr N 0)/\r.get 4=some (.int .i64 ((m:Int)-1))/\r.get 3=some (.str (f m))) L ?_ ?_ ?_
 ·exact⟨rfl,by omega,by simp,by simp,by simp⟩
 ·rintro m r _ hr hf ⟨rfl,hm,h1,h4,h3⟩;rw[bu];rcases m with _|m
  ·have e1:(((0:Nat):Int)-1<0):=by omega
   rw[wO]at h3;simp[A.uv,hr,hf,h3,h4]
  have e3:(((m+1:Nat):Int)-1)=(m:Int):=by omega
  have e4:¬((m:Int)<0):=by omega
  rw[e3]at h4;obtain⟨i,o,c,e,rw,q1,q2,q3,q4⟩:=fX.at (iB (hg m (by omega)));have hp:(f m).length=(f (m+1)).length+(jg (g m) 9).length:=by rw[sJ m (by omega),iI]
  have AR:¬(9223372036854775807:Int)<((f (m+1)).length:Int)+((jg (g m) 9).length:Int):=by have:=jr m;omega
  have cU:IntKind.max .i64=9223372036854775807:=rfl;have w1:bn .i64 ((m:Int)-1)=(m:Int)-1:=cL (by omega) (by omega);have c7:(m:Int)<(L:Int)+1:=by omega
  have f1:=(sJ m (by omega)).symm;have f2:m<m+1/\m<=L:=by omega
  have FD:=pM m;clear hp pO Aj hn hm hl hL sJ jr pM Ku V0 hg zy wO;simp[A.uv,hr,hf,h3,h4,lu,c7,q1,q3,q4,FD,jE,cU,AR,w1,f1];exact⟨m,f2.1,f2.2,rfl,rfl⟩
 rintro _ r _ hr ⟨rfl,rfl,h1,h3⟩;have jq:=RD (n:=n);have cU:IntKind.max .i64=9223372036854775807:=rfl;have cC:¬(9223372036854775807:Int)<1+((aq n).length:Int):=by omega
 by_cases hz:z<0
 ·have e1:aN z=45::aq n:=by unfold aN;rw[av hz,hn]
  clear jq pO Aj hn hL sJ jr pM Ku V0 hg zy wO hl;simp[hr,h3,hz,jE,cU,cC,az,e1];simpa[hz]using kB
 have e1:aN z=aq n:=by unfold aN;rw[ak hz,hn]
 clear jq pO Aj hn hL sJ jr pM Ku V0 hg zy wO hl;simp[hr,h3,hz,az,e1];simpa[hz]using kB
open Go
def Yx3{P d1 d2 d3 v1 v2 U' V' t r:Int}(hP:0<P)(J4:0<=U')(hU:U'<P)(zc:0<=V')(hV:V'<P)(h1:0<=d1)(g_:d1<1000000000)(h2:0<=d2)(h3:0<=d3)(w1:500000000<=v1)(w2:0<=v2)(w2':v2<1000000000)
  (hW:U'+P*(d1+1000000000*(d3*1000000000+d2))<1000000000*(V'+P*(v2+1000000000*v1))) (ht:d3*1000000000+d2=t*v1+r) (ib:0<=r) (Hn:r<v1):
  0<=t/\t<=1000000001/\U'+P*(d1+1000000000*(d3*1000000000+d2))<(t+1)*(V'+P*(v2+1000000000*v1)):=by
 generalize hT:d3*1000000000+d2=T at*;have hT0:0<=T:=by omega
 have t0:0<=t:=by apply Gk;intro hc;have:t*v1<=(-1)*v1:=Ge (by omega) (by omega);omega
 have a1:T<1000000000*(v1+1):=by
  apply LM;intro hc;have b1:P*(1000000000*(v1+1))<=P*T:=tB hc (by omega);have b2:0<=P*d1:=yY (by omega) h1;have b3:P*v2<=P*999999999:=tB (by omega) (by omega);have b4:P*(d1+1000000000*T)=P*d1+1000000000*(P*T):=by grind
  have b5:P*(v2+1000000000*v1)=P*v2+1000000000*(P*v1):=by grind
  have b6:P*(1000000000*(v1+1))=1000000000*(P*v1)+1000000000*P:=by grind
  omega
 have a2:t<=1000000001:=by apply Gk;intro hc;have b1:1000000002*v1<=t*v1:=Ge (by omega) (by omega);omega
 refine⟨t0,a2,?_⟩;have c1:(t+1)*v1=t*v1+v1:=by grind
 have b1:P*(T+1)<=P*((t+1)*v1):=tB (by omega) (by omega);have b2:P*d1<=P*999999999:=tB (by omega) (by omega);have b3:0<=(t+1)*V':=yY (by omega) zc;have b4:0<=(t+1)*(P*v2):=yY (by omega) (yY (by omega) w2);have b5:P*(d1+1000000000*T)=P*d1+1000000000*(P*T):=by grind
 have b6:(t+1)*(V'+P*(v2+1000000000*v1))=(t+1)*V'+(t+1)*(P*v2)+1000000000*(P*((t+1)*v1)):=by grind
 have b7:P*(T+1)=P*T+P:=by grind
 omega
set_option maxHeartbeats 2000000
def A.RE:=A.q Tryz.f218
def A.jk:=A.ql A.RE 0 []
def A.b218:=(fun x0=>A.qb A.RE [x0]) A.jk
def A.k218:=@A.kk 218 77 [.tmp 6] A.b218 (by kernel_rfl) rfl
structure GuR (W D v1 top:Int) (m:Nat) (r:T V):Prop where
 ex:∃t q:Int,t.toNat=m/\r.get 9=some (.int .i64 t)/\r.get 10=some (.int .i64 q)/\0<=t/\t<=1000000001/\0<=q/\q<1000000000/\top=t*v1+q/\W<(t+1)*D
def Ynq{h:T O}{N:Nat}{u v:V}{L Y:List Int}{j k:Nat}{d1 d2 d3 v1 v2 P U' V' W D:Int}{w:List Nat}(hu:Sl h N u (dI L))(hv:Sl h N v (dI Y))(hY:Y.length=k+2)(hL:L.length<1099511627776)(e1:L[j+k]?=some d1)(e2:L[j+k+1]?=some d2)(e3:L[j+k+2]?=some d3)(f2:Y[k]?=some v2)(f1:Y[k+1]?=some v1)
  (r1:0<=d1/\d1<1000000000) (r2:0<=d2/\d2<1000000000) (r3:0<=d3/\d3<1000000000) (r4:500000000<=v1/\v1<1000000000) (r5:0<=v2/\v2<1000000000) (hP:0<P) (J4:0<=U') (hU:U'<P) (zc:0<=V') (hV:V'<P) (hW:W=U'+P*(d1+1000000000*(d3*1000000000+d2))) (hD:D=V'+P*(v2+1000000000*v1)) (hWD:W<1000000000*D):
  ∃t,A.C.call (.func 218 [] []) [u,v,.int .i64 j] ⟨h,N,w⟩=some (.int .i64 t,⟨h,N,w⟩)/\0<=t/\t<=1000000000/\(t-1)*D<=W/\W<(t+1)*D:=by
 have lu:=hu.len;have lv:=hv.len;rw[h_]at lu lv;rw[hY]at lv;have rL:=gI e3;have goal:Call A.C (.func 218 [] []) [u,v,.int .i64 j] ⟨h,N,w⟩ (fun x s=>s=⟨h,N,w⟩/\∃t,x=.int .i64 t/\0<=t/\t<=1000000000/\(t-1)*D<=W/\W<(t+1)*D):=by
  obtain⟨a1,a2,a3,a4,a5,x1,x2,x3,x4⟩:=hu.at (iB e1);obtain⟨Vs,a2',a3',a4',a5',x1',x2',x3',x4'⟩:=hu.at (iB e2);obtain⟨zb5,zb6,zb7,zb8,zb9,KK,zb_,KL,zaT⟩:=hu.at (iB e3);rw[x1]at x1' KK;simp only[au,bD]at x1' KK;obtain⟨rfl,rfl⟩:=x1';obtain⟨rfl,rfl⟩:=KK;rw[x3]at x3' KL;simp only[au,O.cells.injEq]at x3' KL;obtain⟨rfl,rfl,rfl⟩:=x3';obtain⟨rfl,_,_⟩:=KL;obtain⟨b1,b2,b3,b4,b5,y1,y2,y3,y4⟩:=hv.at (iB f2);obtain⟨b1',b2',b3',b4',b5',y1',y2',y3',RF⟩:=hv.at (iB f1);rw[y1]at y1';simp only[au,bD]at y1';obtain⟨rfl,rfl⟩:=y1';rw[y3]at y3';simp only[au,O.cells.injEq]at y3';obtain⟨rfl,_,_⟩:=y3';have c1:((k:Int)+2-1)=(k:Int)+1:=by omega
  have c4:((k:Int)+2-2)=(k:Int):=by omega
  have c5:((j:Int)+((k:Int)+2))=(j:Int)+(k:Int)+2:=by omega
  have n1:((j:Int)+(k:Int)+2).toNat=j+k+2:=by omega
  have n3:((j:Int)+(k:Int)).toNat=j+k:=by omega
  have n4:((k:Int)+1).toNat=k+1:=by omega
  have k2:(k:Int)<(k:Int)+2:=by omega
  have k3:(0:Int)<=(k:Int)+1:=by omega
  have u1:bn .i64 (d3*1000000000)=d3*1000000000:=cL (by omega) (by omega);have u2:bn .i64 (d3*1000000000+d2)=d3*1000000000+d2:=cL (by omega) (by omega);have s0:0<=d3*1000000000+d2:=by omega
  have v0:¬v1=0:=by omega
  have t1:(d3*1000000000+d2).tdiv v1=(d3*1000000000+d2)/v1:=Dh s0;have t2:(d3*1000000000+d2).tmod v1=(d3*1000000000+d2)%v1:=Gg s0;have t3:=Gj (d3*1000000000+d2) v1;have t4:=Gl (d3*1000000000+d2) v0;have t5:=Gf (d3*1000000000+d2) (b:=v1) (by omega);have gi:=Yx3 (t:=(d3*1000000000+d2)/v1) (r:=(d3*1000000000+d2)%v1) hP J4 hU zc hV r1.1 r1.2 r2.1 r3.1 r4.1 r5.1 r5.2 (by rw[<-hW,<-hD];exact hWD) (by rw[Int.mul_comm (_/_) v1];exact t3.symm) t4 t5;rw[<-hW,<-hD]at gi;obtain⟨g1,g2,g3⟩:=gi;have t6:bn .i64 ((d3*1000000000+d2)/v1)=(d3*1000000000+d2)/v1:=cL (by omega) (by omega);rw[aQ,A.k218 (by simp)];simp(disch:=first|(simp;done)|omega|rfl) [A.b218,lv,lu,c1,c5,n1,n4,x1,x2,x3,x4',zaT,y1,y2,y3,RF,u1,u2,t1,t2,t6];generalize Ci:d3*1000000000+d2=D1 at*;refine b_ [(6,6),(9,10),(42,75)] (fun e r st=>st=⟨h,N,[]⟩/\((e=.exit 0/\∃t,r.get 9=some (.int .i64 t)/\0<=t/\t<=1000000000/\(t-1)*D<=W/\W<(t+1)*D)\/(e=.ret/\∃t,r.get 6=some (.int .i64 t)/\0<=t/\t<=1000000000/\(t-1)*D<=W/\W<(t+1)*D))) (fun m r st=>st=⟨h,N,[]⟩/\GuR W D v1 D1 m r) (D1/v1).toNat ?_ ?_ ?_
  ·exact⟨rfl,⟨D1/v1,D1%v1,rfl,by simp,by simp,g1,g2,t4,by omega,by rw[Int.mul_comm (_/_) v1];exact t3.symm,g3⟩⟩
  ·rintro m r _ hr hf ⟨rfl,⟨t,q,rfl,h9,jU,V1,tq1,q0,q1,mA,aE⟩⟩;rw[bu];by_cases hA:1000000000<=t
   ·have aE:W<t*D:=by
     have d0:0<=D:=by have:=yY (wJ hP) (show 0<=v2+1000000000*v1 by omega);omega
     have:=Ge hA d0;omega
    have tp:1<=t:=by omega
    have jS:bn .i64 (q+v1)=q+v1:=cL (by omega) (by omega);have zr:bn .i64 (t-1)=t-1:=cL (by omega) (by omega);have e5:D1=t*v1+q:=mA;have e6:(t-1)*v1+(q+v1)=t*v1+q:=by grind
    by_cases q_:1000000000<=q+v1
    ·simp(disch:=first|(simp;done)|omega|rfl) [A.jk,hr,hf,h9,jU,lv,c1,n4,y1,y3,RF,hA,jS,zr,q_];refine⟨by omega,by omega,?_,aE⟩;have m1:(t-1)*v2<=1000000000*v2:=Ge (by omega) r5.1;have:=Zyr (t:=t-1) (r:=q+v1) (v1:=v1) (u1:=D1) hP J4 r1.1 s0 (by omega) r5.1 zc hV (by omega) (by omega) (by rw[e6];exact mA) (by omega);rw[hW,hD];exact this
    simp(disch:=first|(simp;done)|omega|rfl) [A.jk,hr,hf,h9,jU,lv,c1,n4,y1,y3,RF,hA,jS,zr,q_];exact⟨(t-1).toNat,by omega,⟨t-1,q+v1,rfl,by simp,by simp,by omega,by omega,by omega,by omega,by rw[e6];exact mA,by rw[show t-1+1=t by omega];exact aE⟩⟩
   have hA':¬1000000000<=t:=hA;have m0:0<=t*v2:=yY V1 r5.1;have m1:t*v2<=1000000000*1000000000:=Int.mul_le_mul (by omega) (by omega) r5.1 (by omega);have b1':bn .i64 (t*v2)=t*v2:=cL (by omega) (by omega);have b2':bn .i64 (q*1000000000)=q*1000000000:=cL (by omega) (by omega);have b3':bn .i64 (q*1000000000+d1)=q*1000000000+d1:=cL (by omega) (by omega);by_cases hB:q*1000000000+d1<t*v2
   ·have aE:W<t*D:=by have:=Yt7 (t:=t) (r:=q) (v1:=v1) (u1:=D1) hP hU zc V1 mA hB;rw[hW,hD];exact this
    have tz:t≠0:=fun hc=>by rw[hc]at hB;simp at hB;omega
    have tp:1<=t:=by omega
    have jS:bn .i64 (q+v1)=q+v1:=cL (by omega) (by omega);have zr:bn .i64 (t-1)=t-1:=cL (by omega) (by omega);have e5:D1=t*v1+q:=mA;have e6:(t-1)*v1+(q+v1)=t*v1+q:=by grind
    by_cases q_:1000000000<=q+v1
    ·simp(disch:=first|(simp;done)|omega|rfl) [A.jk,hr,hf,h9,jU,lv,lu,c1,c4,c5,n3,n4,x1,x2,x3,x4,y1,y2,y3,y4,RF,hA',b1',b2',b3',hB,jS,zr,q_];refine⟨by omega,by omega,?_,aE⟩;have m1:(t-1)*v2<=1000000000*v2:=Ge (by omega) r5.1;have:=Zyr (t:=t-1) (r:=q+v1) (v1:=v1) (u1:=D1) hP J4 r1.1 s0 (by omega) r5.1 zc hV (by omega) (by omega) (by rw[e6];exact mA) (by omega);rw[hW,hD];exact this
    simp(disch:=first|(simp;done)|omega|rfl) [A.jk,hr,hf,h9,jU,lv,lu,c1,c4,c5,n3,n4,x1,x2,x3,x4,y1,y2,y3,y4,RF,hA',b1',b2',b3',hB,jS,zr,q_];exact⟨(t-1).toNat,by omega,⟨t-1,q+v1,rfl,by simp,by simp,by omega,by omega,by omega,by omega,by rw[e6];exact mA,by rw[show t-1+1=t by omega];exact aE⟩⟩
   simp(disch:=first|(simp;done)|omega|rfl) [A.jk,hr,hf,h9,jU,lv,lu,c4,c5,n3,x1,x2,x3,x4,y1,y2,y3,y4,hA',b1',b2',b3',hB];refine⟨V1,by omega,?_,aE⟩;have:=Zyr (t:=t) (r:=q) (u1:=D1) hP J4 r1.1 s0 (by omega) r5.1 zc hV V1 (by omega) mA (by omega);rw[hW,hD];exact this
  rintro e r _ hr ⟨rfl,⟨rfl,t,h9,ht⟩|⟨rfl,t,h6,ht⟩⟩
  ·simp[h9];exact ht
  simp[h6];exact ht
 obtain⟨x,s,hc,rfl,t,rfl,h1,h2,h3,h4⟩:=goal.ex;exact⟨t,hc,h1,h2,h3,h4⟩
def A.Cv:=A.q Tryz.f147
def A.pq:=A.ql A.Cv 3 []
def A.mB:=A.ql A.Cv 2 []
def A.pr:=(fun x0 x1=>A.ql A.Cv 1 [x0,x1]) A.mB A.pq
def A.pn:=A.ql A.Cv 0 []
def A.b147:=(fun x0 x1=>A.qb A.Cv [x0,x1]) A.pn A.pr
def A.k147:=@A.kk 147 206 [.tmp 4,.tmp 5] A.b147 (by kernel_rfl) rfl
structure DvS (N:Nat) (h2:T O) (n2 iu iq n:Nat) (U Q:List Int) (st:St):Prop where
 w:ay N st.w=[]
 ad:ab h2 n2 st.h n
 n:st.n=n
 ru:st.h.get iu=some (.cells (dI U) 3 true)
 rq:st.h.get iq=some (.cells (dI Q) 3 true)
structure DvR (r0:T V) (v:V) (iu lu L j:Nat):Prop where
 r9:r0.get 9=some v
 wM:r0.get 10=some (.int .i64 L)
 yf:r0.get 11=some (.slice iu 0 lu none 1)
 wP:r0.get 13=some (.int .i64 j)
structure RG (N:Nat) (h2:T O) (n2 iu iq n:Nat) (U Q Y:List Int) (L j:Nat) (t:Int) (m:Nat) (r:T V) (st:St):Prop where
 ex:∃i U' c,i+m=L/\r.get 16=some (.int .i64 i)/\r.get 15=some (.int .i64 c)/\0<=c/\c<=1000000000/\DvS N h2 n2 iu iq n U' Q st/\U'.length=U.length/\(∀s,(s<j\/j+i<=s)->U'[s]?=U[s]?)/\Di U'/\vI U'-pI (j+i)*c=vI U-pI j*(t*vI (Y.take i))
def Yla{N:Nat}{h2:T O}{n2 iu iq n:Nat}{U Q Y:List Int}{L j:Nat}{t:Int}{v:V}{r0:T V}(hv:Sl h2 n2 v (dI Y))(hY:Y.length=L)(dY:Di Y)(IN:j+L<U.length)(CQ:U.length<1099511627776)(R:DvR r0 v iu U.length L j)(MK:r0.get 14=some (.int .i64 t))(t0:0<=t)(t1:t<=1000000000)(a1:N<=n2)(a2:n2<=iu)(a3:iu<iq)(a4:iq<n):
  ∀k r st,(∀t,j_ [(15,18),(90,125)] t=false->r.get t=r0.get t)->Fx [(15,18),(90,125)] r0 206 ⟨r,206,[]⟩->RG N h2 n2 iu iq n U Q Y L j t k r st->Code A.C none A.mB ⟨r,206,[]⟩ st (Rd [(15,18),(90,125)] r0 206 (RG N h2 n2 iu iq n U Q Y L j t) k (fun e r st=>e=.exit 4/\RG N h2 n2 iu iq n U Q Y L j t 0 r st)):=by
 rintro m r ⟨H,n1,W⟩ hr hf ⟨i,U',c,hi,RH,Ft,c0,c1,⟨hW,hK,hn,ru,rq⟩,mC,ff,jF,iY⟩;simp only at hW hK hn ru rq;subst hn;obtain⟨r9,wM,yf,wP⟩:=R;rw[bu];cases m with
 |zero=>
  have:i=L:=by omega
  subst this;simp[A.mB,hr,hf,RH,wM];exact⟨i,U',c,by omega,by simp[RH],by simp[Ft],c0,c1,⟨hW,hK,rfl,ru,rq⟩,mC,ff,jF,iY⟩
 |succ m=>
  obtain⟨y,hy⟩:=bj (l:=Y) (k:=i) (by omega);have lv:=hv.len;rw[h_,hY]at lv;obtain⟨b1,b2,b3,b4,b5,z1,z2,z3,z4⟩:=hv.at (iB hy);have z3:=(hK.get _ z2).trans z3;have MS:=dY.get hy;obtain⟨o,ho⟩:=bj (l:=U') (k:=i+j) (by omega);have hod:=jF.get ho;have AT:(i:Int)<(L:Int):=by omega
  have p0:0<=t*y:=yY t0 MS.1;have p1:t*y<=1000000000*999999999:=Int.mul_le_mul t1 (by omega) MS.1 (by omega);have q1:(i:Int)+(j:Int)<(U.length:Int):=by omega
  have q2:i+j<U.length:=by omega
  have q3:(0:Int)<=(i:Int)+(j:Int):=by omega
  have nn:¬iu<N:=by omega
  have w8:=h_ U';have hsu:=EK ho;have On:=AO hy;have hp:=T1 i j;have pP:=xH (j+i);generalize hP:t*y=P at*;have b1':bn .i64 P=P:=cL (by omega) (by omega);have b2':bn .i64 (P+c)=P+c:=cL (by omega) (by omega);have V2:(P+c).tmod 1000000000=(P+c)%1000000000:=Gg (by omega);have V3:(P+c).tdiv 1000000000=(P+c)/1000000000:=Dh (by omega);have hm:=Gj (P+c) 1000000000;have e0:=Gl (P+c) (b:=1000000000) (by decide);have e1:=Gf (P+c) (b:=1000000000) (by decide);have key:∀(x' c':Int),x'-1000000000*c'=o-(P+c)->vI (U'.set (i+j) x')-pI (j+(i+1))*c'=vI U-pI j*(t*vI (Y.take (i+1))):=by
   intro x' c' hx;rw[hsu,On,show j+(i+1)=j+i+1 by omega,pP,show i+j=j+i by omega];have h3:vI U'=vI U-pI j*(t*vI (Y.take i))+pI (j+i)*c:=by omega
   have h4:x'=o-(P+c)+1000000000*c':=by omega
   rw[h3,h4,show j+i=i+j by omega,hp,<-hP];grind
  have same:∀(x':Int) (s:Nat),(s<j\/j+(i+1)<=s)->(U'.set (i+j) x')[s]?=U[s]?:=by intro x' s hs;rw[eW (by omega)];exact ff s (by omega)
  generalize (P+c)/1000000000=D at*;generalize (P+c)%1000000000=M at*;have b3':bn .i64 D=D:=cL (by omega) (by omega);have b4':bn .i64 (o-M)=o-M:=cL (by omega) (by omega);have d4:b1<n1:=by have:=hK.le;omega
  have d5:¬iq=iu:=by omega
  by_cases eg:o-M<0
  ·have b5':bn .i64 (o-M+1000000000)=o-M+1000000000:=cL (by omega) (by omega);have b6':bn .i64 (D+1)=D+1:=cL (by omega) (by omega);have w7:=Dy (l:=U') (k:=i+j) (v:=o-M+1000000000) (by omega);simp(disch:=first|(simp;done)|omega|rfl) [-getElem?_pos,A.mB,hr,hf,RH,Ft,r9,wM,yf,wP,MK,AT,lv,ru,iB ho,z1,z3,z4,hP,b1',b2',b3',b4',b5',b6',V2,V3,eg,w7];refine⟨m,by omega,⟨i+1,U'.set (i+j) (o-M+1000000000),D+1,by omega,by simp,by simp,by omega,by omega,⟨by simp[ay,hW,nn],hK.set (by omega),rfl,by simp,by simp[d5,rq]⟩,by simp[mC],same _,jF.set (by omega) (by omega),key _ _ (by omega)⟩⟩
  have w7:=Dy (l:=U') (k:=i+j) (v:=o-M) (by omega);simp(disch:=first|(simp;done)|omega|rfl) [-getElem?_pos,A.mB,hr,hf,RH,Ft,r9,wM,yf,wP,MK,AT,lv,ru,iB ho,z1,z3,z4,hP,b1',b2',b3',b4',V2,V3,eg,w7];refine⟨m,by omega,⟨i+1,U'.set (i+j) (o-M),D,by omega,by simp,by simp,by omega,by omega,⟨by simp[ay,hW,nn],hK.set (by omega),rfl,by simp,by simp[d5,rq]⟩,by simp[mC],same _,jF.set (by omega) (by omega),key _ _ (by omega)⟩⟩
structure RI (N:Nat) (h2:T O) (n2 iu iq n:Nat) (U Q Y:List Int) (L j:Nat) (m:Nat) (r:T V) (st:St):Prop where
 ex:∃i U' c,i+m=L/\r.get 20=some (.int .i64 i)/\r.get 19=some (.int .i64 c)/\0<=c/\c<=1/\DvS N h2 n2 iu iq n U' Q st/\U'.length=U.length/\(∀s,(s<j\/j+i<=s)->U'[s]?=U[s]?)/\(∀(s:Nat) (d:Int),s≠j+L->U'[s]?=some d->0<=d/\d<1000000000)/\vI U'+pI (j+i)*c=vI U+pI j*vI (Y.take i)
def Yo2{N:Nat}{h2:T O}{n2 iu iq n:Nat}{U Q Y:List Int}{L j:Nat}{v:V}{r0:T V}(hv:Sl h2 n2 v (dI Y))(hY:Y.length=L)(dY:Di Y)(IN:j+L<U.length)(CQ:U.length<1099511627776)(R:DvR r0 v iu U.length L j)(a1:N<=n2)(a2:n2<=iu)(a3:iu<iq)(a4:iq<n):
  ∀k r st,(∀t,j_ [(19,21),(148,174)] t=false->r.get t=r0.get t)->Fx [(19,21),(148,174)] r0 206 ⟨r,206,[]⟩->RI N h2 n2 iu iq n U Q Y L j k r st->Code A.C none A.pq ⟨r,206,[]⟩ st (Rd [(19,21),(148,174)] r0 206 (RI N h2 n2 iu iq n U Q Y L j) k (fun e r st=>e=.exit 6/\RI N h2 n2 iu iq n U Q Y L j 0 r st)):=by
 rintro m r ⟨H,n1,W⟩ hr hf ⟨i,U',c,hi,C5,V4,c0,c1,⟨hW,hK,hn,ru,rq⟩,mC,ff,jF,iY⟩;simp only at hW hK hn ru rq;subst hn;obtain⟨r9,wM,yf,wP⟩:=R;rw[bu];cases m with
 |zero=>
  have:i=L:=by omega
  subst this;simp[A.pq,hr,hf,C5,wM];exact⟨i,U',c,by omega,by simp[C5],by simp[V4],c0,c1,⟨hW,hK,rfl,ru,rq⟩,mC,ff,jF,iY⟩
 |succ m=>
  obtain⟨y,hy⟩:=bj (l:=Y) (k:=i) (by omega);have lv:=hv.len;rw[h_,hY]at lv;obtain⟨b1,b2,b3,b4,b5,z1,z2,z3,z4⟩:=hv.at (iB hy);have z3:=(hK.get _ z2).trans z3;have MS:=dY.get hy;obtain⟨o,ho⟩:=bj (l:=U') (k:=i+j) (by omega);have hod:=jF _ _ (by omega) ho;have AT:(i:Int)<(L:Int):=by omega
  have nn:¬iu<N:=by omega
  have w8:=h_ U';have hsu:=EK ho;have On:=AO hy;have hp:=T1 i j;have pP:=xH (j+i);have b1':bn .i64 (o+y)=o+y:=cL (by omega) (by omega);have b2':bn .i64 (o+y+c)=o+y+c:=cL (by omega) (by omega);have V2:(o+y+c).tmod 1000000000=(o+y+c)%1000000000:=Gg (by omega);have V3:(o+y+c).tdiv 1000000000=(o+y+c)/1000000000:=Dh (by omega);have hm:=Gj (o+y+c) 1000000000;have e0:=Gl (o+y+c) (b:=1000000000) (by decide);have e1:=Gf (o+y+c) (b:=1000000000) (by decide);have w7:=Dy (l:=U') (k:=i+j) (v:=(o+y+c)%1000000000) (by omega);have d4:b1<n1:=by have:=hK.le;omega
  have d5:¬iq=iu:=by omega
  have d6:iu<n1:=by omega
  have b3':bn .i64 ((o+y+c)/1000000000)=(o+y+c)/1000000000:=cL (by omega) (by omega);simp(disch:=first|(simp;done)|omega|rfl) [-getElem?_pos,A.pq,hr,hf,C5,V4,r9,wM,yf,wP,AT,lv,ru,iB ho,z1,z3,z4,b1',b2',b3',V2,V3,w7,d4,d6];generalize (o+y+c)/1000000000=D at*;generalize (o+y+c)%1000000000=M at*;refine⟨m,by omega,⟨i+1,U'.set (i+j) M,D,by omega,by simp,by simp,by omega,by omega,⟨by simp[ay,hW,nn],hK.set (by omega),rfl,by simp,by simp[d5,rq]⟩,by simp[mC],fun s hs=>?_,fun s d hs hd=>?_,?_⟩⟩
  ·rw[eW (by omega)];exact ff s (by omega)
  ·by_cases hsi:s=i+j
   ·subst hsi;rw[jW (by omega)]at hd;simp at hd;omega
   rw[eW (fun h=>hsi h.symm)]at hd;exact jF s d hs hd
  rw[hsu,On,show j+(i+1)=j+i+1 by omega,pP,show i+j=j+i by omega];have h3:vI U'=vI U+pI j*vI (Y.take i)-pI (j+i)*c:=by omega
  have h4:M=o+y+c-1000000000*D:=by omega
  rw[h3,h4,show j+i=i+j by omega,hp];grind
def Yti{l:List Int}{d:Int}(h:d∈l):∃s:Nat,l[s]?=some d:=pK h
def Yyh{l:List Int}(h:∀(s:Nat) (d:Int),l[s]?=some d->0<=d/\d<1000000000):Di l:=fun d hd=>by
 obtain⟨s,hs⟩:=Yti hd
 exact h s d hs
def Ybj{U U2:List Int}{j:Nat}{X:Int}(hj:j<=U.length)(hl:U2.length=U.length)(hs:∀s,s<j->U2[s]?=U[s]?)(hv:vI U2=vI U-pI j*X):vI (U2.drop j)=vI (U.drop j)-X:=by
 have h1:=OB U j hj;have h2:=OB U2 j (by omega);have h3:U2.take j=U.take j:=by
  apply nN;intro s;rw[jZ,jZ];by_cases h:s<j
  ·rw[av h,av h];exact hs s h
  rw[ak h,ak h]
 rw[h3]at h2;have h4:pI j*vI (U2.drop j)=pI j*(vI (U.drop j)-X):=by
  have:pI j*(vI (U.drop j)-X)=pI j*vI (U.drop j)-pI j*X:=by grind
  omega
 exact Int.eq_of_mul_eq_mul_left (Int.ne_of_gt (EI j)) h4
def Yo9{U:List Int}{j L:Nat}{tt:Int}(hd:∀(s:Nat) (d:Int),s<j+L->U[s]?=some d->0<=d/\d<1000000000)(ht:U[j+L]?=some tt)(hz:∀s,j+L<s->s<U.length->U[s]?=some 0)(aE:vI (U.drop j)<pI L):(0<=vI (U.drop j)->tt=0)/\(vI (U.drop j)<0->tt<0):=by
 refine Yk4 (w:=U.drop j) (n:=L) ?_ (by rw[fJ];exact ht) ?_ aE
 ·refine Yyh fun s d hs=>?_;by_cases h:s<L
  ·rw[jZ,av h,fJ]at hs;exact hd (j+s) d (by omega) hs
  rw[jZ,ak h]at hs;cases hs
 intro s h1 h2;rw[fJ];exact hz (j+s) (by omega) (by simp at h2;omega)
structure Rp (N:Nat) (h2:T O) (n2 iu iq n lu L:Nat) (A0:Int) (Y:List Int) (m:Nat) (r:T V) (st:St):Prop where
 ex:∃U Q,DvS N h2 n2 iu iq n U Q st/\r.get 13=some (.int .i64 ((m:Int)-1))/\U.length=lu/\Q.length=lu-L/\m<=lu-L/\Di U/\Di Q/\(∀s,m+L<=s->s<lu->U[s]?=some 0)/\vI (U.drop m)<vI Y/\(∀s,s<m->Q[s]?=some 0)/\vI U+vI Y*vI Q=A0
def Yma{N:Nat}{h2:T O}{n2 iu iq n lu k:Nat}{A0 v1:Int}{Y:List Int}{v:V}{r0:T V}(hv:Sl h2 n2 v (dI Y))(hY:Y.length=k+2)(dY:Di Y)(nT:Y[k+1]?=some v1)(h5:500000000<=v1)(Hh:k+2<lu)(CQ:lu<1099511627776)(r9:r0.get 9=some v)(wM:r0.get 10=some (.int .i64 (k+2:Nat)))(yf:r0.get 11=some (.slice iu 0 lu none 1))(QK:r0.get 12=some (.slice iq 0 (lu-(k+2)) (some (lu-(k+2))) 1))(a1:N<=n2)(a2:n2<=iu)(a3:iu<iq)(a4:iq<n):
  ∀m r st,(∀t,j_ [(13,21),(82,191)] t=false->r.get t=r0.get t)->Fx [(13,21),(82,191)] r0 206 ⟨r,206,[]⟩->Rp N h2 n2 iu iq n lu (k+2) A0 Y m r st->Code A.C none A.pr ⟨r,206,[]⟩ st (Rd [(13,21),(82,191)] r0 206 (Rp N h2 n2 iu iq n lu (k+2) A0 Y) m (fun e r st=>e=.exit 2/\Rp N h2 n2 iu iq n lu (k+2) A0 Y 0 r st)):=by
 rintro m r ⟨H,n1,W⟩ hr hf ⟨U,Q,⟨hW,hK,hn,ru,rq⟩,wP,mC,hql,hm,dU,dQ,hz,zt,RJ,iY⟩;simp only at hW hK hn ru rq;subst hn;rw[bu];cases m with
 |zero=> simp[A.pr,hf,wP];exact⟨U,Q,⟨hW,hK,rfl,ru,rq⟩,by simp[wP],mC,hql,hm,dU,dQ,hz,zt,RJ,iY⟩
 |succ j=>
  have uG:(((j+1:Nat):Int)-1)=(j:Int):=by omega
  rw[uG]at wP;have Ca:(0:Int)<=(j:Int):=by omega
  obtain⟨v2,jQ⟩:=bj (l:=Y) (k:=k) (by omega);obtain⟨d1,e1⟩:=bj (l:=U) (k:=j+k) (by omega);obtain⟨d2,e2⟩:=bj (l:=U) (k:=j+k+1) (by omega);obtain⟨d3,e3⟩:=bj (l:=U) (k:=j+k+2) (by omega);obtain⟨x0,jK⟩:=bj (l:=U) (k:=j) (by omega);have hWt:=Yq5 (w:=U.drop j) (k:=k) (a:=d1) (c:=d2) (d:=d3) (by rw[fJ];exact e1) (by rw[fJ,<-qP];exact e2) (by rw[fJ,<-qP];exact e3) (fun t h1 h2=>by rw[fJ];exact hz _ (by omega) (by simp at h2;omega));have hDt:=Yq6 jQ nT hY;have hWd:vI (U.drop j)<1000000000*vI Y:=by rw[nf jK,vI];have:=dU.get jK;omega
  have hUk:=xJ ((dU.drop j).take k);rw[ik,yO,ry (by omega)]at hUk;have hVk:=xJ (dY.take k);rw[ik,ry (by omega)]at hVk;obtain⟨t,hg,t0,t1,gT,iW⟩:=Ynq (w:=W) (Sl.row (cp:=none) (L:=lu) (show iu<n1 by omega) ru (by simp[mC]) (fun k hk=>by cases hk)) (hv.ad hK) hY (by omega) e1 e2 e3 jQ nT (dU.get e1) (dU.get e2) (dU.get e3) ⟨h5,(dY.get nT).2⟩ (dY.get jQ) (EI k) (xI ((dU.drop j).take k)) hUk (xI (dY.take k)) hVk hWt hDt hWd;have hVl:=xJ dY;rw[hY]at hVl;have hVp:0<vI Y:=by have:=xI (dU.drop (j+1));omega
  simp[A.pr,hr,wP,Ca,r9,yf,hg];refine b_ [(15,18),(90,125)] (fun e r st=>e=.exit 4/\RG N h2 n2 iu iq n1 U Q Y (k+2) j t 0 r st) (RG N h2 n2 iu iq n1 U Q Y (k+2) j t) (k+2) ?_ ?_ ?_
  ·exact⟨0,U,0,by omega,by simp,by simp,by omega,by omega,⟨hW,hK,rfl,ru,rq⟩,rfl,fun _ _=>rfl,dU,by simp[vI]⟩
  ·exact Yla hv hY dY (by omega) (by omega) ⟨by simp[hr,r9],by simp[hr,wM],by simp[hr,yf,mC],by simp[wP]⟩ (by simp) t0 t1 a1 a2 a3 a4
  rintro _ r2 ⟨H2,n3,W2⟩ dJ ⟨rfl,i,U',c,hi,RH,Ft,c0,c1,⟨fY,qj,fV,ru2,rq2⟩,Cw,ff,nw,RK⟩;simp only at fY qj fV ru2 rq2;subst fV;obtain rfl:i=k+2:=by omega
  have VL:=hf.inner (D':=[(15,18),(90,125)]) rfl (by simp) dJ;rw[<-hY,Dj,hY]at RK;have e3':U'[j+(k+2)]?=some d3:=by rw[ff _ (.inr (aM _))];rw[<-qP];exact e3
  have hd3:=dU.get e3;have q1:(j:Int)+((k:Int)+2)<(lu:Int):=by omega
  have q2:j+(k+2)<lu:=by omega
  have q3:(0:Int)<=(j:Int)+((k:Int)+2):=by omega
  have q4:((j:Int)+((k:Int)+2)).toNat=j+(k+2):=by omega
  have w8:=h_ U';have b1':bn .i64 (d3-c)=d3-c:=cL (by omega) (by omega);have w7:=Dy (l:=U') (k:=j+(k+2)) (v:=d3-c) (by omega);have nn:¬iu<N:=by omega
  have d5:¬iq=iu:=by omega
  have d6:¬iu=iq:=by omega
  have nq:¬iq<N:=by omega
  have v2e:vI (U'.set (j+(k+2)) (d3-c))=vI U-pI j*(t*vI Y):=by
   rw[EK e3'];have:pI (j+(k+2))*(d3-c-d3)= -(pI (j+(k+2))*c):=by grind
   omega
  have nR:∀s,s<j->(U'.set (j+(k+2)) (d3-c))[s]?=U[s]?:=fun s hs=>by rw[eW (by omega)];exact ff s (.inl hs)
  have eQ:∀s,j+(k+2)<s->s<lu->(U'.set (j+(k+2)) (d3-c))[s]?=some 0:=fun s h1 h2=>by rw[eW (by omega),ff s (.inr (by omega))];exact hz s (by omega) h2
  have Ch:=Ybj (by omega) (by simp[Cw]) nR v2e;have mA:(U'.set (j+(k+2)) (d3-c))[j+(k+2)]?=some (d3-c):=jW (by omega);have fb:vI ((U'.set (j+(k+2)) (d3-c)).drop j)<vI Y:=by
   rw[Ch];have:(t+1)*vI Y=t*vI Y+vI Y:=by grind
   omega
  have hto:=Yo9 (U:=U'.set (j+(k+2)) (d3-c)) (fun s d hs hd=>by rw[eW (by omega)]at hd;exact nw.get hd) mA (fun s h1 h2=>eQ s h1 (by simp at h2;omega)) (by omega);have qj1:(j:Int)<((lu-(k+2):Nat):Int):=by omega
  have qj2:j<lu-(k+2):=by omega
  have wq8:=h_ Q;by_cases eg:d3-c<0
  ·have t1w:bn .i64 (t-1)=t-1:=cL (by omega) (by omega);simp(disch:=first|(simp;done)|omega|rfl) [-getElem?_pos,hr,dJ,Ft,wM,yf,wP,q4,ru2,iB e3',b1',w7,iB mA,eg,t1w];generalize hU2:U'.set (j+(k+2)) (d3-c)=U2 at*;have jq:U2.length=lu:=by rw[<-hU2];simp[Cw,mC]
   have zca:vI (U2.drop j)<0:=by apply LM;intro hc;have:=hto.1 hc;omega
   have zaU:∀(s:Nat) (d:Int),s≠j+(k+2)->U2[s]?=some d->0<=d/\d<1000000000:=fun s d hs hd=>by rw[<-hU2,eW (by omega)]at hd;exact nw.get hd
   refine b_ [(19,21),(148,174)] (fun e r st=>e=.exit 6/\RI N h2 n2 iu iq n3 U2 Q Y (k+2) j 0 r st) (RI N h2 n2 iu iq n3 U2 Q Y (k+2) j) (k+2) ?_ ?_ ?_
   ·exact⟨0,U2,0,by omega,by simp,by simp,by omega,by omega,⟨by simp[ay,fY,nn],qj.set (by omega),rfl,by simp,by simp[d5,rq2]⟩,rfl,fun _ _=>rfl,zaU,by simp[vI]⟩
   ·exact Yo2 hv hY dY (by omega) (by omega) ⟨by simp[hr,dJ,r9],by simp[hr,dJ,wM],by simp[hr,dJ,yf,jq],by simp[dJ,wP]⟩ a1 a2 a3 a4
   rintro _ r4 ⟨H4,n4,W4⟩ uX ⟨rfl,i4,U3,c4,hi4,C5,V4,c40,c41,⟨vu,AA,Rq,Rr,Rt⟩,RL,yp,RM,RN⟩;simp only at vu AA Rq Rr Rt;subst Rq;obtain rfl:i4=k+2:=by omega
   have zaV:=VL.inner (D':=[(19,21),(148,174)]) rfl (by simp) uX;rw[<-hY,Dj,hY]at RN;have e4:U3[j+(k+2)]?=some (d3-c):=by rw[yp _ (.inr (aM _))];exact mA
   have x8:=h_ U3;have b4':bn .i64 (d3-c+c4)=d3-c+c4:=cL (by omega) (by omega);have x7:=Dy (l:=U3) (k:=j+(k+2)) (v:=d3-c+c4) (by omega);have v4e:vI (U3.set (j+(k+2)) (d3-c+c4))=vI U-pI j*((t-1)*vI Y):=by
    rw[EK e4];have x1:pI (j+(k+2))*(d3-c+c4-(d3-c))=pI (j+(k+2))*c4:=by grind
    have x2:pI j*((t-1)*vI Y)=pI j*(t*vI Y)-pI j*vI Y:=by grind
    omega
   have V5:∀s,s<j->(U3.set (j+(k+2)) (d3-c+c4))[s]?=U[s]?:=fun s hs=>by rw[eW (by omega),yp s (.inl hs)];exact nR s hs
   have AW:∀s,j+(k+2)<s->s<lu->(U3.set (j+(k+2)) (d3-c+c4))[s]?=some 0:=fun s h1 h2=>by rw[eW (by omega),yp s (.inr (by omega))];exact eQ s h1 h2
   have RO:=Ybj (by omega) (by simp[RL,jq,mC]) V5 v4e;have Cy:(U3.set (j+(k+2)) (d3-c+c4))[j+(k+2)]?=some (d3-c+c4):=jW (by omega);have xt:(t-1)*vI Y=t*vI Y-vI Y:=by grind
   have zaW:vI ((U3.set (j+(k+2)) (d3-c+c4)).drop j)<vI Y:=by rw[RO];omega
   have zaX:0<=vI ((U3.set (j+(k+2)) (d3-c+c4)).drop j):=by rw[RO];omega
   have zaY:=Yo9 (U:=U3.set (j+(k+2)) (d3-c+c4)) (fun s d hs hd=>by rw[eW (by omega)]at hd;exact RM s d (by omega) hd) Cy (fun s h1 h2=>AW s h1 (by simp at h2;omega)) (by omega);have pN:=zaY.1 zaX;have w9:=Dy (l:=Q) (k:=j) (v:=t-1) (by omega);have xW:=RJ j (by omega);have zcb:1<=t:=by
    apply Gk;intro hc;have:t=0:=by omega
    rw[this]at Ch;have:=xI (dU.drop j);omega
   simp(disch:=first|(simp;done)|omega|rfl) [-getElem?_pos,hr,dJ,uX,zaV,V4,wM,yf,QK,wP,q4,Rr,Rt,iB e4,b4',x7,d5,w9];refine⟨j,by omega,⟨U3.set (j+(k+2)) (d3-c+c4),Q.set j (t-1),⟨by simp[ay,vu,nn,nq],?_,rfl,by simp[d6],by simp⟩,by simp,by simp[RL,jq],by simp[hql],by omega,?_,dQ.set (by omega) (by omega),?_,?_,?_,?_⟩⟩
   ·exact(AA.set (by omega)).set (by omega)
   ·refine Yyh fun s d hd=>?_;by_cases hs:s=j+(k+2)
    ·subst hs;rw[Cy,pN]at hd;simp at hd;omega
    rw[eW (fun h=>hs h.symm)]at hd;exact RM s d hs hd
   ·intro s h1 h2;by_cases hs:s=j+(k+2)
    ·rw[hs,Cy,pN]
    exact AW s (by omega) h2
   ·exact zaW
   ·intro s hs;rw[eW (by omega)];exact RJ s (by omega)
   rw[v4e,EK xW,<-iY];grind
  have Vy:0<=vI ((U'.set (j+(k+2)) (d3-c)).drop j):=by apply Gk;intro hc;exact eg (hto.2 hc)
  have pN:=hto.1 Vy;have w9:=Dy (l:=Q) (k:=j) (v:=t) (by omega);have xW:=RJ j (by omega);rw[Ch]at Vy fb;have tlt:t<1000000000:=by apply LM;intro hc;have:=Ge hc (wJ hVp);omega
  simp(disch:=first|(simp;done)|omega|rfl) [-getElem?_pos,hr,dJ,VL,Ft,wM,yf,QK,wP,q4,ru2,rq2,iB e3',b1',w7,iB mA,eg,d5,w9];refine⟨j,by omega,⟨U'.set (j+(k+2)) (d3-c),Q.set j t,⟨by simp[ay,fY,nn,nq],?_,rfl,by simp[d6],by simp⟩,by simp,by simp[Cw,mC],by simp[hql],by omega,?_,dQ.set t0 tlt,?_,?_,?_,?_⟩⟩
  ·exact(qj.set (by omega)).set (by omega)
  ·rw[pN];exact nw.set (by omega) (by omega)
  ·intro s h1 h2;by_cases hs:s=j+(k+2)
   ·rw[hs,mA,pN]
   exact eQ s (by omega) h2
  ·rw[Ch];exact fb
  ·intro s hs;rw[eW (by omega)];exact RJ s (by omega)
  rw[v2e,EK xW,<-iY];grind
end
end Go.Mx
