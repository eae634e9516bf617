/-lensletref01-/
import Derived.Test.YtnkdakmfipgidaaGreatDoorMxQ
set_option linter.all false
namespace Go.Mx
noncomputable section
open Go Go.Proofs
variable {n:Nat}
set_option maxRecDepth 1000000
def A.Rk:=A.q Tryz.f141
def A.oW:=A.ql A.Rk 0 []
def A.b141:=(fun x0=>A.qb A.Rk [x0]) A.oW
def A.k141:=@A.kk 141 25 [.tmp 4] A.b141 (by kernel_rfl) rfl
def A.w76:=A.q Tryz.f76
def A.xR:=A.ql A.w76 0 []
def A.b76:=(fun x0=>A.qb A.w76 [x0]) A.xR
def A.k76:=@A.kk 76 39 [.tmp 2] A.b76 (by kernel_rfl) rfl
def Yh5:jb 0 0=[]:=by simp[jb,uZ]
def Yh6{m:Nat}(h:n≠0\/0<m):jb n m=jb (n/10) (m-1)++[dr n]:=by
 unfold jb;by_cases hn:n=0
 ·subst hn;have hm:0<m:=by omega
  simp only[uZ,Nat.zero_div,List.length_nil,Nat.sub_zero,zZ];obtain⟨k,rfl⟩:∃k,m=k+1:=⟨m-1,by omega⟩;have:dr 0=48:=by decide
  rw[this,List.replicate_succ',Nat.add_sub_cancel]
 rw[yS hn];have:m-(dv (n/10)++[dr n]).length=m-1-(dv (n/10)).length:=by simp;omega
 rw[this,uG]
def Ysq{k:Nat}(hk:k<10):(Yy6.take (k+1)).drop k=[dr k]:=by
 have:k=0\/k=1\/k=2\/k=3\/k=4\/k=5\/k=6\/k=7\/k=8\/k=9:=by omega
 rcases this with rfl|rfl|rfl|rfl|rfl|rfl|rfl|rfl|rfl|rfl<;>decide
def Ysu(n:Nat):dr (n%10)=dr n:=by unfold dr;rw[Nat.mod_mod]
def MU{m:Nat}{st:St}(hn:n<9223372036854775808)(hm:m<1000):A.C.call (.func 141 [] []) [.int .i64 n,.int .i64 m] st=some (.str (jb n m),st):=by
 apply Call.eq;rw[aN,A.k141 (by simp)];simp[A.b141];have hlen:(jb n m).length<2000:=by have:(dv n).length<=19:=qN.1 (by omega);unfold jb;simp;omega
 refine cm [(0,0),(5,23)] (fun e r s1=>s1=⟨st.h,st.n,[]⟩/\e=.exit 0/\r.get 5=some (.str (jb n m))) (fun q r s1=>s1=⟨st.h,st.n,[]⟩/\∃k s,q=k+(m-s.length)/\k<9223372036854775808/\r.get 0=some (.int .i64 k)/\r.get 5=some (.str s)/\jb n m=jb k (m-s.length)++s) (n+m) ?_ ?_ ?_
 ·exact⟨rfl,n,[],by simp,hn,by simp,by simp,by simp⟩
 ·rintro q r _ hr hf ⟨rfl,k,s,rfl,hk,h0,h5,hd⟩;rw[bu];by_cases uX:k≠0\/0<m-s.length
  ·have eM:=Yh6 (n:=k) (m:=m-s.length) uX;rw[eM,uG,TA]at hd;have ct:s.length+1<2000:=by have:=congrArg List.length hd;simp at this;omega
   have t1:(k:Int).tmod 10=((k%10:Nat):Int):=by rw[Gl (by omega)];omega
   have t2:(k:Int).tdiv 10=((k/10:Nat):Int):=by rw[C2 (by omega)];omega
   have t3:bo .i64 ((k/10:Nat):Int)=((k/10:Nat):Int):=cP (by omega) (by omega);have t4:bo .i64 (((k%10:Nat):Int)+1)=((k%10+1:Nat):Int):=by rw[cP (by omega) (by omega)];omega
   have Rl:¬(9223372036854775807:Int)<1+(s.length:Int):=by omega
   have dh:IntKind.max .i64=9223372036854775807:=rfl;have sl:∀st:St,vg st (some (.str [48,49,50,51,52,53,54,55,56,57])) (some (some (.int .i64 ((k:Int)%10)))) (some (some (.int .i64 ((k:Int)%10+1))))=some (.str [dr k],st):=fun st=>by
    rw[Zqt (by omega) (by omega) (by simp;omega)];have e1:((k:Int)%10).toNat=k%10:=by omega
    have e2:((k:Int)%10+1).toNat=k%10+1:=by omega
    rw[e1,e2];have:=Ysq (k:=k%10) (by omega);rw[Ysu]at this;exact congrArg (fun x=>some (V.str x,st)) this
   have JR:0<k\/(¬0<k/\s.length<m):=by omega
   rcases JR with g1|⟨g1,g2⟩
   ·have i1:(0:Int)<(k:Int):=by omega
    simp(disch:=first|(simp;done)|omega|rfl) [A.oW,hf,h0,h5,g1,t1,t2,jF,dh,sl,Rl];exact⟨k/10+(m-(s.length+1)),by omega,k/10,dr k::s,by simp,by omega,by simp,by simp,by rw[hd,bk,Nat.sub_sub]⟩
   have i1:¬(0:Int)<(k:Int):=by omega
   have i2:(s.length:Int)<(m:Int):=by omega
   simp(disch:=first|(simp;done)|omega|rfl) [A.oW,hr,hf,h0,h5,g1,i2,t1,t2,jF,dh,sl,Rl];exact⟨k/10+(m-(s.length+1)),by omega,k/10,dr k::s,by simp,by omega,by simp,by simp,by rw[hd,bk,Nat.sub_sub]⟩
  have g1:¬0<k:=by omega
  have g2:¬s.length<m:=by omega
  have i1:¬(0:Int)<(k:Int):=by omega
  have i2:¬(s.length:Int)<(m:Int):=by omega
  obtain rfl:k=0:=by omega
  rw[show m-s.length=0 by omega,Yh5,List.nil_append]at hd;simp[A.oW,hr,hf,h0,h5,i2,hd]
 rintro _ r _ hr ⟨rfl,rfl,h5⟩;simp[h5]
def Rm:(an n).length<=9*(ds n).length+1:=by
 have h1:n<10^(9*(ds n).length):=by have h2:=wZ (ig n);rw[iC,Ut]at h2;have h3:=Int.ofNat_lt.1 h2;rw[Nat.pow_mul];exact h3
 have:=qN.1 h1;unfold an;split<;>simp<;>omega
def Zxz{k:Nat}:(an (n/k)).length<=9*(ds n).length+1:=by have h1:=Rm (n:=n/k);have h2:=vQ (wS n k);omega
def Iy{h:T O}{N:Nat}{x:V}{z:Int}(hx:Rg h N x z)(hl:(ds z.natAbs).length<100000000000):Fn A.C 76 [x] h N (fun u _ _=>u=.str (aK z)):=by
 intro w;obtain⟨u,rfl,hu⟩:=hx;have o1:=Sl.form hu |>.one;have o2:=Sl.form hu |>.cells;unfold V.one at o1;unfold V.cells at o2;have kB:=((ab.refl (h:=h) (n:=N)).new (.cells [.bool (decide (z<0)),u] 93 true));have fZ:Sl (h.set N (.cells [.bool (decide (z<0)),u] 93 true)) (N+1) u (dI (ds z.natAbs)):=Sl.ad hu kB;have lu:=fZ.len;rw[iJ]at lu;rw[aN,A.k76 (by simp)];by_cases h0:z=0
 ·subst h0;have e0:(ds (0:Int).natAbs).length=0:=by rw[show (0:Int).natAbs=0 from rfl,uJ];rfl
  rw[e0]at lu;have e1:aK 0=[48]:=by decide
  simp[A.b76,o1,lu,ax,e1];exact kB
 obtain⟨n,hn⟩:∃n,z.natAbs=n:=⟨_,rfl⟩;rw[hn]at lu fZ hl;have DD:n≠0:=by omega
 have mF:(ds n).length≠0:=fun hc=>DD (EI.1 (rS hc));obtain⟨L,hL⟩:∃L,(ds n).length=L+1:=⟨(ds n).length-1,by omega⟩;have zH:=fun (k:Nat)=>Zxz (n:=n) (k:=k);rw[hL]at lu;obtain⟨f,hF⟩:∃f:Nat->aD,∀m,f m=an (n/1000000000^m):=⟨_,fun _=>rfl⟩;obtain⟨g,hG⟩:∃g:Nat->Nat,∀m,g m=n/1000000000^m%1000000000:=⟨_,fun _=>rfl⟩;have vV:f 0=an n:=by rw[hF];simp
 have y8:∀m,g m<1000000000:=fun m=>by rw[hG];exact mO _ (by omega)
 have hg:∀m,m<L+1->(ds n)[m]?=some (g m):=fun m hm=>by rw[hG];exact Uq (by omega)
 have VF:f L=jb (g L) 1:=by rw[hF,hG];exact Ymt hL.symm
 have xw:∀m,m<L->f m=f (m+1)++jb (g m) 9:=fun m hm=>by rw[hF,hF,hG];exact Yh7 (by omega)
 have kg:∀m,(f m).length<=9*(L+1)+1:=fun m=>by rw[hF,<-hL];exact zH _
 clear hF hG zH;obtain⟨i,o,c,e,rw,q1,q2,q3,q4⟩:=fZ.at (iP (hg L (by omega)));have c1:¬((L:Int)+1=0):=by omega
 have c2:((L:Int)+1-1)=(L:Int):=by omega
 have c3:(L:Int)<(L:Int)+1:=by omega
 have c4:((L:Int)+1-2)=(L:Int)-1:=by omega
 have c5:bo .i64 ((L:Int)+1-1)=(L:Int):=by rw[c2];exact cP (by omega) (by omega)
 have c6:bo .i64 ((L:Int)+1-2)=(L:Int)-1:=by rw[c4];exact cP (by omega) (by omega)
 have Kt:∀m st,A.C.call (.func 141 [] []) [.int .i64 (g m),.int .i64 1] st=some (.str (jb (g m) 1),st):=fun m st=>MU (n:=g m) (m:=1) (st:=st) (by have:=y8 m;omega) (by omega);have pk:∀m st,A.C.call (.func 141 [] []) [.int .i64 (g m),.int .i64 9] st=some (.str (jb (g m) 9),st):=fun m st=>MU (n:=g m) (m:=9) (st:=st) (by have:=y8 m;omega) (by omega);simp(disch:=omega) [A.b76,o1,lu,c1,c2,c6,q1,q3,q4,Kt];rw[<-VF];refine cm [(3,4),(22,33)] (fun e r s1=>s1=⟨h.set N (.cells [.bool (decide (z<0)),u] 93 true),N+1,[]⟩/\e=.exit 0/\r.get 1=some (.ptr N 0)/\r.get 3=some (.str (an n))) (fun m r s1=>s1=⟨h.set N (.cells [.bool (decide (z<0)),u] 93 true),N+1,[]⟩/\m<=L/\r.get 1=some (.ptr N 0)/\r.get 4=some (.int .i64 ((m:Int)-1))/\r.get 3=some (.str (f m))) L ?_ ?_ ?_
 ·exact⟨rfl,by omega,by simp,by simp,by simp⟩
 ·rintro m r _ hr hf ⟨rfl,hm,h1,h4,h3⟩;rw[bu];rcases m with _|m
  ·have e1:(((0:Nat):Int)-1<0):=by omega
   rw[vV]at h3;simp[A.xR,hr,hf,h3,h4]
  have e3:(((m+1:Nat):Int)-1)=(m:Int):=by omega
  have e4:¬((m:Int)<0):=by omega
  rw[e3]at h4;obtain⟨i,o,c,e,rw,q1,q2,q3,q4⟩:=fZ.at (iP (hg m (by omega)));have hp:(f m).length=(f (m+1)).length+(jb (g m) 9).length:=by rw[xw m (by omega),jm]
  have Ar:¬(9223372036854775807:Int)<((f (m+1)).length:Int)+((jb (g m) 9).length:Int):=by have:=kg m;omega
  have dh:IntKind.max .i64=9223372036854775807:=rfl;have w1:bo .i64 ((m:Int)-1)=(m:Int)-1:=cP (by omega) (by omega);have c7:(m:Int)<(L:Int)+1:=by omega
  have f1:=(xw m (by omega)).symm;have f2:m<m+1/\m<=L:=by omega
  have FF:=pk m;clear hp mF DD hn hm hl hL xw kg pk Kt VF hg y8 vV;simp[A.xR,hr,hf,h3,h4,lu,c7,q1,q3,q4,FF,jF,dh,Ar,w1,f1];exact⟨m,f2.1,f2.2,rfl,rfl⟩
 rintro _ r _ hr ⟨rfl,rfl,h1,h3⟩;have il:=Rm (n:=n);have dh:IntKind.max .i64=9223372036854775807:=rfl;have ct:¬(9223372036854775807:Int)<1+((an n).length:Int):=by omega
 by_cases hz:z<0
 ·have e1:aK z=45::an n:=by unfold aK;rw[ar hz,hn]
  clear il mF DD hn hL xw kg pk Kt VF hg y8 vV hl;simp[hr,h3,hz,jF,dh,ct,ax,e1];simpa[hz]using kB
 have e1:aK z=an n:=by unfold aK;rw[ak hz,hn]
 clear il mF DD hn hL xw kg pk Kt VF hg y8 vV hl;simp[hr,h3,hz,ax,e1];simpa[hz]using kB
open Go
def Yv4{P d1 d2 d3 v1 v2 U' V' t r:Int}(hP:0<P)(J6:0<=U')(hU:U'<P)(yJ:0<=V')(hV:V'<P)(h1:0<=d1)(h_:d1<1000000000)(h2:0<=d2)(h3:0<=d3)(w1:500000000<=v1)(w2:0<=v2)(w2':v2<1000000000)
  (hW:U'+P*(d1+1000000000*(d3*1000000000+d2))<1000000000*(V'+P*(v2+1000000000*v1))) (ht:d3*1000000000+d2=t*v1+r) (fv:0<=r) (GX:r<v1):
  0<=t/\t<=1000000001/\U'+P*(d1+1000000000*(d3*1000000000+d2))<(t+1)*(V'+P*(v2+1000000000*v1)):=by
 generalize hT:d3*1000000000+d2=T at*;have hT0:0<=T:=by omega
 have t0:0<=t:=by apply Gs;intro hc;have:t*v1<=(-1)*v1:=Gk (by omega) (by omega);omega
 have a1:T<1000000000*(v1+1):=by
  apply LI;intro hc;have b1:P*(1000000000*(v1+1))<=P*T:=sI hc (by omega);have b2:0<=P*d1:=yF (by omega) h1;have b3:P*v2<=P*999999999:=sI (by omega) (by omega);have b4:P*(d1+1000000000*T)=P*d1+1000000000*(P*T):=by grind
  have b5:P*(v2+1000000000*v1)=P*v2+1000000000*(P*v1):=by grind
  have b6:P*(1000000000*(v1+1))=1000000000*(P*v1)+1000000000*P:=by grind
  omega
 have a2:t<=1000000001:=by apply Gs;intro hc;have b1:1000000002*v1<=t*v1:=Gk (by omega) (by omega);omega
 refine⟨t0,a2,?_⟩;have c1:(t+1)*v1=t*v1+v1:=by grind
 have b1:P*(T+1)<=P*((t+1)*v1):=sI (by omega) (by omega);have b2:P*d1<=P*999999999:=sI (by omega) (by omega);have b3:0<=(t+1)*V':=yF (by omega) yJ;have b4:0<=(t+1)*(P*v2):=yF (by omega) (yF (by omega) w2);have b5:P*(d1+1000000000*T)=P*d1+1000000000*(P*T):=by grind
 have b6:(t+1)*(V'+P*(v2+1000000000*v1))=(t+1)*V'+(t+1)*(P*v2)+1000000000*(P*((t+1)*v1)):=by grind
 have b7:P*(T+1)=P*T+P:=by grind
 omega
set_option maxHeartbeats 2000000
def A.Rn:=A.q Tryz.f190
def A.jf:=A.ql A.Rn 0 []
def A.b190:=(fun x0=>A.qb A.Rn [x0]) A.jf
def A.k190:=@A.kk 190 77 [.tmp 6] A.b190 (by kernel_rfl) rfl
structure GuR (W D v1 top:Int) (m:Nat) (r:T V):Prop where
 ex:∃t q:Int,t.toNat=m/\r.get 9=some (.int .i64 t)/\r.get 10=some (.int .i64 q)/\0<=t/\t<=1000000001/\0<=q/\q<1000000000/\top=t*v1+q/\W<(t+1)*D
def Yl4{h:T O}{N:Nat}{u v:V}{L Y:List Int}{j k:Nat}{d1 d2 d3 v1 v2 P U' V' W D:Int}{w:List Nat}(hu:Sl h N u (dI L))(hv:Sl h N v (dI Y))(hY:Y.length=k+2)(hL:L.length<1099511627776)(e1:L[j+k]?=some d1)(e2:L[j+k+1]?=some d2)(e3:L[j+k+2]?=some d3)(f2:Y[k]?=some v2)(f1:Y[k+1]?=some v1)
  (r1:0<=d1/\d1<1000000000) (r2:0<=d2/\d2<1000000000) (r3:0<=d3/\d3<1000000000) (r4:500000000<=v1/\v1<1000000000) (r5:0<=v2/\v2<1000000000) (hP:0<P) (J6:0<=U') (hU:U'<P) (yJ:0<=V') (hV:V'<P) (hW:W=U'+P*(d1+1000000000*(d3*1000000000+d2))) (hD:D=V'+P*(v2+1000000000*v1)) (hWD:W<1000000000*D):
  ∃t,A.C.call (.func 190 [] []) [u,v,.int .i64 j] ⟨h,N,w⟩=some (.int .i64 t,⟨h,N,w⟩)/\0<=t/\t<=1000000000/\(t-1)*D<=W/\W<(t+1)*D:=by
 have lu:=hu.len;have lv:=hv.len;rw[iJ]at lu lv;rw[hY]at lv;have qU:=gZ e3;have goal:Call A.C (.func 190 [] []) [u,v,.int .i64 j] ⟨h,N,w⟩ (fun x s=>s=⟨h,N,w⟩/\∃t,x=.int .i64 t/\0<=t/\t<=1000000000/\(t-1)*D<=W/\W<(t+1)*D):=by
  obtain⟨a1,a2,a3,a4,a5,x1,x2,x3,x4⟩:=hu.at (iP e1);obtain⟨U6,a2',a3',a4',a5',x1',x2',x3',x4'⟩:=hu.at (iP e2);obtain⟨zbO,zbP,zbQ,zbR,zbS,KI,zbT,KJ,zaK⟩:=hu.at (iP e3);rw[x1]at x1' KI;simp only[aq,bB]at x1' KI;obtain⟨rfl,rfl⟩:=x1';obtain⟨rfl,rfl⟩:=KI;rw[x3]at x3' KJ;simp only[aq,O.cells.injEq]at x3' KJ;obtain⟨rfl,rfl,rfl⟩:=x3';obtain⟨rfl,_,_⟩:=KJ;obtain⟨b1,b2,b3,b4,b5,y1,y2,y3,y4⟩:=hv.at (iP f2);obtain⟨b1',b2',b3',b4',b5',y1',y2',y3',Ro⟩:=hv.at (iP f1);rw[y1]at y1';simp only[aq,bB]at y1';obtain⟨rfl,rfl⟩:=y1';rw[y3]at y3';simp only[aq,O.cells.injEq]at y3';obtain⟨rfl,_,_⟩:=y3';have c1:((k:Int)+2-1)=(k:Int)+1:=by omega
  have c4:((k:Int)+2-2)=(k:Int):=by omega
  have c5:((j:Int)+((k:Int)+2))=(j:Int)+(k:Int)+2:=by omega
  have n1:((j:Int)+(k:Int)+2).toNat=j+k+2:=by omega
  have n3:((j:Int)+(k:Int)).toNat=j+k:=by omega
  have n4:((k:Int)+1).toNat=k+1:=by omega
  have k2:(k:Int)<(k:Int)+2:=by omega
  have k3:(0:Int)<=(k:Int)+1:=by omega
  have u1:bo .i64 (d3*1000000000)=d3*1000000000:=cP (by omega) (by omega);have u2:bo .i64 (d3*1000000000+d2)=d3*1000000000+d2:=cP (by omega) (by omega);have s0:0<=d3*1000000000+d2:=by omega
  have v0:¬v1=0:=by omega
  have t1:(d3*1000000000+d2).tdiv v1=(d3*1000000000+d2)/v1:=C2 s0;have t2:(d3*1000000000+d2).tmod v1=(d3*1000000000+d2)%v1:=Gl s0;have t3:=Gj (d3*1000000000+d2) v1;have t4:=Gt (d3*1000000000+d2) v0;have t5:=Gq (d3*1000000000+d2) (b:=v1) (by omega);have gi:=Yv4 (t:=(d3*1000000000+d2)/v1) (r:=(d3*1000000000+d2)%v1) hP J6 hU yJ hV r1.1 r1.2 r2.1 r3.1 r4.1 r5.1 r5.2 (by rw[<-hW,<-hD];exact hWD) (by rw[Int.mul_comm (_/_) v1];exact t3.symm) t4 t5;rw[<-hW,<-hD]at gi;obtain⟨g1,g2,g3⟩:=gi;have t6:bo .i64 ((d3*1000000000+d2)/v1)=(d3*1000000000+d2)/v1:=cP (by omega) (by omega);rw[aN,A.k190 (by simp)];simp(disch:=first|(simp;done)|omega|rfl) [A.b190,lv,lu,c1,c5,n1,n4,x1,x2,x3,x4',zaK,y1,y2,y3,Ro,u1,u2,t1,t2,t6];generalize B9:d3*1000000000+d2=D1 at*;refine cm [(6,6),(9,10),(42,75)] (fun e r st=>st=⟨h,N,[]⟩/\((e=.exit 0/\∃t,r.get 9=some (.int .i64 t)/\0<=t/\t<=1000000000/\(t-1)*D<=W/\W<(t+1)*D)\/(e=.ret/\∃t,r.get 6=some (.int .i64 t)/\0<=t/\t<=1000000000/\(t-1)*D<=W/\W<(t+1)*D))) (fun m r st=>st=⟨h,N,[]⟩/\GuR W D v1 D1 m r) (D1/v1).toNat ?_ ?_ ?_
  ·exact⟨rfl,⟨D1/v1,D1%v1,rfl,by simp,by simp,g1,g2,t4,by omega,by rw[Int.mul_comm (_/_) v1];exact t3.symm,g3⟩⟩
  ·rintro m r _ hr hf ⟨rfl,⟨t,q,rfl,h9,jH,VG,tq1,q0,q1,lV,aC⟩⟩;rw[bu];by_cases hA:1000000000<=t
   ·have aC:W<t*D:=by
     have d0:0<=D:=by have:=yF (vN hP) (show 0<=v2+1000000000*v1 by omega);omega
     have:=Gk hA d0;omega
    have tp:1<=t:=by omega
    have nL:bo .i64 (q+v1)=q+v1:=cP (by omega) (by omega);have yW:bo .i64 (t-1)=t-1:=cP (by omega) (by omega);have e5:D1=t*v1+q:=lV;have e6:(t-1)*v1+(q+v1)=t*v1+q:=by grind
    by_cases qp:1000000000<=q+v1
    ·simp(disch:=first|(simp;done)|omega|rfl) [A.jf,hr,hf,h9,jH,lv,c1,n4,y1,y3,Ro,hA,nL,yW,qp];refine⟨by omega,by omega,?_,aC⟩;have m1:(t-1)*v2<=1000000000*v2:=Gk (by omega) r5.1;have:=Zxi (t:=t-1) (r:=q+v1) (v1:=v1) (u1:=D1) hP J6 r1.1 s0 (by omega) r5.1 yJ hV (by omega) (by omega) (by rw[e6];exact lV) (by omega);rw[hW,hD];exact this
    simp(disch:=first|(simp;done)|omega|rfl) [A.jf,hr,hf,h9,jH,lv,c1,n4,y1,y3,Ro,hA,nL,yW,qp];exact⟨(t-1).toNat,by omega,⟨t-1,q+v1,rfl,by simp,by simp,by omega,by omega,by omega,by omega,by rw[e6];exact lV,by rw[show t-1+1=t by omega];exact aC⟩⟩
   have hA':¬1000000000<=t:=hA;have m0:0<=t*v2:=yF VG r5.1;have m1:t*v2<=1000000000*1000000000:=Int.mul_le_mul (by omega) (by omega) r5.1 (by omega);have b1':bo .i64 (t*v2)=t*v2:=cP (by omega) (by omega);have b2':bo .i64 (q*1000000000)=q*1000000000:=cP (by omega) (by omega);have b3':bo .i64 (q*1000000000+d1)=q*1000000000+d1:=cP (by omega) (by omega);by_cases hB:q*1000000000+d1<t*v2
   ·have aC:W<t*D:=by have:=Yr0 (t:=t) (r:=q) (v1:=v1) (u1:=D1) hP hU yJ VG lV hB;rw[hW,hD];exact this
    have tz:t≠0:=fun hc=>by rw[hc]at hB;simp at hB;omega
    have tp:1<=t:=by omega
    have nL:bo .i64 (q+v1)=q+v1:=cP (by omega) (by omega);have yW:bo .i64 (t-1)=t-1:=cP (by omega) (by omega);have e5:D1=t*v1+q:=lV;have e6:(t-1)*v1+(q+v1)=t*v1+q:=by grind
    by_cases qp:1000000000<=q+v1
    ·simp(disch:=first|(simp;done)|omega|rfl) [A.jf,hr,hf,h9,jH,lv,lu,c1,c4,c5,n3,n4,x1,x2,x3,x4,y1,y2,y3,y4,Ro,hA',b1',b2',b3',hB,nL,yW,qp];refine⟨by omega,by omega,?_,aC⟩;have m1:(t-1)*v2<=1000000000*v2:=Gk (by omega) r5.1;have:=Zxi (t:=t-1) (r:=q+v1) (v1:=v1) (u1:=D1) hP J6 r1.1 s0 (by omega) r5.1 yJ hV (by omega) (by omega) (by rw[e6];exact lV) (by omega);rw[hW,hD];exact this
    simp(disch:=first|(simp;done)|omega|rfl) [A.jf,hr,hf,h9,jH,lv,lu,c1,c4,c5,n3,n4,x1,x2,x3,x4,y1,y2,y3,y4,Ro,hA',b1',b2',b3',hB,nL,yW,qp];exact⟨(t-1).toNat,by omega,⟨t-1,q+v1,rfl,by simp,by simp,by omega,by omega,by omega,by omega,by rw[e6];exact lV,by rw[show t-1+1=t by omega];exact aC⟩⟩
   simp(disch:=first|(simp;done)|omega|rfl) [A.jf,hr,hf,h9,jH,lv,lu,c4,c5,n3,x1,x2,x3,x4,y1,y2,y3,y4,hA',b1',b2',b3',hB];refine⟨VG,by omega,?_,aC⟩;have:=Zxi (t:=t) (r:=q) (u1:=D1) hP J6 r1.1 s0 (by omega) r5.1 yJ hV VG (by omega) lV (by omega);rw[hW,hD];exact this
  rintro e r _ hr ⟨rfl,⟨rfl,t,h9,ht⟩|⟨rfl,t,h6,ht⟩⟩
  ·simp[h9];exact ht
  simp[h6];exact ht
 obtain⟨x,s,hc,rfl,t,rfl,h1,h2,h3,h4⟩:=goal.ex;exact⟨t,hc,h1,h2,h3,h4⟩
def A.Cl:=A.q Tryz.f144
def A.oX:=A.ql A.Cl 3 []
def A.lZ:=A.ql A.Cl 2 []
def A.oY:=(fun x0 x1=>A.ql A.Cl 1 [x0,x1]) A.lZ A.oX
def A.oV:=A.ql A.Cl 0 []
def A.b144:=(fun x0 x1=>A.qb A.Cl [x0,x1]) A.oV A.oY
def A.k144:=@A.kk 144 206 [.tmp 4,.tmp 5] A.b144 (by kernel_rfl) rfl
structure DvS (N:Nat) (h2:T O) (n2 iu iq n:Nat) (U Q:List Int) (st:St):Prop where
 w:ay N st.w=[]
 ad:ab h2 n2 st.h n
 n:st.n=n
 ru:st.h.get iu=some (.cells (dI U) 3 true)
 rq:st.h.get iq=some (.cells (dI Q) 3 true)
structure DvR (r0:T V) (v:V) (iu lu L j:Nat):Prop where
 r9:r0.get 9=some v
 vT:r0.get 10=some (.int .i64 L)
 xI:r0.get 11=some (.slice iu 0 lu none 1)
 v_:r0.get 13=some (.int .i64 j)
structure Rp (N:Nat) (h2:T O) (n2 iu iq n:Nat) (U Q Y:List Int) (L j:Nat) (t:Int) (m:Nat) (r:T V) (st:St):Prop where
 ex:∃i U' c,i+m=L/\r.get 16=some (.int .i64 i)/\r.get 15=some (.int .i64 c)/\0<=c/\c<=1000000000/\DvS N h2 n2 iu iq n U' Q st/\U'.length=U.length/\(∀s,(s<j\/j+i<=s)->U'[s]?=U[s]?)/\Di U'/\vI U'-pI (j+i)*c=vI U-pI j*(t*vI (Y.take i))
def Yjs{N:Nat}{h2:T O}{n2 iu iq n:Nat}{U Q Y:List Int}{L j:Nat}{t:Int}{v:V}{r0:T V}(hv:Sl h2 n2 v (dI Y))(hY:Y.length=L)(dY:Di Y)(JG:j+L<U.length)(vD:U.length<1099511627776)(R:DvR r0 v iu U.length L j)(MI:r0.get 14=some (.int .i64 t))(t0:0<=t)(t1:t<=1000000000)(a1:N<=n2)(a2:n2<=iu)(a3:iu<iq)(a4:iq<n):
  ∀k r st,(∀t,kX [(15,18),(90,125)] t=false->r.get t=r0.get t)->Fx [(15,18),(90,125)] r0 206 ⟨r,206,[]⟩->Rp N h2 n2 iu iq n U Q Y L j t k r st->Code A.C none A.lZ ⟨r,206,[]⟩ st (Rd [(15,18),(90,125)] r0 206 (Rp N h2 n2 iu iq n U Q Y L j t) k (fun e r st=>e=.exit 4/\Rp N h2 n2 iu iq n U Q Y L j t 0 r st)):=by
 rintro m r ⟨H,n1,W⟩ hr hf ⟨i,U',c,hi,Rr,Ft,c0,c1,⟨hW,hK,hn,ru,rq⟩,jo,eQ,jt,iV⟩;simp only at hW hK hn ru rq;subst hn;obtain⟨r9,vT,xI,v_⟩:=R;rw[bu];cases m with
 |zero=>
  have:i=L:=by omega
  subst this;simp[A.lZ,hr,hf,Rr,vT];exact⟨i,U',c,by omega,by simp[Rr],by simp[Ft],c0,c1,⟨hW,hK,rfl,ru,rq⟩,jo,eQ,jt,iV⟩
 |succ m=>
  obtain⟨y,hy⟩:=bj (l:=Y) (k:=i) (by omega);have lv:=hv.len;rw[iJ,hY]at lv;obtain⟨b1,b2,b3,b4,b5,z1,z2,z3,z4⟩:=hv.at (iP hy);have z3:=(hK.get _ z2).trans z3;have MR:=dY.get hy;obtain⟨o,ho⟩:=bj (l:=U') (k:=i+j) (by omega);have hod:=jt.get ho;have Au:(i:Int)<(L:Int):=by omega
  have p0:0<=t*y:=yF t0 MR.1;have p1:t*y<=1000000000*999999999:=Int.mul_le_mul t1 (by omega) MR.1 (by omega);have q1:(i:Int)+(j:Int)<(U.length:Int):=by omega
  have q2:i+j<U.length:=by omega
  have q3:(0:Int)<=(i:Int)+(j:Int):=by omega
  have nn:¬iu<N:=by omega
  have w8:=iJ U';have hsu:=EH ho;have ON:=Ap hy;have hp:=TJ i j;have rU:=wX (j+i);generalize hP:t*y=P at*;have b1':bo .i64 P=P:=cP (by omega) (by omega);have b2':bo .i64 (P+c)=P+c:=cP (by omega) (by omega);have VH:(P+c).tmod 1000000000=(P+c)%1000000000:=Gl (by omega);have VI:(P+c).tdiv 1000000000=(P+c)/1000000000:=C2 (by omega);have hm:=Gj (P+c) 1000000000;have e0:=Gt (P+c) (b:=1000000000) (by decide);have e1:=Gq (P+c) (b:=1000000000) (by decide);have key:∀(x' c':Int),x'-1000000000*c'=o-(P+c)->vI (U'.set (i+j) x')-pI (j+(i+1))*c'=vI U-pI j*(t*vI (Y.take (i+1))):=by
   intro x' c' hx;rw[hsu,ON,show j+(i+1)=j+i+1 by omega,rU,show i+j=j+i by omega];have h3:vI U'=vI U-pI j*(t*vI (Y.take i))+pI (j+i)*c:=by omega
   have h4:x'=o-(P+c)+1000000000*c':=by omega
   rw[h3,h4,show j+i=i+j by omega,hp,<-hP];grind
  have same:∀(x':Int) (s:Nat),(s<j\/j+(i+1)<=s)->(U'.set (i+j) x')[s]?=U[s]?:=by intro x' s hs;rw[eX (by omega)];exact eQ s (by omega)
  generalize (P+c)/1000000000=D at*;generalize (P+c)%1000000000=M at*;have b3':bo .i64 D=D:=cP (by omega) (by omega);have b4':bo .i64 (o-M)=o-M:=cP (by omega) (by omega);have d4:b1<n1:=by have:=hK.le;omega
  have d5:¬iq=iu:=by omega
  by_cases dW:o-M<0
  ·have b5':bo .i64 (o-M+1000000000)=o-M+1000000000:=cP (by omega) (by omega);have b6':bo .i64 (D+1)=D+1:=cP (by omega) (by omega);have w7:=Dh (l:=U') (k:=i+j) (v:=o-M+1000000000) (by omega);simp(disch:=first|(simp;done)|omega|rfl) [-getElem?_pos,A.lZ,hr,hf,Rr,Ft,r9,vT,xI,v_,MI,Au,lv,ru,iP ho,z1,z3,z4,hP,b1',b2',b3',b4',b5',b6',VH,VI,dW,w7];refine⟨m,by omega,⟨i+1,U'.set (i+j) (o-M+1000000000),D+1,by omega,by simp,by simp,by omega,by omega,⟨by simp[ay,hW,nn],hK.set (by omega),rfl,by simp,by simp[d5,rq]⟩,by simp[jo],same _,jt.set (by omega) (by omega),key _ _ (by omega)⟩⟩
  have w7:=Dh (l:=U') (k:=i+j) (v:=o-M) (by omega);simp(disch:=first|(simp;done)|omega|rfl) [-getElem?_pos,A.lZ,hr,hf,Rr,Ft,r9,vT,xI,v_,MI,Au,lv,ru,iP ho,z1,z3,z4,hP,b1',b2',b3',b4',VH,VI,dW,w7];refine⟨m,by omega,⟨i+1,U'.set (i+j) (o-M),D,by omega,by simp,by simp,by omega,by omega,⟨by simp[ay,hW,nn],hK.set (by omega),rfl,by simp,by simp[d5,rq]⟩,by simp[jo],same _,jt.set (by omega) (by omega),key _ _ (by omega)⟩⟩
structure Rt (N:Nat) (h2:T O) (n2 iu iq n:Nat) (U Q Y:List Int) (L j:Nat) (m:Nat) (r:T V) (st:St):Prop where
 ex:∃i U' c,i+m=L/\r.get 20=some (.int .i64 i)/\r.get 19=some (.int .i64 c)/\0<=c/\c<=1/\DvS N h2 n2 iu iq n U' Q st/\U'.length=U.length/\(∀s,(s<j\/j+i<=s)->U'[s]?=U[s]?)/\(∀(s:Nat) (d:Int),s≠j+L->U'[s]?=some d->0<=d/\d<1000000000)/\vI U'+pI (j+i)*c=vI U+pI j*vI (Y.take i)
def Ynk{N:Nat}{h2:T O}{n2 iu iq n:Nat}{U Q Y:List Int}{L j:Nat}{v:V}{r0:T V}(hv:Sl h2 n2 v (dI Y))(hY:Y.length=L)(dY:Di Y)(JG:j+L<U.length)(vD:U.length<1099511627776)(R:DvR r0 v iu U.length L j)(a1:N<=n2)(a2:n2<=iu)(a3:iu<iq)(a4:iq<n):
  ∀k r st,(∀t,kX [(19,21),(148,174)] t=false->r.get t=r0.get t)->Fx [(19,21),(148,174)] r0 206 ⟨r,206,[]⟩->Rt N h2 n2 iu iq n U Q Y L j k r st->Code A.C none A.oX ⟨r,206,[]⟩ st (Rd [(19,21),(148,174)] r0 206 (Rt N h2 n2 iu iq n U Q Y L j) k (fun e r st=>e=.exit 6/\Rt N h2 n2 iu iq n U Q Y L j 0 r st)):=by
 rintro m r ⟨H,n1,W⟩ hr hf ⟨i,U',c,hi,VJ,VK,c0,c1,⟨hW,hK,hn,ru,rq⟩,jo,eQ,jt,iV⟩;simp only at hW hK hn ru rq;subst hn;obtain⟨r9,vT,xI,v_⟩:=R;rw[bu];cases m with
 |zero=>
  have:i=L:=by omega
  subst this;simp[A.oX,hr,hf,VJ,vT];exact⟨i,U',c,by omega,by simp[VJ],by simp[VK],c0,c1,⟨hW,hK,rfl,ru,rq⟩,jo,eQ,jt,iV⟩
 |succ m=>
  obtain⟨y,hy⟩:=bj (l:=Y) (k:=i) (by omega);have lv:=hv.len;rw[iJ,hY]at lv;obtain⟨b1,b2,b3,b4,b5,z1,z2,z3,z4⟩:=hv.at (iP hy);have z3:=(hK.get _ z2).trans z3;have MR:=dY.get hy;obtain⟨o,ho⟩:=bj (l:=U') (k:=i+j) (by omega);have hod:=jt _ _ (by omega) ho;have Au:(i:Int)<(L:Int):=by omega
  have nn:¬iu<N:=by omega
  have w8:=iJ U';have hsu:=EH ho;have ON:=Ap hy;have hp:=TJ i j;have rU:=wX (j+i);have b1':bo .i64 (o+y)=o+y:=cP (by omega) (by omega);have b2':bo .i64 (o+y+c)=o+y+c:=cP (by omega) (by omega);have VH:(o+y+c).tmod 1000000000=(o+y+c)%1000000000:=Gl (by omega);have VI:(o+y+c).tdiv 1000000000=(o+y+c)/1000000000:=C2 (by omega);have hm:=Gj (o+y+c) 1000000000;have e0:=Gt (o+y+c) (b:=1000000000) (by decide);have e1:=Gq (o+y+c) (b:=1000000000) (by decide);have w7:=Dh (l:=U') (k:=i+j) (v:=(o+y+c)%1000000000) (by omega);have d4:b1<n1:=by have:=hK.le;omega
  have d5:¬iq=iu:=by omega
  have d6:iu<n1:=by omega
  have b3':bo .i64 ((o+y+c)/1000000000)=(o+y+c)/1000000000:=cP (by omega) (by omega);simp(disch:=first|(simp;done)|omega|rfl) [-getElem?_pos,A.oX,hr,hf,VJ,VK,r9,vT,xI,v_,Au,lv,ru,iP ho,z1,z3,z4,b1',b2',b3',VH,VI,w7,d4,d6];generalize (o+y+c)/1000000000=D at*;generalize (o+y+c)%1000000000=M at*;refine⟨m,by omega,⟨i+1,U'.set (i+j) M,D,by omega,by simp,by simp,by omega,by omega,⟨by simp[ay,hW,nn],hK.set (by omega),rfl,by simp,by simp[d5,rq]⟩,by simp[jo],fun s hs=>?_,fun s d hs hd=>?_,?_⟩⟩
  ·rw[eX (by omega)];exact eQ s (by omega)
  ·by_cases hsi:s=i+j
   ·subst hsi;rw[mD (by omega)]at hd;simp at hd;omega
   rw[eX (fun h=>hsi h.symm)]at hd;exact jt s d hs hd
  rw[hsu,ON,show j+(i+1)=j+i+1 by omega,rU,show i+j=j+i by omega];have h3:vI U'=vI U+pI j*vI (Y.take i)-pI (j+i)*c:=by omega
  have h4:M=o+y+c-1000000000*D:=by omega
  rw[h3,h4,show j+i=i+j by omega,hp];grind
def Yrh{l:List Int}{d:Int}(h:d∈l):∃s:Nat,l[s]?=some d:=nw h
def Ywl{l:List Int}(h:∀(s:Nat) (d:Int),l[s]?=some d->0<=d/\d<1000000000):Di l:=fun d hd=>by
 obtain⟨s,hs⟩:=Yrh hd
 exact h s d hs
def Zz8{U U2:List Int}{j:Nat}{X:Int}(hj:j<=U.length)(hl:U2.length=U.length)(hs:∀s,s<j->U2[s]?=U[s]?)(hv:vI U2=vI U-pI j*X):vI (U2.drop j)=vI (U.drop j)-X:=by
 have h1:=Oo U j hj;have h2:=Oo U2 j (by omega);have h3:U2.take j=U.take j:=by
  apply ph;intro s;rw[jL,jL];by_cases h:s<j
  ·rw[ar h,ar h];exact hs s h
  rw[ak h,ak h]
 rw[h3]at h2;have h4:pI j*vI (U2.drop j)=pI j*(vI (U.drop j)-X):=by
  have:pI j*(vI (U.drop j)-X)=pI j*vI (U.drop j)-pI j*X:=by grind
  omega
 exact Int.eq_of_mul_eq_mul_left (Int.ne_of_gt (EF j)) h4
def Yns{U:List Int}{j L:Nat}{tt:Int}(hd:∀(s:Nat) (d:Int),s<j+L->U[s]?=some d->0<=d/\d<1000000000)(ht:U[j+L]?=some tt)(hz:∀s,j+L<s->s<U.length->U[s]?=some 0)(aC:vI (U.drop j)<pI L):(0<=vI (U.drop j)->tt=0)/\(vI (U.drop j)<0->tt<0):=by
 refine Yjo (w:=U.drop j) (n:=L) ?_ (by rw[fF];exact ht) ?_ aC
 ·refine Ywl fun s d hs=>?_;by_cases h:s<L
  ·rw[jL,ar h,fF]at hs;exact hd (j+s) d (by omega) hs
  rw[jL,ak h]at hs;cases hs
 intro s h1 h2;rw[fF];exact hz (j+s) (by omega) (by simp at h2;omega)
structure Q8 (N:Nat) (h2:T O) (n2 iu iq n lu L:Nat) (A0:Int) (Y:List Int) (m:Nat) (r:T V) (st:St):Prop where
 ex:∃U Q,DvS N h2 n2 iu iq n U Q st/\r.get 13=some (.int .i64 ((m:Int)-1))/\U.length=lu/\Q.length=lu-L/\m<=lu-L/\Di U/\Di Q/\(∀s,m+L<=s->s<lu->U[s]?=some 0)/\vI (U.drop m)<vI Y/\(∀s,s<m->Q[s]?=some 0)/\vI U+vI Y*vI Q=A0
def Ykq{N:Nat}{h2:T O}{n2 iu iq n lu k:Nat}{A0 v1:Int}{Y:List Int}{v:V}{r0:T V}(hv:Sl h2 n2 v (dI Y))(hY:Y.length=k+2)(dY:Di Y)(pC:Y[k+1]?=some v1)(h5:500000000<=v1)(ME:k+2<lu)(vD:lu<1099511627776)(r9:r0.get 9=some v)(vT:r0.get 10=some (.int .i64 (k+2:Nat)))(xI:r0.get 11=some (.slice iu 0 lu none 1))(Qx:r0.get 12=some (.slice iq 0 (lu-(k+2)) (some (lu-(k+2))) 1))(a1:N<=n2)(a2:n2<=iu)(a3:iu<iq)(a4:iq<n):
  ∀m r st,(∀t,kX [(13,21),(82,191)] t=false->r.get t=r0.get t)->Fx [(13,21),(82,191)] r0 206 ⟨r,206,[]⟩->Q8 N h2 n2 iu iq n lu (k+2) A0 Y m r st->Code A.C none A.oY ⟨r,206,[]⟩ st (Rd [(13,21),(82,191)] r0 206 (Q8 N h2 n2 iu iq n lu (k+2) A0 Y) m (fun e r st=>e=.exit 2/\Q8 N h2 n2 iu iq n lu (k+2) A0 Y 0 r st)):=by
 rintro m r ⟨H,n1,W⟩ hr hf ⟨U,Q,⟨hW,hK,hn,ru,rq⟩,v_,jo,hql,hm,dU,dQ,hz,yX,Ru,iV⟩;simp only at hW hK hn ru rq;subst hn;rw[bu];cases m with
 |zero=> simp[A.oY,hf,v_];exact⟨U,Q,⟨hW,hK,rfl,ru,rq⟩,by simp[v_],jo,hql,hm,dU,dQ,hz,yX,Ru,iV⟩
 |succ j=>
  have tP:(((j+1:Nat):Int)-1)=(j:Int):=by omega
  rw[tP]at v_;have B8:(0:Int)<=(j:Int):=by omega
  obtain⟨v2,kK⟩:=bj (l:=Y) (k:=k) (by omega);obtain⟨d1,e1⟩:=bj (l:=U) (k:=j+k) (by omega);obtain⟨d2,e2⟩:=bj (l:=U) (k:=j+k+1) (by omega);obtain⟨d3,e3⟩:=bj (l:=U) (k:=j+k+2) (by omega);obtain⟨x0,fK⟩:=bj (l:=U) (k:=j) (by omega);have hWt:=Ypi (w:=U.drop j) (k:=k) (a:=d1) (c:=d2) (d:=d3) (by rw[fF];exact e1) (by rw[fF,<-qe];exact e2) (by rw[fF,<-qe];exact e3) (fun t h1 h2=>by rw[fF];exact hz _ (by omega) (by simp at h2;omega));have hDt:=Ypj kK pC hY;have hWd:vI (U.drop j)<1000000000*vI Y:=by rw[jN fK,vI];have:=dU.get fK;omega
  have hUk:=wZ ((dU.drop j).take k);rw[iX,zk,rj (by omega)]at hUk;have hVk:=wZ (dY.take k);rw[iX,rj (by omega)]at hVk;obtain⟨t,hg,t0,t1,gT,iS⟩:=Yl4 (w:=W) (Sl.row (cp:=none) (L:=lu) (show iu<n1 by omega) ru (by simp[jo]) (fun k hk=>by cases hk)) (hv.ad hK) hY (by omega) e1 e2 e3 kK pC (dU.get e1) (dU.get e2) (dU.get e3) ⟨h5,(dY.get pC).2⟩ (dY.get kK) (EF k) (wY ((dU.drop j).take k)) hUk (wY (dY.take k)) hVk hWt hDt hWd;have hVl:=wZ dY;rw[hY]at hVl;have hVp:0<vI Y:=by have:=wY (dU.drop (j+1));omega
  simp[A.oY,hr,v_,B8,r9,xI,hg];refine cm [(15,18),(90,125)] (fun e r st=>e=.exit 4/\Rp N h2 n2 iu iq n1 U Q Y (k+2) j t 0 r st) (Rp N h2 n2 iu iq n1 U Q Y (k+2) j t) (k+2) ?_ ?_ ?_
  ·exact⟨0,U,0,by omega,by simp,by simp,by omega,by omega,⟨hW,hK,rfl,ru,rq⟩,rfl,fun _ _=>rfl,dU,by simp[vI]⟩
  ·exact Yjs hv hY dY (by omega) (by omega) ⟨by simp[hr,r9],by simp[hr,vT],by simp[hr,xI,jo],by simp[v_]⟩ (by simp) t0 t1 a1 a2 a3 a4
  rintro _ r2 ⟨H2,n3,W2⟩ fi ⟨rfl,i,U',c,hi,Rr,Ft,c0,c1,⟨gS,pP,ib,ru2,rq2⟩,Cn,eQ,mU,Rv⟩;simp only at gS pP ib ru2 rq2;subst ib;obtain rfl:i=k+2:=by omega
  have Vp:=hf.inner (D':=[(15,18),(90,125)]) rfl (by simp) fi;rw[<-hY,C3,hY]at Rv;have e3':U'[j+(k+2)]?=some d3:=by rw[eQ _ (.inr (aO _))];rw[<-qe];exact e3
  have hd3:=dU.get e3;have q1:(j:Int)+((k:Int)+2)<(lu:Int):=by omega
  have q2:j+(k+2)<lu:=by omega
  have q3:(0:Int)<=(j:Int)+((k:Int)+2):=by omega
  have q4:((j:Int)+((k:Int)+2)).toNat=j+(k+2):=by omega
  have w8:=iJ U';have b1':bo .i64 (d3-c)=d3-c:=cP (by omega) (by omega);have w7:=Dh (l:=U') (k:=j+(k+2)) (v:=d3-c) (by omega);have nn:¬iu<N:=by omega
  have d5:¬iq=iu:=by omega
  have d6:¬iu=iq:=by omega
  have nq:¬iq<N:=by omega
  have v2e:vI (U'.set (j+(k+2)) (d3-c))=vI U-pI j*(t*vI Y):=by
   rw[EH e3'];have:pI (j+(k+2))*(d3-c-d3)= -(pI (j+(k+2))*c):=by grind
   omega
  have na:∀s,s<j->(U'.set (j+(k+2)) (d3-c))[s]?=U[s]?:=fun s hs=>by rw[eX (by omega)];exact eQ s (.inl hs)
  have eW:∀s,j+(k+2)<s->s<lu->(U'.set (j+(k+2)) (d3-c))[s]?=some 0:=fun s h1 h2=>by rw[eX (by omega),eQ s (.inr (by omega))];exact hz s (by omega) h2
  have BV:=Zz8 (by omega) (by simp[Cn]) na v2e;have lV:(U'.set (j+(k+2)) (d3-c))[j+(k+2)]?=some (d3-c):=mD (by omega);have eK:vI ((U'.set (j+(k+2)) (d3-c)).drop j)<vI Y:=by
   rw[BV];have:(t+1)*vI Y=t*vI Y+vI Y:=by grind
   omega
  have hto:=Yns (U:=U'.set (j+(k+2)) (d3-c)) (fun s d hs hd=>by rw[eX (by omega)]at hd;exact mU.get hd) lV (fun s h1 h2=>eW s h1 (by simp at h2;omega)) (by omega);have qj1:(j:Int)<((lu-(k+2):Nat):Int):=by omega
  have qj2:j<lu-(k+2):=by omega
  have wq8:=iJ Q;by_cases dW:d3-c<0
  ·have t1w:bo .i64 (t-1)=t-1:=cP (by omega) (by omega);simp(disch:=first|(simp;done)|omega|rfl) [-getElem?_pos,hr,fi,Ft,vT,xI,v_,q4,ru2,iP e3',b1',w7,iP lV,dW,t1w];generalize hU2:U'.set (j+(k+2)) (d3-c)=U2 at*;have il:U2.length=lu:=by rw[<-hU2];simp[Cn,jo]
   have zbU:vI (U2.drop j)<0:=by apply LI;intro hc;have:=hto.1 hc;omega
   have zaL:∀(s:Nat) (d:Int),s≠j+(k+2)->U2[s]?=some d->0<=d/\d<1000000000:=fun s d hs hd=>by rw[<-hU2,eX (by omega)]at hd;exact mU.get hd
   refine cm [(19,21),(148,174)] (fun e r st=>e=.exit 6/\Rt N h2 n2 iu iq n3 U2 Q Y (k+2) j 0 r st) (Rt N h2 n2 iu iq n3 U2 Q Y (k+2) j) (k+2) ?_ ?_ ?_
   ·exact⟨0,U2,0,by omega,by simp,by simp,by omega,by omega,⟨by simp[ay,gS,nn],pP.set (by omega),rfl,by simp,by simp[d5,rq2]⟩,rfl,fun _ _=>rfl,zaL,by simp[vI]⟩
   ·exact Ynk hv hY dY (by omega) (by omega) ⟨by simp[hr,fi,r9],by simp[hr,fi,vT],by simp[hr,fi,xI,il],by simp[fi,v_]⟩ a1 a2 a3 a4
   rintro _ r4 ⟨H4,n4,W4⟩ xG ⟨rfl,i4,U3,c4,hi4,VJ,VK,c40,c41,⟨CO,MT,Q9,Ra,Rb⟩,Rw,xS,Rx,Ry⟩;simp only at CO MT Q9 Ra Rb;subst Q9;obtain rfl:i4=k+2:=by omega
   have zaM:=Vp.inner (D':=[(19,21),(148,174)]) rfl (by simp) xG;rw[<-hY,C3,hY]at Ry;have e4:U3[j+(k+2)]?=some (d3-c):=by rw[xS _ (.inr (aO _))];exact lV
   have x8:=iJ U3;have b4':bo .i64 (d3-c+c4)=d3-c+c4:=cP (by omega) (by omega);have x7:=Dh (l:=U3) (k:=j+(k+2)) (v:=d3-c+c4) (by omega);have v4e:vI (U3.set (j+(k+2)) (d3-c+c4))=vI U-pI j*((t-1)*vI Y):=by
    rw[EH e4];have x1:pI (j+(k+2))*(d3-c+c4-(d3-c))=pI (j+(k+2))*c4:=by grind
    have x2:pI j*((t-1)*vI Y)=pI j*(t*vI Y)-pI j*vI Y:=by grind
    omega
   have VL:∀s,s<j->(U3.set (j+(k+2)) (d3-c+c4))[s]?=U[s]?:=fun s hs=>by rw[eX (by omega),xS s (.inl hs)];exact na s hs
   have Ax:∀s,j+(k+2)<s->s<lu->(U3.set (j+(k+2)) (d3-c+c4))[s]?=some 0:=fun s h1 h2=>by rw[eX (by omega),xS s (.inr (by omega))];exact eW s h1 h2
   have Rz:=Zz8 (by omega) (by simp[Rw,il,jo]) VL v4e;have Co:(U3.set (j+(k+2)) (d3-c+c4))[j+(k+2)]?=some (d3-c+c4):=mD (by omega);have xt:(t-1)*vI Y=t*vI Y-vI Y:=by grind
   have zaN:vI ((U3.set (j+(k+2)) (d3-c+c4)).drop j)<vI Y:=by rw[Rz];omega
   have zaO:0<=vI ((U3.set (j+(k+2)) (d3-c+c4)).drop j):=by rw[Rz];omega
   have zaP:=Yns (U:=U3.set (j+(k+2)) (d3-c+c4)) (fun s d hs hd=>by rw[eX (by omega)]at hd;exact Rx s d (by omega) hd) Co (fun s h1 h2=>Ax s h1 (by simp at h2;omega)) (by omega);have pn:=zaP.1 zaO;have w9:=Dh (l:=Q) (k:=j) (v:=t-1) (by omega);have xy:=Ru j (by omega);have zbV:1<=t:=by
    apply Gs;intro hc;have:t=0:=by omega
    rw[this]at BV;have:=wY (dU.drop j);omega
   simp(disch:=first|(simp;done)|omega|rfl) [-getElem?_pos,hr,fi,xG,zaM,VK,vT,xI,Qx,v_,q4,Ra,Rb,iP e4,b4',x7,d5,w9];refine⟨j,by omega,⟨U3.set (j+(k+2)) (d3-c+c4),Q.set j (t-1),⟨by simp[ay,CO,nn,nq],?_,rfl,by simp[d6],by simp⟩,by simp,by simp[Rw,il],by simp[hql],by omega,?_,dQ.set (by omega) (by omega),?_,?_,?_,?_⟩⟩
   ·exact(MT.set (by omega)).set (by omega)
   ·refine Ywl fun s d hd=>?_;by_cases hs:s=j+(k+2)
    ·subst hs;rw[Co,pn]at hd;simp at hd;omega
    rw[eX (fun h=>hs h.symm)]at hd;exact Rx s d hs hd
   ·intro s h1 h2;by_cases hs:s=j+(k+2)
    ·rw[hs,Co,pn]
    exact Ax s (by omega) h2
   ·exact zaN
   ·intro s hs;rw[eX (by omega)];exact Ru s (by omega)
   rw[v4e,EH xy,<-iV];grind
  have Vc:0<=vI ((U'.set (j+(k+2)) (d3-c)).drop j):=by apply Gs;intro hc;exact dW (hto.2 hc)
  have pn:=hto.1 Vc;have w9:=Dh (l:=Q) (k:=j) (v:=t) (by omega);have xy:=Ru j (by omega);rw[BV]at Vc eK;have tlt:t<1000000000:=by apply LI;intro hc;have:=Gk hc (vN hVp);omega
  simp(disch:=first|(simp;done)|omega|rfl) [-getElem?_pos,hr,fi,Vp,Ft,vT,xI,Qx,v_,q4,ru2,rq2,iP e3',b1',w7,iP lV,dW,d5,w9];refine⟨j,by omega,⟨U'.set (j+(k+2)) (d3-c),Q.set j t,⟨by simp[ay,gS,nn,nq],?_,rfl,by simp[d6],by simp⟩,by simp,by simp[Cn,jo],by simp[hql],by omega,?_,dQ.set t0 tlt,?_,?_,?_,?_⟩⟩
  ·exact(pP.set (by omega)).set (by omega)
  ·rw[pn];exact mU.set (by omega) (by omega)
  ·intro s h1 h2;by_cases hs:s=j+(k+2)
   ·rw[hs,lV,pn]
   exact eW s (by omega) h2
  ·rw[BV];exact eK
  ·intro s hs;rw[eX (by omega)];exact Ru s (by omega)
  rw[v2e,EH xy,<-iV];grind
end
end Go.Mx
