/-lensletref01-/
import Derived.Test.YtokjleejipaidaaGreatDoorMxQ
set_option linter.all false
namespace Go.Mx
noncomputable section
open Go Go.Proofs
variable {n:Nat}
set_option maxRecDepth 1000000
def A.O3:=A.q Tryz.f259
def A.nL:=A.ql A.O3 0 []
def A.b259:=(fun x0=>A.qb A.O3 [x0]) A.nL
def A.k259:=@A.kk 259 25 [.tmp 4] A.b259 (by kernel_rfl) rfl
def A.O4:=A.q Tryz.f229
def A.sO:=A.ql A.O4 0 []
def A.b229:=(fun x0=>A.qb A.O4 [x0]) A.sO
def A.k229:=@A.kk 229 39 [.tmp 2] A.b229 (by kernel_rfl) rfl
def Ygg:iA 0 0=[]:=by simp[iA,ux]
def Ygh{m:Nat}(h:n≠0\/0<m):iA n m=iA (n/10) (m-1)++[cZ n]:=by
 unfold iA
 by_cases hn:n=0
 ·subst hn
  have hm:0<m:=by omega
  simp only[ux,Nat.zero_div,List.length_nil,Nat.sub_zero,yK]
  obtain⟨k,rfl⟩:∃k,m=k+1:=⟨m-1,by omega⟩
  have:cZ 0=48:=by decide
  rw[this,List.replicate_succ',Nat.add_sub_cancel]
 ·rw[yc hn]
  have:m-(de (n/10)++[cZ n]).length=m-1-(de (n/10)).length:=by simp;omega
  rw[this,tU]
def Yqp{k:Nat}(hk:k<10):(Xb.take (k+1)).drop k=[cZ k]:=by
 have:k=0\/k=1\/k=2\/k=3\/k=4\/k=5\/k=6\/k=7\/k=8\/k=9:=by omega
 rcases this with rfl|rfl|rfl|rfl|rfl|rfl|rfl|rfl|rfl|rfl<;>decide
def Yqt(n:Nat):cZ (n%10)=cZ n:=by unfold cZ;rw[Nat.mod_mod]
def KR{m:Nat}{st:St}(hn:n<9223372036854775808)(hm:m<1000):A.C.call (.func 259 [] []) [.int .i64 n,.int .i64 m] st=some (.str (iA n m),st):=by
 apply Call.eq
 rw[aM,A.k259 (by simp)]
 simp[A.b259]
 have hlen:(iA n m).length<2000:=by
  have:(de n).length<=19:=qd.1 (by omega)
  unfold iA
  simp;omega
 refine bA [(0,0),(5,23)] (fun e r s1=>s1=⟨st.h,st.n,[]⟩/\e=.exit 0/\r.get 5=some (.str (iA n m))) (fun q r s1=>s1=⟨st.h,st.n,[]⟩/\∃k s,q=k+(m-s.length)/\k<9223372036854775808/\r.get 0=some (.int .i64 k)/\r.get 5=some (.str s)/\iA n m=iA k (m-s.length)++s) (n+m) ?_ ?_ ?_
 ·exact⟨rfl,n,[],by simp,hn,by simp,by simp,by simp⟩
 ·rintro q r _ hr hf ⟨rfl,k,s,rfl,hk,h0,h5,hd⟩
  rw[bb]
  by_cases uv:k≠0\/0<m-s.length
  ·have dK:=Ygh (n:=k) (m:=m-s.length) uv
   rw[dK,tU,QX]at hd
   have cD:s.length+1<2000:=by
    have:=congrArg List.length hd
    simp at this;omega
   have t1:(k:Int).tmod 10=((k%10:Nat):Int):=by rw[EI (by omega)];omega
   have t2:(k:Int).tdiv 10=((k/10:Nat):Int):=by rw[BT (by omega)];omega
   have t3:bh .i64 ((k/10:Nat):Int)=((k/10:Nat):Int):=cE (by omega) (by omega)
   have t4:bh .i64 (((k%10:Nat):Int)+1)=((k%10+1:Nat):Int):=by rw[cE (by omega) (by omega)];omega
   have O5:¬(9223372036854775807:Int)<1+(s.length:Int):=by omega
   have dm:IntKind.max .i64=9223372036854775807:=rfl
   have sl:∀st:St,uC st (some (.str [48,49,50,51,52,53,54,55,56,57])) (some (some (.int .i64 ((k:Int)%10)))) (some (some (.int .i64 ((k:Int)%10+1))))=some (.str [cZ k],st):=fun st=>by
    rw[Zp8 (by omega) (by omega) (by simp;omega)]
    have e1:((k:Int)%10).toNat=k%10:=by omega
    have e2:((k:Int)%10+1).toNat=k%10+1:=by omega
    rw[e1,e2]
    have:=Yqp (k:=k%10) (by omega)
    rw[Yqt]at this
    exact congrArg (fun x=>some (V.str x,st)) this
   have HU:0<k\/(¬0<k/\s.length<m):=by omega
   rcases HU with g1|⟨g1,g2⟩
   ·have i1:(0:Int)<(k:Int):=by omega
    simp(disch:=first|(simp;done)|omega|rfl) [A.nL,hr,hf,h0,h5,g1,i1,t1,t2,t3,t4,gE,dm,sl,O5]
    exact⟨k/10+(m-(s.length+1)),by omega,k/10,cZ k::s,by simp,by omega,by simp,by simp,by rw[hd,bo,Nat.sub_sub]⟩
   ·have i1:¬(0:Int)<(k:Int):=by omega
    have i2:(s.length:Int)<(m:Int):=by omega
    simp(disch:=first|(simp;done)|omega|rfl) [A.nL,hr,hf,h0,h5,g1,g2,i1,i2,t1,t2,t3,t4,gE,dm,sl,O5]
    exact⟨k/10+(m-(s.length+1)),by omega,k/10,cZ k::s,by simp,by omega,by simp,by simp,by rw[hd,bo,Nat.sub_sub]⟩
  ·have g1:¬0<k:=by omega
   have g2:¬s.length<m:=by omega
   have i1:¬(0:Int)<(k:Int):=by omega
   have i2:¬(s.length:Int)<(m:Int):=by omega
   obtain rfl:k=0:=by omega
   rw[show m-s.length=0 by omega,Ygg,List.nil_append]at hd
   simp[A.nL,hr,hf,h0,h5,g1,g2,i1,i2,hd]
 ·rintro _ r _ hr ⟨rfl,rfl,h5⟩
  simp[hr,h5]
def O6:(aq n).length<=9*(ds n).length+1:=by
 have h1:n<10^(9*(ds n).length):=by
  have h2:=we (fY n)
  rw[gF,RG]at h2
  have h3:=Int.ofNat_lt.1 h2
  rw[Nat.pow_mul]
  exact h3
 have:=qd.1 h1
 unfold aq
 split<;>simp<;>omega
def Zw2{k:Nat}:(aq (n/k)).length<=9*(ds n).length+1:=by
 have h1:=O6 (n:=n/k)
 have h2:=vc (vT n k)
 omega
def KS{h:T O}{N:Nat}{x:V}{z:Int}(hx:Rg h N x z)(hl:(ds z.natAbs).length<100000000000):Fn A.C 229 [x] h N (fun u _ _=>u=.str (aL z)):=by
 intro w
 obtain⟨u,rfl,hu⟩:=hx
 have o1:=Sl.form hu |>.one
 have o2:=Sl.form hu |>.cells
 unfold V.one at o1
 unfold V.cells at o2
 have kB:=((ab.refl (h:=h) (n:=N)).new (.cells [.bool (decide (z<0)),u] 143 true))
 have fy:Sl (h.set N (.cells [.bool (decide (z<0)),u] 143 true)) (N+1) u (dI (ds z.natAbs)):=Sl.ad hu kB
 have lu:=fy.len
 rw[gJ]at lu
 rw[aM,A.k229 (by simp)]
 by_cases h0:z=0
 ·subst h0
  have e0:(ds (0:Int).natAbs).length=0:=by rw[show (0:Int).natAbs=0 from rfl,tX];rfl
  rw[e0]at lu
  have e1:aL 0=[48]:=by decide
  simp[A.b229,o1,o2,ae,lu,aJ,az,e1]
  exact kB
 obtain⟨n,hn⟩:∃n,z.natAbs=n:=⟨_,rfl⟩
 rw[hn]at lu fy hl
 have Cq:n≠0:=by omega
 have iK:(ds n).length≠0:=fun hc=>Cq (Da.1 (rm hc))
 obtain⟨L,hL⟩:∃L,(ds n).length=L+1:=⟨(ds n).length-1,by omega⟩
 have yX:=fun (k:Nat)=>Zw2 (n:=n) (k:=k)
 rw[hL]at lu
 obtain⟨f,hF⟩:∃f:Nat->aQ,∀m,f m=aq (n/1000000000^m):=⟨_,fun _=>rfl⟩
 obtain⟨g,hG⟩:∃g:Nat->Nat,∀m,g m=n/1000000000^m%1000000000:=⟨_,fun _=>rfl⟩
 have vg:f 0=aq n:=by rw[hF];simp
 have yo:∀m,g m<1000000000:=fun m=>by rw[hG];exact kQ _ (by omega)
 have hg:∀m,m<L+1->(ds n)[m]?=some (g m):=fun m hm=>by rw[hG];exact RE (by omega)
 have SX:f L=iA (g L) 1:=by rw[hF,hG];exact Yky hL.symm
 have Ds:∀m,m<L->f m=f (m+1)++iA (g m) 9:=fun m hm=>by rw[hF,hF,hG];exact Ygi (by omega)
 have lJ:∀m,(f m).length<=9*(L+1)+1:=fun m=>by rw[hF,<-hL];exact yX _
 clear hF hG yX
 obtain⟨i,o,c,e,rw,q1,q2,q3,q4⟩:=fy.at (gK (hg L (by omega)))
 have c1:¬((L:Int)+1=0):=by omega
 have c2:((L:Int)+1-1)=(L:Int):=by omega
 have c3:(L:Int)<(L:Int)+1:=by omega
 have c4:((L:Int)+1-2)=(L:Int)-1:=by omega
 have c5:bh .i64 ((L:Int)+1-1)=(L:Int):=by rw[c2];exact cE (by omega) (by omega)
 have c6:bh .i64 ((L:Int)+1-2)=(L:Int)-1:=by rw[c4];exact cE (by omega) (by omega)
 have IK:∀m st,A.C.call (.func 259 [] []) [.int .i64 (g m),.int .i64 1] st=some (.str (iA (g m) 1),st):=fun m st=>KR (n:=g m) (m:=1) (st:=st) (by have:=yo m;omega) (by omega)
 have oF:∀m st,A.C.call (.func 259 [] []) [.int .i64 (g m),.int .i64 9] st=some (.str (iA (g m) 9),st):=fun m st=>KR (n:=g m) (m:=9) (st:=st) (by have:=yo m;omega) (by omega)
 simp(disch:=omega) [A.b229,o1,o2,ae,lu,aJ,c1,c2,c3,c5,c6,q1,q3,q4,IK]
 rw[<-SX]
 refine bA [(3,4),(22,33)] (fun e r s1=>s1=⟨h.set N (.cells [.bool (decide (z<0)),u] 143 true),N+1,[]⟩/\e=.exit 0/\r.get 1=some (.ptr N 0)/\r.get 3=some (.str (aq n))) (fun m r s1=>s1=⟨h.set N (.cells [.bool (decide (z<0)),u] 143 true),N+1,[]⟩/\m<=L/\r.get 1=some (.ptr N 0)/\r.get 4=some (.int .i64 ((m:Int)-1))/\r.get 3=some (.str (f m))) L ?_ ?_ ?_
 ·exact⟨rfl,by omega,by simp,by simp,by simp⟩
 ·rintro m r _ hr hf ⟨rfl,hm,h1,h4,h3⟩
  rw[bb]
  rcases m with _|m
  ·have e1:(((0:Nat):Int)-1<0):=by omega
   rw[vg]at h3
   simp[A.sO,hr,hf,h1,h3,h4,e1]
  ·have e3:(((m+1:Nat):Int)-1)=(m:Int):=by omega
   have e4:¬((m:Int)<0):=by omega
   rw[e3]at h4
   obtain⟨i,o,c,e,rw,q1,q2,q3,q4⟩:=fy.at (gK (hg m (by omega)))
   have hp:(f m).length=(f (m+1)).length+(iA (g m) 9).length:=by rw[Ds m (by omega),iN]
   have zN:¬(9223372036854775807:Int)<((f (m+1)).length:Int)+((iA (g m) 9).length:Int):=by have:=lJ m;omega
   have dm:IntKind.max .i64=9223372036854775807:=rfl
   have w1:bh .i64 ((m:Int)-1)=(m:Int)-1:=cE (by omega) (by omega)
   have c7:(m:Int)<(L:Int)+1:=by omega
   have f1:=(Ds m (by omega)).symm
   have f2:m<m+1/\m<=L:=by omega
   have yH:=oF m
   clear hp iK Cq hn hm hl hL Ds lJ oF IK SX hg yo vg
   simp[A.sO,hr,hf,h1,h3,h4,e4,o1,o2,ae,lu,c7,q1,q3,q4,yH,gE,dm,zN,w1,f1]
   exact⟨m,f2.1,f2.2,rfl,rfl⟩
 ·rintro _ r _ hr ⟨rfl,rfl,h1,h3⟩
  have gj:=O6 (n:=n)
  have dm:IntKind.max .i64=9223372036854775807:=rfl
  have cD:¬(9223372036854775807:Int)<1+((aq n).length:Int):=by omega
  by_cases hz:z<0
  ·have e1:aL z=45::aq n:=by unfold aL;rw[ax hz,hn]
   clear gj iK Cq hn hL Ds lJ oF IK SX hg yo vg hl
   simp[hr,h1,h3,hz,o1,o2,ae,gE,dm,cD,az,e1]
   simpa[hz]using kB
  ·have e1:aL z=aq n:=by unfold aL;rw[ak hz,hn]
   clear gj iK Cq hn hL Ds lJ oF IK SX hg yo vg hl
   simp[hr,h1,h3,hz,o1,o2,ae,az,e1]
   simpa[hz]using kB
open Go
def Ytk{P d1 d2 d3 v1 v2 U' V' t r:Int}(hP:0<P)(Ik:0<=U')(hU:U'<P)(xU:0<=V')(hV:V'<P)(h1:0<=d1)(fO:d1<1000000000)(h2:0<=d2)(h3:0<=d3)(w1:500000000<=v1)(w2:0<=v2)(w2':v2<1000000000)
  (hW:U'+P*(d1+1000000000*(d3*1000000000+d2))<1000000000*(V'+P*(v2+1000000000*v1))) (ht:d3*1000000000+d2=t*v1+r) (d_:0<=r) (jn:r<v1):
  0<=t/\t<=1000000001/\U'+P*(d1+1000000000*(d3*1000000000+d2))<(t+1)*(V'+P*(v2+1000000000*v1)):=by
 generalize hT:d3*1000000000+d2=T at*
 have hT0:0<=T:=by omega
 have t0:0<=t:=by
  apply EM;intro hc
  have:t*v1<=(-1)*v1:=ER (by omega) (by omega)
  omega
 have a1:T<1000000000*(v1+1):=by
  apply JR;intro hc
  have b1:P*(1000000000*(v1+1))<=P*T:=rI hc (by omega)
  have b2:0<=P*d1:=xO (by omega) h1
  have b3:P*v2<=P*999999999:=rI (by omega) (by omega)
  have b4:P*(d1+1000000000*T)=P*d1+1000000000*(P*T):=by grind
  have b5:P*(v2+1000000000*v1)=P*v2+1000000000*(P*v1):=by grind
  have b6:P*(1000000000*(v1+1))=1000000000*(P*v1)+1000000000*P:=by grind
  omega
 have a2:t<=1000000001:=by
  apply EM;intro hc
  have b1:1000000002*v1<=t*v1:=ER (by omega) (by omega)
  omega
 refine⟨t0,a2,?_⟩
 have c1:(t+1)*v1=t*v1+v1:=by grind
 have b1:P*(T+1)<=P*((t+1)*v1):=rI (by omega) (by omega)
 have b2:P*d1<=P*999999999:=rI (by omega) (by omega)
 have b3:0<=(t+1)*V':=xO (by omega) xU
 have b4:0<=(t+1)*(P*v2):=xO (by omega) (xO (by omega) w2)
 have b5:P*(d1+1000000000*T)=P*d1+1000000000*(P*T):=by grind
 have b6:(t+1)*(V'+P*(v2+1000000000*v1))=(t+1)*V'+(t+1)*(P*v2)+1000000000*(P*((t+1)*v1)):=by grind
 have b7:P*(T+1)=P*T+P:=by grind
 omega
set_option maxHeartbeats 2000000
def A.O7:=A.q Tryz.f224
def A.iE:=A.ql A.O7 0 []
def A.b224:=(fun x0=>A.qb A.O7 [x0]) A.iE
def A.k224:=@A.kk 224 77 [.tmp 6] A.b224 (by kernel_rfl) rfl
structure GuR (W D v1 top:Int) (m:Nat) (r:T V):Prop where
 ex:∃t q:Int,t.toNat=m/\r.get 9=some (.int .i64 t)/\r.get 10=some (.int .i64 q)/\0<=t/\t<=1000000001/\0<=q/\q<1000000000/\top=t*v1+q/\W<(t+1)*D
def Ykb{h:T O}{N:Nat}{u v:V}{L Y:List Int}{j k:Nat}{d1 d2 d3 v1 v2 P U' V' W D:Int}{w:List Nat}(hu:Sl h N u (dI L))(hv:Sl h N v (dI Y))(hY:Y.length=k+2)(hL:L.length<1099511627776)(e1:L[j+k]?=some d1)(e2:L[j+k+1]?=some d2)(e3:L[j+k+2]?=some d3)(f2:Y[k]?=some v2)(f1:Y[k+1]?=some v1)
  (r1:0<=d1/\d1<1000000000) (r2:0<=d2/\d2<1000000000) (r3:0<=d3/\d3<1000000000) (r4:500000000<=v1/\v1<1000000000) (r5:0<=v2/\v2<1000000000) (hP:0<P) (Ik:0<=U') (hU:U'<P) (xU:0<=V') (hV:V'<P) (hW:W=U'+P*(d1+1000000000*(d3*1000000000+d2))) (hD:D=V'+P*(v2+1000000000*v1)) (hWD:W<1000000000*D):
  ∃t,A.C.call (.func 224 [] []) [u,v,.int .i64 j] ⟨h,N,w⟩=some (.int .i64 t,⟨h,N,w⟩)/\0<=t/\t<=1000000000/\(t-1)*D<=W/\W<(t+1)*D:=by
 have lu:=hu.len
 have lv:=hv.len
 rw[gJ]at lu lv
 rw[hY]at lv
 have tl:=jt e3
 have goal:Call A.C (.func 224 [] []) [u,v,.int .i64 j] ⟨h,N,w⟩ (fun x s=>s=⟨h,N,w⟩/\∃t,x=.int .i64 t/\0<=t/\t<=1000000000/\(t-1)*D<=W/\W<(t+1)*D):=by
  obtain⟨a1,a2,a3,a4,a5,x1,x2,x3,x4⟩:=hu.at (gK e1)
  obtain⟨Sv,a2',a3',a4',a5',x1',x2',x3',KT⟩:=hu.at (gK e2)
  obtain⟨za_,zba,zbb,zbc,zbd,IY,zbe,IZ,zd⟩:=hu.at (gK e3)
  rw[x1]at x1' IY
  simp only[an,bs]at x1' IY
  obtain⟨rfl,rfl⟩:=x1'
  obtain⟨rfl,rfl⟩:=IY
  rw[x3]at x3' IZ
  simp only[an,O.cells.injEq]at x3' IZ
  obtain⟨rfl,rfl,rfl⟩:=x3'
  obtain⟨rfl,_,_⟩:=IZ
  obtain⟨b1,b2,b3,b4,b5,y1,y2,y3,y4⟩:=hv.at (gK f2)
  obtain⟨b1',b2',b3',b4',b5',y1',y2',y3',KU⟩:=hv.at (gK f1)
  rw[y1]at y1'
  simp only[an,bs]at y1'
  obtain⟨rfl,rfl⟩:=y1'
  rw[y3]at y3'
  simp only[an,O.cells.injEq]at y3'
  obtain⟨rfl,_,_⟩:=y3'
  have c1:((k:Int)+2-1)=(k:Int)+1:=by omega
  have c2:((j:Int)+((k:Int)+2)-1)=(j:Int)+(k:Int)+1:=by omega
  have c3:((j:Int)+((k:Int)+2)-2)=(j:Int)+(k:Int):=by omega
  have c4:((k:Int)+2-2)=(k:Int):=by omega
  have c5:((j:Int)+((k:Int)+2))=(j:Int)+(k:Int)+2:=by omega
  have i1:(j:Int)+(k:Int)+2<(L.length:Int):=by omega
  have i2:(j:Int)+(k:Int)+1<(L.length:Int):=by omega
  have i3:(j:Int)+(k:Int)<(L.length:Int):=by omega
  have i4:(0:Int)<=(j:Int)+(k:Int)+2:=by omega
  have i5:(0:Int)<=(j:Int)+(k:Int)+1:=by omega
  have i6:(0:Int)<=(j:Int)+(k:Int):=by omega
  have n1:((j:Int)+(k:Int)+2).toNat=j+k+2:=by omega
  have n2:((j:Int)+(k:Int)+1).toNat=j+k+1:=by omega
  have n3:((j:Int)+(k:Int)).toNat=j+k:=by omega
  have n4:((k:Int)+1).toNat=k+1:=by omega
  have k1:(k:Int)+1<(k:Int)+2:=by omega
  have k2:(k:Int)<(k:Int)+2:=by omega
  have k3:(0:Int)<=(k:Int)+1:=by omega
  have u1:bh .i64 (d3*1000000000)=d3*1000000000:=cE (by omega) (by omega)
  have u2:bh .i64 (d3*1000000000+d2)=d3*1000000000+d2:=cE (by omega) (by omega)
  have s0:0<=d3*1000000000+d2:=by omega
  have v0:¬v1=0:=by omega
  have t1:(d3*1000000000+d2).tdiv v1=(d3*1000000000+d2)/v1:=BT s0
  have t2:(d3*1000000000+d2).tmod v1=(d3*1000000000+d2)%v1:=EI s0
  have t3:=EL (d3*1000000000+d2) v1
  have t4:=EN (d3*1000000000+d2) v0
  have t5:=EH (d3*1000000000+d2) (b:=v1) (by omega)
  have gi:=Ytk (t:=(d3*1000000000+d2)/v1) (r:=(d3*1000000000+d2)%v1) hP Ik hU xU hV r1.1 r1.2 r2.1 r3.1 r4.1 r5.1 r5.2 (by rw[<-hW,<-hD];exact hWD) (by rw[Int.mul_comm (_/_) v1];exact t3.symm) t4 t5
  rw[<-hW,<-hD]at gi
  obtain⟨g1,g2,g3⟩:=gi
  have t6:bh .i64 ((d3*1000000000+d2)/v1)=(d3*1000000000+d2)/v1:=cE (by omega) (by omega)
  rw[aM,A.k224 (by simp)]
  simp(disch:=first|(simp;done)|omega|rfl) [A.b224,lv,lu,c1,c2,c3,c4,c5,i1,i2,i3,i4,i5,i6,n1,n2,n3,n4,k1,k2,k3,x1,x2,x3,x4,KT,zd,y1,y2,y3,y4,KU,u1,u2,v0,t1,t2,t6]
  generalize A9:d3*1000000000+d2=D1 at*
  refine bA [(6,6),(9,10),(42,75)] (fun e r st=>st=⟨h,N,[]⟩/\((e=.exit 0/\∃t,r.get 9=some (.int .i64 t)/\0<=t/\t<=1000000000/\(t-1)*D<=W/\W<(t+1)*D)\/(e=.ret/\∃t,r.get 6=some (.int .i64 t)/\0<=t/\t<=1000000000/\(t-1)*D<=W/\W<(t+1)*D))) (fun m r st=>st=⟨h,N,[]⟩/\GuR W D v1 D1 m r) (D1/v1).toNat ?_ ?_ ?_
  ·exact⟨rfl,⟨D1/v1,D1%v1,rfl,by simp,by simp,g1,g2,t4,by omega,by rw[Int.mul_comm (_/_) v1];exact t3.symm,g3⟩⟩
  ·rintro m r _ hr hf ⟨rfl,⟨t,q,rfl,h9,gT,SY,tq1,q0,q1,ka,au⟩⟩
   rw[bb]
   by_cases hA:1000000000<=t
   ·have au:W<t*D:=by
     have d0:0<=D:=by
      have:=xO (uY hP) (show 0<=v2+1000000000*v1 by omega)
      omega
     have:=ER hA d0
     omega
    have tp:1<=t:=by omega
    have km:bh .i64 (q+v1)=q+v1:=cE (by omega) (by omega)
    have yg:bh .i64 (t-1)=t-1:=cE (by omega) (by omega)
    have e5:D1=t*v1+q:=ka
    have e6:(t-1)*v1+(q+v1)=t*v1+q:=by grind
    by_cases pK:1000000000<=q+v1
    ·simp(disch:=first|(simp;done)|omega|rfl) [A.iE,hr,hf,h9,gT,lv,lu,c1,c2,c3,c4,c5,i1,i2,i3,i4,i5,i6,n1,n2,n3,n4,k1,k2,k3,x1,x2,x3,x4,KT,zd,y1,y2,y3,y4,KU,hA,km,yg,pK]
     refine⟨by omega,by omega,?_,au⟩
     have m1:(t-1)*v2<=1000000000*v2:=ER (by omega) r5.1
     have:=W8 (t:=t-1) (r:=q+v1) (v1:=v1) (u1:=D1) hP Ik r1.1 s0 (by omega) r5.1 xU hV (by omega) (by omega) (by rw[e6];exact ka) (by omega)
     rw[hW,hD]
     exact this
    ·simp(disch:=first|(simp;done)|omega|rfl) [A.iE,hr,hf,h9,gT,lv,lu,c1,c2,c3,c4,c5,i1,i2,i3,i4,i5,i6,n1,n2,n3,n4,k1,k2,k3,x1,x2,x3,x4,KT,zd,y1,y2,y3,y4,KU,hA,km,yg,pK]
     exact⟨(t-1).toNat,by omega,⟨t-1,q+v1,rfl,by simp,by simp,by omega,by omega,by omega,by omega,by rw[e6];exact ka,by rw[show t-1+1=t by omega];exact au⟩⟩
   ·have hA':¬1000000000<=t:=hA
    have m0:0<=t*v2:=xO SY r5.1
    have m1:t*v2<=1000000000*1000000000:=Int.mul_le_mul (by omega) (by omega) r5.1 (by omega)
    have b1':bh .i64 (t*v2)=t*v2:=cE (by omega) (by omega)
    have b2':bh .i64 (q*1000000000)=q*1000000000:=cE (by omega) (by omega)
    have b3':bh .i64 (q*1000000000+d1)=q*1000000000+d1:=cE (by omega) (by omega)
    by_cases hB:q*1000000000+d1<t*v2
    ·have au:W<t*D:=by
      have:=Yp0 (t:=t) (r:=q) (v1:=v1) (u1:=D1) hP hU xU SY ka hB
      rw[hW,hD];exact this
     have tz:t≠0:=fun hc=>by rw[hc]at hB;simp at hB;omega
     have tp:1<=t:=by omega
     have km:bh .i64 (q+v1)=q+v1:=cE (by omega) (by omega)
     have yg:bh .i64 (t-1)=t-1:=cE (by omega) (by omega)
     have e5:D1=t*v1+q:=ka
     have e6:(t-1)*v1+(q+v1)=t*v1+q:=by grind
     by_cases pK:1000000000<=q+v1
     ·simp(disch:=first|(simp;done)|omega|rfl) [A.iE,hr,hf,h9,gT,lv,lu,c1,c2,c3,c4,c5,i1,i2,i3,i4,i5,i6,n1,n2,n3,n4,k1,k2,k3,x1,x2,x3,x4,KT,zd,y1,y2,y3,y4,KU,hA',b1',b2',b3',hB,km,yg,pK]
      refine⟨by omega,by omega,?_,au⟩
      have m1:(t-1)*v2<=1000000000*v2:=ER (by omega) r5.1
      have:=W8 (t:=t-1) (r:=q+v1) (v1:=v1) (u1:=D1) hP Ik r1.1 s0 (by omega) r5.1 xU hV (by omega) (by omega) (by rw[e6];exact ka) (by omega)
      rw[hW,hD]
      exact this
     ·simp(disch:=first|(simp;done)|omega|rfl) [A.iE,hr,hf,h9,gT,lv,lu,c1,c2,c3,c4,c5,i1,i2,i3,i4,i5,i6,n1,n2,n3,n4,k1,k2,k3,x1,x2,x3,x4,KT,zd,y1,y2,y3,y4,KU,hA',b1',b2',b3',hB,km,yg,pK]
      exact⟨(t-1).toNat,by omega,⟨t-1,q+v1,rfl,by simp,by simp,by omega,by omega,by omega,by omega,by rw[e6];exact ka,by rw[show t-1+1=t by omega];exact au⟩⟩
    ·simp(disch:=first|(simp;done)|omega|rfl) [A.iE,hr,hf,h9,gT,lv,lu,c1,c2,c3,c4,c5,i1,i2,i3,i4,i5,i6,n1,n2,n3,n4,k1,k2,k3,x1,x2,x3,x4,KT,zd,y1,y2,y3,y4,KU,hA',b1',b2',b3',hB]
     refine⟨SY,by omega,?_,au⟩
     have:=W8 (t:=t) (r:=q) (u1:=D1) hP Ik r1.1 s0 (by omega) r5.1 xU hV SY (by omega) ka (by omega)
     rw[hW,hD];exact this
  ·rintro e r _ hr ⟨rfl,⟨rfl,t,h9,ht⟩|⟨rfl,t,h6,ht⟩⟩
   ·simp[hr,h9];exact ht
   ·simp[hr,h6];exact ht
 obtain⟨x,s,hc,rfl,t,rfl,h1,h2,h3,h4⟩:=goal.ex
 exact⟨t,hc,h1,h2,h3,h4⟩
def A.Bh:=A.q Tryz.f180
def A.nM:=A.ql A.Bh 3 []
def A.kb:=A.ql A.Bh 2 []
def A.nN:=(fun x0 x1=>A.ql A.Bh 1 [x0,x1]) A.kb A.nM
def A.nK:=A.ql A.Bh 0 []
def A.b180:=(fun x0 x1=>A.qb A.Bh [x0,x1]) A.nK A.nN
def A.k180:=@A.kk 180 206 [.tmp 4,.tmp 5] A.b180 (by kernel_rfl) rfl
structure DvS (N:Nat) (h2:T O) (n2 iu iq n:Nat) (U Q:List Int) (st:St):Prop where
 w:ar N st.w=[]
 ad:ab h2 n2 st.h n
 n:st.n=n
 ru:st.h.get iu=some (.cells (dI U) 3 true)
 rq:st.h.get iq=some (.cells (dI Q) 3 true)
structure DvR (r0:T V) (v:V) (iu lu L j:Nat):Prop where
 r9:r0.get 9=some v
 uF:r0.get 10=some (.int .i64 L)
 wL:r0.get 11=some (.slice iu 0 lu none 1)
 vf:r0.get 13=some (.int .i64 j)
structure O8 (N:Nat) (h2:T O) (n2 iu iq n:Nat) (U Q Y:List Int) (L j:Nat) (t:Int) (m:Nat) (r:T V) (st:St):Prop where
 ex:∃i U' c,i+m=L/\r.get 16=some (.int .i64 i)/\r.get 15=some (.int .i64 c)/\0<=c/\c<=1000000000/\DvS N h2 n2 iu iq n U' Q st/\U'.length=U.length/\(∀s,(s<j\/j+i<=s)->U'[s]?=U[s]?)/\Di U'/\vI U'-pI (j+i)*c=vI U-pI j*(t*vI (Y.take i))
def Yh2{N:Nat}{h2:T O}{n2 iu iq n:Nat}{U Q Y:List Int}{L j:Nat}{t:Int}{v:V}{r0:T V}(hv:Sl h2 n2 v (dI Y))(hY:Y.length=L)(dY:Di Y)(HR:j+L<U.length)(xx:U.length<1099511627776)(R:DvR r0 v iu U.length L j)(KF:r0.get 14=some (.int .i64 t))(t0:0<=t)(t1:t<=1000000000)(a1:N<=n2)(a2:n2<=iu)(a3:iu<iq)(a4:iq<n):
  ∀k r st,(∀t,jT [(15,18),(90,125)] t=false->r.get t=r0.get t)->Fx [(15,18),(90,125)] r0 206 ⟨r,206,[]⟩->O8 N h2 n2 iu iq n U Q Y L j t k r st->Code A.C none A.kb ⟨r,206,[]⟩ st (Rd [(15,18),(90,125)] r0 206 (O8 N h2 n2 iu iq n U Q Y L j t) k (fun e r st=>e=.exit 4/\O8 N h2 n2 iu iq n U Q Y L j t 0 r st)):=by
 rintro m r ⟨H,n1,W⟩ hr hf ⟨i,U',c,hi,O9,DO,c0,c1,⟨hW,hK,hn,ru,rq⟩,jc,eE,iO,im⟩
 simp only at hW hK hn ru rq
 subst hn
 obtain⟨r9,uF,wL,vf⟩:=R
 rw[bb]
 cases m with
 |zero=>
  have:i=L:=by omega
  subst this
  simp[A.kb,hr,hf,O9,uF]
  exact⟨i,U',c,by omega,by simp[O9],by simp[DO],c0,c1,⟨hW,hK,rfl,ru,rq⟩,jc,eE,iO,im⟩
 |succ m=>
  obtain⟨y,hy⟩:=a_ (l:=Y) (k:=i) (by omega)
  have lv:=hv.len
  rw[gJ,hY]at lv
  obtain⟨b1,b2,b3,b4,b5,z1,z2,z3,z4⟩:=hv.at (gK hy)
  have z3:=(hK.get _ z2).trans z3
  have KP:=dY.get hy
  obtain⟨o,ho⟩:=a_ (l:=U') (k:=i+j) (by omega)
  have hod:=iO.get ho
  have y_:(i:Int)<(L:Int):=by omega
  have DI:i<L:=by omega
  have p0:0<=t*y:=xO t0 KP.1
  have p1:t*y<=1000000000*999999999:=Int.mul_le_mul t1 (by omega) KP.1 (by omega)
  have q1:(i:Int)+(j:Int)<(U.length:Int):=by omega
  have q2:i+j<U.length:=by omega
  have q3:(0:Int)<=(i:Int)+(j:Int):=by omega
  have nn:¬iu<N:=by omega
  have w8:=gJ U'
  have hsu:=C9 ho
  have Pa:=zK hy
  have hp:=Q5 i j
  have rk:=v_ (j+i)
  generalize hP:t*y=P at*
  have b1':bh .i64 P=P:=cE (by omega) (by omega)
  have b2':bh .i64 (P+c)=P+c:=cE (by omega) (by omega)
  have SZ:(P+c).tmod 1000000000=(P+c)%1000000000:=EI (by omega)
  have S0:(P+c).tdiv 1000000000=(P+c)/1000000000:=BT (by omega)
  have hm:=EL (P+c) 1000000000
  have e0:=EN (P+c) (b:=1000000000) (by decide)
  have e1:=EH (P+c) (b:=1000000000) (by decide)
  have key:∀(x' c':Int),x'-1000000000*c'=o-(P+c)->vI (U'.set (i+j) x')-pI (j+(i+1))*c'=vI U-pI j*(t*vI (Y.take (i+1))):=by
   intro x' c' hx
   rw[hsu,Pa,show j+(i+1)=j+i+1 by omega,rk,show i+j=j+i by omega]
   have h3:vI U'=vI U-pI j*(t*vI (Y.take i))+pI (j+i)*c:=by omega
   have h4:x'=o-(P+c)+1000000000*c':=by omega
   rw[h3,h4,show j+i=i+j by omega,hp,<-hP]
   grind
  have same:∀(x':Int) (s:Nat),(s<j\/j+(i+1)<=s)->(U'.set (i+j) x')[s]?=U[s]?:=by
   intro x' s hs
   rw[eH (by omega)]
   exact eE s (by omega)
  generalize (P+c)/1000000000=D at*
  generalize (P+c)%1000000000=M at*
  have b3':bh .i64 D=D:=cE (by omega) (by omega)
  have b4':bh .i64 (o-M)=o-M:=cE (by omega) (by omega)
  have d4:b1<n1:=by have:=hK.le;omega
  have d5:¬iq=iu:=by omega
  by_cases dM:o-M<0
  ·have b5':bh .i64 (o-M+1000000000)=o-M+1000000000:=cE (by omega) (by omega)
   have b6':bh .i64 (D+1)=D+1:=cE (by omega) (by omega)
   have w7:=B5 (l:=U') (k:=i+j) (v:=o-M+1000000000) (by omega)
   simp(disch:=first|(simp;done)|omega|rfl) [-getElem?_pos,A.kb,hr,hf,O9,DO,r9,uF,wL,vf,KF,y_,DI,lv,q1,q2,q3,ru,gK ho,z1,z2,z3,z4,hP,b1',b2',b3',b4',b5',b6',SZ,S0,dM,w7]
   refine⟨m,by omega,⟨i+1,U'.set (i+j) (o-M+1000000000),D+1,by omega,by simp,by simp,by omega,by omega,⟨by simp[ar,hW,nn],hK.set (by omega),rfl,by simp,by simp[d5,rq]⟩,by simp[jc],same _,iO.set (by omega) (by omega),key _ _ (by omega)⟩⟩
  ·have w7:=B5 (l:=U') (k:=i+j) (v:=o-M) (by omega)
   simp(disch:=first|(simp;done)|omega|rfl) [-getElem?_pos,A.kb,hr,hf,O9,DO,r9,uF,wL,vf,KF,y_,DI,lv,q1,q2,q3,ru,gK ho,z1,z2,z3,z4,hP,b1',b2',b3',b4',SZ,S0,dM,w7]
   refine⟨m,by omega,⟨i+1,U'.set (i+j) (o-M),D,by omega,by simp,by simp,by omega,by omega,⟨by simp[ar,hW,nn],hK.set (by omega),rfl,by simp,by simp[d5,rq]⟩,by simp[jc],same _,iO.set (by omega) (by omega),key _ _ (by omega)⟩⟩
structure Pb (N:Nat) (h2:T O) (n2 iu iq n:Nat) (U Q Y:List Int) (L j:Nat) (m:Nat) (r:T V) (st:St):Prop where
 ex:∃i U' c,i+m=L/\r.get 20=some (.int .i64 i)/\r.get 19=some (.int .i64 c)/\0<=c/\c<=1/\DvS N h2 n2 iu iq n U' Q st/\U'.length=U.length/\(∀s,(s<j\/j+i<=s)->U'[s]?=U[s]?)/\(∀(s:Nat) (d:Int),s≠j+L->U'[s]?=some d->0<=d/\d<1000000000)/\vI U'+pI (j+i)*c=vI U+pI j*vI (Y.take i)
def Ylm{N:Nat}{h2:T O}{n2 iu iq n:Nat}{U Q Y:List Int}{L j:Nat}{v:V}{r0:T V}(hv:Sl h2 n2 v (dI Y))(hY:Y.length=L)(dY:Di Y)(HR:j+L<U.length)(xx:U.length<1099511627776)(R:DvR r0 v iu U.length L j)(a1:N<=n2)(a2:n2<=iu)(a3:iu<iq)(a4:iq<n):
  ∀k r st,(∀t,jT [(19,21),(148,174)] t=false->r.get t=r0.get t)->Fx [(19,21),(148,174)] r0 206 ⟨r,206,[]⟩->Pb N h2 n2 iu iq n U Q Y L j k r st->Code A.C none A.nM ⟨r,206,[]⟩ st (Rd [(19,21),(148,174)] r0 206 (Pb N h2 n2 iu iq n U Q Y L j) k (fun e r st=>e=.exit 6/\Pb N h2 n2 iu iq n U Q Y L j 0 r st)):=by
 rintro m r ⟨H,n1,W⟩ hr hf ⟨i,U',c,hi,S4,S5,c0,c1,⟨hW,hK,hn,ru,rq⟩,jc,eE,iO,im⟩
 simp only at hW hK hn ru rq
 subst hn
 obtain⟨r9,uF,wL,vf⟩:=R
 rw[bb]
 cases m with
 |zero=>
  have:i=L:=by omega
  subst this
  simp[A.nM,hr,hf,S4,uF]
  exact⟨i,U',c,by omega,by simp[S4],by simp[S5],c0,c1,⟨hW,hK,rfl,ru,rq⟩,jc,eE,iO,im⟩
 |succ m=>
  obtain⟨y,hy⟩:=a_ (l:=Y) (k:=i) (by omega)
  have lv:=hv.len
  rw[gJ,hY]at lv
  obtain⟨b1,b2,b3,b4,b5,z1,z2,z3,z4⟩:=hv.at (gK hy)
  have z3:=(hK.get _ z2).trans z3
  have KP:=dY.get hy
  obtain⟨o,ho⟩:=a_ (l:=U') (k:=i+j) (by omega)
  have hod:=iO _ _ (by omega) ho
  have y_:(i:Int)<(L:Int):=by omega
  have DI:i<L:=by omega
  have q1:(i:Int)+(j:Int)<(U.length:Int):=by omega
  have q2:i+j<U.length:=by omega
  have q3:(0:Int)<=(i:Int)+(j:Int):=by omega
  have nn:¬iu<N:=by omega
  have w8:=gJ U'
  have hsu:=C9 ho
  have Pa:=zK hy
  have hp:=Q5 i j
  have rk:=v_ (j+i)
  have b1':bh .i64 (o+y)=o+y:=cE (by omega) (by omega)
  have b2':bh .i64 (o+y+c)=o+y+c:=cE (by omega) (by omega)
  have SZ:(o+y+c).tmod 1000000000=(o+y+c)%1000000000:=EI (by omega)
  have S0:(o+y+c).tdiv 1000000000=(o+y+c)/1000000000:=BT (by omega)
  have hm:=EL (o+y+c) 1000000000
  have e0:=EN (o+y+c) (b:=1000000000) (by decide)
  have e1:=EH (o+y+c) (b:=1000000000) (by decide)
  have w7:=B5 (l:=U') (k:=i+j) (v:=(o+y+c)%1000000000) (by omega)
  have d4:b1<n1:=by have:=hK.le;omega
  have d5:¬iq=iu:=by omega
  have d6:iu<n1:=by omega
  have b3':bh .i64 ((o+y+c)/1000000000)=(o+y+c)/1000000000:=cE (by omega) (by omega)
  simp(disch:=first|(simp;done)|omega|rfl) [-getElem?_pos,A.nM,hr,hf,S4,S5,r9,uF,wL,vf,y_,DI,lv,q1,q2,q3,ru,gK ho,z1,z2,z3,z4,b1',b2',b3',SZ,S0,w7,d4,d6]
  generalize (o+y+c)/1000000000=D at*
  generalize (o+y+c)%1000000000=M at*
  refine⟨m,by omega,⟨i+1,U'.set (i+j) M,D,by omega,by simp,by simp,by omega,by omega,⟨by simp[ar,hW,nn],hK.set (by omega),rfl,by simp,by simp[d5,rq]⟩,by simp[jc],fun s hs=>?_,fun s d hs hd=>?_,?_⟩⟩
  ·rw[eH (by omega)]
   exact eE s (by omega)
  ·by_cases hsi:s=i+j
   ·subst hsi
    rw[jB (by omega)]at hd
    simp at hd
    omega
   ·rw[eH (fun h=>hsi h.symm)]at hd
    exact iO s d hs hd
  ·rw[hsu,Pa,show j+(i+1)=j+i+1 by omega,rk,show i+j=j+i by omega]
   have h3:vI U'=vI U+pI j*vI (Y.take i)-pI (j+i)*c:=by omega
   have h4:M=o+y+c-1000000000*D:=by omega
   rw[h3,h4,show j+i=i+j by omega,hp]
   grind
def Yph{l:List Int}{d:Int}(h:d∈l):∃s:Nat,l[s]?=some d:=uR h
def Yt1{l:List Int}(h:∀(s:Nat) (d:Int),l[s]?=some d->0<=d/\d<1000000000):Di l:=fun d hd=>by
 obtain⟨s,hs⟩:=Yph hd
 exact h s d hs
def Zyt{U U2:List Int}{j:Nat}{X:Int}(hj:j<=U.length)(hl:U2.length=U.length)(hs:∀s,s<j->U2[s]?=U[s]?)(hv:vI U2=vI U-pI j*X):vI (U2.drop j)=vI (U.drop j)-X:=by
 have h1:=LV U j hj
 have h2:=LV U2 j (by omega)
 have h3:U2.take j=U.take j:=by
  apply og
  intro s
  rw[iI,iI]
  by_cases h:s<j
  ·rw[ax h,ax h];exact hs s h
  ·rw[ak h,ak h]
 rw[h3]at h2
 have h4:pI j*vI (U2.drop j)=pI j*(vI (U.drop j)-X):=by
  have:pI j*(vI (U.drop j)-X)=pI j*vI (U.drop j)-pI j*X:=by grind
  omega
 exact Int.eq_of_mul_eq_mul_left (Int.ne_of_gt (C7 j)) h4
def Ylr{U:List Int}{j L:Nat}{tt:Int}(hd:∀(s:Nat) (d:Int),s<j+L->U[s]?=some d->0<=d/\d<1000000000)(ht:U[j+L]?=some tt)(hz:∀s,j+L<s->s<U.length->U[s]?=some 0)(au:vI (U.drop j)<pI L):(0<=vI (U.drop j)->tt=0)/\(vI (U.drop j)<0->tt<0):=by
 refine Yhw (w:=U.drop j) (n:=L) ?_ (by rw[ff];exact ht) ?_ au
 ·refine Yt1 fun s d hs=>?_
  by_cases h:s<L
  ·rw[iI,ax h,ff]at hs
   exact hd (j+s) d (by omega) hs
  ·rw[iI,ak h]at hs;cases hs
 ·intro s h1 h2
  rw[ff]
  exact hz (j+s) (by omega) (by simp at h2;omega)
structure OO (N:Nat) (h2:T O) (n2 iu iq n lu L:Nat) (A0:Int) (Y:List Int) (m:Nat) (r:T V) (st:St):Prop where
 ex:∃U Q,DvS N h2 n2 iu iq n U Q st/\r.get 13=some (.int .i64 ((m:Int)-1))/\U.length=lu/\Q.length=lu-L/\m<=lu-L/\Di U/\Di Q/\(∀s,m+L<=s->s<lu->U[s]?=some 0)/\vI (U.drop m)<vI Y/\(∀s,s<m->Q[s]?=some 0)/\vI U+vI Y*vI Q=A0
def Yi4{N:Nat}{h2:T O}{n2 iu iq n lu k:Nat}{A0 v1:Int}{Y:List Int}{v:V}{r0:T V}(hv:Sl h2 n2 v (dI Y))(hY:Y.length=k+2)(dY:Di Y)(oP:Y[k+1]?=some v1)(h5:500000000<=v1)(vn:k+2<lu)(xx:lu<1099511627776)(r9:r0.get 9=some v)(uF:r0.get 10=some (.int .i64 (k+2:Nat)))(wL:r0.get 11=some (.slice iu 0 lu none 1))(Iy:r0.get 12=some (.slice iq 0 (lu-(k+2)) (some (lu-(k+2))) 1))(a1:N<=n2)(a2:n2<=iu)(a3:iu<iq)(a4:iq<n):
  ∀m r st,(∀t,jT [(13,21),(82,191)] t=false->r.get t=r0.get t)->Fx [(13,21),(82,191)] r0 206 ⟨r,206,[]⟩->OO N h2 n2 iu iq n lu (k+2) A0 Y m r st->Code A.C none A.nN ⟨r,206,[]⟩ st (Rd [(13,21),(82,191)] r0 206 (OO N h2 n2 iu iq n lu (k+2) A0 Y) m (fun e r st=>e=.exit 2/\OO N h2 n2 iu iq n lu (k+2) A0 Y 0 r st)):=by
 rintro m r ⟨H,n1,W⟩ hr hf ⟨U,Q,⟨hW,hK,hn,ru,rq⟩,vf,jc,hql,hm,dU,dQ,hz,yp,Pc,im⟩
 simp only at hW hK hn ru rq
 subst hn
 rw[bb]
 cases m with
 |zero=>
  simp[A.nN,hr,hf,vf]
  exact⟨U,Q,⟨hW,hK,rfl,ru,rq⟩,by simp[vf],jc,hql,hm,dU,dQ,hz,yp,Pc,im⟩
 |succ j=>
  have qk:(((j+1:Nat):Int)-1)=(j:Int):=by omega
  rw[qk]at vf
  have yY:(0:Int)<=(j:Int):=by omega
  obtain⟨v2,jL⟩:=a_ (l:=Y) (k:=k) (by omega)
  obtain⟨d1,e1⟩:=a_ (l:=U) (k:=j+k) (by omega)
  obtain⟨d2,e2⟩:=a_ (l:=U) (k:=j+k+1) (by omega)
  obtain⟨d3,e3⟩:=a_ (l:=U) (k:=j+k+2) (by omega)
  obtain⟨x0,nz⟩:=a_ (l:=U) (k:=j) (by omega)
  have hWt:=Yne (w:=U.drop j) (k:=k) (a:=d1) (c:=d2) (d:=d3) (by rw[ff];exact e1) (by rw[ff,<-pF];exact e2) (by rw[ff,<-pF];exact e3) (fun t h1 h2=>by rw[ff];exact hz _ (by omega) (by simp at h2;omega))
  have hDt:=Ynf jL oP hY
  have hWd:vI (U.drop j)<1000000000*vI Y:=by
   rw[f_ nz,vI]
   have:=dU.get nz
   omega
  have hUk:=we ((dU.drop j).take k)
  rw[gO,xF,qt (by omega)]at hUk
  have hVk:=we (dY.take k)
  rw[gO,qt (by omega)]at hVk
  obtain⟨t,hg,t0,t1,fS,g_⟩:=Ykb (w:=W) (Sl.row (cp:=none) (L:=lu) (show iu<n1 by omega) ru (by simp[jc]) (fun k hk=>by cases hk)) (hv.ad hK) hY (by omega) e1 e2 e3 jL oP (dU.get e1) (dU.get e2) (dU.get e3) ⟨h5,(dY.get oP).2⟩ (dY.get jL) (C7 k) (wc ((dU.drop j).take k)) hUk (wc (dY.take k)) hVk hWt hDt hWd
  have hVl:=we dY
  rw[hY]at hVl
  have hVp:0<vI Y:=by have:=wc (dU.drop (j+1));omega
  simp[A.nN,hr,hf,vf,yY,r9,uF,wL,Iy,hg]
  refine bA [(15,18),(90,125)] (fun e r st=>e=.exit 4/\O8 N h2 n2 iu iq n1 U Q Y (k+2) j t 0 r st) (O8 N h2 n2 iu iq n1 U Q Y (k+2) j t) (k+2) ?_ ?_ ?_
  ·exact⟨0,U,0,by omega,by simp,by simp,by omega,by omega,⟨hW,hK,rfl,ru,rq⟩,rfl,fun _ _=>rfl,dU,by simp[vI]⟩
  ·exact Yh2 hv hY dY (by omega) (by omega) ⟨by simp[hr,r9],by simp[hr,uF],by simp[hr,wL,jc],by simp[hr,vf]⟩ (by simp) t0 t1 a1 a2 a3 a4
  ·rintro _ r2 ⟨H2,n3,W2⟩ dt ⟨rfl,i,U',c,hi,O9,DO,c0,c1,⟨dZ,eQ,fg,ru2,rq2⟩,vo,eE,kZ,Pd⟩
   simp only at dZ eQ fg ru2 rq2
   subst fg
   obtain rfl:i=k+2:=by omega
   have D4:=hf.inner (D':=[(15,18),(90,125)]) rfl (by simp) dt
   rw[<-hY,xE,hY]at Pd
   have e3':U'[j+(k+2)]?=some d3:=by rw[eE _ (.inr (aO _))];rw[<-pF];exact e3
   have Y4:=dU.get e3
   have q1:(j:Int)+((k:Int)+2)<(lu:Int):=by omega
   have q2:j+(k+2)<lu:=by omega
   have q3:(0:Int)<=(j:Int)+((k:Int)+2):=by omega
   have q4:((j:Int)+((k:Int)+2)).toNat=j+(k+2):=by omega
   have w8:=gJ U'
   have b1':bh .i64 (d3-c)=d3-c:=cE (by omega) (by omega)
   have w7:=B5 (l:=U') (k:=j+(k+2)) (v:=d3-c) (by omega)
   have nn:¬iu<N:=by omega
   have d5:¬iq=iu:=by omega
   have d6:¬iu=iq:=by omega
   have nq:¬iq<N:=by omega
   have v2e:vI (U'.set (j+(k+2)) (d3-c))=vI U-pI j*(t*vI Y):=by
    rw[C9 e3']
    have:pI (j+(k+2))*(d3-c-d3)= -(pI (j+(k+2))*c):=by grind
    omega
   have oV:∀s,s<j->(U'.set (j+(k+2)) (d3-c))[s]?=U[s]?:=fun s hs=>by
    rw[eH (by omega)];exact eE s (.inl hs)
   have eg:∀s,j+(k+2)<s->s<lu->(U'.set (j+(k+2)) (d3-c))[s]?=some 0:=fun s h1 h2=>by
    rw[eH (by omega),eE s (.inr (by omega))];exact hz s (by omega) h2
   have uO:=Zyt (by omega) (by simp[vo]) oV v2e
   have ka:(U'.set (j+(k+2)) (d3-c))[j+(k+2)]?=some (d3-c):=jB (by omega)
   have cX:vI ((U'.set (j+(k+2)) (d3-c)).drop j)<vI Y:=by
    rw[uO]
    have:(t+1)*vI Y=t*vI Y+vI Y:=by grind
    omega
   have hto:=Ylr (U:=U'.set (j+(k+2)) (d3-c)) (fun s d hs hd=>by
    rw[eH (by omega)]at hd;exact kZ.get hd) ka (fun s h1 h2=>eg s h1 (by simp at h2;omega)) (by omega)
   have qj1:(j:Int)<((lu-(k+2):Nat):Int):=by omega
   have qj2:j<lu-(k+2):=by omega
   have wq8:=gJ Q
   by_cases dM:d3-c<0
   ·have t1w:bh .i64 (t-1)=t-1:=cE (by omega) (by omega)
    simp(disch:=first|(simp;done)|omega|rfl) [-getElem?_pos,hr,dt,D4,DO,r9,uF,wL,Iy,vf,q1,q2,q3,q4,ru2,gK e3',b1',w7,gK ka,dM,t1w]
    generalize hU2:U'.set (j+(k+2)) (d3-c)=U2 at*
    have gj:U2.length=lu:=by rw[<-hU2];simp[vo,jc]
    have zbf:vI (U2.drop j)<0:=by
     apply JR;intro hc
     have:=hto.1 hc
     omega
    have zag:∀(s:Nat) (d:Int),s≠j+(k+2)->U2[s]?=some d->0<=d/\d<1000000000:=fun s d hs hd=>by
     rw[<-hU2,eH (by omega)]at hd;exact kZ.get hd
    refine bA [(19,21),(148,174)] (fun e r st=>e=.exit 6/\Pb N h2 n2 iu iq n3 U2 Q Y (k+2) j 0 r st) (Pb N h2 n2 iu iq n3 U2 Q Y (k+2) j) (k+2) ?_ ?_ ?_
    ·exact⟨0,U2,0,by omega,by simp,by simp,by omega,by omega,⟨by simp[ar,dZ,nn],eQ.set (by omega),rfl,by simp,by simp[d5,rq2]⟩,rfl,fun _ _=>rfl,zag,by simp[vI]⟩
    ·exact Ylm hv hY dY (by omega) (by omega) ⟨by simp[hr,dt,r9],by simp[hr,dt,uF],by simp[hr,dt,wL,gj],by simp[hr,dt,vf]⟩ a1 a2 a3 a4
    ·rintro _ r4 ⟨H4,n4,W4⟩ pU ⟨rfl,i4,U3,c4,hi4,S4,S5,c40,c41,⟨BL,KQ,OP,OQ,OR⟩,Pe,wQ,Pf,Pg⟩
     simp only at BL KQ OP OQ OR
     subst OP
     obtain rfl:i4=k+2:=by omega
     have zah:=D4.inner (D':=[(19,21),(148,174)]) rfl (by simp) pU
     rw[<-hY,xE,hY]at Pg
     have e4:U3[j+(k+2)]?=some (d3-c):=by rw[wQ _ (.inr (aO _))];exact ka
     have x8:=gJ U3
     have b4':bh .i64 (d3-c+c4)=d3-c+c4:=cE (by omega) (by omega)
     have x7:=B5 (l:=U3) (k:=j+(k+2)) (v:=d3-c+c4) (by omega)
     have v4e:vI (U3.set (j+(k+2)) (d3-c+c4))=vI U-pI j*((t-1)*vI Y):=by
      rw[C9 e4]
      have x1:pI (j+(k+2))*(d3-c+c4-(d3-c))=pI (j+(k+2))*c4:=by grind
      have x2:pI j*((t-1)*vI Y)=pI j*(t*vI Y)-pI j*vI Y:=by grind
      omega
     have S6:∀s,s<j->(U3.set (j+(k+2)) (d3-c+c4))[s]?=U[s]?:=fun s hs=>by
      rw[eH (by omega),wQ s (.inl hs)];exact oV s hs
     have zV:∀s,j+(k+2)<s->s<lu->(U3.set (j+(k+2)) (d3-c+c4))[s]?=some 0:=fun s h1 h2=>by
      rw[eH (by omega),wQ s (.inr (by omega))];exact eg s h1 h2
     have Ph:=Zyt (by omega) (by simp[Pe,gj,jc]) S6 v4e
     have Bi:(U3.set (j+(k+2)) (d3-c+c4))[j+(k+2)]?=some (d3-c+c4):=jB (by omega)
     have xt:(t-1)*vI Y=t*vI Y-vI Y:=by grind
     have zai:vI ((U3.set (j+(k+2)) (d3-c+c4)).drop j)<vI Y:=by
      rw[Ph];omega
     have zaj:0<=vI ((U3.set (j+(k+2)) (d3-c+c4)).drop j):=by
      rw[Ph];omega
     have zak:=Ylr (U:=U3.set (j+(k+2)) (d3-c+c4)) (fun s d hs hd=>by
      rw[eH (by omega)]at hd;exact Pf s d (by omega) hd) Bi (fun s h1 h2=>zV s h1 (by simp at h2;omega)) (by omega)
     have tr:=zak.1 zaj
     have w9:=B5 (l:=Q) (k:=j) (v:=t-1) (by omega)
     have tj:=Pc j (by omega)
     have zbg:1<=t:=by
      apply EM;intro hc
      have:t=0:=by omega
      rw[this]at uO
      have:=wc (dU.drop j)
      omega
     simp(disch:=first|(simp;done)|omega|rfl) [-getElem?_pos,hr,dt,pU,zah,S5,r9,uF,wL,Iy,vf,q1,q2,q3,q4,OQ,OR,gK e4,b4',x7,qj1,qj2,d5,d6,w9]
     refine⟨j,by omega,⟨U3.set (j+(k+2)) (d3-c+c4),Q.set j (t-1),⟨by simp[ar,BL,nn,nq],?_,rfl,by simp[d6],by simp⟩,by simp,by simp[Pe,gj],by simp[hql],by omega,?_,dQ.set (by omega) (by omega),?_,?_,?_,?_⟩⟩
     ·exact(KQ.set (by omega)).set (by omega)
     ·refine Yt1 fun s d hd=>?_
      by_cases hs:s=j+(k+2)
      ·subst hs
       rw[Bi,tr]at hd
       simp at hd
       omega
      ·rw[eH (fun h=>hs h.symm)]at hd
       exact Pf s d hs hd
     ·intro s h1 h2
      by_cases hs:s=j+(k+2)
      ·rw[hs,Bi,tr]
      ·exact zV s (by omega) h2
     ·exact zai
     ·intro s hs
      rw[eH (by omega)];exact Pc s (by omega)
     ·rw[v4e,C9 tj,<-im]
      grind
   ·have SB:0<=vI ((U'.set (j+(k+2)) (d3-c)).drop j):=by
     apply EM;intro hc;exact dM (hto.2 hc)
    have tr:=hto.1 SB
    have w9:=B5 (l:=Q) (k:=j) (v:=t) (by omega)
    have tj:=Pc j (by omega)
    rw[uO]at SB cX
    have tlt:t<1000000000:=by
     apply JR;intro hc
     have:=ER hc (uY hVp)
     omega
    simp(disch:=first|(simp;done)|omega|rfl) [-getElem?_pos,hr,dt,D4,DO,r9,uF,wL,Iy,vf,q1,q2,q3,q4,ru2,rq2,gK e3',b1',w7,gK ka,dM,qj1,qj2,d5,d6,w9]
    refine⟨j,by omega,⟨U'.set (j+(k+2)) (d3-c),Q.set j t,⟨by simp[ar,dZ,nn,nq],?_,rfl,by simp[d6],by simp⟩,by simp,by simp[vo,jc],by simp[hql],by omega,?_,dQ.set t0 tlt,?_,?_,?_,?_⟩⟩
    ·exact(eQ.set (by omega)).set (by omega)
    ·rw[tr];exact kZ.set (by omega) (by omega)
    ·intro s h1 h2
     by_cases hs:s=j+(k+2)
     ·rw[hs,ka,tr]
     ·exact eg s (by omega) h2
    ·rw[uO];exact cX
    ·intro s hs
     rw[eH (by omega)];exact Pc s (by omega)
    ·rw[v2e,C9 tj,<-im]
     grind
end
end Go.Mx
