/-lensletref01-/
import Derived.Test.YteojhfjdbpdolaaGreatDoorMxQ
set_option linter.all false
namespace Go.Mx
noncomputable section
open Go Go.Proofs
variable {n:Nat}
set_option maxRecDepth 1000000
def A.OC:=A.q Tryz.f226
def A.nG:=A.ql A.OC 0 []
def A.b226:=(fun x0=>A.qb A.OC [x0]) A.nG
def A.k226:=@A.kk 226 25 [.tmp 4] A.b226 (by kernel_rfl) rfl
def A.OD:=A.q Tryz.f228
def A.sg:=A.ql A.OD 0 []
def A.b228:=(fun x0=>A.qb A.OD [x0]) A.sg
def A.k228:=@A.kk 228 39 [.tmp 2] A.b228 (by kernel_rfl) rfl
def Ygn:h_ 0 0=[]:=by simp[h_,tG]
def Ygo{m:Nat}(h:n≠0\/0<m):h_ n m=h_ (n/10) (m-1)++[c_ n]:=by
 unfold h_
 by_cases hn:n=0
 ·subst hn
  have hm:0<m:=by omega
  simp only[tG,Nat.zero_div,List.length_nil,Nat.sub_zero,wU]
  obtain⟨k,rfl⟩:∃k,m=k+1:=⟨m-1,by omega⟩
  have:c_ 0=48:=by decide
  rw[this,List.replicate_succ',Nat.add_sub_cancel]
 ·rw[xC hn]
  have:m-(df (n/10)++[c_ n]).length=m-1-(df (n/10)).length:=by simp;omega
  rw[this,td]
def Yqr{k:Nat}(hk:k<10):(WA.take (k+1)).drop k=[c_ k]:=by
 have:k=0\/k=1\/k=2\/k=3\/k=4\/k=5\/k=6\/k=7\/k=8\/k=9:=by omega
 rcases this with rfl|rfl|rfl|rfl|rfl|rfl|rfl|rfl|rfl|rfl<;>decide
def Yqv(n:Nat):c_ (n%10)=c_ n:=by unfold c_;rw[Nat.mod_mod]
def Kb{m:Nat}{st:St}(hn:n<9223372036854775808)(hm:m<1000):A.C.call (.func 226 [] []) [.int .i64 n,.int .i64 m] st=some (.str (h_ n m),st):=by
 apply Call.eq
 rw[aR,A.k226 (by simp)]
 simp[A.b226]
 have hlen:(h_ n m).length<2000:=by
  have:(df n).length<=19:=pC.1 (by omega)
  unfold h_
  simp;omega
 refine bL [(0,0),(5,23)] (fun e r s1=>s1=⟨st.h,st.n,[]⟩/\e=.exit 0/\r.get 5=some (.str (h_ n m))) (fun q r s1=>s1=⟨st.h,st.n,[]⟩/\∃k s,q=k+(m-s.length)/\k<9223372036854775808/\r.get 0=some (.int .i64 k)/\r.get 5=some (.str s)/\h_ n m=h_ k (m-s.length)++s) (n+m) ?_ ?_ ?_
 ·exact⟨rfl,n,[],by simp,hn,by simp,by simp,by simp⟩
 ·rintro q r _ hr hf ⟨rfl,k,s,rfl,hk,h0,h5,hd⟩
  rw[bl]
  by_cases tE:k≠0\/0<m-s.length
  ·have dM:=Ygo (n:=k) (m:=m-s.length) tE
   rw[dM,td,Qn]at hd
   have cC:s.length+1<2000:=by
    have:=congrArg List.length hd
    simp at this;omega
   have t1:(k:Int).tmod 10=((k%10:Nat):Int):=by rw[D4 (by omega)];omega
   have t2:(k:Int).tdiv 10=((k/10:Nat):Int):=by rw[Bm (by omega)];omega
   have t3:bj .i64 ((k/10:Nat):Int)=((k/10:Nat):Int):=cD (by omega) (by omega)
   have t4:bj .i64 (((k%10:Nat):Int)+1)=((k%10+1:Nat):Int):=by rw[cD (by omega) (by omega)];omega
   have OE:¬(9223372036854775807:Int)<1+(s.length:Int):=by omega
   have dq:IntKind.max .i64=9223372036854775807:=rfl
   have sl:∀st:St,tK st (some (.str [48,49,50,51,52,53,54,55,56,57])) (some (some (.int .i64 ((k:Int)%10)))) (some (some (.int .i64 ((k:Int)%10+1))))=some (.str [c_ k],st):=fun st=>by
    rw[Zqd (by omega) (by omega) (by simp;omega)]
    have e1:((k:Int)%10).toNat=k%10:=by omega
    have e2:((k:Int)%10+1).toNat=k%10+1:=by omega
    rw[e1,e2]
    have:=Yqr (k:=k%10) (by omega)
    rw[Yqv]at this
    exact congrArg (fun x=>some (V.str x,st)) this
   have Hi:0<k\/(¬0<k/\s.length<m):=by omega
   rcases Hi with g1|⟨g1,g2⟩
   ·have i1:(0:Int)<(k:Int):=by omega
    simp(disch:=first|(simp;done)|omega|rfl) [A.nG,hr,hf,h0,h5,g1,i1,t1,t2,t3,t4,gL,dq,sl,OE]
    exact⟨k/10+(m-(s.length+1)),by omega,k/10,c_ k::s,by simp,by omega,by simp,by simp,by rw[hd,bo,Nat.sub_sub]⟩
   ·have i1:¬(0:Int)<(k:Int):=by omega
    have i2:(s.length:Int)<(m:Int):=by omega
    simp(disch:=first|(simp;done)|omega|rfl) [A.nG,hr,hf,h0,h5,g1,g2,i1,i2,t1,t2,t3,t4,gL,dq,sl,OE]
    exact⟨k/10+(m-(s.length+1)),by omega,k/10,c_ k::s,by simp,by omega,by simp,by simp,by rw[hd,bo,Nat.sub_sub]⟩
  ·have g1:¬0<k:=by omega
   have g2:¬s.length<m:=by omega
   have i1:¬(0:Int)<(k:Int):=by omega
   have i2:¬(s.length:Int)<(m:Int):=by omega
   obtain rfl:k=0:=by omega
   rw[show m-s.length=0 by omega,Ygn,List.nil_append]at hd
   simp[A.nG,hr,hf,h0,h5,g1,g2,i1,i2,hd]
 ·rintro _ r _ hr ⟨rfl,rfl,h5⟩
  simp[hr,h5]
def OA:(ar n).length<=9*(ds n).length+1:=by
 have h1:n<10^(9*(ds n).length):=by
  have h2:=vC (fV n)
  rw[gk,Q5]at h2
  have h3:=Int.ofNat_lt.1 h2
  rw[Nat.pow_mul]
  exact h3
 have:=pC.1 h1
 unfold ar
 split<;>simp<;>omega
def Zwx{k:Nat}:(ar (n/k)).length<=9*(ds n).length+1:=by
 have h1:=OA (n:=n/k)
 have h2:=uC (vk n k)
 omega
def Ka{h:T O}{N:Nat}{x:V}{z:Int}(hx:Rg h N x z)(hl:(ds z.natAbs).length<100000000000):Fn A.C 228 [x] h N (fun u _ _=>u=.str (aP z)):=by
 intro w
 obtain⟨u,rfl,hu⟩:=hx
 have o1:=Sl.form hu |>.one
 have o2:=Sl.form hu |>.cells
 unfold V.one at o1
 unfold V.cells at o2
 have kB:=((ab.refl (h:=h) (n:=N)).new (.cells [.bool (decide (z<0)),u] 180 true))
 have fG:Sl (h.set N (.cells [.bool (decide (z<0)),u] 180 true)) (N+1) u (dI (ds z.natAbs)):=Sl.ae hu kB
 have lu:=fG.len
 rw[fZ]at lu
 rw[aR,A.k228 (by simp)]
 by_cases h0:z=0
 ·subst h0
  have e0:(ds (0:Int).natAbs).length=0:=by rw[show (0:Int).natAbs=0 from rfl,th];rfl
  rw[e0]at lu
  have e1:aP 0=[48]:=by decide
  simp[A.b228,o1,o2,ad,lu,aG,aE,e1]
  exact kB
 obtain⟨n,hn⟩:∃n,z.natAbs=n:=⟨_,rfl⟩
 rw[hn]at lu fG hl
 have BW:n≠0:=by omega
 have qC:(ds n).length≠0:=fun hc=>BW (CI.1 (qE hc))
 obtain⟨L,hL⟩:∃L,(ds n).length=L+1:=⟨(ds n).length-1,by omega⟩
 have uU:=fun (k:Nat)=>Zwx (n:=n) (k:=k)
 rw[hL]at lu
 obtain⟨f,hF⟩:∃f:Nat->aQ,∀m,f m=ar (n/1000000000^m):=⟨_,fun _=>rfl⟩
 obtain⟨g,hG⟩:∃g:Nat->Nat,∀m,g m=n/1000000000^m%1000000000:=⟨_,fun _=>rfl⟩
 have xP:f 0=ar n:=by rw[hF];simp
 have xL:∀m,g m<1000000000:=fun m=>by rw[hG];exact kO _ (by omega)
 have hg:∀m,m<L+1->(ds n)[m]?=some (g m):=fun m hm=>by rw[hG];exact Q3 (by omega)
 have Sr:f L=h_ (g L) 1:=by rw[hF,hG];exact Yk1 hL.symm
 have wS:∀m,m<L->f m=f (m+1)++h_ (g m) 9:=fun m hm=>by rw[hF,hF,hG];exact Ygp (by omega)
 have ky:∀m,(f m).length<=9*(L+1)+1:=fun m=>by rw[hF,<-hL];exact uU _
 clear hF hG uU
 obtain⟨i,o,c,e,rw,q1,q2,q3,q4⟩:=fG.at (fS (hg L (by omega)))
 have c1:¬((L:Int)+1=0):=by omega
 have c2:((L:Int)+1-1)=(L:Int):=by omega
 have c3:(L:Int)<(L:Int)+1:=by omega
 have c4:((L:Int)+1-2)=(L:Int)-1:=by omega
 have c5:bj .i64 ((L:Int)+1-1)=(L:Int):=by rw[c2];exact cD (by omega) (by omega)
 have c6:bj .i64 ((L:Int)+1-2)=(L:Int)-1:=by rw[c4];exact cD (by omega) (by omega)
 have HX:∀m st,A.C.call (.func 226 [] []) [.int .i64 (g m),.int .i64 1] st=some (.str (h_ (g m) 1),st):=fun m st=>Kb (n:=g m) (m:=1) (st:=st) (by have:=xL m;omega) (by omega)
 have og:∀m st,A.C.call (.func 226 [] []) [.int .i64 (g m),.int .i64 9] st=some (.str (h_ (g m) 9),st):=fun m st=>Kb (n:=g m) (m:=9) (st:=st) (by have:=xL m;omega) (by omega)
 simp(disch:=omega) [A.b228,o1,o2,ad,lu,aG,c1,c2,c3,c5,c6,q1,q3,q4,HX]
 rw[<-Sr]
 refine bL [(3,4),(22,33)] (fun e r s1=>s1=⟨h.set N (.cells [.bool (decide (z<0)),u] 180 true),N+1,[]⟩/\e=.exit 0/\r.get 1=some (.ptr N 0)/\r.get 3=some (.str (ar n))) (fun m r s1=>s1=⟨h.set N (.cells [.bool (decide (z<0)),u] 180 true),N+1,[]⟩/\m<=L/\r.get 1=some (.ptr N 0)/\r.get 4=some (.int .i64 ((m:Int)-1))/\r.get 3=some (.str (f m))) L ?_ ?_ ?_
 ·exact⟨rfl,by omega,by simp,by simp,by simp⟩
 ·rintro m r _ hr hf ⟨rfl,hm,h1,h4,h3⟩
  rw[bl]
  rcases m with _|m
  ·have e1:(((0:Nat):Int)-1<0):=by omega
   rw[xP]at h3
   simp[A.sg,hr,hf,h1,h3,h4,e1]
  ·have e3:(((m+1:Nat):Int)-1)=(m:Int):=by omega
   have e4:¬((m:Int)<0):=by omega
   rw[e3]at h4
   obtain⟨i,o,c,e,rw,q1,q2,q3,q4⟩:=fG.at (fS (hg m (by omega)))
   have hp:(f m).length=(f (m+1)).length+(h_ (g m) 9).length:=by rw[wS m (by omega),iI]
   have zj:¬(9223372036854775807:Int)<((f (m+1)).length:Int)+((h_ (g m) 9).length:Int):=by have:=ky m;omega
   have dq:IntKind.max .i64=9223372036854775807:=rfl
   have w1:bj .i64 ((m:Int)-1)=(m:Int)-1:=cD (by omega) (by omega)
   have c7:(m:Int)<(L:Int)+1:=by omega
   have f1:=(wS m (by omega)).symm
   have f2:m<m+1/\m<=L:=by omega
   have yc:=og m
   clear hp qC BW hn hm hl hL wS ky og HX Sr hg xL xP
   simp[A.sg,hr,hf,h1,h3,h4,e4,o1,o2,ad,lu,c7,q1,q3,q4,yc,gL,dq,zj,w1,f1]
   exact⟨m,f2.1,f2.2,rfl,rfl⟩
 ·rintro _ r _ hr ⟨rfl,rfl,h1,h3⟩
  have iD:=OA (n:=n)
  have dq:IntKind.max .i64=9223372036854775807:=rfl
  have cC:¬(9223372036854775807:Int)<1+((ar n).length:Int):=by omega
  by_cases hz:z<0
  ·have e1:aP z=45::ar n:=by unfold aP;rw[av hz,hn]
   clear iD qC BW hn hL wS ky og HX Sr hg xL xP hl
   simp[hr,h1,h3,hz,o1,o2,ad,gL,dq,cC,aE,e1]
   simpa[hz]using kB
  ·have e1:aP z=ar n:=by unfold aP;rw[ak hz,hn]
   clear iD qC BW hn hL wS ky og HX Sr hg xL xP hl
   simp[hr,h1,h3,hz,o1,o2,ad,aE,e1]
   simpa[hz]using kB
open Go
def Yto{P d1 d2 d3 v1 v2 U' V' t r:Int}(hP:0<P)(Hw:0<=U')(hU:U'<P)(xo:0<=V')(hV:V'<P)(h1:0<=d1)(fI:d1<1000000000)(h2:0<=d2)(h3:0<=d3)(w1:500000000<=v1)(w2:0<=v2)(w2':v2<1000000000)
  (hW:U'+P*(d1+1000000000*(d3*1000000000+d2))<1000000000*(V'+P*(v2+1000000000*v1))) (ht:d3*1000000000+d2=t*v1+r) (iS:0<=r) (mG:r<v1):
  0<=t/\t<=1000000001/\U'+P*(d1+1000000000*(d3*1000000000+d2))<(t+1)*(V'+P*(v2+1000000000*v1)):=by
 generalize hT:d3*1000000000+d2=T at*
 have hT0:0<=T:=by omega
 have t0:0<=t:=by
  apply Ea;intro hc
  have:t*v1<=(-1)*v1:=D3 (by omega) (by omega)
  omega
 have a1:T<1000000000*(v1+1):=by
  apply Je;intro hc
  have b1:P*(1000000000*(v1+1))<=P*T:=rb hc (by omega)
  have b2:0<=P*d1:=xh (by omega) h1
  have b3:P*v2<=P*999999999:=rb (by omega) (by omega)
  have b4:P*(d1+1000000000*T)=P*d1+1000000000*(P*T):=by grind
  have b5:P*(v2+1000000000*v1)=P*v2+1000000000*(P*v1):=by grind
  have b6:P*(1000000000*(v1+1))=1000000000*(P*v1)+1000000000*P:=by grind
  omega
 have a2:t<=1000000001:=by
  apply Ea;intro hc
  have b1:1000000002*v1<=t*v1:=D3 (by omega) (by omega)
  omega
 refine⟨t0,a2,?_⟩
 have c1:(t+1)*v1=t*v1+v1:=by grind
 have b1:P*(T+1)<=P*((t+1)*v1):=rb (by omega) (by omega)
 have b2:P*d1<=P*999999999:=rb (by omega) (by omega)
 have b3:0<=(t+1)*V':=xh (by omega) xo
 have b4:0<=(t+1)*(P*v2):=xh (by omega) (xh (by omega) w2)
 have b5:P*(d1+1000000000*T)=P*d1+1000000000*(P*T):=by grind
 have b6:(t+1)*(V'+P*(v2+1000000000*v1))=(t+1)*V'+(t+1)*(P*v2)+1000000000*(P*((t+1)*v1)):=by grind
 have b7:P*(T+1)=P*T+P:=by grind
 omega
set_option maxHeartbeats 2000000
def A.OF:=A.q Tryz.f262
def A.il:=A.ql A.OF 0 []
def A.b262:=(fun x0=>A.qb A.OF [x0]) A.il
def A.k262:=@A.kk 262 77 [.tmp 6] A.b262 (by kernel_rfl) rfl
structure GuR (W D v1 top:Int) (m:Nat) (r:T V):Prop where
 ex:∃t q:Int,t.toNat=m/\r.get 9=some (.int .i64 t)/\r.get 10=some (.int .i64 q)/\0<=t/\t<=1000000001/\0<=q/\q<1000000000/\top=t*v1+q/\W<(t+1)*D
def Yke{h:T O}{N:Nat}{u v:V}{L Y:List Int}{j k:Nat}{d1 d2 d3 v1 v2 P U' V' W D:Int}{w:List Nat}(hu:Sl h N u (dI L))(hv:Sl h N v (dI Y))(hY:Y.length=k+2)(hL:L.length<1099511627776)(e1:L[j+k]?=some d1)(e2:L[j+k+1]?=some d2)(e3:L[j+k+2]?=some d3)(f2:Y[k]?=some v2)(f1:Y[k+1]?=some v1)
  (r1:0<=d1/\d1<1000000000) (r2:0<=d2/\d2<1000000000) (r3:0<=d3/\d3<1000000000) (r4:500000000<=v1/\v1<1000000000) (r5:0<=v2/\v2<1000000000) (hP:0<P) (Hw:0<=U') (hU:U'<P) (xo:0<=V') (hV:V'<P) (hW:W=U'+P*(d1+1000000000*(d3*1000000000+d2))) (hD:D=V'+P*(v2+1000000000*v1)) (hWD:W<1000000000*D):
  ∃t,A.C.call (.func 262 [] []) [u,v,.int .i64 j] ⟨h,N,w⟩=some (.int .i64 t,⟨h,N,w⟩)/\0<=t/\t<=1000000000/\(t-1)*D<=W/\W<(t+1)*D:=by
 have lu:=hu.len
 have lv:=hv.len
 rw[fZ]at lu lv
 rw[hY]at lv
 have pR:=iY e3
 have goal:Call A.C (.func 262 [] []) [u,v,.int .i64 j] ⟨h,N,w⟩ (fun x s=>s=⟨h,N,w⟩/\∃t,x=.int .i64 t/\0<=t/\t<=1000000000/\(t-1)*D<=W/\W<(t+1)*D):=by
  obtain⟨a1,a2,a3,a4,a5,x1,x2,x3,x4⟩:=hu.at (fS e1)
  obtain⟨RN,a2',a3',a4',a5',x1',x2',x3',Kc⟩:=hu.at (fS e2)
  obtain⟨zaW,zaX,zaY,zaZ,za0,Ir,za1,Is,yz⟩:=hu.at (fS e3)
  rw[x1]at x1' Ir
  simp only[al,bu]at x1' Ir
  obtain⟨rfl,rfl⟩:=x1'
  obtain⟨rfl,rfl⟩:=Ir
  rw[x3]at x3' Is
  simp only[al,O.cells.injEq]at x3' Is
  obtain⟨rfl,rfl,rfl⟩:=x3'
  obtain⟨rfl,_,_⟩:=Is
  obtain⟨b1,b2,b3,b4,b5,y1,y2,y3,y4⟩:=hv.at (fS f2)
  obtain⟨b1',b2',b3',b4',b5',y1',y2',y3',Kd⟩:=hv.at (fS f1)
  rw[y1]at y1'
  simp only[al,bu]at y1'
  obtain⟨rfl,rfl⟩:=y1'
  rw[y3]at y3'
  simp only[al,O.cells.injEq]at y3'
  obtain⟨rfl,_,_⟩:=y3'
  have c1:((k:Int)+2-1)=(k:Int)+1:=by omega
  have c2:((j:Int)+((k:Int)+2)-1)=(j:Int)+(k:Int)+1:=by omega
  have c3:((j:Int)+((k:Int)+2)-2)=(j:Int)+(k:Int):=by omega
  have c4:((k:Int)+2-2)=(k:Int):=by omega
  have c5:((j:Int)+((k:Int)+2))=(j:Int)+(k:Int)+2:=by omega
  have i1:(j:Int)+(k:Int)+2<(L.length:Int):=by omega
  have i2:(j:Int)+(k:Int)+1<(L.length:Int):=by omega
  have i3:(j:Int)+(k:Int)<(L.length:Int):=by omega
  have i4:(0:Int)<=(j:Int)+(k:Int)+2:=by omega
  have i5:(0:Int)<=(j:Int)+(k:Int)+1:=by omega
  have i6:(0:Int)<=(j:Int)+(k:Int):=by omega
  have n1:((j:Int)+(k:Int)+2).toNat=j+k+2:=by omega
  have n2:((j:Int)+(k:Int)+1).toNat=j+k+1:=by omega
  have n3:((j:Int)+(k:Int)).toNat=j+k:=by omega
  have n4:((k:Int)+1).toNat=k+1:=by omega
  have k1:(k:Int)+1<(k:Int)+2:=by omega
  have k2:(k:Int)<(k:Int)+2:=by omega
  have k3:(0:Int)<=(k:Int)+1:=by omega
  have u1:bj .i64 (d3*1000000000)=d3*1000000000:=cD (by omega) (by omega)
  have u2:bj .i64 (d3*1000000000+d2)=d3*1000000000+d2:=cD (by omega) (by omega)
  have s0:0<=d3*1000000000+d2:=by omega
  have v0:¬v1=0:=by omega
  have t1:(d3*1000000000+d2).tdiv v1=(d3*1000000000+d2)/v1:=Bm s0
  have t2:(d3*1000000000+d2).tmod v1=(d3*1000000000+d2)%v1:=D4 s0
  have t3:=DZ (d3*1000000000+d2) v1
  have t4:=Eb (d3*1000000000+d2) v0
  have t5:=D9 (d3*1000000000+d2) (b:=v1) (by omega)
  have gi:=Yto (t:=(d3*1000000000+d2)/v1) (r:=(d3*1000000000+d2)%v1) hP Hw hU xo hV r1.1 r1.2 r2.1 r3.1 r4.1 r5.1 r5.2 (by rw[<-hW,<-hD];exact hWD) (by rw[Int.mul_comm (_/_) v1];exact t3.symm) t4 t5
  rw[<-hW,<-hD]at gi
  obtain⟨g1,g2,g3⟩:=gi
  have t6:bj .i64 ((d3*1000000000+d2)/v1)=(d3*1000000000+d2)/v1:=cD (by omega) (by omega)
  rw[aR,A.k262 (by simp)]
  simp(disch:=first|(simp;done)|omega|rfl) [A.b262,lv,lu,c1,c2,c3,c4,c5,i1,i2,i3,i4,i5,i6,n1,n2,n3,n4,k1,k2,k3,x1,x2,x3,x4,Kc,yz,y1,y2,y3,y4,Kd,u1,u2,v0,t1,t2,t6]
  generalize AM:d3*1000000000+d2=D1 at*
  refine bL [(6,6),(9,10),(42,75)] (fun e r st=>st=⟨h,N,[]⟩/\((e=.exit 0/\∃t,r.get 9=some (.int .i64 t)/\0<=t/\t<=1000000000/\(t-1)*D<=W/\W<(t+1)*D)\/(e=.ret/\∃t,r.get 6=some (.int .i64 t)/\0<=t/\t<=1000000000/\(t-1)*D<=W/\W<(t+1)*D))) (fun m r st=>st=⟨h,N,[]⟩/\GuR W D v1 D1 m r) (D1/v1).toNat ?_ ?_ ?_
  ·exact⟨rfl,⟨D1/v1,D1%v1,rfl,by simp,by simp,g1,g2,t4,by omega,by rw[Int.mul_comm (_/_) v1];exact t3.symm,g3⟩⟩
  ·rintro m r _ hr hf ⟨rfl,⟨t,q,rfl,h9,fF,Ss,tq1,q0,q1,jX,ay⟩⟩
   rw[bl]
   by_cases hA:1000000000<=t
   ·have ay:W<t*D:=by
     have d0:0<=D:=by
      have:=xh (uv hP) (show 0<=v2+1000000000*v1 by omega)
      omega
     have:=D3 hA d0
     omega
    have tp:1<=t:=by omega
    have jo:bj .i64 (q+v1)=q+v1:=cD (by omega) (by omega)
    have xG:bj .i64 (t-1)=t-1:=cD (by omega) (by omega)
    have e5:D1=t*v1+q:=jX
    have e6:(t-1)*v1+(q+v1)=t*v1+q:=by grind
    by_cases o8:1000000000<=q+v1
    ·simp(disch:=first|(simp;done)|omega|rfl) [A.il,hr,hf,h9,fF,lv,lu,c1,c2,c3,c4,c5,i1,i2,i3,i4,i5,i6,n1,n2,n3,n4,k1,k2,k3,x1,x2,x3,x4,Kc,yz,y1,y2,y3,y4,Kd,hA,jo,xG,o8]
     refine⟨by omega,by omega,?_,ay⟩
     have m1:(t-1)*v2<=1000000000*v2:=D3 (by omega) r5.1
     have:=Wx (t:=t-1) (r:=q+v1) (v1:=v1) (u1:=D1) hP Hw r1.1 s0 (by omega) r5.1 xo hV (by omega) (by omega) (by rw[e6];exact jX) (by omega)
     rw[hW,hD]
     exact this
    ·simp(disch:=first|(simp;done)|omega|rfl) [A.il,hr,hf,h9,fF,lv,lu,c1,c2,c3,c4,c5,i1,i2,i3,i4,i5,i6,n1,n2,n3,n4,k1,k2,k3,x1,x2,x3,x4,Kc,yz,y1,y2,y3,y4,Kd,hA,jo,xG,o8]
     exact⟨(t-1).toNat,by omega,⟨t-1,q+v1,rfl,by simp,by simp,by omega,by omega,by omega,by omega,by rw[e6];exact jX,by rw[show t-1+1=t by omega];exact ay⟩⟩
   ·have hA':¬1000000000<=t:=hA
    have m0:0<=t*v2:=xh Ss r5.1
    have m1:t*v2<=1000000000*1000000000:=Int.mul_le_mul (by omega) (by omega) r5.1 (by omega)
    have b1':bj .i64 (t*v2)=t*v2:=cD (by omega) (by omega)
    have b2':bj .i64 (q*1000000000)=q*1000000000:=cD (by omega) (by omega)
    have b3':bj .i64 (q*1000000000+d1)=q*1000000000+d1:=cD (by omega) (by omega)
    by_cases hB:q*1000000000+d1<t*v2
    ·have ay:W<t*D:=by
      have:=Yp3 (t:=t) (r:=q) (v1:=v1) (u1:=D1) hP hU xo Ss jX hB
      rw[hW,hD];exact this
     have tz:t≠0:=fun hc=>by rw[hc]at hB;simp at hB;omega
     have tp:1<=t:=by omega
     have jo:bj .i64 (q+v1)=q+v1:=cD (by omega) (by omega)
     have xG:bj .i64 (t-1)=t-1:=cD (by omega) (by omega)
     have e5:D1=t*v1+q:=jX
     have e6:(t-1)*v1+(q+v1)=t*v1+q:=by grind
     by_cases o8:1000000000<=q+v1
     ·simp(disch:=first|(simp;done)|omega|rfl) [A.il,hr,hf,h9,fF,lv,lu,c1,c2,c3,c4,c5,i1,i2,i3,i4,i5,i6,n1,n2,n3,n4,k1,k2,k3,x1,x2,x3,x4,Kc,yz,y1,y2,y3,y4,Kd,hA',b1',b2',b3',hB,jo,xG,o8]
      refine⟨by omega,by omega,?_,ay⟩
      have m1:(t-1)*v2<=1000000000*v2:=D3 (by omega) r5.1
      have:=Wx (t:=t-1) (r:=q+v1) (v1:=v1) (u1:=D1) hP Hw r1.1 s0 (by omega) r5.1 xo hV (by omega) (by omega) (by rw[e6];exact jX) (by omega)
      rw[hW,hD]
      exact this
     ·simp(disch:=first|(simp;done)|omega|rfl) [A.il,hr,hf,h9,fF,lv,lu,c1,c2,c3,c4,c5,i1,i2,i3,i4,i5,i6,n1,n2,n3,n4,k1,k2,k3,x1,x2,x3,x4,Kc,yz,y1,y2,y3,y4,Kd,hA',b1',b2',b3',hB,jo,xG,o8]
      exact⟨(t-1).toNat,by omega,⟨t-1,q+v1,rfl,by simp,by simp,by omega,by omega,by omega,by omega,by rw[e6];exact jX,by rw[show t-1+1=t by omega];exact ay⟩⟩
    ·simp(disch:=first|(simp;done)|omega|rfl) [A.il,hr,hf,h9,fF,lv,lu,c1,c2,c3,c4,c5,i1,i2,i3,i4,i5,i6,n1,n2,n3,n4,k1,k2,k3,x1,x2,x3,x4,Kc,yz,y1,y2,y3,y4,Kd,hA',b1',b2',b3',hB]
     refine⟨Ss,by omega,?_,ay⟩
     have:=Wx (t:=t) (r:=q) (u1:=D1) hP Hw r1.1 s0 (by omega) r5.1 xo hV Ss (by omega) jX (by omega)
     rw[hW,hD];exact this
  ·rintro e r _ hr ⟨rfl,⟨rfl,t,h9,ht⟩|⟨rfl,t,h6,ht⟩⟩
   ·simp[hr,h9];exact ht
   ·simp[hr,h6];exact ht
 obtain⟨x,s,hc,rfl,t,rfl,h1,h2,h3,h4⟩:=goal.ex
 exact⟨t,hc,h1,h2,h3,h4⟩
def A.AW:=A.q Tryz.f223
def A.nH:=A.ql A.AW 3 []
def A.jZ:=A.ql A.AW 2 []
def A.nE:=(fun x0 x1=>A.ql A.AW 1 [x0,x1]) A.jZ A.nH
def A.nF:=A.ql A.AW 0 []
def A.b223:=(fun x0 x1=>A.qb A.AW [x0,x1]) A.nF A.nE
def A.k223:=@A.kk 223 206 [.tmp 4,.tmp 5] A.b223 (by kernel_rfl) rfl
structure ZW (N:Nat) (h2:T O) (n2 iu iq n:Nat) (U Q:List Int) (st:St):Prop where
 w:ax N st.w=[]
 ae:ab h2 n2 st.h n
 n:st.n=n
 ru:st.h.get iu=some (.cells (dI U) 3 true)
 rq:st.h.get iq=some (.cells (dI Q) 3 true)
structure DvR (r0:T V) (v:V) (iu lu L j:Nat):Prop where
 r9:r0.get 9=some v
 tO:r0.get 10=some (.int .i64 L)
 vX:r0.get 11=some (.slice iu 0 lu none 1)
 uE:r0.get 13=some (.int .i64 j)
structure N6 (N:Nat) (h2:T O) (n2 iu iq n:Nat) (U Q Y:List Int) (L j:Nat) (t:Int) (m:Nat) (r:T V) (st:St):Prop where
 ex:∃i U' c,i+m=L/\r.get 16=some (.int .i64 i)/\r.get 15=some (.int .i64 c)/\0<=c/\c<=1000000000/\ZW N h2 n2 iu iq n U' Q st/\U'.length=U.length/\(∀s,(s<j\/j+i<=s)->U'[s]?=U[s]?)/\Di U'/\vI U'-pI (j+i)*c=vI U-pI j*(t*vI (Y.take i))
def Yh8{N:Nat}{h2:T O}{n2 iu iq n:Nat}{U Q Y:List Int}{L j:Nat}{t:Int}{v:V}{r0:T V}(hv:Sl h2 n2 v (dI Y))(hY:Y.length=L)(dY:Di Y)(Hd:j+L<U.length)(wK:U.length<1099511627776)(R:DvR r0 v iu U.length L j)(JY:r0.get 14=some (.int .i64 t))(t0:0<=t)(t1:t<=1000000000)(a1:N<=n2)(a2:n2<=iu)(a3:iu<iq)(a4:iq<n):
  ∀k r st,(∀t,jP [(15,18),(90,125)] t=false->r.get t=r0.get t)->Fx [(15,18),(90,125)] r0 206 ⟨r,206,[]⟩->N6 N h2 n2 iu iq n U Q Y L j t k r st->Code A.C none A.jZ ⟨r,206,[]⟩ st (Rd [(15,18),(90,125)] r0 206 (N6 N h2 n2 iu iq n U Q Y L j t) k (fun e r st=>e=.exit 4/\N6 N h2 n2 iu iq n U Q Y L j t 0 r st)):=by
 rintro m r ⟨H,n1,W⟩ hr hf ⟨i,U',c,hi,Oa,Dh,c0,c1,⟨hW,hK,hn,ru,rq⟩,iX,dP,iJ,iL⟩
 simp only at hW hK hn ru rq
 subst hn
 obtain⟨r9,tO,vX,uE⟩:=R
 rw[bl]
 cases m with
 |zero=>
  have:i=L:=by omega
  subst this
  simp[A.jZ,hr,hf,Oa,tO]
  exact⟨i,U',c,by omega,by simp[Oa],by simp[Dh],c0,c1,⟨hW,hK,rfl,ru,rq⟩,iX,dP,iJ,iL⟩
 |succ m=>
  obtain⟨y,hy⟩:=bk (l:=Y) (k:=i) (by omega)
  have lv:=hv.len
  rw[fZ,hY]at lv
  obtain⟨b1,b2,b3,b4,b5,z1,z2,z3,z4⟩:=hv.at (fS hy)
  have z3:=(hK.get _ z2).trans z3
  have J8:=dY.get hy
  obtain⟨o,ho⟩:=bk (l:=U') (k:=i+j) (by omega)
  have hod:=iJ.get ho
  have xF:(i:Int)<(L:Int):=by omega
  have BO:i<L:=by omega
  have p0:0<=t*y:=xh t0 J8.1
  have p1:t*y<=1000000000*999999999:=Int.mul_le_mul t1 (by omega) J8.1 (by omega)
  have q1:(i:Int)+(j:Int)<(U.length:Int):=by omega
  have q2:i+j<U.length:=by omega
  have q3:(0:Int)<=(i:Int)+(j:Int):=by omega
  have nn:¬iu<N:=by omega
  have w8:=fZ U'
  have hsu:=CH ho
  have Me:=zf hy
  have hp:=Qu i j
  have qw:=vz (j+i)
  generalize hP:t*y=P at*
  have b1':bj .i64 P=P:=cD (by omega) (by omega)
  have b2':bj .i64 (P+c)=P+c:=cD (by omega) (by omega)
  have Su:(P+c).tmod 1000000000=(P+c)%1000000000:=D4 (by omega)
  have Sv:(P+c).tdiv 1000000000=(P+c)/1000000000:=Bm (by omega)
  have hm:=DZ (P+c) 1000000000
  have e0:=Eb (P+c) (b:=1000000000) (by decide)
  have e1:=D9 (P+c) (b:=1000000000) (by decide)
  have key:∀(x' c':Int),x'-1000000000*c'=o-(P+c)->vI (U'.set (i+j) x')-pI (j+(i+1))*c'=vI U-pI j*(t*vI (Y.take (i+1))):=by
   intro x' c' hx
   rw[hsu,Me,show j+(i+1)=j+i+1 by omega,qw,show i+j=j+i by omega]
   have h3:vI U'=vI U-pI j*(t*vI (Y.take i))+pI (j+i)*c:=by omega
   have h4:x'=o-(P+c)+1000000000*c':=by omega
   rw[h3,h4,show j+i=i+j by omega,hp,<-hP]
   grind
  have same:∀(x':Int) (s:Nat),(s<j\/j+(i+1)<=s)->(U'.set (i+j) x')[s]?=U[s]?:=by
   intro x' s hs
   rw[d_ (by omega)]
   exact dP s (by omega)
  generalize (P+c)/1000000000=D at*
  generalize (P+c)%1000000000=M at*
  have b3':bj .i64 D=D:=cD (by omega) (by omega)
  have b4':bj .i64 (o-M)=o-M:=cD (by omega) (by omega)
  have d4:b1<n1:=by have:=hK.le;omega
  have d5:¬iq=iu:=by omega
  by_cases eC:o-M<0
  ·have b5':bj .i64 (o-M+1000000000)=o-M+1000000000:=cD (by omega) (by omega)
   have b6':bj .i64 (D+1)=D+1:=cD (by omega) (by omega)
   have w7:=zL (l:=U') (k:=i+j) (v:=o-M+1000000000) (by omega)
   simp(disch:=first|(simp;done)|omega|rfl) [-getElem?_pos,A.jZ,hr,hf,Oa,Dh,r9,tO,vX,uE,JY,xF,BO,lv,q1,q2,q3,ru,fS ho,z1,z2,z3,z4,hP,b1',b2',b3',b4',b5',b6',Su,Sv,eC,w7]
   refine⟨m,by omega,⟨i+1,U'.set (i+j) (o-M+1000000000),D+1,by omega,by simp,by simp,by omega,by omega,⟨by simp[ax,hW,nn],hK.set (by omega),rfl,by simp,by simp[d5,rq]⟩,by simp[iX],same _,iJ.set (by omega) (by omega),key _ _ (by omega)⟩⟩
  ·have w7:=zL (l:=U') (k:=i+j) (v:=o-M) (by omega)
   simp(disch:=first|(simp;done)|omega|rfl) [-getElem?_pos,A.jZ,hr,hf,Oa,Dh,r9,tO,vX,uE,JY,xF,BO,lv,q1,q2,q3,ru,fS ho,z1,z2,z3,z4,hP,b1',b2',b3',b4',Su,Sv,eC,w7]
   refine⟨m,by omega,⟨i+1,U'.set (i+j) (o-M),D,by omega,by simp,by simp,by omega,by omega,⟨by simp[ax,hW,nn],hK.set (by omega),rfl,by simp,by simp[d5,rq]⟩,by simp[iX],same _,iJ.set (by omega) (by omega),key _ _ (by omega)⟩⟩
structure Oc (N:Nat) (h2:T O) (n2 iu iq n:Nat) (U Q Y:List Int) (L j:Nat) (m:Nat) (r:T V) (st:St):Prop where
 ex:∃i U' c,i+m=L/\r.get 20=some (.int .i64 i)/\r.get 19=some (.int .i64 c)/\0<=c/\c<=1/\ZW N h2 n2 iu iq n U' Q st/\U'.length=U.length/\(∀s,(s<j\/j+i<=s)->U'[s]?=U[s]?)/\(∀(s:Nat) (d:Int),s≠j+L->U'[s]?=some d->0<=d/\d<1000000000)/\vI U'+pI (j+i)*c=vI U+pI j*vI (Y.take i)
def Ylq{N:Nat}{h2:T O}{n2 iu iq n:Nat}{U Q Y:List Int}{L j:Nat}{v:V}{r0:T V}(hv:Sl h2 n2 v (dI Y))(hY:Y.length=L)(dY:Di Y)(Hd:j+L<U.length)(wK:U.length<1099511627776)(R:DvR r0 v iu U.length L j)(a1:N<=n2)(a2:n2<=iu)(a3:iu<iq)(a4:iq<n):
  ∀k r st,(∀t,jP [(19,21),(148,174)] t=false->r.get t=r0.get t)->Fx [(19,21),(148,174)] r0 206 ⟨r,206,[]⟩->Oc N h2 n2 iu iq n U Q Y L j k r st->Code A.C none A.nH ⟨r,206,[]⟩ st (Rd [(19,21),(148,174)] r0 206 (Oc N h2 n2 iu iq n U Q Y L j) k (fun e r st=>e=.exit 6/\Oc N h2 n2 iu iq n U Q Y L j 0 r st)):=by
 rintro m r ⟨H,n1,W⟩ hr hf ⟨i,U',c,hi,Sf,Sg,c0,c1,⟨hW,hK,hn,ru,rq⟩,iX,dP,iJ,iL⟩
 simp only at hW hK hn ru rq
 subst hn
 obtain⟨r9,tO,vX,uE⟩:=R
 rw[bl]
 cases m with
 |zero=>
  have:i=L:=by omega
  subst this
  simp[A.nH,hr,hf,Sf,tO]
  exact⟨i,U',c,by omega,by simp[Sf],by simp[Sg],c0,c1,⟨hW,hK,rfl,ru,rq⟩,iX,dP,iJ,iL⟩
 |succ m=>
  obtain⟨y,hy⟩:=bk (l:=Y) (k:=i) (by omega)
  have lv:=hv.len
  rw[fZ,hY]at lv
  obtain⟨b1,b2,b3,b4,b5,z1,z2,z3,z4⟩:=hv.at (fS hy)
  have z3:=(hK.get _ z2).trans z3
  have J8:=dY.get hy
  obtain⟨o,ho⟩:=bk (l:=U') (k:=i+j) (by omega)
  have hod:=iJ _ _ (by omega) ho
  have xF:(i:Int)<(L:Int):=by omega
  have BO:i<L:=by omega
  have q1:(i:Int)+(j:Int)<(U.length:Int):=by omega
  have q2:i+j<U.length:=by omega
  have q3:(0:Int)<=(i:Int)+(j:Int):=by omega
  have nn:¬iu<N:=by omega
  have w8:=fZ U'
  have hsu:=CH ho
  have Me:=zf hy
  have hp:=Qu i j
  have qw:=vz (j+i)
  have b1':bj .i64 (o+y)=o+y:=cD (by omega) (by omega)
  have b2':bj .i64 (o+y+c)=o+y+c:=cD (by omega) (by omega)
  have Su:(o+y+c).tmod 1000000000=(o+y+c)%1000000000:=D4 (by omega)
  have Sv:(o+y+c).tdiv 1000000000=(o+y+c)/1000000000:=Bm (by omega)
  have hm:=DZ (o+y+c) 1000000000
  have e0:=Eb (o+y+c) (b:=1000000000) (by decide)
  have e1:=D9 (o+y+c) (b:=1000000000) (by decide)
  have w7:=zL (l:=U') (k:=i+j) (v:=(o+y+c)%1000000000) (by omega)
  have d4:b1<n1:=by have:=hK.le;omega
  have d5:¬iq=iu:=by omega
  have d6:iu<n1:=by omega
  have b3':bj .i64 ((o+y+c)/1000000000)=(o+y+c)/1000000000:=cD (by omega) (by omega)
  simp(disch:=first|(simp;done)|omega|rfl) [-getElem?_pos,A.nH,hr,hf,Sf,Sg,r9,tO,vX,uE,xF,BO,lv,q1,q2,q3,ru,fS ho,z1,z2,z3,z4,b1',b2',b3',Su,Sv,w7,d4,d6]
  generalize (o+y+c)/1000000000=D at*
  generalize (o+y+c)%1000000000=M at*
  refine⟨m,by omega,⟨i+1,U'.set (i+j) M,D,by omega,by simp,by simp,by omega,by omega,⟨by simp[ax,hW,nn],hK.set (by omega),rfl,by simp,by simp[d5,rq]⟩,by simp[iX],fun s hs=>?_,fun s d hs hd=>?_,?_⟩⟩
  ·rw[d_ (by omega)]
   exact dP s (by omega)
  ·by_cases hsi:s=i+j
   ·subst hsi
    rw[gG (by omega)]at hd
    simp at hd
    omega
   ·rw[d_ (fun h=>hsi h.symm)]at hd
    exact iJ s d hs hd
  ·rw[hsu,Me,show j+(i+1)=j+i+1 by omega,qw,show i+j=j+i by omega]
   have h3:vI U'=vI U+pI j*vI (Y.take i)-pI (j+i)*c:=by omega
   have h4:M=o+y+c-1000000000*D:=by omega
   rw[h3,h4,show j+i=i+j by omega,hp]
   grind
end
end Go.Mx
