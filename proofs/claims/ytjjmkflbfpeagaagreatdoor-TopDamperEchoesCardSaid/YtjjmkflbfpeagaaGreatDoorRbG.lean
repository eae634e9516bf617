/-lensletref01-/
import Derived.Test.YtjjmkflbfpeagaaGreatDoorRcA
set_option linter.all false
namespace Go.Mx
noncomputable section
open Go Go.Proofs
set_option maxHeartbeats 2000000
set_option maxRecDepth 1000000
def A.Lf:=A.q Tryz.f138
def A.gW:=A.ql A.Lf 0 []
def A.b138:=(fun x0=>A.qb A.Lf [x0]) A.gW
def A.k138:=@A.kk 138 77 [.tmp 6] A.b138 (by kernel_rfl) rfl
structure GuR (W D v1 top:Int) (m:Nat) (r:T V):Prop where
 ex:∃t q:Int,t.toNat=m/\r.get 9=some (.int .i64 t)/\r.get 10=some (.int .i64 q)/\0<=t/\t<=1000000001/\0<=q/\q<1000000000/\top=t*v1+q/\W<(t+1)*D
def Ygh{h:T O}{N:Nat}{u v:V}{L Y:List Int}{j k:Nat}{d1 d2 d3 v1 v2 P U' V' W D:Int}{w:List Nat}(hu:Sl h N u (dI L))(hv:Sl h N v (dI Y))(hY:Y.length=k+2)(hL:L.length<1099511627776)(e1:L[j+k]?=some d1)(e2:L[j+k+1]?=some d2)(e3:L[j+k+2]?=some d3)(f2:Y[k]?=some v2)(f1:Y[k+1]?=some v1)
  (r1:0<=d1/\d1<1000000000) (r2:0<=d2/\d2<1000000000) (r3:0<=d3/\d3<1000000000) (r4:500000000<=v1/\v1<1000000000) (r5:0<=v2/\v2<1000000000) (hP:0<P) (EN:0<=U') (hU:U'<P) (uQ:0<=V') (hV:V'<P) (hW:W=U'+P*(d1+1000000000*(d3*1000000000+d2))) (hD:D=V'+P*(v2+1000000000*v1)) (hWD:W<1000000000*D):
  ∃t,A.C.call (.func 138 [] []) [u,v,.int .i64 j] ⟨h,N,w⟩=some (.int .i64 t,⟨h,N,w⟩)/\0<=t/\t<=1000000000/\(t-1)*D<=W/\W<(t+1)*D:=by
 have lu:=hu.len
 have lv:=hv.len
 rw[f_]at lu lv
 rw[hY]at lv
 have zc:=uZ e3
 have goal:Call A.C (.func 138 [] []) [u,v,.int .i64 j] ⟨h,N,w⟩ (fun x s=>s=⟨h,N,w⟩/\∃t,x=.int .i64 t/\0<=t/\t<=1000000000/\(t-1)*D<=W/\W<(t+1)*D):=by
  obtain⟨a1,a2,a3,a4,a5,x1,x2,x3,x4⟩:=hu.at (fU e1)
  obtain⟨a1',a2',Y0,a4',a5',VD,x2',VE,x4'⟩:=hu.at (fU e2)
  obtain⟨zaF,zaG,zaH,zaI,zaJ,Fy,zaK,Fz,VF⟩:=hu.at (fU e3)
  rw[x1]at VD Fy
  simp only[ak,bh]at VD Fy
  obtain⟨rfl,rfl⟩:=VD
  obtain⟨rfl,rfl⟩:=Fy
  rw[x3]at VE Fz
  simp only[ak,O.cells.injEq]at VE Fz
  obtain⟨rfl,rfl,rfl⟩:=VE
  obtain⟨rfl,_,_⟩:=Fz
  obtain⟨b1,b2,b3,b4,b5,y1,y2,y3,y4⟩:=hv.at (fU f2)
  obtain⟨b1',b2',b3',b4',b5',VG,y2',VH,Lg⟩:=hv.at (fU f1)
  rw[y1]at VG
  simp only[ak,bh]at VG
  obtain⟨rfl,rfl⟩:=VG
  rw[y3]at VH
  simp only[ak,O.cells.injEq]at VH
  obtain⟨rfl,_,_⟩:=VH
  have c1:((k:Int)+2-1)=(k:Int)+1:=by omega
  have c4:((k:Int)+2-2)=(k:Int):=by omega
  have c5:((j:Int)+((k:Int)+2))=(j:Int)+(k:Int)+2:=by omega
  have n1:((j:Int)+(k:Int)+2).toNat=j+k+2:=by omega
  have n3:((j:Int)+(k:Int)).toNat=j+k:=by omega
  have n4:((k:Int)+1).toNat=k+1:=by omega
  have k2:(k:Int)<(k:Int)+2:=by omega
  have k3:(0:Int)<=(k:Int)+1:=by omega
  have u1:bb .i64 (d3*1000000000)=d3*1000000000:=cb (by omega) (by omega)
  have u2:bb .i64 (d3*1000000000+d2)=d3*1000000000+d2:=cb (by omega) (by omega)
  have s0:0<=d3*1000000000+d2:=by omega
  have v0:¬v1=0:=by omega
  have t1:(d3*1000000000+d2).tdiv v1=(d3*1000000000+d2)/v1:=yS s0
  have t2:(d3*1000000000+d2).tmod v1=(d3*1000000000+d2)%v1:=z_ s0
  have t3:=Bw (d3*1000000000+d2) v1
  have t4:=Bx (d3*1000000000+d2) v0
  have t5:=By (d3*1000000000+d2) (b:=v1) (by omega)
  have gi:=Ynu (t:=(d3*1000000000+d2)/v1) (r:=(d3*1000000000+d2)%v1) hP EN hU uQ hV r1.1 r1.2 r2.1 r3.1 r4.1 r5.1 r5.2 (by rw[<-hW,<-hD];exact hWD) (by rw[Int.mul_comm (_/_) v1];exact t3.symm) t4 t5
  rw[<-hW,<-hD]at gi
  obtain⟨g1,g2,g3⟩:=gi
  have t6:bb .i64 ((d3*1000000000+d2)/v1)=(d3*1000000000+d2)/v1:=cb (by omega) (by omega)
  rw[aQ,A.k138 (by simp)]
  simp(disch:=first|(simp;done)|omega|rfl) [A.b138,lv,lu,c1,c5,n1,n4,x1,x2,x3,x4',VF,y1,y2,y3,Lg,u1,u2,t1,t2,t6]
  generalize yt:d3*1000000000+d2=D1 at*
  refine cX [(6,6),(9,10),(42,75)] (fun e r st=>st=⟨h,N,[]⟩/\((e=.exit 0/\∃t,r.get 9=some (.int .i64 t)/\0<=t/\t<=1000000000/\(t-1)*D<=W/\W<(t+1)*D)\/(e=.ret/\∃t,r.get 6=some (.int .i64 t)/\0<=t/\t<=1000000000/\(t-1)*D<=W/\W<(t+1)*D))) (fun m r st=>st=⟨h,N,[]⟩/\GuR W D v1 D1 m r) (D1/v1).toNat ?_ ?_ ?_
  ·exact⟨rfl,⟨D1/v1,D1%v1,rfl,by simp,by simp,g1,g2,t4,by omega,by rw[Int.mul_comm (_/_) v1];exact t3.symm,g3⟩⟩
  ·rintro m r _ hr hf ⟨rfl,⟨t,q,rfl,h9,ud,O4,tq1,q0,q1,jw,aO⟩⟩
   rw[cm]
   by_cases hA:1000000000<=t
   ·have aO:W<t*D:=by
     have d0:0<=D:=by
      have:=tQ (qY hP) (show 0<=v2+1000000000*v1 by omega)
      omega
     have:=BO hA d0
     omega
    have tp:1<=t:=by omega
    have jZ:bb .i64 (q+v1)=q+v1:=cb (by omega) (by omega)
    have rQ:bb .i64 (t-1)=t-1:=cb (by omega) (by omega)
    have e5:D1=t*v1+q:=jw
    have e6:(t-1)*v1+(q+v1)=t*v1+q:=by grind
    by_cases ky:1000000000<=q+v1
    ·simp(disch:=first|(simp;done)|omega|rfl) [A.gW,hr,hf,h9,ud,lv,c1,n4,y1,y3,Lg,hA,jZ,rQ,ky]
     refine⟨by omega,by omega,?_,aO⟩
     have m1:(t-1)*v2<=1000000000*v2:=BO (by omega) r5.1
     have:=TP (t:=t-1) (r:=q+v1) (v1:=v1) (u1:=D1) hP EN r1.1 s0 (by omega) r5.1 uQ hV (by omega) (by omega) (by rw[e6];exact jw) (by omega)
     rw[hW,hD]
     exact this
    ·simp(disch:=first|(simp;done)|omega|rfl) [A.gW,hr,hf,h9,ud,lv,c1,n4,y1,y3,Lg,hA,jZ,rQ,ky]
     exact⟨(t-1).toNat,by omega,⟨t-1,q+v1,rfl,by simp,by simp,by omega,by omega,by omega,by omega,by rw[e6];exact jw,by rw[show t-1+1=t by omega];exact aO⟩⟩
   ·have VI:¬1000000000<=t:=hA
    have m0:0<=t*v2:=tQ O4 r5.1
    have m1:t*v2<=1000000000*1000000000:=Int.mul_le_mul (by omega) (by omega) r5.1 (by omega)
    have b1':bb .i64 (t*v2)=t*v2:=cb (by omega) (by omega)
    have b2':bb .i64 (q*1000000000)=q*1000000000:=cb (by omega) (by omega)
    have b3':bb .i64 (q*1000000000+d1)=q*1000000000+d1:=cb (by omega) (by omega)
    by_cases hB:q*1000000000+d1<t*v2
    ·have aO:W<t*D:=by
      have:=Yk1 (t:=t) (r:=q) (v1:=v1) (u1:=D1) hP hU uQ O4 jw hB
      rw[hW,hD];exact this
     have tz:t≠0:=fun hc=>by rw[hc]at hB;simp at hB;omega
     have tp:1<=t:=by omega
     have jZ:bb .i64 (q+v1)=q+v1:=cb (by omega) (by omega)
     have rQ:bb .i64 (t-1)=t-1:=cb (by omega) (by omega)
     have e5:D1=t*v1+q:=jw
     have e6:(t-1)*v1+(q+v1)=t*v1+q:=by grind
     by_cases ky:1000000000<=q+v1
     ·simp(disch:=first|(simp;done)|omega|rfl) [A.gW,hr,hf,h9,ud,lv,lu,c1,c4,c5,n3,n4,x1,x2,x3,x4,y1,y2,y3,y4,Lg,VI,b1',b2',b3',hB,jZ,rQ,ky]
      refine⟨by omega,by omega,?_,aO⟩
      have m1:(t-1)*v2<=1000000000*v2:=BO (by omega) r5.1
      have:=TP (t:=t-1) (r:=q+v1) (v1:=v1) (u1:=D1) hP EN r1.1 s0 (by omega) r5.1 uQ hV (by omega) (by omega) (by rw[e6];exact jw) (by omega)
      rw[hW,hD]
      exact this
     ·simp(disch:=first|(simp;done)|omega|rfl) [A.gW,hr,hf,h9,ud,lv,lu,c1,c4,c5,n3,n4,x1,x2,x3,x4,y1,y2,y3,y4,Lg,VI,b1',b2',b3',hB,jZ,rQ,ky]
      exact⟨(t-1).toNat,by omega,⟨t-1,q+v1,rfl,by simp,by simp,by omega,by omega,by omega,by omega,by rw[e6];exact jw,by rw[show t-1+1=t by omega];exact aO⟩⟩
    ·simp(disch:=first|(simp;done)|omega|rfl) [A.gW,hr,hf,h9,ud,lv,lu,c4,c5,n3,x1,x2,x3,x4,y1,y2,y3,y4,VI,b1',b2',b3',hB]
     refine⟨O4,by omega,?_,aO⟩
     have:=TP (t:=t) (r:=q) (u1:=D1) hP EN r1.1 s0 (by omega) r5.1 uQ hV O4 (by omega) jw (by omega)
     rw[hW,hD];exact this
  ·rintro e r _ hr ⟨rfl,⟨rfl,t,h9,ht⟩|⟨rfl,t,h6,ht⟩⟩
   ·simp[h9];exact ht
   ·simp[h6];exact ht
 obtain⟨x,s,hc,rfl,t,rfl,h1,h2,h3,h4⟩:=goal.ex
 exact⟨t,hc,h1,h2,h3,h4⟩
def A.Lh:=A.q Tryz.f86
def A.pQ:=A.ql A.Lh 3 []
def A.nd:=A.ql A.Lh 2 []
def A.pR:=(fun x0 x1=>A.ql A.Lh 1 [x0,x1]) A.nd A.pQ
def A.pS:=A.ql A.Lh 0 []
def A.b86:=(fun x0 x1=>A.qb A.Lh [x0,x1]) A.pS A.pR
def A.k86:=@A.kk 86 206 [.tmp 4,.tmp 5] A.b86 (by kernel_rfl) rfl
structure VJ (N:Nat) (h2:T O) (n2 iu iq n:Nat) (U Q:List Int) (st:St):Prop where
 w:aB N st.w=[]
 ae:ad h2 n2 st.h n
 n:st.n=n
 ru:st.h.get iu=some (.cells (dI U) 3 true)
 rq:st.h.get iq=some (.cells (dI Q) 3 true)
structure DvR (r0:T V) (v:V) (iu lu L j:Nat):Prop where
 r9:r0.get 9=some v
 rH:r0.get 10=some (.int .i64 L)
 tu:r0.get 11=some (.slice iu 0 lu none 1)
 kK:r0.get 13=some (.int .i64 j)
structure Li (N:Nat) (h2:T O) (n2 iu iq n:Nat) (U Q Y:List Int) (L j:Nat) (t:Int) (m:Nat) (r:T V) (st:St):Prop where
 ex:∃i U' c,i+m=L/\r.get 16=some (.int .i64 i)/\r.get 15=some (.int .i64 c)/\0<=c/\c<=1000000000/\VJ N h2 n2 iu iq n U' Q st/\U'.length=U.length/\(∀s,(s<j\/j+i<=s)->U'[s]?=U[s]?)/\Di U'/\vI U'-pI (j+i)*c=vI U-pI j*(t*vI (Y.take i))
def Yeu{N:Nat}{h2:T O}{n2 iu iq n:Nat}{U Q Y:List Int}{L j:Nat}{t:Int}{v:V}{r0:T V}(hv:Sl h2 n2 v (dI Y))(hY:Y.length=L)(dY:Di Y)(zf:j+L<U.length)(hul:U.length<1099511627776)(R:DvR r0 v iu U.length L j)(Hk:r0.get 14=some (.int .i64 t))(t0:0<=t)(t1:t<=1000000000)(a1:N<=n2)(a2:n2<=iu)(a3:iu<iq)(a4:iq<n):
  ∀k r st,(∀t,jk [(15,18),(90,125)] t=false->r.get t=r0.get t)->Fx [(15,18),(90,125)] r0 206 ⟨r,206,[]⟩->Li N h2 n2 iu iq n U Q Y L j t k r st->Code A.C none A.nd ⟨r,206,[]⟩ st (Rd [(15,18),(90,125)] r0 206 (Li N h2 n2 iu iq n U Q Y L j t) k (fun e r st=>e=.exit 4/\Li N h2 n2 iu iq n U Q Y L j t 0 r st)):=by
 rintro m r ⟨H,n1,W⟩ hr hf ⟨i,U',c,hi,Gh,ue,c0,c1,⟨hW,hK,hn,ru,rq⟩,jT,eh,ib,ix⟩
 simp only at hW hK hn ru rq
 subst hn
 obtain⟨r9,rH,tu,kK⟩:=R
 rw[cm]
 cases m with
 |zero=>
  have:i=L:=by omega
  subst this
  simp[A.nd,hr,hf,Gh,rH]
  exact⟨i,U',c,by omega,by simp[Gh],by simp[ue],c0,c1,⟨hW,hK,rfl,ru,rq⟩,jT,eh,ib,ix⟩
 |succ m=>
  obtain⟨y,hy⟩:=eA (l:=Y) (k:=i) (by omega)
  have lv:=hv.len
  rw[f_,hY]at lv
  obtain⟨b1,b2,b3,b4,b5,z1,z2,z3,z4⟩:=hv.at (fU hy)
  have z3:=(hK.get _ z2).trans z3
  have FX:=dY.get hy
  obtain⟨o,ho⟩:=eA (l:=U') (k:=i+j) (by omega)
  have WL:=ib.get ho
  have vU:(i:Int)<(L:Int):=by omega
  have p0:0<=t*y:=tQ t0 FX.1
  have p1:t*y<=1000000000*999999999:=Int.mul_le_mul t1 (by omega) FX.1 (by omega)
  have q1:(i:Int)+(j:Int)<(U.length:Int):=by omega
  have q2:i+j<U.length:=by omega
  have q3:(0:Int)<=(i:Int)+(j:Int):=by omega
  have nn:¬iu<N:=by omega
  have w8:=f_ U'
  have VK:=Ab ho
  have J2:=vV hy
  have hp:=Mv i j
  have yb:=rP (j+i)
  generalize hP:t*y=P at*
  have b1':bb .i64 P=P:=cb (by omega) (by omega)
  have b2':bb .i64 (P+c)=P+c:=cb (by omega) (by omega)
  have O5:(P+c).tmod 1000000000=(P+c)%1000000000:=z_ (by omega)
  have O6:(P+c).tdiv 1000000000=(P+c)/1000000000:=yS (by omega)
  have hm:=Bw (P+c) 1000000000
  have e0:=Bx (P+c) (b:=1000000000) (by decide)
  have e1:=By (P+c) (b:=1000000000) (by decide)
  have key:∀(x' c':Int),x'-1000000000*c'=o-(P+c)->vI (U'.set (i+j) x')-pI (j+(i+1))*c'=vI U-pI j*(t*vI (Y.take (i+1))):=by
   intro x' c' hx
   rw[VK,J2,show j+(i+1)=j+i+1 by omega,yb,show i+j=j+i by omega]
   have h3:vI U'=vI U-pI j*(t*vI (Y.take i))+pI (j+i)*c:=by omega
   have h4:x'=o-(P+c)+1000000000*c':=by omega
   rw[h3,h4,show j+i=i+j by omega,hp,<-hP]
   grind
  have same:∀(x':Int) (s:Nat),(s<j\/j+(i+1)<=s)->(U'.set (i+j) x')[s]?=U[s]?:=by
   intro x' s hs
   rw[eB (by omega)]
   exact eh s (by omega)
  generalize (P+c)/1000000000=D at*
  generalize (P+c)%1000000000=M at*
  have b3':bb .i64 D=D:=cb (by omega) (by omega)
  have b4':bb .i64 (o-M)=o-M:=cb (by omega) (by omega)
  have d4:b1<n1:=by have:=hK.le;omega
  have d5:¬iq=iu:=by omega
  by_cases dC:o-M<0
  ·have b5':bb .i64 (o-M+1000000000)=o-M+1000000000:=cb (by omega) (by omega)
   have b6':bb .i64 (D+1)=D+1:=cb (by omega) (by omega)
   have w7:=yU (l:=U') (k:=i+j) (v:=o-M+1000000000) (by omega)
   simp(disch:=first|(simp;done)|omega|rfl) [-getElem?_pos,A.nd,hr,hf,Gh,ue,r9,rH,tu,kK,Hk,vU,lv,ru,fU ho,z1,z3,z4,hP,b1',b2',b3',b4',b5',b6',O5,O6,dC,w7]
   refine⟨m,by omega,⟨i+1,U'.set (i+j) (o-M+1000000000),D+1,by omega,by simp,by simp,by omega,by omega,⟨by simp[aB,hW,nn],hK.set (by omega),rfl,by simp,by simp[d5,rq]⟩,by simp[jT],same _,ib.set (by omega) (by omega),key _ _ (by omega)⟩⟩
  ·have w7:=yU (l:=U') (k:=i+j) (v:=o-M) (by omega)
   simp(disch:=first|(simp;done)|omega|rfl) [-getElem?_pos,A.nd,hr,hf,Gh,ue,r9,rH,tu,kK,Hk,vU,lv,ru,fU ho,z1,z3,z4,hP,b1',b2',b3',b4',O5,O6,dC,w7]
   refine⟨m,by omega,⟨i+1,U'.set (i+j) (o-M),D,by omega,by simp,by simp,by omega,by omega,⟨by simp[aB,hW,nn],hK.set (by omega),rfl,by simp,by simp[d5,rq]⟩,by simp[jT],same _,ib.set (by omega) (by omega),key _ _ (by omega)⟩⟩
structure Lj (N:Nat) (h2:T O) (n2 iu iq n:Nat) (U Q Y:List Int) (L j:Nat) (m:Nat) (r:T V) (st:St):Prop where
 ex:∃i U' c,i+m=L/\r.get 20=some (.int .i64 i)/\r.get 19=some (.int .i64 c)/\0<=c/\c<=1/\VJ N h2 n2 iu iq n U' Q st/\U'.length=U.length/\(∀s,(s<j\/j+i<=s)->U'[s]?=U[s]?)/\(∀(s:Nat) (d:Int),s≠j+L->U'[s]?=some d->0<=d/\d<1000000000)/\vI U'+pI (j+i)*c=vI U+pI j*vI (Y.take i)
def Yhg{N:Nat}{h2:T O}{n2 iu iq n:Nat}{U Q Y:List Int}{L j:Nat}{v:V}{r0:T V}(hv:Sl h2 n2 v (dI Y))(hY:Y.length=L)(dY:Di Y)(zf:j+L<U.length)(hul:U.length<1099511627776)(R:DvR r0 v iu U.length L j)(a1:N<=n2)(a2:n2<=iu)(a3:iu<iq)(a4:iq<n):
  ∀k r st,(∀t,jk [(19,21),(148,174)] t=false->r.get t=r0.get t)->Fx [(19,21),(148,174)] r0 206 ⟨r,206,[]⟩->Lj N h2 n2 iu iq n U Q Y L j k r st->Code A.C none A.pQ ⟨r,206,[]⟩ st (Rd [(19,21),(148,174)] r0 206 (Lj N h2 n2 iu iq n U Q Y L j) k (fun e r st=>e=.exit 6/\Lj N h2 n2 iu iq n U Q Y L j 0 r st)):=by
 rintro m r ⟨H,n1,W⟩ hr hf ⟨i,U',c,hi,O7,wX,c0,c1,⟨hW,hK,hn,ru,rq⟩,jT,eh,ib,ix⟩
 simp only at hW hK hn ru rq
 subst hn
 obtain⟨r9,rH,tu,kK⟩:=R
 rw[cm]
 cases m with
 |zero=>
  have:i=L:=by omega
  subst this
  simp[A.pQ,hr,hf,O7,rH]
  exact⟨i,U',c,by omega,by simp[O7],by simp[wX],c0,c1,⟨hW,hK,rfl,ru,rq⟩,jT,eh,ib,ix⟩
 |succ m=>
  obtain⟨y,hy⟩:=eA (l:=Y) (k:=i) (by omega)
  have lv:=hv.len
  rw[f_,hY]at lv
  obtain⟨b1,b2,b3,b4,b5,z1,z2,z3,z4⟩:=hv.at (fU hy)
  have z3:=(hK.get _ z2).trans z3
  have FX:=dY.get hy
  obtain⟨o,ho⟩:=eA (l:=U') (k:=i+j) (by omega)
  have WL:=ib _ _ (by omega) ho
  have vU:(i:Int)<(L:Int):=by omega
  have nn:¬iu<N:=by omega
  have w8:=f_ U'
  have VK:=Ab ho
  have J2:=vV hy
  have hp:=Mv i j
  have yb:=rP (j+i)
  have b1':bb .i64 (o+y)=o+y:=cb (by omega) (by omega)
  have b2':bb .i64 (o+y+c)=o+y+c:=cb (by omega) (by omega)
  have O5:(o+y+c).tmod 1000000000=(o+y+c)%1000000000:=z_ (by omega)
  have O6:(o+y+c).tdiv 1000000000=(o+y+c)/1000000000:=yS (by omega)
  have hm:=Bw (o+y+c) 1000000000
  have e0:=Bx (o+y+c) (b:=1000000000) (by decide)
  have e1:=By (o+y+c) (b:=1000000000) (by decide)
  have w7:=yU (l:=U') (k:=i+j) (v:=(o+y+c)%1000000000) (by omega)
  have d4:b1<n1:=by have:=hK.le;omega
  have d5:¬iq=iu:=by omega
  have d6:iu<n1:=by omega
  have b3':bb .i64 ((o+y+c)/1000000000)=(o+y+c)/1000000000:=cb (by omega) (by omega)
  simp(disch:=first|(simp;done)|omega|rfl) [-getElem?_pos,A.pQ,hr,hf,O7,wX,r9,rH,tu,kK,vU,lv,ru,fU ho,z1,z3,z4,b1',b2',b3',O5,O6,w7,d4,d6]
  generalize (o+y+c)/1000000000=D at*
  generalize (o+y+c)%1000000000=M at*
  refine⟨m,by omega,⟨i+1,U'.set (i+j) M,D,by omega,by simp,by simp,by omega,by omega,⟨by simp[aB,hW,nn],hK.set (by omega),rfl,by simp,by simp[d5,rq]⟩,by simp[jT],fun s hs=>?_,fun s d hs hd=>?_,?_⟩⟩
  ·rw[eB (by omega)]
   exact eh s (by omega)
  ·by_cases hsi:s=i+j
   ·subst hsi
    rw[nF (by omega)]at hd
    simp at hd
    omega
   ·rw[eB (fun h=>hsi h.symm)]at hd
    exact ib s d hs hd
  ·rw[VK,J2,show j+(i+1)=j+i+1 by omega,yb,show i+j=j+i by omega]
   have h3:vI U'=vI U+pI j*vI (Y.take i)-pI (j+i)*c:=by omega
   have h4:M=o+y+c-1000000000*D:=by omega
   rw[h3,h4,show j+i=i+j by omega,hp]
   grind
def Ykq{l:List Int}{d:Int}(h:d∈l):∃s:Nat,l[s]?=some d:=F9 h
def Yn5{l:List Int}(h:∀(s:Nat) (d:Int),l[s]?=some d->0<=d/\d<1000000000):Di l:=fun d hd=>by
 obtain⟨s,hs⟩:=Ykq hd
 exact h s d hs
def Zwg{U U2:List Int}{j:Nat}{X:Int}(hj:j<=U.length)(hl:U2.length=U.length)(hs:∀s,s<j->U2[s]?=U[s]?)(hv:vI U2=vI U-pI j*X):vI (U2.drop j)=vI (U.drop j)-X:=by
 have h1:=HK U j hj
 have h2:=HK U2 j (by omega)
 have h3:U2.take j=U.take j:=by
  apply nX
  intro s
  rw[kg,kg]
  by_cases h:s<j
  ·rw[aJ h,aJ h];exact hs s h
  ·rw[aq h,aq h]
 rw[h3]at h2
 have h4:pI j*vI (U2.drop j)=pI j*(vI (U.drop j)-X):=by
  have:pI j*(vI (U.drop j)-X)=pI j*vI (U.drop j)-pI j*X:=by grind
  omega
 exact Int.eq_of_mul_eq_mul_left (Int.ne_of_gt (zY j)) h4
def Yhm{U:List Int}{j L:Nat}{tt:Int}(hd:∀(s:Nat) (d:Int),s<j+L->U[s]?=some d->0<=d/\d<1000000000)(ht:U[j+L]?=some tt)(hz:∀s,j+L<s->s<U.length->U[s]?=some 0)(aO:vI (U.drop j)<pI L):(0<=vI (U.drop j)->tt=0)/\(vI (U.drop j)<0->tt<0):=by
 refine Yeq (w:=U.drop j) (n:=L) ?_ (by rw[gk];exact ht) ?_ aO
 ·refine Yn5 fun s d hs=>?_
  by_cases h:s<L
  ·rw[kg,aJ h,gk]at hs
   exact hd (j+s) d (by omega) hs
  ·rw[kg,aq h]at hs;cases hs
 ·intro s h1 h2
  rw[gk]
  exact hz (j+s) (by omega) (by simp at h2;omega)
structure Lk (N:Nat) (h2:T O) (n2 iu iq n lu L:Nat) (A0:Int) (Y:List Int) (m:Nat) (r:T V) (st:St):Prop where
 ex:∃U Q,VJ N h2 n2 iu iq n U Q st/\r.get 13=some (.int .i64 ((m:Int)-1))/\U.length=lu/\Q.length=lu-L/\m<=lu-L/\Di U/\Di Q/\(∀s,m+L<=s->s<lu->U[s]?=some 0)/\vI (U.drop m)<vI Y/\(∀s,s<m->Q[s]?=some 0)/\vI U+vI Y*vI Q=A0
def Yfm{N:Nat}{h2:T O}{n2 iu iq n lu k:Nat}{A0 v1:Int}{Y:List Int}{v:V}{r0:T V}(hv:Sl h2 n2 v (dI Y))(hY:Y.length=k+2)(dY:Di Y)(mY:Y[k+1]?=some v1)(h5:500000000<=v1)(Ug:k+2<lu)(hul:lu<1099511627776)(r9:r0.get 9=some v)(rH:r0.get 10=some (.int .i64 (k+2:Nat)))(tu:r0.get 11=some (.slice iu 0 lu none 1))(KJ:r0.get 12=some (.slice iq 0 (lu-(k+2)) (some (lu-(k+2))) 1))(a1:N<=n2)(a2:n2<=iu)(a3:iu<iq)(a4:iq<n):
  ∀m r st,(∀t,jk [(13,21),(82,191)] t=false->r.get t=r0.get t)->Fx [(13,21),(82,191)] r0 206 ⟨r,206,[]⟩->Lk N h2 n2 iu iq n lu (k+2) A0 Y m r st->Code A.C none A.pR ⟨r,206,[]⟩ st (Rd [(13,21),(82,191)] r0 206 (Lk N h2 n2 iu iq n lu (k+2) A0 Y) m (fun e r st=>e=.exit 2/\Lk N h2 n2 iu iq n lu (k+2) A0 Y 0 r st)):=by
 rintro m r ⟨H,n1,W⟩ hr hf ⟨U,Q,⟨hW,hK,hn,ru,rq⟩,kK,jT,VL,hm,dU,dQ,hz,uV,Ll,ix⟩
 simp only at hW hK hn ru rq
 subst hn
 rw[cm]
 cases m with
 |zero=>
  simp[A.pR,hf,kK]
  exact⟨U,Q,⟨hW,hK,rfl,ru,rq⟩,by simp[kK],jT,VL,hm,dU,dQ,hz,uV,Ll,ix⟩
 |succ j=>
  have B5:(((j+1:Nat):Int)-1)=(j:Int):=by omega
  rw[B5]at kK
  have DY:(0:Int)<=(j:Int):=by omega
  obtain⟨v2,iY⟩:=eA (l:=Y) (k:=k) (by omega)
  obtain⟨d1,e1⟩:=eA (l:=U) (k:=j+k) (by omega)
  obtain⟨d2,e2⟩:=eA (l:=U) (k:=j+k+1) (by omega)
  obtain⟨d3,e3⟩:=eA (l:=U) (k:=j+k+2) (by omega)
  obtain⟨x0,oR⟩:=eA (l:=U) (k:=j) (by omega)
  have hWt:=Yiy (w:=U.drop j) (k:=k) (a:=d1) (c:=d2) (d:=d3) (by rw[gk];exact e1) (by rw[gk,<-pk];exact e2) (by rw[gk,<-pk];exact e3) (fun t h1 h2=>by rw[gk];exact hz _ (by omega) (by simp at h2;omega))
  have hDt:=Yiz iY mY hY
  have hWd:vI (U.drop j)<1000000000*vI Y:=by
   rw[qm oR,vI]
   have:=dU.get oR
   omega
  have hUk:=rK ((dU.drop j).take k)
  rw[jH,zp,nU (by omega)]at hUk
  have hVk:=rK (dY.take k)
  rw[jH,nU (by omega)]at hVk
  obtain⟨t,hg,t0,t1,fA,il⟩:=Ygh (w:=W) (Sl.row (cp:=none) (L:=lu) (show iu<n1 by omega) ru (by simp[jT]) (fun k hk=>by cases hk)) (hv.ae hK) hY (by omega) e1 e2 e3 iY mY (dU.get e1) (dU.get e2) (dU.get e3) ⟨h5,(dY.get mY).2⟩ (dY.get iY) (zY k) (rL ((dU.drop j).take k)) hUk (rL (dY.take k)) hVk hWt hDt hWd
  have hVl:=rK dY
  rw[hY]at hVl
  have hVp:0<vI Y:=by have:=rL (dU.drop (j+1));omega
  simp[A.pR,hr,kK,DY,r9,tu,hg]
  refine cX [(15,18),(90,125)] (fun e r st=>e=.exit 4/\Li N h2 n2 iu iq n1 U Q Y (k+2) j t 0 r st) (Li N h2 n2 iu iq n1 U Q Y (k+2) j t) (k+2) ?_ ?_ ?_
  ·exact⟨0,U,0,by omega,by simp,by simp,by omega,by omega,⟨hW,hK,rfl,ru,rq⟩,rfl,fun _ _=>rfl,dU,by simp[vI]⟩
  ·exact Yeu hv hY dY (by omega) (by omega) ⟨by simp[hr,r9],by simp[hr,rH],by simp[hr,tu,jT],by simp[kK]⟩ (by simp) t0 t1 a1 a2 a3 a4
  ·rintro _ r2 ⟨H2,n3,W2⟩ dW ⟨rfl,i,U',c,hi,Gh,ue,c0,c1,⟨ft,kO,eZ,VM,VN⟩,FA,eh,jJ,Lm⟩
   simp only at ft kO eZ VM VN
   subst eZ
   obtain rfl:i=k+2:=by omega
   have FY:=hf.inner (D':=[(15,18),(90,125)]) rfl (by simp) dW
   rw[<-hY,yN,hY]at Lm
   have VO:U'[j+(k+2)]?=some d3:=by rw[eh _ (.inr (aR _))];rw[<-pk];exact e3
   have Uy:=dU.get e3
   have q1:(j:Int)+((k:Int)+2)<(lu:Int):=by omega
   have q2:j+(k+2)<lu:=by omega
   have q3:(0:Int)<=(j:Int)+((k:Int)+2):=by omega
   have q4:((j:Int)+((k:Int)+2)).toNat=j+(k+2):=by omega
   have w8:=f_ U'
   have b1':bb .i64 (d3-c)=d3-c:=cb (by omega) (by omega)
   have w7:=yU (l:=U') (k:=j+(k+2)) (v:=d3-c) (by omega)
   have nn:¬iu<N:=by omega
   have d5:¬iq=iu:=by omega
   have d6:¬iu=iq:=by omega
   have nq:¬iq<N:=by omega
   have v2e:vI (U'.set (j+(k+2)) (d3-c))=vI U-pI j*(t*vI Y):=by
    rw[Ab VO]
    have:pI (j+(k+2))*(d3-c-d3)= -(pI (j+(k+2))*c):=by grind
    omega
   have mi:∀s,s<j->(U'.set (j+(k+2)) (d3-c))[s]?=U[s]?:=fun s hs=>by
    rw[eB (by omega)];exact eh s (.inl hs)
   have fm:∀s,j+(k+2)<s->s<lu->(U'.set (j+(k+2)) (d3-c))[s]?=some 0:=fun s h1 h2=>by
    rw[eB (by omega),eh s (.inr (by omega))];exact hz s (by omega) h2
   have CB:=Zwg (by omega) (by simp[FA]) mi v2e
   have jw:(U'.set (j+(k+2)) (d3-c))[j+(k+2)]?=some (d3-c):=nF (by omega)
   have eJ:vI ((U'.set (j+(k+2)) (d3-c)).drop j)<vI Y:=by
    rw[CB]
    have:(t+1)*vI Y=t*vI Y+vI Y:=by grind
    omega
   have VP:=Yhm (U:=U'.set (j+(k+2)) (d3-c)) (fun s d hs hd=>by
    rw[eB (by omega)]at hd;exact jJ.get hd) jw (fun s h1 h2=>fm s h1 (by simp at h2;omega)) (by omega)
   have qj1:(j:Int)<((lu-(k+2):Nat):Int):=by omega
   have qj2:j<lu-(k+2):=by omega
   have wq8:=f_ Q
   by_cases dC:d3-c<0
   ·have t1w:bb .i64 (t-1)=t-1:=cb (by omega) (by omega)
    simp(disch:=first|(simp;done)|omega|rfl) [-getElem?_pos,hr,dW,ue,rH,tu,kK,q4,VM,fU VO,b1',w7,fU jw,dC,t1w]
    generalize hU2:U'.set (j+(k+2)) (d3-c)=U2 at*
    have pW:U2.length=lu:=by rw[<-hU2];simp[FA,jT]
    have zaL:vI (U2.drop j)<0:=by
     apply Gz;intro hc
     have:=VP.1 hc
     omega
    have VQ:∀(s:Nat) (d:Int),s≠j+(k+2)->U2[s]?=some d->0<=d/\d<1000000000:=fun s d hs hd=>by
     rw[<-hU2,eB (by omega)]at hd;exact jJ.get hd
    refine cX [(19,21),(148,174)] (fun e r st=>e=.exit 6/\Lj N h2 n2 iu iq n3 U2 Q Y (k+2) j 0 r st) (Lj N h2 n2 iu iq n3 U2 Q Y (k+2) j) (k+2) ?_ ?_ ?_
    ·exact⟨0,U2,0,by omega,by simp,by simp,by omega,by omega,⟨by simp[aB,ft,nn],kO.set (by omega),rfl,by simp,by simp[d5,VN]⟩,rfl,fun _ _=>rfl,VQ,by simp[vI]⟩
    ·exact Yhg hv hY dY (by omega) (by omega) ⟨by simp[hr,dW,r9],by simp[hr,dW,rH],by simp[hr,dW,tu,pW],by simp[dW,kK]⟩ a1 a2 a3 a4
    ·rintro _ r4 ⟨H4,n4,W4⟩ y_ ⟨rfl,i4,U3,c4,hi4,O7,wX,c40,c41,⟨EU,Hs,Ln,Lo,Lp⟩,Lq,tE,Lr,Ls⟩
     simp only at EU Hs Ln Lo Lp
     subst Ln
     obtain rfl:i4=k+2:=by omega
     have VS:=FY.inner (D':=[(19,21),(148,174)]) rfl (by simp) y_
     rw[<-hY,yN,hY]at Ls
     have e4:U3[j+(k+2)]?=some (d3-c):=by rw[tE _ (.inr (aR _))];exact jw
     have x8:=f_ U3
     have b4':bb .i64 (d3-c+c4)=d3-c+c4:=cb (by omega) (by omega)
     have x7:=yU (l:=U3) (k:=j+(k+2)) (v:=d3-c+c4) (by omega)
     have v4e:vI (U3.set (j+(k+2)) (d3-c+c4))=vI U-pI j*((t-1)*vI Y):=by
      rw[Ab e4]
      have x1:pI (j+(k+2))*(d3-c+c4-(d3-c))=pI (j+(k+2))*c4:=by grind
      have x2:pI j*((t-1)*vI Y)=pI j*(t*vI Y)-pI j*vI Y:=by grind
      omega
     have hs4:∀s,s<j->(U3.set (j+(k+2)) (d3-c+c4))[s]?=U[s]?:=fun s hs=>by
      rw[eB (by omega),tE s (.inl hs)];exact mi s hs
     have uc:∀s,j+(k+2)<s->s<lu->(U3.set (j+(k+2)) (d3-c+c4))[s]?=some 0:=fun s h1 h2=>by
      rw[eB (by omega),tE s (.inr (by omega))];exact fm s h1 h2
     have Lt:=Zwg (by omega) (by simp[Lq,pW,jT]) hs4 v4e
     have yD:(U3.set (j+(k+2)) (d3-c+c4))[j+(k+2)]?=some (d3-c+c4):=nF (by omega)
     have xt:(t-1)*vI Y=t*vI Y-vI Y:=by grind
     have VT:vI ((U3.set (j+(k+2)) (d3-c+c4)).drop j)<vI Y:=by
      rw[Lt];omega
     have VU:0<=vI ((U3.set (j+(k+2)) (d3-c+c4)).drop j):=by
      rw[Lt];omega
     have VV:=Yhm (U:=U3.set (j+(k+2)) (d3-c+c4)) (fun s d hs hd=>by
      rw[eB (by omega)]at hd;exact Lr s d (by omega) hd) yD (fun s h1 h2=>uc s h1 (by simp at h2;omega)) (by omega)
     have rF:=VV.1 VU
     have w9:=yU (l:=Q) (k:=j) (v:=t-1) (by omega)
     have vO:=Ll j (by omega)
     have zaM:1<=t:=by
      apply BQ;intro hc
      have:t=0:=by omega
      rw[this]at CB
      have:=rL (dU.drop j)
      omega
     simp(disch:=first|(simp;done)|omega|rfl) [-getElem?_pos,hr,dW,y_,VS,wX,rH,tu,KJ,kK,q4,Lo,Lp,fU e4,b4',x7,d5,w9]
     refine⟨j,by omega,⟨U3.set (j+(k+2)) (d3-c+c4),Q.set j (t-1),⟨by simp[aB,EU,nn,nq],?_,rfl,by simp[d6],by simp⟩,by simp,by simp[Lq,pW],by simp[VL],by omega,?_,dQ.set (by omega) (by omega),?_,?_,?_,?_⟩⟩
     ·exact(Hs.set (by omega)).set (by omega)
     ·refine Yn5 fun s d hd=>?_
      by_cases hs:s=j+(k+2)
      ·subst hs
       rw[yD,rF]at hd
       simp at hd
       omega
      ·rw[eB (fun h=>hs h.symm)]at hd
       exact Lr s d hs hd
     ·intro s h1 h2
      by_cases hs:s=j+(k+2)
      ·rw[hs,yD,rF]
      ·exact uc s (by omega) h2
     ·exact VT
     ·intro s hs
      rw[eB (by omega)];exact Ll s (by omega)
     ·rw[v4e,Ab vO,<-ix]
      grind
   ·have OU:0<=vI ((U'.set (j+(k+2)) (d3-c)).drop j):=by
     apply BQ;intro hc;exact dC (VP.2 hc)
    have rF:=VP.1 OU
    have w9:=yU (l:=Q) (k:=j) (v:=t) (by omega)
    have vO:=Ll j (by omega)
    rw[CB]at OU eJ
    have tlt:t<1000000000:=by
     apply Gz;intro hc
     have:=BO hc (qY hVp)
     omega
    simp(disch:=first|(simp;done)|omega|rfl) [-getElem?_pos,hr,dW,FY,ue,rH,tu,KJ,kK,q4,VM,VN,fU VO,b1',w7,fU jw,dC,d5,w9]
    refine⟨j,by omega,⟨U'.set (j+(k+2)) (d3-c),Q.set j t,⟨by simp[aB,ft,nn,nq],?_,rfl,by simp[d6],by simp⟩,by simp,by simp[FA,jT],by simp[VL],by omega,?_,dQ.set t0 tlt,?_,?_,?_,?_⟩⟩
    ·exact(kO.set (by omega)).set (by omega)
    ·rw[rF];exact jJ.set (by omega) (by omega)
    ·intro s h1 h2
     by_cases hs:s=j+(k+2)
     ·rw[hs,jw,rF]
     ·exact fm s (by omega) h2
    ·rw[CB];exact eJ
    ·intro s hs
     rw[eB (by omega)];exact Ll s (by omega)
    ·rw[v2e,Ab vO,<-ix]
     grind
variable {N:Nat}
def Lu{N n2:Nat}(h:N<=n2):∀{w:List Nat},aB n2 w=[]->aB N w=[]
 |[],_=>rfl
 |i::w,hw=>by
  simp only[aB]at hw ⊢
  by_cases h1:i<n2
  ·rw[aJ h1]at hw
   unfold vD at hw
   split at hw
   ·rename_i hc
    rw[hw]at hc;simp at hc
   ·cases hw
  ·rw[aq h1]at hw
   rw[aq (by omega)]
   exact Lu h hw
def Zsh{h:T O}{i:Nat}{w:List Nat}{v:V}{l:List Int}(hr:h.get i=some (.cells [] 3 true))(hs:Sl h N v (dI l))(bK:l≠[])(hl:l.length<1099511627776):
  nI ⟨h,N,w⟩ 1 8 3 (.slice i 0 0 (some 0) 1) v=some (.slice N 0 l.length none 1,⟨h.set N (.cells (dI l) 3 true),N+1,w⟩):=by
 have h0:l.length≠0:=fun hc=>bK (pV hc)
 have iU:=Ymu (w:=w) hs
 rw[f_]at iU
 have hb:¬(zv<(2*(0+l.length)+1000)*8):=by unfold zv;omega
 simp only[nI,iU]
 rw[aq h0,aq (by rintro(h|h|h)<;>omega)]
 simp only[St.row,hr]
 rw[aq (by omega)]
 simp[aM,St.alloc]
def Yhv(k:Nat):pI k=((1000000000^k:Nat):Int):=by unfold pI;simp
def VW{b k:Nat}(h:(ds b).length=k+1):∃x,(ds b)[k]?=some x/\0<x/\x<1000000000/\pI k*x<=b/\(b:Int)<pI k*(x+1):=by
 have hb:b≠0:=fun hc=>by rw[hc,qq]at h;simp at h
 obtain⟨x,hx,oR⟩:=Ylk hb
 rw[h,Nat.add_sub_cancel]at hx
 have hd:=(fJ b).get hx
 have hv:=fQ b
 rw[HJ hx,w_ (by omega),vI,Int.mul_zero,Int.add_zero]at hv
 have h1:=rL ((fJ b).take k)
 have h2:=rK ((fJ b).take k)
 rw[jH,nU (by omega)]at h2
 have h3:pI k*(x+1)=pI k*x+pI k:=by grind
 exact⟨x,hx,oR,hd.2,by omega,by omega⟩
def Yj9{b k:Nat}(h:(ds b).length=k+1){x:Int}(hx:(ds b)[k]?=some x):∃f:Nat,(f:Int)=1000000000/(x+1)/\0<f/\f<1000000000/\(ds (b*f)).length=k+1/\∃y,(ds (b*f))[k]?=some y/\500000000<=y:=by
 obtain⟨x',nz,x0,x1,lo,hi⟩:=VW h
 obtain rfl:x=x':=uz (hx.symm.trans nz)
 have hd:(x+1)*(1000000000/(x+1))+1000000000%(x+1)=1000000000:=Bw ..
 have jI:0<=1000000000%(x+1):=Bx _ (by omega)
 have Cy:1000000000%(x+1)<x+1:=By _ (by omega)
 have hh:=Ybd (x:=x) (by omega) x1
 have f0:0<1000000000/(x+1):=by
  apply Gz;intro hc
  have:=Int.mul_nonpos_of_nonneg_of_nonpos (a:=x) (by omega) hc
  omega
 have f1:1000000000/(x+1)<1000000000:=Int.ediv_lt_of_lt_mul (by omega) (by omega)
 obtain⟨f,hf⟩:=Bz (qY f0)
 rw[hf]at hd hh f0 f1
 have hp:=zY k
 have Qm:((b*f:Nat):Int)=(b:Int)*f:=by simp
 have up:(b:Int)*f<1000000000*pI k:=by
  have g1:(b:Int)*f<pI k*(x+1)*f:=Int.mul_lt_mul_of_pos_right hi f0
  have g2:pI k*(x+1)*f=pI k*((x+1)*f):=by grind
  have g3:pI k*((x+1)*f)<=pI k*1000000000:=oQ (by omega) (qY hp)
  omega
 have low:500000000*pI k<=(b:Int)*f:=by
  have g1:pI k*x*f<=(b:Int)*f:=BO lo (qY f0)
  have g2:pI k*x*f=pI k*(x*f):=by grind
  have g3:pI k*500000000<=pI k*(x*f):=oQ hh (qY hp)
  omega
 have zaN:(ds (b*f)).length<=k+1:=G5 (by
  have:((b*f:Nat):Int)<((1000000000^(k+1):Nat):Int):=by rw[<-Yhv,rP,Qm];exact up
  exact_mod_cast this)
 have zaO:(ds b).length<=(ds (b*f)).length:=qX (Nat.le_mul_of_pos_right b (by omega))
 have len:(ds (b*f)).length=k+1:=by omega
 obtain⟨y,hy,y0,y1,ylo,yhi⟩:=VW len
 refine⟨f,hf.symm,by omega,by omega,len,y,hy,?_⟩
 apply BQ
 intro hc
 have:pI k*(y+1)<=pI k*500000000:=oQ (by omega) (qY hp)
 omega
def Lv(N:Nat)(h2:T O)(n2 la:Nat)(A0:Int)(m:Nat)(r:T V)(st:St):Prop:=aB n2 st.w=[]/\ad h2 n2 st.h st.n/\∃u l,r.get 11=some u/\Own 1 3 n2 st.h st.n u (nQ l)/\l.length+m=la+1/\vI l=A0/\Di l
def Yfk{N:Nat}{h2:T O}{n2 la:Nat}{A0:Int}{u0:V}{r0:T V}{CE:List Int}(lf:Sl h2 n2 u0 (dI CE))(hla:CE.length=la)(hl:la<1099511627776)(r0e:r0.get 0=some u0):
  ∀m r st,(∀t,jk [(11,11),(63,71)] t=false->r.get t=r0.get t)->Fx [(11,11),(63,71)] r0 206 ⟨r,206,[]⟩->Lv N h2 n2 la A0 m r st->Code A.C none A.pS ⟨r,206,[]⟩ st (Rd [(11,11),(63,71)] r0 206 (Lv N h2 n2 la A0) m (fun e r st=>e=.exit 0/\Lv N h2 n2 la A0 0 r st)):=by
 rintro m r ⟨H,n1,W⟩ hr hf ⟨hW,hK,u,l,jW,ho,hm,hv,hd⟩
 simp only at hW hK ho
 have lu:=lf.len
 rw[f_,hla]at lu
 have lo:=ho.len
 rw[A3]at lo
 rw[cm]
 cases m with
 |zero=>
  have:¬(l.length:Int)<(la:Int)+1:=by omega
  simp(disch:=first|(simp;done)|omega|rfl) [A.pS,hr,hf,r0e,jW,lu,lo,this]
  exact⟨hW,hK,u,l,by simp[jW],ho,hm,hv,hd⟩
 |succ m=>
  have h1:(l.length:Int)<(la:Int)+1:=by omega
  have gJ:=hK.le
  obtain⟨v',h',w',e1,e2,e3,e4,e5⟩:=zH (x:=[.int .i64 0]) (u:=.slice n1 0 1 (some 1) 1) (bytes:=8) (w:=W) (ho.ae (ad.refl.new (.cells [.int .i64 0] 3 true))) (by omega) (by decide) rfl (by simp[iQ,St.row,aM]) (by rw[A3];omega)
  rw[<-Cn]at e5
  simp(disch:=first|(simp;done)|omega|rfl) [A.pS,hr,hf,r0e,jW,lu,lo,h1,ag,e1]
  refine⟨m,by omega,⟨by rw[e2];exact hW,((hK.new _).then e3),v',l++[0],by simp,e5,by simp;omega,by rw[AZ,hv];simp,hd.app (Di.one (by omega) (by omega))⟩⟩
end
end Go.Mx
