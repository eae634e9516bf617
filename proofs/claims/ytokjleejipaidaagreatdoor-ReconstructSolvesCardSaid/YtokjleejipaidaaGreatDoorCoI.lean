/-lensletref05-/
import Derived.Test.YtokjleejipaidaaGreatDoorEcB
set_option linter.all false
namespace Go.Mx
noncomputable section
open Go Go.Proofs
variable {N:Nat} {h:T O} {m:List (List Rat)} {v:V}
set_option maxRecDepth 1000000
def xr(N0:Nat)(h:T O)(N:Nat)(v:V)(m:List (List Rat)):Prop:=∃us:List V,Own 1 23 N0 h N v (us.map fun y=>[y])/\us.length=m.length/\∀(j:Nat) (l:List Rat),m[j]?=some l->∃u,us[j]?=some u/\Tx h N0 u l
def xr.nil{N0:Nat}:xr N0 h N .aa []:=⟨[],Own.nil,rfl,fun j l hl=>by simp at hl⟩
def xr.ad{N0:Nat}{h':T O}{N':Nat}(s:xr N0 h N v m)(k:ab h N h' N')(hN:N0<=N):xr N0 h' N' v m:=by
 obtain⟨us,h1,h3,h4⟩:=s
 refine⟨us,h1.ad k,h3,fun j l hl=>?_⟩
 obtain⟨u,g1,g2⟩:=h4 j l hl
 exact⟨u,g1,g2.ad ⟨aO _,fun i hi=>k.get i (by omega)⟩⟩
def xr.tI{N0:Nat}(s:xr N0 h N v m)(hN:N0<=N):fA h N v m:=by
 obtain⟨us,h1,h3,h4⟩:=s
 refine⟨us,Sn.one.1 h1.sn,h3,fun j l hl=>?_⟩
 obtain⟨u,g1,g2⟩:=h4 j l hl
 exact⟨u,g1,g2.ad ⟨hN,fun _ _=>rfl⟩⟩
def xr.push{N0:Nat}{u x:V}{l:List Rat}{w:List Nat}(s:xr N0 h N v m)(hu:Tx h N0 u l)(hN:N0<=N)(hx:ef ⟨h,N,w⟩ 1 x=some (1,[u]))(hm:m.length<100000):
  ∃v' h' w',gX ⟨h,N,w⟩ 1 24 23 v x=some (v',⟨h',N+1,w'⟩)/\ar N0 w'=ar N0 w/\ab h N0 h' (N+1)/\xr N0 h' (N+1) v' (m++[l]):=by
 obtain⟨us,h1,h3,h4⟩:=s
 obtain⟨v',h',w',f1,f2,f3,_,f5⟩:=tJ (x:=[u]) (u:=x) (bytes:=24) (w:=w) h1 hN (by decide) rfl hx (by rw[gY];omega)
 have kk:ab h N0 h' N0:=⟨aO _,f3.get⟩
 refine⟨v',h',w',f1,f2,f3,us++[u],by simpa using f5,by simp[h3],fun j r hr=>?_⟩
 by_cases hj:j<m.length
 ·rw[iS hj]at hr
  obtain⟨u',g1,g2⟩:=h4 j r hr
  exact⟨u',by rw[iS (by omega)];exact g1,g2.ad kk⟩
 ·rw[lD (by omega)]at hr
  cases hd:j-m.length with
  |zero=>
   rw[hd]at hr
   simp at hr
   subst hr
   exact⟨u,by rw[lD (by omega),h3,hd];rfl,hu.ad kk⟩
  |succ d=>rw[hd]at hr;simp at hr
variable {N:Nat} {h:T O} {m:List (List Rat)} {u v:V} {w:List Nat}
def A.w16:=A.q Tryz.f16
def A.kv:=A.ql A.w16 0 []
def A.b16:=(fun x0=>A.qb A.w16 [x0]) A.kv
def A.k16:=@A.kk 16 27 [.tmp 4] A.b16 (by kernel_rfl) rfl
def A.w55:=A.q Tryz.f55
def A.qU:=A.ql A.w55 0 []
def A.b55:=(fun x0=>A.qb A.w55 [x0]) A.qU
def A.k55:=@A.kk 55 19 [.tmp 2] A.b55 (by kernel_rfl) rfl
def A.b17:=A.q Tryz.f17
def A.k17:=@A.kk 17 34 [.tmp 8] A.b17 (by kernel_rfl) rfl
def Yn3(hu:fA h N u m)(hv:fA h N v m)(hl:m.length<100000)(hr:∀r∈m,r.length<100000):A.C.call (.func 16 [] []) [u,v] ⟨h,N,w⟩=some (.bool true,⟨h,N,w⟩):=by
 apply Call.eq
 have l1:=hu.len
 have l2:=hv.len
 rw[aM,A.k16 (by simp)]
 simp[A.b16,l1,l2,aJ]
 refine bA [(4,5),(11,26)] (fun e r st=>st=⟨h,N,[]⟩/\e=.exit 0) (fun i r st=>st=⟨h,N,[]⟩/\∃k,k+i=m.length/\r.get 5=some (.int .i64 k)) m.length ?_ ?_ ?_
 ·exact⟨rfl,0,by omega,by simp⟩
 ·rintro i r _ d_ hf ⟨rfl,k,hk,h5⟩
  rw[bb]
  cases i with
  |zero=>
   obtain rfl:k=m.length:=by omega
   simp[A.kv,d_,hf,h5,l1]
  |succ i=>
   have au:k<m.length:=by omega
   have aS:(k:Int)<(m.length:Int):=by omega
   obtain⟨row,al⟩:=a_ au
   obtain⟨i1,o,cc,e,rw,ru,q1,q2,q3,q4,q5⟩:=hu.at al
   obtain⟨i2,o2,c2,e2,Jl,rv,p1,p2,p3,p4,p5⟩:=hv.at al
   have hs:=fun w=>Ynt (w:=w) (l:=row.map aP) q5 p5 (by simpa using hr row (bM al))
   simp(disch:=first|(simp;done)|omega|rfl) [A.kv,d_,hf,h5,l1,l2,au,aS,q1,q2,q3,q4,p1,p2,p3,p4,hs,cn.cr]
   exact⟨i,by omega,k+1,by omega,by simp⟩
 ·rintro _ r _ d_ ⟨rfl,rfl⟩
  simp[d_]
def mi(m:List (List Rat)):Bool:=m.any pS
def Ye5(hu:fA h N u m)(hl:m.length<100000)(hr:∀r∈m,r.length<100000/\∀q∈r,(aP q).length<1000000000):A.C.call (.func 55 [] []) [u] ⟨h,N,w⟩=some (.int .i64 (if mi m=true then 4 else 0),⟨h,N,w⟩):=by
 apply Call.eq
 have l1:=hu.len
 rw[aM,A.k55 (by simp)]
 simp[A.b55]
 refine bA [(2,18)] (fun e r st=>st=⟨h,N,[]⟩/\((e=.exit 0/\mi m=false)\/(e=.ret/\mi m=true/\r.get 2=some (.int .i64 4)))) (fun i r st=>st=⟨h,N,[]⟩/\∃k,k+i=m.length/\r.get 3=some (.int .i64 k)/\mi m=mi (m.drop k)) m.length ?_ ?_ ?_
 ·exact⟨rfl,0,by omega,by simp,by simp⟩
 ·rintro i r _ d_ hf ⟨rfl,k,hk,h3,hz⟩
  rw[bb]
  cases i with
  |zero=>
   obtain rfl:k=m.length:=by omega
   rw[mK]at hz
   have vk:mi m=false:=by rw[hz];rfl
   simp[A.qU,d_,hf,h3,l1,vk]
  |succ i=>
   have au:k<m.length:=by omega
   have aS:(k:Int)<(m.length:Int):=by omega
   obtain⟨row,al⟩:=a_ au
   obtain⟨i1,o,cc,e,rw,ru,q1,q2,q3,q4,q5⟩:=hu.at al
   obtain⟨a1,a2⟩:=hr row (bM al)
   have hs:=fun w=>Ypn (w:=w) q5 a1 a2
   rw[f_ al]at hz
   cases hb:pS row with
   |true=>
    have vk:mi m=true:=by rw[hz];simp[mi,hb]
    rw[hb]at hs
    simp only[if_true]at hs
    simp[A.qU,d_,hf,h3,l1,au,aS,q1,q2,q3,q4,hs,aJ,vk]
   |false=>
    have vk:mi m=mi (m.drop (k+1)):=by rw[hz];simp[mi,hb]
    rw[hb]at hs
    simp only[fL,if_false]at hs
    simp(disch:=first|(simp;done)|omega|rfl) [A.qU,d_,hf,h3,l1,au,aS,q1,q2,q3,q4,hs,aJ]
    exact⟨i,by omega,k+1,by omega,by simp,vk⟩
 ·rintro e r _ d_ ⟨rfl,⟨rfl,hz⟩|⟨rfl,hz,h2⟩⟩
  ·simp[d_,hz]
  ·simp[d_,hz,h2]
def Eg(e:Int)(m:List (List Rat))(v:V)(c:Int)(h:T O)(n:Nat):Prop:=(e≠0/\v=.aa/\c=e)\/(e=0/\((mi m=true/\v=.aa/\c=4)\/(mi m=false/\c=0/\fA h n v m)))
def Eg.ad{h':T O}{n n':Nat}{e c:Int}(s:Eg e m v c h n)(k:ab h n h' n'):Eg e m v c h' n':=by
 rcases s with s|⟨a,s|⟨b,c,s⟩⟩
 ·exact .inl s
 ·exact .inr ⟨a,.inl s⟩
 ·exact .inr ⟨a,.inr ⟨b,c,s.ad k⟩⟩
def TPN(e:Int)(q:Rat)(s:List UInt8)(c:Int):Prop:=(e≠0/\s=[]/\c=e)\/(e=0/\((By q=true/\s=[]/\c=4)\/(By q=false/\c=0/\s=aP q)))
def Vw{e c:Int}(hv:Eg e m v c h N)(hu:e=0->fA h N u m)(hl:m.length<100000)(hr:e=0->∀r∈m,r.length<100000/\∀q∈r,(aP q).length<1000000000):A.C.call (.func 17 [] []) [v,.int .i64 c,u,.int .i64 e] ⟨h,N,w⟩=some (.bool true,⟨h,N,w⟩):=by
 apply Call.eq
 rw[aM,A.k17 (by simp)]
 rcases hv with⟨a,rfl,rfl⟩|⟨rfl,⟨b,rfl,rfl⟩|⟨b,rfl,t⟩⟩
 ·simp[A.b17,a,aJ]
 ·have hr:=fun w=>Ye5 (w:=w) (hu rfl) hl (hr rfl)
  rw[b]at hr
  simp only[if_true]at hr
  simp[A.b17,hr,aJ]
 ·have hs:=fun w=>Yn3 (w:=w) t (hu rfl) hl (fun r hx=>(hr rfl r hx).1)
  have hr:=fun w=>Ye5 (w:=w) (hu rfl) hl (hr rfl)
  rw[b]at hr
  simp only[fL,if_false]at hr
  simp[A.b17,hr,hs,aJ]
def A.w13:=A.q Tryz.f13
def A.qV:=A.ql A.w13 0 []
def A.b13:=(fun x0=>A.qb A.w13 [x0]) A.qV
def A.k13:=@A.kk 13 15 [.tmp 2] A.b13 (by kernel_rfl) rfl
def Ye8{h:T O}{N:Nat}{v:V}{l:List Int}{w:List Nat}(hs:Sl h N v (dI l))(hl:l.length<1000):A.C.call (.func 13 [] []) [v] ⟨h,N,w⟩=some (.int .i64 (bn l),⟨h,N,w⟩):=by
 apply Call.eq
 have hlen:=hs.len
 rw[gJ]at hlen
 rw[aM,A.k13 (by simp)]
 simp[A.b13,hlen]
 refine bA [(2,2),(4,4),(7,14)] (fun e r st=>st=⟨h,N,[]⟩/\((e=.exit 0/\bn l=0)\/(e=.ret/\r.get 2=some (.int .i64 (bn l))))) (fun m r st=>st=⟨h,N,[]⟩/\∃k,m=l.length-k/\k<=l.length/\r.get 7=some (.int .i64 k)/\bn l=bn (l.drop k)) l.length ?_ ?_ ?_
 ·exact⟨rfl,0,by omega,by omega,by simp,by simp⟩
 ·rintro m r _ hr hf ⟨rfl,k,rfl,hk,h7,hz⟩
  rw[bb]
  by_cases au:k<l.length
  ·obtain⟨c,hc⟩:=a_ au
   obtain⟨i,o,cc,e,rw,q1,q2,q3,q4⟩:=hs.at (gK hc)
   rw[f_ hc,bn]at hz
   have bG:(k:Int)<(l.length:Int):=by omega
   by_cases h0:c=0
   ·rw[ax h0]at hz
    simp(disch:=first|(simp;done)|omega|rfl) [A.qV,hr,hf,h7,bG,au,hlen,q1,q3,q4,aJ,h0]
    exact⟨_,by omega,k+1,rfl,by omega,by simp,hz⟩
   ·rw[ak h0]at hz
    simp[A.qV,hr,hf,h7,bG,au,hlen,q1,q3,q4,aJ,h0,hz]
  ·have:l.drop k=[]:=qh (by omega)
   rw[this,bn]at hz
   have:k=l.length:=by omega
   subst this
   simp[A.qV,hr,hf,h7,hlen,hz]
 ·rintro _ r _ hr ⟨rfl,⟨rfl,hz⟩|⟨rfl,h2⟩⟩
  ·simp[hr,hz]
  ·simp[hr,h2]
def Lb{h:T O}{N:Nat}{w:List Nat}(hP:lE h N):A.C.call (.func 7 [] []) [] ⟨h,N,w⟩=some (.bool true,⟨h,N,w⟩):=by
 exact A.known hP.2
structure Wt (e:Int) (l:List Rat) (v:V) (c:Int) (u:V) (h:T O) (n:Nat):Prop where
 p:lE h n
 tp:TP e l v c h n
 tx:e=0->Tx h n u l
 len:l.length<100000
 Cv:e=0->∀q∈l,(aP q).length<1000000000
structure WtN (e:Int) (q:Rat) (s:aQ) (c:Int) (t:aQ):Prop where
 tp:TPN e q s c
 tx:e=0->t=aP q
 Cv:e=0->(aP q).length<1000000000
structure WtM (e:Int) (m:List (List Rat)) (v:V) (c:Int) (u:V) (h:T O) (n:Nat):Prop where
 tp:Eg e m v c h n
 tx:e=0->fA h n u m
 len:m.length<100000
 Cv:e=0->∀r∈m,r.length<100000/\∀q∈r,(aP q).length<1000000000
def Qk{N n:Nat}{w:List Nat}(h:ar n w=[])(hN:N<=n):ar N w=[]:=uK fun i hi=>by
 have:=zi h i hi
 omega
def Zsz{q:Rat}{k:Nat}(h:Qb k q)(hk:k<=400000000):(aP q).length<1000000000:=by
 have h1:=Gm h.1
 have h2:=Eh h.2
 unfold aP
 split<;>simp<;>omega
variable {h:T O}
def Sl.fM{N:Nat}{v:V}{l:List V}(s:Sl h N v l):v.cells=[v]:=by
 rcases s with⟨_,rfl|rfl⟩|⟨j,o,cp,c,e,rw,rfl,hj,_⟩<;>rfl
def Sl.qW{N:Nat}{v:V}{l:List V}(s:Sl h N v l):v.one=true:=by
 rcases s with⟨_,rfl|rfl⟩|⟨j,o,cp,c,e,rw,rfl,hj,_⟩<;>rfl
def Yno{r p:List Rat}{k:Nat}:n_ (fun x y=>x+y) r (p.map fun q=>q* -(r[k]?.getD 0)) r.length=qX r p k:=by
 unfold qX n_
 apply yB
 intro i _
 rw[fm]
 cases hb:p[i]? with
 |none=>simp only[Option.map_none,Option.getD_none];rw[Rat.sub_eq_add_neg,Rat.mul_zero,Rat.neg_zero]
 |some q=>simp only[ti,jz];rw[Rat.sub_eq_add_neg,Rat.mul_neg,Rat.mul_comm]
def Yip{W0:List Nat}{N0:Nat}{H:T O}{n R:Nat}{r0:T V}{m:List (List Rat)}{d k c K:Nat}(s:qi N0 H n R m)(hc:bp m c)(hk:k<c)(hd:d<m.length)(mj:m.length<1000)(cO:c<1000)(hK:∀i,i≠d->∀q∈m[i]?.getD [],Qb K q)(hP:∀q∈m[d]?.getD [],Qb (2*K) q)(hKl:3*K<=400000000)(kH:ab h N0 H n)(zj:ar N0 W0=[])(a3:r0.get 3=some (.slice R 0 m.length none 1))(a4:r0.get 4=some (.int .i64 d))(a5:r0.get 5=some (.int .i64 k))(a7:r0.get 7=some (.int .i64 0)):
  Code A.C none (.loop A.oa) ⟨r0,110,[]⟩ ⟨H,n,W0⟩ (fun e fr st=>e=.exit 4/\ar N0 st.w=[]/\ab h N0 st.h st.n/\qi N0 st.h st.n R (cg m d k m.length)/\∃r,Fx [(7,7),(75,104)] r0 110 ⟨r,110,[]⟩/\fr=⟨r,110,[]⟩):=by
 rw[bb]
 refine bA [(7,7),(75,104)] (fun e r st=>e=.exit 4/\ar N0 st.w=[]/\ab h N0 st.h st.n/\qi N0 st.h st.n R (cg m d k m.length)) (fun i r st=>ar N0 st.w=[]/\ab h N0 st.h st.n/\∃t,t<=m.length/\i=m.length-t/\r.get 7=some (.int .i64 t)/\qi N0 st.h st.n R (cg m d k t)) (m.length) ?_ ?_ ?_
 ·exact⟨zj,kH,0,by omega,by omega,a7,by rw[Ytu];exact s⟩
 ·rintro i r ⟨H1,n1,W⟩ hr hf ⟨hW,k1,t,ht,rfl,h7,s1⟩
  simp only at hW k1 s1
  rw[bb]
  by_cases au:t<m.length
  ·have aS:(t:Int)<(m.length:Int):=by omega
   by_cases e:t=d
   ·subst e
    rw[<-Zyr]at s1
    simp(disch:=first|(simp;done)|omega|rfl) [A.oa,hr,hf,a3,a4,a5,h7,au,aS,k1,hW]
    exact⟨m.length-(t+1),by omega,t+1,by omega,rfl,by simp,s1⟩
   ·have e':¬(t:Int)=(d:Int):=by omega
    have zk:(d:Int)<(m.length:Int):=by omega
    obtain⟨row,al⟩:=a_ au
    obtain⟨mm,iT⟩:=a_ hd
    have xu:=hc row (bM al)
    have iG:=hc mm (bM iT)
    have w1:(cg m d k t)[t]?=some row:=by rw[Ei au,ak (by omega),al];rfl
    have w2:(cg m d k t)[d]?=some mm:=by rw[Ytt hd];exact iT
    obtain⟨us,u,g1,g2,g3,g4⟩:=s1.at w1
    obtain⟨us',v,Cw,_,Ej,Jm⟩:=s1.at w2
    rw[g1]at Cw
    simp only[an,O.cells.injEq,and_true]at Cw
    subst Cw
    obtain⟨q,hq⟩:=a_ (l:=row) (k:=k) (by omega)
    have yC:∀q∈row,Qb K q:=by have:=hK t e;rw[al]at this;exact this
    have uL:∀q∈mm,Qb (2*K) q:=by have:=hP;rw[iT]at this;exact this
    have iU:=yC q (bM hq)
    have hnb:Qb K (-q):=⟨by rw[Rat.neg_num,Bz];exact iU.1,by rw[Rat.neg_den];exact iU.2⟩
    obtain⟨i1,o1,c1,e1,x1,q1,q2,q3,q4⟩:=g4.1.at (xw hq)
    have vn:=g4.1.len
    have bG:(k:Int)<(row.length:Int):=by omega
    have eF:k<row.length:=by omega
    have hR:=s1.lt
    have aW:=fun st=>Yo2 (q:=q) (st:=st) (Zsz iU (by omega))
    simp[A.oa,hr,hf,a3,a4,a5,h7,au,aS,e,e',hd,zk,g1,g3,Ej,hR,q1,q2,q3,q4,mq,bG,eF,vn,aW]
    refine ay (Zs8 Jm.1 uL hnb (by omega) (by omega) (by omega)) ?_
    rintro v2 H2 n2 k2 o2
    have t2:=Gn o2
    have jA:=k2.le
    have s2:=s1.ad k2
    have qj:=(k2.get R hR).trans g1
    simp[qj,hr,hf]
    refine ay (Ylk (g4.1.ad k2) t2.1 (by simp;omega) yC (k:=2*K+K) (fun q' pT=>by
     obtain⟨y,hy,rfl⟩:=eC.1 pT
     exact(uL y hy).mul hnb) (by omega) (by omega) (by omega)) ?_
    rintro v3 H3 n3 k3 o3
    have t3:=(Gn o3).old (N0:=N0)
    have BA:=k3.le
    have s3:=s2.ad k3
    have Lc:=(k3.get R (by omega)).trans qj
    have xx:t<us.length:=by rw[g2,zm];exact au
    have vo:t+1<=us.length:=xx
    have lR1:R<n2:=by omega
    have xy:R<n3:=by omega
    have jc:(t:Int)<(us.length:Int):=by omega
    have gb:∀u,ae us t [u]=us.set t u:=fun u=>Cy xx
    have ke:v3.cells=[v3]:=Sl.fM t3.1
    have Vx:v3.one=true:=Sl.qW t3.1
    simp(disch:=first|(simp;done)|omega|rfl) [-V.cells, -V.one,bD,ke,Vx,gb,xx,vo,Lc,lR1,xy,hr,hf,h7]
    have hz:n_ (fun x y=>x+y) row (mm.map fun y=>y* -q) row.length=qX row mm k:=by
     have:=Yno (r:=row) (p:=mm) (k:=k)
     rw[hq]at this
     exact this
    have sp:=s3.put Lc t3 (i:=t) (by rw[zm];exact au)
    rw[hz]at sp
    refine⟨m.length-(t+1),by omega,by rw[ak (tK.2 s1.ge)];exact hW,((k1.trans k2).trans k3).set s1.ge,t+1,by omega,rfl,by simp,?_⟩
    rw[Vy au e,al,iT]
    exact sp
  ·obtain rfl:t=m.length:=by omega
   simp[A.oa,hr,hf,a3,a5,h7,k1,hW]
   exact s1
 ·rintro _ r st hr ⟨rfl,hw,k1,s1⟩
  simp[]
  exact⟨hw,k1,s1,hr,rfl,rfl⟩
variable {m:List (List Rat)}
def BB{m:List (List Rat)}:∀{n:Nat},(aK m n).1.length=m.length
 |0=>rfl
 |n+1=>by rw[uM,Ynr];exact BB
def lF{m:List (List Rat)}{c:Nat}(h:bp m c):∀{n:Nat},bp (aK m n).1 c/\(aK m n).2.1<=m.length
 |0=>⟨h,uN _⟩
 |n+1=>by
  obtain⟨a,b⟩:=@lF m c h n
  rw[uM]
  have:=Ysd (k:=n) a (by rw[BB];exact b)
  rw[BB]at this
  exact⟨this.1,this.2.1⟩
def kB(K:Nat):Nat->Nat
 |0=>K
 |n+1=>4*kB K n+1
def Vz{m:List (List Rat)}:∀{n:Nat},(aK m n).2.1<=n
 |0=>aO _
 |n+1=>by
  have:=@Vz m n
  rw[uM]
  unfold iV
  split
  ·show (aK m n).2.1+1<=n+1
   omega
  ·omega
def Zz2{W0:List Nat}{N0:Nat}{h H:T O}{n R:Nat}{r0:T V}{c:Nat}{B:Nat->Nat}(s:qi N0 H n R m)(hc:bp m c)(mj:m.length<1000)(gg:0<m.length)(cO:c<1000)(yD:∀n,1<=B n)(hK:∀k,bZ (aK m k).1 (B (aK m k).2.1))(hB:∀n,n<m.length->n<c->3*B n<=400000000)(kH:ab h N0 H n)(zj:ar N0 W0=[])(a3:r0.get 3=some (.slice R 0 m.length none 1))(a4:r0.get 4=some (.int .i64 0))(a5:r0.get 5=some (.int .i64 0)):
  Code A.C none (.loop A.qY) ⟨r0,110,[]⟩ ⟨H,n,W0⟩ (fun e fr st=>e=.exit 0/\ar N0 st.w=[]/\ab h N0 st.h st.n/\qi N0 st.h st.n R (aK m c).1/\∃r,Fx [(4,7),(11,106)] r0 110 ⟨r,110,[]⟩/\fr=⟨r,110,[]⟩/\r.get 4=some (.int .i64 (aK m c).2.1)):=by
 rw[bb]
 refine bA [(4,7),(11,106)] (fun e r st=>e=.exit 0/\ar N0 st.w=[]/\ab h N0 st.h st.n/\qi N0 st.h st.n R (aK m c).1/\r.get 4=some (.int .i64 (aK m c).2.1)) (fun i r st=>ar N0 st.w=[]/\ab h N0 st.h st.n/\∃k,k<=c/\i=c-k/\r.get 5=some (.int .i64 k)/\r.get 4=some (.int .i64 (aK m k).2.1)/\qi N0 st.h st.n R (aK m k).1) c ?_ ?_ ?_
 ·exact⟨zj,kH,0,by omega,by omega,a5,a4,s⟩
 ·rintro i r ⟨H1,n1,W⟩ hr hf ⟨hW,k1,k,hk,rfl,h5,h4,s1⟩
  simp only at hW k1 s1
  rw[bb]
  have hlen:(aK m k).1.length=m.length:=BB
  obtain⟨Jn,iw⟩:=@lF m c hc k
  obtain⟨VA,Ek⟩:=a_ (l:=(aK m k).1) (k:=0) (by omega)
  have VB:=Jn VA (bM Ek)
  obtain⟨us,u,g1,g2,g3,g4⟩:=s1.at Ek
  have vn:=g4.1.len
  rw[VB]at vn
  have hR:=s1.lt
  have yE:(0:Int)<(m.length:Int):=by omega
  by_cases au:k<c
  ·have aS:(k:Int)<(c:Int):=by omega
   simp[A.qY,hr,hf,a3,h5,h4,gg,yE,g1,g3,hR,vn,au,aS]
   refine lG (Yin (d:=(aK m k).2.1) s1 Jn au (by omega) (by omega) (by simp[hr,hlen,a3]) (by simp[h5]) (by simp)) ?_
   rintro _ _ _ ⟨rfl,rfl,r2,f2,rfl,h6⟩
   have dt:=f2.dN
   have cG:=hf.inner (D':=[(6,6),(25,40)]) (by decide) (fun hx=>by simpa[Fx.set]using hx) dt
   have zaI:=@El (aK m k).1 k ((aK m k).1.length-(aK m k).2.1) (aK m k).2.1
   by_cases hp:eS (aK m k).1 (aK m k).2.1 k<(aK m k).1.length
   ·generalize hd:(aK m k).2.1=d at*
    generalize mL:(aK m k).1=m1 at*
    have du:d<m1.length:=by unfold eS at hp;omega
    generalize vt:eS m1 d k=p at*
    obtain⟨rd,yF⟩:=a_ du
    obtain⟨rp,yG⟩:=a_ hp
    obtain⟨us1,ud,x1,x2,x3,x4⟩:=s1.at yF
    obtain⟨us2,up,y1,_,y3,y4⟩:=s1.at yG
    rw[g1]at x1 y1
    simp only[an,O.cells.injEq,and_true]at x1 y1
    subst x1;subst y1
    have sA:=s1.put g1 y4 du
    have gA:(H1.set R (.cells (us.set d up) 23 true)).get R=some (.cells (us.set d up) 23 true):=by rw[T.ag,ax rfl]
    have sB:=sA.put gA (x4.bg g1 s1.ge) (i:=p) (by rw[zn];exact hp)
    have Ld:d<us.length:=by omega
    have Lf:p<us.length:=by omega
    have VC:¬(p:Int)=(m.length:Int):=by omega
    have zk:(d:Int)<(m.length:Int):=by omega
    have Gp:(p:Int)<(m.length:Int):=by omega
    have yH:d<m.length:=by omega
    have BC:p<m.length:=by omega
    have hdk:d<c:=by
     have:=@Vz m k
     omega
    have e1:∀u,ae us d [u]=us.set d u:=fun u=>Cy Ld
    have e2:∀u,ae (us.set d up) p [u]=(us.set d up).set p u:=fun u=>Cy (by simp;exact Lf)
    have c1:ud.cells=[ud]:=Sl.fM x4.1
    have o1:ud.one=true:=Sl.qW x4.1
    have c2:up.cells=[up]:=Sl.fM y4.1
    have o2:up.one=true:=Sl.qW y4.1
    have l1:d+1<=us.length:=Ld
    have l2:p+1<=us.length:=Lf
    simp[-V.cells, -V.one,dt,cG,hr,h6,a3,h4,h5,VC,zk,Gp,yH,BC,g1,x3,y3,hR,bD,c1,o1,c2,o2,e1,e2,l1,l2]
    have kG:=(k1.set (i:=R) (o:=.cells (us.set d up) 23 true) s1.ge).set (i:=R) (o:=.cells ((us.set d up).set p ud) 23 true) s1.ge
    have gB:((H1.set R (.cells (us.set d up) 23 true)).set R (.cells ((us.set d up).set p ud) 23 true)).get R=some (.cells ((us.set d up).set p ud) 23 true):=by rw[T.ag,ax rfl]
    generalize (H1.set R (.cells (us.set d up) 23 true)).set R (.cells ((us.set d up).set p ud) 23 true)=G at*
    have Em:(m1.set d rp).set p rd=cf m1 d p:=by unfold cf;rw[yF,yG];rfl
    rw[Em]at sB
    have xx:((us.set d up).set p ud).length=m1.length:=by simp only[zn];omega
    generalize (us.set d up).set p ud=vs at*
    have VD:bZ m1 (B d):=by rw[<-mL,<-hd];exact hK _
    have Aa:=VD.BD (d:=d) (p:=p)
    have Lg:=Jn.BD du hp
    have VE:(cf m1 d p).length=m1.length:=pz
    have aW:=@Gq m1 k (m1.length-d) d (by unfold eS at vt;omega)
    have al:(cf m1 d p)[d]?=some rp:=by
     rw[<-Em]
     by_cases e:p=d
     ·subst e;rw[yF]at yG;simp only[an]at yG;subst yG;rw[jB (by simp;omega)]
     ·rw[eH e,jB du]
    have vu:rp[k]?.getD 0≠0:=by
     have h9:=vt
     unfold eS at h9
     rw[h9,yG]at aW
     exact aW
    obtain⟨ky,vd,z1,z2,z3,z4⟩:=sB.at al
    rw[gB]at z1
    simp only[an,O.cells.injEq,and_true]at z1
    subst z1
    have VF:=Lg rp (bM al)
    obtain⟨q,hq⟩:=a_ (l:=rp) (k:=k) (by omega)
    have yC:=Aa rp (bM al)
    have iU:=yC q (bM hq)
    have tj:q≠0:=by rw[hq]at vu;exact vu
    have hkq:=hB d yH hdk
    obtain⟨i1,t1,w1,e3,v1,q1,q2,q3,q4⟩:=z4.1.at (xw hq)
    have oc:=z4.1.len
    have bG:(k:Int)<(rp.length:Int):=by omega
    have eF:k<rp.length:=by omega
    simp[dt,cG,hr,a3,h4,h5,zk,yH,z3,q1,q2,q3,q4,bG,eF,oc,mq,gB,hR]
    refine ay (Yoh iU (by omega) tj) ?_
    rintro _ H2 n2 k2 rfl
    have jA:=k2.le
    have xy:R<n2:=by omega
    have qj:=(k2.get R hR).trans gB
    simp[z3,qj,xy,dt,cG,hr,a3,h4,h5]
    refine ay (Zs8 (z4.1.ad k2) yC (VG iU tj) (by omega) (by omega) (by omega)) ?_
    rintro v3 H3 n3 k3 o3
    have t3:=(Gn o3).old (N0:=N0)
    have BA:=k3.le
    have s3:=(sB.ad k2).ad k3
    have Ej:=(k3.get R xy).trans qj
    have Lh:R<n3:=by omega
    have uO:d<vs.length:=by omega
    have Gs:d+1<=vs.length:=uO
    have e4:∀u,ae vs d [u]=vs.set d u:=fun u=>Cy uO
    have c3:v3.cells=[v3]:=Sl.fM t3.1
    have o4:v3.one=true:=Sl.qW t3.1
    simp(disch:=first|(simp;done)|omega|rfl) [-V.cells, -V.one,dt,cG,hr,a3,h4,h5,Ej,xy,Lh,bD,c3,o4,e4,uO,Gs]
    have sC:=s3.put Ej t3 (i:=d) (by rw[VE];exact du)
    have Gt:(cf m1 d p).set d (rp.map fun x=>x*q⁻¹)=fJ (cf m1 d p) d k:=by
     unfold fJ
     rw[al]
     simp only[jz,hq,Rat.div_def]
    rw[Gt]at sC
    have Jo:(fJ (cf m1 d p) d k).length=m.length:=by rw[BE,pz];exact hlen
    refine lG (Yip (h:=h) (d:=d) (K:=B d) sC (Lg.Gu (by omega)) au (by omega) (by omega) (by omega) (fun i hi=>by
     unfold fJ
     rw[eH (Ne.symm hi)]
     exact Aa.at) (by
     unfold fJ
     rw[jB (by omega)]
     exact Ylz Aa (yD _) (by rw[al];exact vu)) (by omega) (((kG.trans k2).trans k3).set sC.ge) (by simp[tK.2 s1.ge,hW]) (by simp[dt,hr,a3,Jo]) (by simp[dt,h4]) (by simp[dt,h5]) (by simp)) ?_
    rintro _ _ ⟨H4,n4,W4⟩ ⟨rfl,Li,k4,s4,r4,f4,rfl⟩
    simp only at Li k4 s4
    have pU:=f4.dN
    have Cz:=cG.inner (D':=[(7,7),(75,104)]) (by decide) (fun hx=>by simpa[Fx.set]using hx) pU
    have dK:aK m (k+1)=(cg (fJ (cf m1 d p) d k) d k m1.length,d+1,(aK m k).2.2++[k]):=by
     rw[uM];unfold iV;rw[mL,hd,vt,ax hp]
    simp(disch:=first|(simp;done)|omega|rfl) [pU,Cz,dt,hr,a3,h4,h5,Li,k4]
    refine⟨c-(k+1),by omega,k+1,by omega,rfl,by simp,?_,?_⟩
    ·rw[dK];simp
    ·rw[dK];rw[Jo,<-hlen]at s4;exact s4
   ·have dK:aK m (k+1)=aK m k:=by rw[uM];unfold iV;rw[ak hp]
    have BF:eS (aK m k).1 (aK m k).2.1 k=m.length:=by unfold eS at hp ⊢;omega
    rw[BF]at h6
    simp(disch:=first|(simp;done)|omega|rfl) [dt,cG,hr,h6,a3,h5,hW,k1]
    refine⟨c-(k+1),by omega,k+1,by omega,rfl,by simp,?_,?_⟩
    ·rw[dK];simpa using h4
    ·rw[dK];exact s1
  ·obtain rfl:k=c:=by omega
   simp[A.qY,hr,hf,a3,h5,h4,gg,yE,g1,g3,hR,vn,k1,hW]
   exact s1
 ·rintro _ r st hr ⟨rfl,hw,k1,s1,h4⟩
  simp[]
  exact⟨hw,k1,s1,r,⟨hr,rfl,rfl⟩,rfl,h4⟩
variable {N n:Nat} {h:T O} {l:List Int} {m:List (List Rat)} {v:V}
def Lj{m:List (List Rat)}{k:Nat}(h:(aK m k).2.1=m.length):∀{n:Nat},aK m (k+n)=aK m k
 |0=>rfl
 |n+1=>by
  rw[Nat.add_succ,uM,Lj h]
  unfold iV
  rw[ak]
  unfold eS
  rw[BB,h,Nat.sub_self]
  simp[od]
def Yf2{m:List (List Rat)}:∀{n:Nat},(aK m n).2.2.length=(aK m n).2.1
 |0=>rfl
 |n+1=>by
  have:=@Yf2 m n
  rw[uM]
  unfold iV
  split
  ·simp[this]
  ·exact this
def bY(m:List (List Rat))(n:Nat):List (List Rat):=(aK m n).1.take (aK m n).2.1
def xz(h:bp m n):(bY m n).length=(aK m n).2.1:=by
 unfold bY
 rw[gO,BB]
 have:=(@lF m n h n).2
 omega
def Yq5{s:aQ}(h:bj s=0)(hn:s.length<=n)(h1:0<n):Qb (4*n) (kI s):=by
 obtain⟨e,_,_⟩:=Lk h
 have hb:=VH (kI s)
 have l1:(bk (aP (kI s))).length<=n:=by
  rw[e];unfold bk;split
  ·simp;omega
  ·exact hn
 rw[hb]at l1
 have g:∀m:Nat,(aq m).length<=n->m<2^(4*n):=fun m hm=>e_ ((Ql h1).1 hm) (Yl8 n)
 split at l1
 ·rename_i h2
  have h3:(aq 1).length=1:=by rw[Qm];rfl
  exact⟨g _ l1,by rw[h2];exact g 1 (by omega)⟩
 ·simp at l1
  exact⟨g _ (by omega),g _ (by omega)⟩
def Jp.qb{m:List (List aQ)}(h:Jp m n):bp (fN m) n/\bZ (fN m) 96:=⟨fun r hr=>(h.rat r hr).1,fun r hr q hq=>by
 obtain⟨s,hs,rfl⟩:=eC.1 hr
 obtain⟨t,ht,rfl⟩:=eC.1 hq
 have:=(h.row s hs).2 t ht
 exact Yq5 this.1 this.2 (by decide)⟩
def Ll{m:List (List aQ)}:(fN m).length=m.length:=by simp[fN]
def CA(l:List Int):List (List V):=l.map fun z=>[V.int .i64 z]
def qZ(N0:Nat)(h:T O)(N:Nat)(v:V)(l:List Int):Prop:=Own 1 3 N0 h N v (CA l)/\(l=[]->v=.aa)
def qZ.nil{N0:Nat}:qZ N0 h N .aa []:=⟨Own.nil,fun _=>rfl⟩
def qZ.ad{N0:Nat}{h':T O}{N':Nat}(s:qZ N0 h N v l)(k:ab h N h' N'):qZ N0 h' N' v l:=⟨s.1.ad k,s.2⟩
def qZ.vw{N0:Nat}{h':T O}{N' R:Nat}{o:O}(s:qZ N0 h N v l)(g:h.get R=some o)(he:∀z,o≠.cells z 3 true)(k:dS (fun i=>i=R) h N h' N'):qZ N0 h' N' v l:=by
 obtain⟨⟨hl,s|⟨i,h1,h2,h3,h4⟩⟩,hn⟩:=s
 ·exact⟨⟨hl,.inl s⟩,hn⟩
 ·refine⟨⟨hl,.inr ⟨i,h1,h2,e_ h3 k.le,(k.get i h3 fun hc=>?_).trans h4⟩⟩,hn⟩
  rw[hc,g]at h4
  simp only[an]at h4
  exact he _ h4
def qZ.push{B N0:Nat}{x:V}{k:Int}{w:List Nat}(s:qZ N0 h N v l)(hB:B<=N0)(hN:N0<=N)(hw:ar B w=[])(hx:ef ⟨h,N,w⟩ 1 x=some (1,[.int .i64 k]))(hl:l.length<1000):∃v' h' w',gX ⟨h,N,w⟩ 1 8 3 v x=some (v',⟨h',N+1,w'⟩)/\ar B w'=[]/\dS (fun i=>i∈cQ v) h N h' (N+1)/\mM 3 NW h v/\(∀i∈cQ v,N0<=i)/\qZ N0 h' (N+1) v' (l++[k]):=by
 obtain⟨s,hn⟩:=s
 have sB:Own 1 3 B h N v (CA l):=⟨s.1,s.2.imp id fun ⟨i,a,b,c⟩=>⟨i,a,by omega,c⟩⟩
 have hY:∀c∈CA l,∀y∈c,NW y:=fun c hc y hy=>by
  obtain⟨p,_,rfl⟩:=eC.1 hc
  simp at hy
  subst hy
  exact fun m=>by simp
 have h0:CA l=[]->v=.aa:=fun h0=>hn (List.map_eq_nil_iff.1 h0)
 have hb:2*((CA l).length+1)*8<=281474976710656:=by simp only[CA,gY];omega
 obtain⟨v1,h1,w1,a1,a2,_,_,_,_⟩:=En (Y:=NW) (bytes:=8) (w:=w) sB h0 hY (by omega) (by decide) rfl hx hb
 obtain⟨v2,h2,w2,b1,_,_,b4,b5,b6⟩:=En (Y:=NW) (bytes:=8) (w:=w) s h0 hY hN (by decide) rfl hx hb
 rw[a1]at b1
 simp only[an,bs,St.mk.injEq,true_and]at b1
 obtain⟨rfl,rfl,rfl⟩:=b1
 refine⟨v1,h1,w1,a1,a2.trans hw,b4,b5,fun i hi=>?_,by simpa[CA]using b6,fun hc=>by simp at hc⟩
 obtain⟨_,⟨_,rfl⟩|⟨j,rfl,c1,_⟩⟩:=s
 ·simp[cQ]at hi
 ·simp[cQ]at hi
  omega
def qZ.sl{N0:Nat}(s:qZ N0 h N v l):Sl h N v (dI l):=by
 have:=s.1.sn
 have e:CA l=(dI l).map fun y=>[y]:=by unfold CA dI;rw[List.map_map];rfl
 rw[e]at this
 exact Sn.one.1 this
open Go
def Qn(r:T V)(n:Nat)(ps:List Nat)(a b:bN)(d:Nat):Lm:={st:=.ready,eW:=none,r:=r,n:=n,ps:=ps,assign:=a,body:=b,defs:=d}
def Ln:Option Ex->Ex
 |none=>.normal
 |some e=>e
def Zzy{C:Cx}{K:List Kf}{Q:Rs->Prop}{g:Src}{ps:List Nat}{a b:bN}{r:T V}{n N:Nat}{h:T O}{w:List Nat}{gv:V}{P:V->St->Prop}(hg:g.ev r=some gv)(hy:gv.Gw=false)(hc:Call C gv [.yield (N+1)] ⟨(h.set N (.defs true)).set (N+1) (.loop (Qn r n ps a b N)),N+1+1,w⟩ P)(k:∀v aA,P v aA->∃R,aA.h.get (N+1)=some (.loop R)/\R.st≠.busy/\bz C K (some (.ex (Ln R.eW) ⟨r,n,[N]⟩ (aA.write (N+1) (.loop {R with st:=.exhausted})))) Q):bz C K (eK (C.code none (.jd g ps a b) ⟨r,n,[]⟩ ⟨h,N,w⟩)) Q:=by
 obtain⟨v,aA,e,p⟩:=hc.ex
 obtain⟨R,h1,h2,h3⟩:=k v aA p
 have e2:C.code none (.jd g ps a b) ⟨r,n,[]⟩ ⟨h,N,w⟩=some (Ln R.eW,⟨r,n,[N]⟩,aA.write (N+1) (.loop {R with st:=.exhausted})):=by
  rw[Cx.df]
  show Ab g ps a b C.call C.code none ⟨r,n,[]⟩ ⟨h,N,w⟩=_
  unfold Ab
  simp only[hg,hy,Qo,St.alloc]
  unfold Qn at e
  simp only[fL,if_false,e,h1,h2]
  unfold Ln
  rfl
 rw[e2]
 exact h3
def Ykh{C:Cx}{K:List Kf}{Q:Rs->Prop}{rs:List Eo}{st:St}{e:Ex}{r:T V}{n d:Nat}{h1:T O}{n1:Nat}{w1:List Nat}(hd:h1.get d=some (.defs true))(he:∀i,e≠.exit i):bz C (.fin rs st::K) (some (.ex e ⟨r,n,[d]⟩ ⟨h1,n1,w1⟩)) Q↔bz C K (Qp (h1.set d (.defs false)) n1 (ar st.n (d::w1)++st.w) (fB r ⟨h1.set d (.defs false),n1,d::w1⟩ rs)) Q:=iW (by
 have:shut ⟨h1,n1,w1⟩ [d]=some ⟨h1.set d (.defs false),n1,d::w1⟩:=by
  unfold shut
  simp only[hd]
  rfl
 cases e with
 |exit i=>exact absurd rfl (he i)
 |normal=>
  simp only[iH,lH,q8,this]
  rcases fB r _ rs with _|_<;>rfl
 |ret=>
  simp only[iH,lH,q8,this]
  rcases fB r _ rs with _|_<;>rfl)
def Yby{C:Cx}{l:Nat}{args:List V}{st:St}{R:Lm}{r0:T V}{P:V->St->Prop}(hx:C.x (.yield l) args st=none)(hl:st.h.get l=some (.loop R))(hs:R.st=.ready)(hp:CB R.r R.n R.ps args=some r0)(hc:Code C (some l) R.assign ⟨r0,R.n,[]⟩ st (fun e fr bV=>e=.normal/\bV.h.get l=some (.loop R)/\Code C (some l) R.body fr (bV.write l (.loop {R with st:=.busy})) (fun e2 _ eI=>∃R2,eI.h.get l=some (.loop R2)/\P (.bool (q9 e2).isNone) (eI.write l (.loop {R2 with st:=Jq (q9 e2),eW:=q9 e2}))))):Call C (.yield l) args st P:=by
 obtain⟨e,fr,bV,e1,rfl,g1,hb⟩:=hc.ex
 obtain⟨e2,Ac,eI,e3,R2,g2,p⟩:=hb.ex
 refine⟨_,_,?_,p⟩
 rw[Cx.mO]
 unfold tk
 rw[hx]
 show CC C.code l args st=_
 unfold CC
 simp only[hl,hp,e1,g1,hs,if_true,e3,g2]
def fK.vz{h h':T O}{N N' B:Nat}{u v:V}{m:List (List Rat)}{e:TypeId}(s:fK h N u m)(k:dS (fun i=>i=B) h N h' N')(g:h.get B=some (.cells [.aa] e true))(he:e≠108)(h0:0<m.length)(hm:∀r∈m,0<r.length):fK h' N' u m:=by
 obtain⟨us,h1,h2,h3⟩:=s
 have hd:mM e NW h (.slice B 0 1 none 1):=fun i hi=>by
  simp[cQ]at hi
  subst hi
  exact⟨_,g,by simp,fun y hy=>by simp at hy;subst hy;exact fun m=>by simp⟩
 have k':dS (fun i=>i∈cQ (.slice B 0 1 none 1)) h N h' N':=k.mono fun i _ hi=>by simp[cQ];exact hi
 refine⟨us,h1.bO k fun i hi hc=>?_,h2,fun j l hl=>?_⟩
 ·subst hc
  obtain⟨l,hl⟩:=a_ h0
  obtain⟨x,g1,g2⟩:=h3 0 l hl
  have eG:=hm l (bM hl)
  obtain⟨j,o,c,e',mP,q1,q2,q3,q4⟩:=h1.at g1
  have hj:j=i:=by
   cases u<;>simp[xA,cQ]at q1 hi
   all_goals omega
  subst hj
  rw[g]at q3
  simp only[an,O.cells.injEq]at q3
  obtain⟨rfl,_⟩:=q3
  have:x=.aa:=by
   have:=bM q4
   simpa using this
  subst this
  have hlen:=g2.1.len
  simp[pA]at hlen
  omega
 ·obtain⟨x,g1,g2⟩:=h3 j l hl
  exact⟨x,g1,g2.bO k' hd he⟩
variable {R:Nat} {m:List (List Rat)}
set_option maxHeartbeats 2000000
def A.VI:=A.q Tryz.f57
def A.oe:=A.ql A.VI 1 []
def A.q_:=(fun x0=>A.ql A.VI 0 [x0]) A.oe
def A.b57:=(fun x0=>A.qb A.VI [x0]) A.q_
def A.k57:=@A.kk 57 120 [.tmp 2,.tmp 3] A.b57 (by kernel_rfl) rfl
def mr.at{h:T O}{N:Nat}(s:mr h N R m){j:Nat}{l:List Rat}(hj:m[j]?=some l):∃us u,h.get R=some (.cells us 72 true)/\us.length=m.length/\us[j]?=some u/\dT h N u l:=by
 obtain⟨us,g1,g2,_,_,g5⟩:=s.ex
 obtain⟨u,a1,a2⟩:=g5 j l hj
 exact⟨us,u,g1,g2,a1,a2⟩
def mr.CD{h:T O}{N i:Nat}{u:V}{l:List Rat}{us:List V}(s:mr h N R m)(g:h.get R=some (.cells us 72 true))(hu:dT h N u l)(hi:i<m.length):mr (h.set R (.cells (us.set i u) 72 true)) N R (m.set i l):=by
 obtain⟨vs,g1,_,g2⟩:=s.put hu hi
 rw[g]at g1
 simp only[an,O.cells.injEq,and_true]at g1
 subst g1
 exact g2
def Jr{c:List V}(h:c.length=4):aC c 0 4=some c:=by unfold aC;rw[h];simp;exact fb (by omega)
def Qq{c:List V}(h:c.length=4):ae [V.int .i64 0,.aa,.int .i64 0,.aa] 0 c=c:=by unfold ae;rw[h];simp
def Yic{α:Type}{l:List α}{i:Nat}{a:α}(h:l[i]?=some a):l.set i a=l:=by
 apply og
 intro j
 by_cases e:j=i
 ·subst e
  rw[jB (xB.1 h).1,h]
 ·rw[eH (Ne.symm e)]
def Yuz{q:Rat}:dL q.num=0↔q=0:=by
 have h1:=@Ad q
 unfold dL
 constructor
 ·intro hh
  apply h1.1
  split at hh
  ·omega
  ·split at hh<;>omega
 ·intro hh
  have:=h1.2 hh
  rw[this]
  rfl
def Yix{W0:List Nat}{N0:Nat}{H:T O}{n P:Nat}{r0:T V}{d k c K:Nat}{cp:Option Nat}(s:mr H n R m)(Ae:N0<=R)(hP:H.get P=some (.cells [.int .i64 k] 3 true))(hPl:P<n)(hc:bp m c)(hk:k<c)(hd:d<m.length)(mj:m.length<1000)(cO:c<1000)(yD:1<=K)(hK:∀i,i≠d->∀q∈m[i]?.getD [],Qb K q)(hPq:∀q∈m[d]?.getD [],Qb (2*K) q)(hKl:3*K<=400000000)(zj:ar N0 W0=[])(a4:r0.get 4=some (.slice R 0 m.length cp 1))(a6:r0.get 6=some (.int .i64 d))(a7:r0.get 7=some (.ptr P 0))(VJ:r0.get 71=some (.int .i64 m.length))(a72:r0.get 72=some (.int .i64 0)):
  Code A.C none (.loop A.oe) ⟨r0,120,[]⟩ ⟨H,n,W0⟩ (fun e fr st=>e=.exit 2/\ar N0 st.w=[]/\dS (fun i=>i=R) H n st.h st.n/\mr st.h st.n R (cg m d k m.length)/\∃r,Fx [(10,12),(72,104)] r0 120 ⟨r,120,[]⟩/\fr=⟨r,120,[]⟩):=by
 have hPR:¬P=R:=fun hc=>by
  obtain⟨us,g,_⟩:=s.ex
  rw[hc,g]at hP
  simp at hP
 rw[bb]
 refine bA [(10,12),(72,104)] (fun e r st=>e=.exit 2/\ar N0 st.w=[]/\dS (fun i=>i=R) H n st.h st.n/\mr st.h st.n R (cg m d k m.length)) (fun i r st=>ar N0 st.w=[]/\dS (fun i=>i=R) H n st.h st.n/\∃t,t<=m.length/\i=m.length-t/\r.get 72=some (.int .i64 t)/\mr st.h st.n R (cg m d k t)) (m.length) ?_ ?_ ?_
 ·exact⟨zj,dS.refl,0,by omega,by omega,a72,by rw[Ytu];exact s⟩
 ·rintro i r ⟨H1,n1,W⟩ hr hf ⟨hW,k1,t,ht,rfl,Js,s1⟩
  simp only at hW k1 s1
  rw[bb]
  have Jt:=(k1.get P hPl hPR).trans hP
  have Lo:=e_ hPl k1.le
  by_cases au:t<m.length
  ·have aS:(t:Int)<(m.length:Int):=by omega
   have zk:(d:Int)<(m.length:Int):=by omega
   obtain⟨row,al⟩:=a_ au
   obtain⟨mm,iT⟩:=a_ hd
   have xu:=hc row (bM al)
   have iG:=hc mm (bM iT)
   have w2:(cg m d k t)[d]?=some mm:=by rw[Ytt hd];exact iT
   have w1:(cg m d k t)[t]?=some row:=by rw[Ei au,ak (by omega),al];rfl
   obtain⟨us,u,g1,g2,g3,g4⟩:=s1.at w1
   obtain⟨us',v,Cw,_,Ej,Jm⟩:=s1.at w2
   rw[g1]at Cw
   simp only[an,O.cells.injEq,and_true]at Cw
   subst Cw
   obtain⟨q,hq⟩:=a_ (l:=row) (k:=k) (by omega)
   obtain⟨i1,o1,c1,e1,x1,cs,q1,q2,q3,q4,q5⟩:=g4.1.at hq
   obtain⟨z1,z2⟩:=q5.len
   have vn:=g4.1.len
   have bG:(k:Int)<(row.length:Int):=by omega
   have eF:k<row.length:=by omega
   have hR:=s1.lt
   have VK:¬R=n1:=by omega
   have hPn:¬P=n1:=by omega
   have ke:∀c:List V,(V.agg c).cells=c:=fun _=>rfl
   have s0:=Jr z1
   have e4:=Qq z1
   have VL:n1<n1+1:=by omega
   have lR:R<n1+1:=by omega
   have kB:ab H1 n1 ((H1.set n1 (.cells [.int .i64 0,.aa,.int .i64 0,.aa] 108 true)).set n1 (.cells cs 108 true)) (n1+1):=(ab.refl.new _).set (aO _)
   have gN:((H1.set n1 (.cells [.int .i64 0,.aa,.int .i64 0,.aa] 108 true)).set n1 (.cells cs 108 true)).get n1=some (.cells cs 108 true):=by rw[T.ag,ax rfl]
   by_cases e:t=d
   ·subst e
    rw[<-Zyr]at s1
    simp(disch:=first|(simp;done)|omega|rfl) [-V.cells, -V.one,A.oe,hr,hf,a4,a6,a7,VJ,Js,au,aS,g1,g3,hR,q1,q2,q3,q4,Ju q4,vn,bG,eF,Jt,Lo,bD,ke,z1,z2,s0,e4,VL,VK,hPn,k1,hW]
    have tL:=k1.le
    refine⟨m.length-(t+1),by omega,by omega,(k1.new _).set (.inr tL),t+1,by omega,rfl,by simp,s1.ad kB⟩
   ·have e':¬(t:Int)=(d:Int):=by omega
    simp[-V.cells, -V.one,A.oe,hr,hf,a4,a6,a7,VJ,Js,au,aS,zk,hd,g1,g3,Ej,hR,q1,q2,q3,q4,Ju q4,vn,bG,eF,Jt,Lo,bD,ke,z1,z2,s0,e4,VL,VK,hPn,e,e']
    have sB:=s1.ad kB
    have gR:=(kB.get R hR).trans g1
    have qB:=q5.ad kB
    have rB:=g4.ad kB
    have pB:=Jm.ad kB
    have kU:dS (fun i=>i=R) H n ((H1.set n1 (.cells [.int .i64 0,.aa,.int .i64 0,.aa] 108 true)).set n1 (.cells cs 108 true)) (n1+1):=(k1.new _).set (.inr k1.le)
    generalize (H1.set n1 (.cells [.int .i64 0,.aa,.int .i64 0,.aa] 108 true)).set n1 (.cells cs 108 true)=G at*
    refine ay (VM qB.fc) ?_
    rintro _ H2 n2 k2 rfl
    have jA:=k2.le
    have Lp:¬n1<N0:=by have:=s.lt;have:=k1.le;omega
    have qj:=(k2.get R (by omega)).trans gR
    have Jv:=(k2.get n1 (by omega)).trans gN
    have xy:R<n2:=by omega
    have lN2:n1<n2:=by omega
    have VN:=@Ad q
    have hz:(dL q.num=0)↔q=0:=Yuz
    by_cases c0:q=0
    ·have vk:=hz.2 c0
     simp(disch:=first|(simp;done)|omega|rfl) [hr,hf,Js,vk,aJ,Lp,hW]
     refine⟨m.length-(t+1),by omega,kU.trans k2.upd,t+1,by omega,rfl,by simp,?_⟩
     rw[Vy au e,al,iT]
     simp only[jz]
     rw[Yct (by rw[hq];exact c0),Yic w1]
     exact sB.ad k2
    ·have vk:¬dL q.num=0:=fun hc=>c0 (hz.1 hc)
     simp[hr,hf,a4,a6,Js,vk,aJ,qj,xy,g3,Ej,au,aS,hd,zk]
     have yC:∀q∈row,Qb K q:=by have:=hK t e;rw[al]at this;exact this
     have uL:∀q∈mm,Qb (2*K) q:=by have:=hPq;rw[iT]at this;exact this
     have iU:=yC q (bM hq)
     refine ay (Yfh (fun x y=>x-q*y) (rB.1.ad k2) (pB.1.ad k2) (by omega) (fun x hx y hy h' n' ca cb k' ha hb=>Ytv (i:=K) (j:=2*K) (k:=K) ((k'.get n1 lN2).trans Jv) (e_ lN2 k'.le) ha hb ((qB.ad k2).ad k') (yC x hx) (uL y hy) iU (by omega) (by omega) (by omega) (by omega) (by omega)) (by omega)) ?_
     rintro v3 H3 n3 k3 t3
     have BA:=k3.le
     have s3:=(sB.ad k2).ad k3
     have Jm:=(k3.get R xy).trans qj
     have xx:t<us.length:=by rw[g2,zm];exact au
     have vo:t+1<=us.length:=xx
     have jc:(t:Int)<(us.length:Int):=by omega
     have gb:∀u,ae us t [u]=us.set t u:=fun u=>Cy xx
     have Lh:R<n3:=by omega
     obtain⟨_,Vx,VO⟩:=t3.Ep
     simp(disch:=first|(simp;done)|omega|rfl) [-V.cells, -V.one,bD,VO,Vx,gb,xx,vo,Jm,xy,Lh,hr,hf,Js]
     have eg:n_ (fun x y=>x-q*y) row mm row.length=qX row mm k:=by unfold qX;rw[hq];rfl
     rw[eg]at t3
     have sp:=s3.CD Jm t3 (i:=t) (by rw[zm];exact au)
     refine⟨m.length-(t+1),by omega,by rw[ak (by omega),ak Lp];exact hW,((kU.trans k2.upd).trans k3.upd).set (.inl rfl),t+1,by omega,rfl,by simp,?_⟩
     rw[Vy au e,al,iT]
     exact sp
  ·obtain rfl:t=m.length:=by omega
   simp[A.oe,hr,hf,a4,a6,VJ,Js,k1,hW]
   exact s1
 ·rintro _ r st hr ⟨rfl,hw,k1,s1⟩
  simp[]
  exact⟨hw,k1,s1,hr,rfl,rfl⟩
end
end Go.Mx
