/-lensletref06-/
import Derived.Test.YtgnadghjglamaaaGreatDoorLpC
set_option linter.all false
set_option maxHeartbeats 4000000
namespace Go.Mx
noncomputable section
open Go Go.Proofs
set_option maxRecDepth 1000000
def A.w38:=A.q Tryz.f38
def A.zgY:=A.ql A.w38 1 []
def A.zf3:=(fun x0=>A.ql A.w38 0 [x0]) A.zgY
def A.b38:=(fun x0=>A.qb A.w38 [x0]) A.zf3
def A.k38:=@A.kk 38 49 [.tmp 2] A.b38 (by kernel_rfl) rfl
structure Xat (h:T O) (N:Nat) (l:List Rat) (k m:Nat) (r:T V) (st:St):Prop where
 w:aD N st.w=[]
 ah:ae h N st.h st.n
 ex:∃(v:V) (p:List Rat),r.get 0=some v/\Tx st.h st.n v p/\p.length=m+1/\m+1<=l.length/\pg p m≠0/\(∀q∈p,Qb (k*5^(l.length-1-m)) q)/\Zqb (m+1) p=Zqb l.length l
def Ywr{h:T O}{N k:Nat}{v:V}{l:List Rat}(hs:Tx h N v l)(h1:1<=l.length)(hl:l.length<=13)(h0:pg l (l.length-1)≠0)(hq:∀q∈l,Qb k q)(hk:1<=k)(gO:k*5^(l.length-1)<=200000000):Fn A.C 38 [v] h N (fun x _ _=>x=.bool (Zqb l.length l)):=by
 intro w
 rw[aV,A.k38 (by simp)]
 simp(disch:=first|(simp;done)|omega|rfl) [-getElem?_pos,A.b38]
 refine c_ [(0,0),(2,48)] (fun e r st=>aD N st.w=[]/\ae h N st.h st.n/\((e=.exit 0/\Zqb l.length l=true)\/(e=.ret/\Zqb l.length l=false/\r.get 2=some (.bool false)))) (Xat h N l k) (l.length-1) ?_ ?_ ?_
 ·refine⟨by simp,ae.refl,v,l,by simp,hs,by omega,by omega,h0,fun q hm=>?_,by rw[show l.length-1+1=l.length from by omega]⟩
  rw[Nat.sub_self,AH,tE];exact hq q hm
 ·rintro m r ⟨H,n1,W⟩ hr hf ⟨hW,hK,v,p,r0,hp,pl,Lg,pz,pq,ps⟩
  simp only at hW hK hp
  have lv:=hp.len
  rw[pl]at lv
  have uG:Sl H n1 v (tx p):=hp
  rw[dk]
  cases m with
  |zero=>
   rw[Yxb (by omega)]at ps
   simp(disch:=first|(simp;done)|omega|rfl) [-getElem?_pos,A.zf3,hr,hf,r0,lv,hW,hK,<-ps]
  |succ m=>
   obtain⟨i0,o0,x0,e0,w0,a1,a2,a3,a4⟩:=uG.at (vV (eL (p:=p) (i:=0) (by omega)))
   obtain⟨i1,o1,x1,e1,w1,b1,b2,b3,b4⟩:=uG.at (vV (eL (p:=p) (i:=m+1) (by omega)))
   rw[a1]at b1
   obtain⟨rfl,rfl⟩:i0=i1/\o0=o1:=by simpa using b1
   rw[a3]at b3
   obtain⟨rfl,rfl,rfl⟩:x0=x1/\e0=e1/\w0=w1:=by simpa using b3
   rw[tF]at a4
   have g1:(1:Int)<(m:Int)+1+1:=by omega
   have g6:(m:Int)+1<(m:Int)+1+1:=by omega
   have g7:(0:Int)<(m:Int)+1+1:=by omega
   have g8:(0:Int)<=(m:Int)+1:=by omega
   have g9:((m:Int)+1).toNat=m+1:=by omega
   have g2:((m+1+1:Nat):Int)-1<((m+1+1:Nat):Int):=by omega
   have g3:(((m+1+1:Nat):Int)-1).toNat=m+1:=by omega
   have g4:(0:Int)<((m+1+1:Nat):Int):=by omega
   have g5:(0:Int)<=((m+1+1:Nat):Int)-1:=by omega
   have uz:k*5^(l.length-1-(m+1))*5=k*5^(l.length-1-m):=by
    rw[uA,<-fO];congr 2;omega
   have Lh:k*5^(l.length-1-m)<=200000000:=sF (je k (pc (by omega) (by omega))) gO
   have hBk:1<=k*5^(l.length-1-(m+1)):=tH hk (vU (by omega))
   generalize hB:k*5^(l.length-1-(m+1))=B at*
   have Ie:pg p (p.length-1)≠0:=by rw[pl];exact pz
   have ql:=Ywg (by omega) hBk Ie pq
   have qr:=Yv0 (by omega) Ie pq
   have qa:=pq _ (eZ (eL (p:=p) (i:=0) (by omega)))
   have qb:=pq _ (eZ (eL (p:=p) (i:=m+1) (by omega)))
   have er:pg p 0/pg p (m+1)=Zqi p:=by unfold Zqi;rw[pl];rfl
   simp(disch:=first|(simp;done)|omega|rfl) [-getElem?_pos,A.zf3,hr,hf,r0,lv,a1,a2,a3,a4,b4,g1,g2,g3,g4,g5,g6,g7,g8,g9]
   refine az (Yzv qa qb pz (by omega) (by omega)) ?_
   rintro _ h2 n2 k2 rfl
   rw[er]
   have Ig:Qb (B+B) (iE (Zqi p)):=by
    unfold iE;split
    ·exact qr.neg
    ·exact qr
   have la:=jt qr
   have ra:=fun st=>Li (q:=Zqi p) (st:=st) (by omega)
   have hc:=zg (a:=iE (Zqi p)) (b:=1) (k:=1) (h:=h2) (N:=n2) Ig (by unfold Qb;decide) (by omega) (by decide) (by rw[Nr];decide)
   rw[Nr]at hc
   simp(disch:=first|(simp;done)|omega|rfl) [-getElem?_pos,hr,hf,bU.bZ,ra]
   refine az hc ?_
   rintro _ h3 n3 k3 rfl
   have ec:(0<=df (iE (Zqi p)-1).num)↔1<=iE (Zqi p):=by
    have h1:iE (Zqi p)<1↔iE (Zqi p)-1<0:=by grind
    rw[<-Rat.not_lt,h1,<-AE];omega
   generalize df (iE (Zqi p)-1).num=cz at*
   have K3:=(hK.trans k2).trans k3
   have ps2:Zqb (m+1+1) p=if 1<=iE (Zqi p) then false else Zqb (m+1) (jB p):=by
    conv=>lhs;unfold Zqb
    rw[aA (by omega)]
   rw[ps2]at ps
   by_cases cc:1<=iE (Zqi p)
   ·have uB:=ec.2 cc
    rw[aQ cc]at ps
    simp(disch:=first|(simp;done)|omega|rfl) [-getElem?_pos,hr,hf,r0,uB,hW,K3,<-ps]
   ·have uB:¬0<=cz:=fun h=>cc (ec.1 h)
    rw[aA cc]at ps
    have Nk:iE (Zqi p)<1:=Rat.not_le.1 cc
    have Nj:=hK.le
    have hp3:Sl h3 n3 v (tx p):=(uG.ah k2).ah k3
    have nl:(jB p).length=m+1:=by rw[Iz,pl];rfl
    simp(disch:=first|(simp;done)|omega|rfl) [-getElem?_pos,hr,hf,r0,uB]
    refine c_ [(5,6),(25,47)] (fun e r st=>e=.exit 2/\aD N st.w=[]/\ae h3 n3 st.h st.n/\∃u,r.get 5=some u/\Tx st.h st.n u (jB p)) (fun i r st=>aD N st.w=[]/\ae h3 n3 st.h st.n/\∃(t:Nat) (u:V),t+i=m+1/\r.get 6=some (.int .i64 t)/\r.get 5=some u/\Own 1 22 n3 st.h st.n u ((tx ((jB p).take t)).map fun y=>[y])) (m+1) ?_ ?_ ?_
    ·exact⟨hW,ae.refl,0,.aa,by omega,by simp,by simp,by simpa[tx,strs]using Own.nil⟩
    ·rintro i r' ⟨H7,n7,W7⟩ rQ yV ⟨xf,hK7,t,u,ht,r6,r5,ho⟩
     simp only at xf hK7 ho
     rw[dk]
     cases i with
     |zero=>
      obtain rfl:t=m+1:=by omega
      rw[iP (by omega)]at ho
      simp(disch:=first|(simp;done)|omega|rfl) [-getElem?_pos,A.zgY,rQ,yV,hr,hf,r6,xf,hK7]
      exact⟨u,r5,(Ywe ho).1⟩
     |succ i=>
      have dE:(t:Int)<(m:Int)+1:=by omega
      have Ih:=hp3.ah hK7
      have Nl:=Ih.len
      rw[rS,pl]at Nl
      have le7:=hK7.le
      obtain⟨j0,u0,y0,z0,q0,b1,b2,b3,b4⟩:=Ih.at (vV (eL (p:=p) (i:=t+1) (by omega)))
      obtain⟨j1,u1,y1,z1,q1,x1,x2,x3,x4⟩:=Ih.at (vV (eL (p:=p) (i:=m-t) (by omega)))
      rw[b1]at x1
      obtain⟨rfl,rfl⟩:j0=j1/\u0=u1:=by simpa using x1
      rw[b3]at x3
      obtain⟨rfl,rfl,rfl⟩:y0=y1/\z0=z1/\q0=q1:=by simpa using x3
      have i1:(0:Int)<=(t:Int)+1:=by omega
      have i2:(t:Int)+1<(m:Int)+1+1:=by omega
      have i3:((t:Int)+1).toNat=t+1:=by omega
      have i4:(0:Int)<=(m:Int)-t:=by omega
      have i5:(m:Int)-t<(m:Int)+1+1:=by omega
      have i6:((m:Int)-t).toNat=m-t:=by omega
      have bx:=pq _ (eZ (eL (p:=p) (i:=t+1) (by omega)))
      have Nm:=pq _ (eZ (eL (p:=p) (i:=m-t) (by omega)))
      have bm:=qr.mul Nm
      have lm:=jt bm
      simp(disch:=first|(simp;done)|omega|rfl) [-getElem?_pos,A.zgY,rQ,yV,hr,hf,r0,r6,r5,dE,Nl,b1,b2,b3,b4,x4,i1,i2,i3,i4,i5,i6]
      refine az (uM qr Nm (by omega) (by omega)) ?_
      rintro _ h8 n8 k8 rfl
      simp(disch:=first|(simp;done)|omega|rfl) [-getElem?_pos,]
      refine az (Dl bx bm (by omega) (by omega) (by omega)) ?_
      rintro _ h9 n9 k9 rfl
      have en:pg p (t+1)-Zqi p*pg p (m-t)=pg (jB p) t:=by
       rw[Yv2 (by omega),pl,show m+1+1-1-1-t=m-t from by omega]
      rw[en]
      have K9:=k8.trans k9
      have le9:=K9.le
      obtain⟨u',h',w',j1',j2',uL,_,RY⟩:=xh (x:=[.str (ax (pg (jB p) t))]) (u:=.slice n9 0 1 (some 1) 1) (bytes:=16) (w:=[]) ((ho.ah K9).ah (ae.refl.new (.cells [.str (ax (pg (jB p) t))] 22 true))) (by omega) (by decide) rfl (by simp[gp,St.row,aE]) (by simp[rS];omega)
      have e7:((tx ((jB p).take t)).map fun y=>[y])++[[.str (ax (pg (jB p) t))]]=(tx ((jB p).take (t+1))).map fun y=>[y]:=by
       rw[HY,eL (by omega)];simp[tx,strs]
      rw[e7]at RY
      have ow:aD N w'=[]:=Ir j2' (by have:=k2.le;have:=k3.le;omega) rfl
      simp(disch:=first|(simp;done)|omega|rfl) [-getElem?_pos, -aD,rQ,yV,r6,r5,ag,j1']
      exact⟨i,by omega,Yjn ow xf,((hK7.trans K9).trans (ae.refl.new (.cells [.str (ax (pg (jB p) t))] 22 true))).then uL,t+1,by omega,by simp,RY⟩
    ·rintro _ r' ⟨H7,n7,W7⟩ rQ ⟨rfl,xf,hK7,u,r5,hu⟩
     simp only at xf hK7 hu
     have sH:=Yv3 (by omega) Ie Nk
     rw[nl,show m+1-1=m from rfl]at sH
     rw[gk B 5]at uz
     simp(disch:=first|(simp;done)|omega|rfl) [-getElem?_pos,rQ,r5,hr,hf]
     have BI:=hf.inner (D':=[(5,6),(25,47)]) rfl (fun hh=>by simpa using hh) rQ
     exact⟨by simpa using BI,m,by omega,xf,K3.trans hK7,u,jB p,by simp,hu,nl,by omega,sH,by rw[<-uz];exact ql,ps⟩
 ·rintro _ r ⟨H,n1,W⟩ hr ⟨hW,hK,⟨rfl,h3⟩|⟨rfl,h3,h4⟩⟩
  ·simp only at hW hK
   simp(disch:=first|(simp;done)|omega|rfl) [-getElem?_pos,hr,h3,aF,hW,hK]
  ·simp only at hW hK
   simp(disch:=first|(simp;done)|omega|rfl) [-getElem?_pos,hr,h3,h4,aF,hW,hK]
def A.b39:=A.q Tryz.f39
def A.k39:=@A.kk 39 46 [.tmp 2] A.b39 (by kernel_rfl) rfl
def Ywu{g l p:Rat}{d k:Nat}{h:T O}{N:Nat}(qg:Qb k g)(ql:Qb k l)(qp:Qb k p)(ew:1<=k)(hk:k<=1000)(hd:d<=6):Fn A.C 39 [.agg [.str (ax g),.str (ax l),.str (ax p),.int .i64 d]] h N (fun x h' n'=>Ii h' n' x (Zl3 g l p d)):=by
 intro w
 rw[aV,A.k39 (by simp)]
 have kB:=aI (ae.refl (h:=h) (n:=N)) (.cells [.str (ax g),.str (ax l),.str (ax p),.int .i64 d] 26 true)
 have b0:(h.set N (.cells [.str (ax g),.str (ax l),.str (ax p),.int .i64 d] 26 true)).get N=some (.cells [.str (ax g),.str (ax l),.str (ax p),.int .i64 d] 26 true):=by simp
 have z0:=fun (h:T O) (N:Nat)=>Yxq (h:=h) (N:=N) (n:=d+3) (by omega) (by omega)
 have ez:((d+3:Nat):Int)=(d:Int)+2+1:=by omega
 simp only[ez]at z0
 simp(disch:=first|(simp;done)|omega|rfl) [-getElem?_pos,A.b39]
 generalize h.set N (.cells [.str (ax g),.str (ax l),.str (ax p),.int .i64 d] 26 true)=hB at*
 refine az (z0 hB (N+1)) ?_
 rintro _ h1 n1 k1 ⟨R,rfl,hR,s1⟩
 have uw:=k1.le
 have f1:=(k1.get N (by omega)).trans b0
 have e1:N<n1:=by omega
 have lR:=s1.lt
 have r1:=s1.get
 have d1:(d:Int)+2<(d:Int)+3:=by omega
 have d2:((d:Int)+2).toNat=d+2:=by omega
 have d3:(0:Int)<=(d:Int)+2:=by omega
 have tD:((List.range (d+3)).map fun _=>(0:Rat)).length=d+3:=by simp
 obtain⟨x1,x2⟩:=s1.put (j:=d+2) (q:=1) (by omega)
 rw[Nr]at x1
 have gz:(((List.range (d+3)).map fun _=>(0:Rat)).set (d+2) 1)[d+1]?=some 0:=by
  rw[eR (by omega)];simp
 have xe:(((List.range (d+3)).map fun _=>(0:Rat)).set (d+2) 1).length=d+3:=by simp
 generalize ya:((List.range (d+3)).map fun _=>(0:Rat)).set (d+2) 1=L1 at*
 have t1:=vV gz
 have zfY:ax 0=[48]:=Ij
 have d4:(d:Int)+2-1<(d:Int)+3:=by omega
 have d5:((d:Int)+2-1).toNat=d+1:=by omega
 have d6:(0:Int)<=(d:Int)+2-1:=by omega
 have nR:¬N=R:=by omega
 have kC:ae h N (h1.set R (.cells (tx L1) 22 true)) n1:=(kB.trans k1).set (by omega)
 have f2:(h1.set R (.cells (tx L1) 22 true)).get N=some (.cells [.str (ax g),.str (ax l),.str (ax p),.int .i64 d] 26 true):=by rw[T.aj,aA nR];exact f1
 have nRN:¬R<N:=by omega
 simp(disch:=first|(simp;done)|omega|rfl) [-getElem?_pos,f1,e1,lR,r1,nRN,d1,d2,d3,d4,d5,d6,nR,bE,x1,rS,t1]
 have r2:=x2.get
 generalize h1.set R (.cells (tx L1) 22 true)=H2 at*
 have b0':Qb k 0:=(Qb.int (z:=0) (k:=1) (by decide) (by decide)).mono ew
 have b1':Qb k 1:=(Qb.int (z:=1) (k:=1) (by decide) (by decide)).mono ew
 have ll:=jt ql
 have lp:=jt qp
 refine az (Dl (a:=0) (b:=l) b0' ql (by omega) (by omega) (by omega)) ?_
 rintro _ h3 n3 k3 rfl
 rw[show (0:Rat)-l= -l from by grind]
 have xX:=k3.le
 have La:=x2.ah k3
 obtain⟨y1,y2⟩:=La.put (j:=d+1) (q:= -l) (by omega)
 have r3:=La.get
 have lR3:=La.lt
 have e3:N<n3:=by omega
 have f3:=(k3.get N (by omega)).trans f2
 have g1q:(L1.set (d+1) (-l))[1]?=some (if d=0 then -l else 0):=by
  rw[<-ya]
  by_cases kv:d=0
  ·subst kv;simp
  ·rw[eR (by omega),eR (by omega)];simp[kv]
 have oO:(L1.set (d+1) (-l)).length=d+3:=by simp[xe]
 generalize Lb:L1.set (d+1) (-l)=L2 at*
 have t2:=vV g1q
 have kD:ae h N (h3.set R (.cells (tx L2) 22 true)) n3:=(kC.trans k3).set (by omega)
 have f4:(h3.set R (.cells (tx L2) 22 true)).get N=some (.cells [.str (ax g),.str (ax l),.str (ax p),.int .i64 d] 26 true):=by rw[T.aj,aA nR];exact f3
 have q2:(1:Int)<(d:Int)+3:=by omega
 have q3:(0:Int)<(d:Int)+3:=by omega
 simp(disch:=first|(simp;done)|omega|rfl) [-getElem?_pos,r3,lR3,d4,d5,d6,bE,y1,rS,xe,bU.bZ,f3,e3,nR,q2,t2,oO]
 generalize h3.set R (.cells (tx L2) 22 true)=H4 at*
 have bz:Qb k (if d=0 then -l else 0):=by
  split
  ·exact ql.neg
  ·exact b0'
 refine az (AI qg qp (by omega) (by omega)) ?_
 rintro _ h5 n5 k5 rfl
 simp(disch:=first|(simp;done)|omega|rfl) [-getElem?_pos,]
 refine az (AI bz (qg.add qp) (by omega) (by omega)) ?_
 rintro _ h6 n6 k6 rfl
 have k56:=k5.trans k6
 have le6:=k56.le
 have y3:=y2.ah k56
 obtain⟨z1,z2⟩:=y3.put (j:=1) (q:=(if d=0 then -l else 0)+(g+p)) (by omega)
 have r6:=y3.get
 have lR6:=y3.lt
 have e6:N<n6:=by omega
 have f6:=(k56.get N (by omega)).trans f4
 have g0q:(L2.set 1 ((if d=0 then -l else 0)+(g+p)))[0]?=some 0:=by
  rw[<-Lb,<-ya,eR (by omega),eR (by omega),eR (by omega)];simp
 have M8:(L2.set 1 ((if d=0 then -l else 0)+(g+p))).length=d+3:=by simp[oO]
 generalize hL3:L2.set 1 ((if d=0 then -l else 0)+(g+p))=L3 at*
 have t3:=vV g0q
 have kE:ae h N (h6.set R (.cells (tx L3) 22 true)) n6:=(kD.trans k56).set (by omega)
 simp(disch:=first|(simp;done)|omega|rfl) [-getElem?_pos,r6,lR6,bE,z1,rS,oO,M8,bU.bZ,f6,e6,nR,q2,q3,t3]
 generalize h6.set R (.cells (tx L3) 22 true)=H7 at*
 refine az (Dl (a:=0) (b:=p) b0' qp (by omega) (by omega) (by omega)) ?_
 rintro _ h8 n8 k8 rfl
 rw[show (0:Rat)-p= -p from by grind]
 have z3:=z2.ah k8
 obtain⟨w1,w2⟩:=z3.put (j:=0) (q:= -p) (by omega)
 have r8:=z3.get
 have lR8:=z3.lt
 have RW:=k8.le
 simp(disch:=first|(simp;done)|omega|rfl) [-getElem?_pos,r8,lR8,bE,w1,rS,M8,bU.bZ,q3,nRN,aF]
 have ecq:L3.set 0 (-p)=Zl3 g l p d:=by
  rw[<-hL3,<-Lb,<-ya,<-Rat.add_assoc];rfl
 have fin:=w2.txt
 rw[Dm,M8,ecq]at fin
 rw[ecq]
 exact⟨(kE.trans k8).set (by omega),fin⟩
def Zhm{h:T O}{N:Nat}{w:List Nat}(hP:mC h N):A.C.call (.func 7 [] []) [] ⟨h,N,w⟩=some (.bool true,⟨h,N,w⟩):=by
 exact A.known hP.2
def Xap{k d:Nat}(hk:k<=494)(hd:d<=6):k*5^(d+3-1)<=200000000:=by
 have h1:5^(d+3-1)<=5^8:=pc (by omega) (by omega)
 have h2:=jf hk h1
 have:494*5^8=192968750:=by decide
 omega
variable {N z:Nat} {h:T O} {l:List aU} {v:V} {w:List Nat}
def A.w19:=A.q Tryz.f19
def A.zgU:=A.ql A.w19 0 []
def A.b19:=(fun x0=>A.qb A.w19 [x0]) A.zgU
def A.k19:=@A.kk 19 26 [.tmp 6] A.b19 (by kernel_rfl) rfl
def A.b77:=A.q Tryz.f77
def A.k77:=@A.kk 77 21 [.tmp 6] A.b77 (by kernel_rfl) rfl
def A.zdz:=A.q Tryz.f158
def A.zgk:=A.ql A.zdz 0 []
def A.b158:=(fun x0=>A.qb A.zdz [x0]) A.zgk
def A.k158:=@A.kk 158 18 [.tmp 2] A.b158 (by kernel_rfl) rfl
def A.b12:=A.q Tryz.f12
def A.c12:A.F 12=some ⟨6,[.tmp 2],A.b12⟩:=by kernel_rfl
def A.k12:=@A.kk 12 _ _ _ A.c12 rfl
def Ywh{z:Nat}:∀{l:List (List V)} {c:List V} {o:Nat},(∀j x,l[j]?=some x->aE c (o+j*z) z=some x)->o+l.length*z<=c.length->aE c o (l.length*z)=some l.flatten
 |[],c,o,_,h=>by simp[aE]at h ⊢;omega
 |x::l,c,o,h,hl=>by
  obtain⟨h1,h2⟩:=R6 (h 0 x rfl)
  simp only[ak,jg,Nat.one_mul,Nat.zero_mul,tF]at hl h1 h2 ⊢
  obtain⟨h3,h4⟩:=R6 (Ywh (l:=l) (c:=c) (o:=o+z) (fun j y hj=>by
   have:=h (j+1) y (by simpa using hj)
   rw[show o+z+j*z=o+(j+1)*z by rw[jg];omega];exact this) (by omega))
  unfold aE
  rw[aQ (by omega),List.flatten_cons,h4,h2]
  congr 1
  rw[Nat.add_comm (l.length*z) z,List.take_add,<-List.drop_drop]
def Yz3{l:List (List V)}(s:Sn z h N v l):gp ⟨h,N,w⟩ z v=some (l.length,l.flatten):=by
 rcases s with⟨rfl,rfl|rfl⟩|⟨i,o,cp,c,e,rw,rfl,h2,h3,h4,h5,h6⟩
 ·rfl
 ·rfl
 ·simp only[gp,if_true,St.row,h3,Ywh h4 h5]
def Cw(z:Nat)(e:TypeId)(N0:Nat)(h:T O)(N:Nat)(y:V)(l:List (List V)):Prop:=
 (∀x∈l,x.length=z)/\((l=[]/\∃i,y=.slice i 0 0 (some 0) z/\N0<=i/\i<N/\h.get i=some (.cells [] e true))\/∃i,y=.slice i 0 l.length none z/\N0<=i/\i<N/\h.get i=some (.cells l.flatten e true))
def Yz1{bytes:Nat}{e:TypeId}{N0:Nat}{i:Nat}{l:List (List V)}(hz:0<z)(hs:Sn z h N v l)(R7:∀x∈l,x.length=z)(hi:i<N)(h0:N0<=i)(hg:h.get i=some (.cells [] e true))(hb:(2*l.length+1000)*bytes<=281474976710656):
  ∃y h' N',l8 ⟨h,N,w⟩ z bytes e (.slice i 0 0 (some 0) z) v=some (y,⟨h',N',w⟩)/\ae h N h' N'/\Cw z e N0 h' N' y l:=by
 by_cases hl:l.length=0
 ·have:l=[]:=kJ hl
  subst this
  exact⟨_,h,N,by simp[l8,Yz3 hs],ae.refl,by simp,.inl ⟨rfl,i,rfl,h0,hi,hg⟩⟩
 ·refine⟨.slice N 0 l.length none z,h.set N (.cells l.flatten e true),N+1,?_,ae.refl.new _,R7,.inr ⟨N,rfl,by omega,by omega,by rw[T.aj,aQ rfl]⟩⟩
  have bF:l≠[]:=fun hc=>hl (by rw[hc];rfl)
  simp only[l8,Yz3 hs,yW,St.row,hg,aE,St.alloc]
  simp[bF]
  have:=ky bytes (show 2*l.length<=2*l.length+1000 by omega)
  omega
def Cw.sn{e:TypeId}{N0:Nat}{y:V}{l:List (List V)}(s:Cw z e N0 h N y l):Sn z h N y l:=by
 obtain⟨hl,⟨h0,i,h1,h2,h3,h4⟩|⟨i,h1,h2,h3,h4⟩⟩:=s
 ·subst h0
  exact .inr ⟨i,0,some 0,[],e,true,h1,h3,h4,fun j x hj=>by simp at hj,by simp,fun k hk=>by simp⟩
 ·exact .inr ⟨i,0,none,l.flatten,e,true,h1,h3,h4,fun j x hj=>by rw[vW];exact KV hl hj,by rw[vX hl];omega,fun k hk=>by cases hk⟩
def Yw4(s:aU):Bool:=decide (s.length<=40)
def Yz5(k n lim:Nat):Bool:=decide (k<=n\/lim<k/\k<=lim+2)
def Yao(n lim:Nat)(l:List aU):Bool:=Yz5 l.length n lim&&l.all Yw4
def Yww{k n lim:Nat}{st:St}(h1:lim<1000):A.C.call (.func 77 [] []) [.int .i64 k,.int .i64 n,.int .i64 lim] st=some (.bool (Yz5 k n lim),st):=by
 apply Call.eq
 rw[aV,A.k77 (by simp)]
 by_cases c1:k<=n
 ·have a1:(k:Int)<=n:=by omega
  simp(disch:=first|(simp;done)|omega|rfl) [-getElem?_pos,A.b77,a1,c1,Yz5]
 ·have a1:¬(k:Int)<=n:=by omega
  by_cases c2:lim<k
  ·have a2:(lim:Int)<k:=by omega
   by_cases c3:k<=lim+2
   ·have a3:(k:Int)<=(lim:Int)+2:=by omega
    simp(disch:=first|(simp;done)|omega|rfl) [-getElem?_pos,A.b77,a1,c1,a2,c2,a3,c3,Yz5]
   ·have a3:¬(k:Int)<=(lim:Int)+2:=by omega
    simp(disch:=first|(simp;done)|omega|rfl) [-getElem?_pos,A.b77,a1,c1,a2,c2,a3,c3,Yz5]
  ·have a2:¬(lim:Int)<k:=by omega
   simp(disch:=first|(simp;done)|omega|rfl) [-getElem?_pos,A.b77,a1,c1,a2,c2,Yz5]
def Ym7{n lim:Nat}(hs:Sl h N v (strs l))(hl:l.length<9223372036854775808)(h1:lim<1000):A.C.call (.func 19 [] []) [v,.int .i64 n,.int .i64 lim] ⟨h,N,w⟩=some (.bool (Yao n lim l),⟨h,N,w⟩):=by
 apply Call.eq
 have lg:=hs.len
 rw[BL]at lg
 have hL:=fun st=>Yww (k:=l.length) (n:=n) (st:=st) h1
 rw[aV,A.k19 (by simp)]
 by_cases c1:Yz5 l.length n lim=true
 ·have e1:Yao n lim l=l.all Yw4:=by simp[Yao,c1]
  rw[e1]
  simp(disch:=first|(simp;done)|omega|rfl) [-getElem?_pos,A.b19,lg,hL,c1]
  refine c_ [(6,7),(14,25)] (fun e r st=>st=⟨h,N,[]⟩/\((e=.exit 0/\l.all Yw4=true)\/(e=.ret/\l.all Yw4=false/\r.get 6=some (.bool false)))) (fun m r st=>st=⟨h,N,[]⟩/\∃k,k+m=l.length/\r.get 7=some (.int .i64 k)/\l.all Yw4=(l.drop k).all Yw4) l.length ?_ ?_ ?_
  ·exact⟨rfl,0,by omega,by simp,by simp⟩
  ·rintro m r _ hr hf ⟨rfl,k,hk,hx,hz⟩
   rw[dk]
   cases m with
   |zero=>
    obtain rfl:k=l.length:=by omega
    rw[vR,List.all_nil]at hz
    simp(disch:=first|(simp;done)|omega|rfl) [-getElem?_pos,A.zgU,hr,hf,hx,lg,hz]
   |succ m=>
    have aP:k<l.length:=by omega
    have ew:(k:Int)<(l.length:Int):=by omega
    obtain⟨s,hc⟩:=fz aP
    obtain⟨i,o,cc,e,rw,q1,q2,q3,q4⟩:=hs.at (Lc hc)
    rw[qk hc,List.all_cons]at hz
    by_cases c4:Yw4 s=true
    ·rw[c4,Bool.true_and]at hz
     have c6:¬40<(s.length:Int):=by simp[Yw4]at c4;omega
     simp(disch:=first|(simp;done)|omega|rfl) [-getElem?_pos,A.zgU,hr,hf,hx,lg,ew,aP,q1,q2,q3,q4,c6]
     exact⟨m,by omega,k+1,by omega,by simp,hz⟩
    ·have c5:Yw4 s=false:=by simpa using c4
     rw[c5,Bool.false_and]at hz
     have c6:40<(s.length:Int):=by simp[Yw4]at c5;omega
     simp(disch:=first|(simp;done)|omega|rfl) [-getElem?_pos,A.zgU,hr,hf,hx,lg,ew,aP,q1,q2,q3,q4,c6,hz]
  ·rintro e r _ hr ⟨rfl,⟨rfl,hq⟩|⟨rfl,hq,h2⟩⟩
   ·simp(disch:=first|(simp;done)|omega|rfl) [-getElem?_pos,hr,hq,aF]
   ·simp(disch:=first|(simp;done)|omega|rfl) [-getElem?_pos,hr,hq,h2,aF]
 ·have e1:Yao n lim l=false:=by simp[Yao,c1]
  simp(disch:=first|(simp;done)|omega|rfl) [-getElem?_pos,A.b19,lg,hL,c1,e1]
def BM(l:List aU):Int:=cY (l.map fun s=>((aY s:Nat):Int))
def Yh8{l:List aU}(h:BM l=0):∀s∈l,aY s=0:=by
 induction l with
 |nil=>intro s hs;simp at hs
 |cons a l ih=>
  unfold BM at h ih
  rw[lF,cY]at h
  by_cases c:((aY a:Nat):Int)=0
  ·rw[aQ c]at h
   intro s hs
   rcases ku.1 hs with rfl|hs
   ·omega
   ·exact ih h s hs
  ·rw[aA c]at h;omega
def Yd7(hs:Sl h N v (strs l))(hl:l.length<100000)(qA:∀s∈l,s.length<=100000):Fn A.C 158 [v] h N (fun u _ _=>u=.int .i64 (BM l)):=by
 intro w
 have hlen:=hs.len
 rw[BL]at hlen
 unfold BM
 rw[aV,A.k158 (by simp)]
 simp(disch:=first|(simp;done)|omega|rfl) [-getElem?_pos,A.b158,hlen]
 refine c_ [(2,2),(4,5),(8,17)] (fun e r st=>aD N st.w=[]/\ae h N st.h st.n/\((e=.exit 0/\cY (l.map (fun s=>((aY s:Nat):Int)))=0)\/(e=.ret/\r.get 2=some (.int .i64 (cY (l.map (fun s=>((aY s:Nat):Int)))))))) (fun m r st=>aD N st.w=[]/\ae h N st.h st.n/\∃k,k+m=l.length/\r.get 8=some (.int .i64 k)/\cY (l.map (fun s=>((aY s:Nat):Int)))=cY ((l.drop k).map (fun s=>((aY s:Nat):Int)))) l.length ?_ ?_ ?_
 ·exact⟨by simp,ae.refl,0,by omega,by simp,by simp⟩
 ·rintro m r ⟨H,n1,W⟩ hr jv ⟨hW,hK,k,hk,h7,hz⟩
  simp only at hW hK
  rw[dk]
  cases m with
  |zero=>
   obtain rfl:k=l.length:=by omega
   rw[vR,uH,cY]at hz
   simp(disch:=first|(simp;done)|omega|rfl) [-getElem?_pos,A.zgk,hr,jv,h7,hz,hW,hK]
  |succ m=>
   have aP:k<l.length:=by omega
   obtain⟨s,hc⟩:=fz aP
   obtain⟨i,o,cc,e,rw,q1,q2,q3,q4⟩:=(hs.ah hK).at (Lc hc)
   rw[qk hc,lF,cY]at hz
   have ew:(k:Int)<(l.length:Int):=by omega
   simp(disch:=first|(simp;done)|omega|rfl) [-getElem?_pos,A.zgk,hr,jv,h7,ew,aP,hlen,q1,q2,q3,q4]
   refine az (Zwd (qA s (eZ hc))) ?_
   rintro _ h3 n3 k3 rfl
   have kk:=hK.trans k3
   by_cases h0:aY s=0
   ·rw[aQ (by omega)]at hz
    simp(disch:=first|(simp;done)|omega|rfl) [-getElem?_pos,hr,jv,h7,h0,hW,aL]
    exact⟨m,by omega,kk,k+1,by omega,by simp,by simpa using hz⟩
   ·rw[aA (by omega)]at hz
    simp(disch:=first|(simp;done)|omega|rfl) [-getElem?_pos,hr,jv,h7,h0,hW,aL,hz]
    exact kk
 ·rintro _ r ⟨H,n1,W⟩ hr ⟨hW,hK,⟨rfl,hz⟩|⟨rfl,h2⟩⟩
  ·simp only at hW hK
   simp(disch:=first|(simp;done)|omega|rfl) [-getElem?_pos,hr,hz,aF,hW,hK]
  ·simp only at hW hK
   simp(disch:=first|(simp;done)|omega|rfl) [-getElem?_pos,hr,h2,aF,hW,hK]
def Yug(hs:Sl h N v (strs l))(hl:l.length<100000):Fn A.C 12 [v] h N (fun u h' n'=>Sl h' n' u (strs l)):=by
 intro w
 rw[aV,A.k12 (by simp)]
 have k0:ae h N (h.set N (.cells [] 22 true)) (N+1):=ae.refl.new _
 have s1:Sn 1 (h.set N (.cells [] 22 true)) (N+1) v ((strs l).map fun x=>[x]):=Sn.one.2 (hs.ah k0)
 obtain⟨y,h',N',ap,kk,cw⟩:=Yz1 (z:=1) (bytes:=16) (e:=22) (N0:=N) (i:=N) (w:=[]) (by decide) s1 (by simp) (by omega) (aZ _) (by rw[T.aj,aQ rfl]) (by simp[strs];omega)
 simp(disch:=first|(simp;done)|omega|rfl) [-getElem?_pos,A.b12,ap,aF]
 exact⟨k0.trans kk,Sn.one.1 cw.sn⟩
def tI{c:List V}(h:c.length=4):aE c 0 4=some c:=by unfold aE;rw[h];simp;exact iP (by omega)
def rT{c d:List V}(h:c.length=4)(hd:d.length=4):ag d 0 c=c:=by unfold ag;rw[h];simp[h,hd]
def zgj(l:List aU):List Rat:=l.map bJ
def Yy0{l:List aU}(h:BM l=0):strs l=tx (zgj l):=by
 unfold tx zgj
 congr 1
 rw[List.map_map]
 conv=>lhs;rw[<-List.map_id l]
 apply Yzl
 intro s hs
 exact((BN (Yh8 h s hs)).1).symm
def Yym{l:List aU}:(zgj l).length=l.length:=by simp[zgj]
open Go
def A.b26:=A.q Tryz.f26
def A.c26:A.F 26=some ⟨7,[.tmp 4],A.b26⟩:=by kernel_rfl
def A.k26:=@A.kk 26 _ _ _ A.c26 rfl
def Ypt{b:Bool}{e:Int}{st:St}:A.C.call (.func 26 [] []) [.bool b,.int .i64 e] st=some (.int .i64 (if b=true then e else 0),st):=by
 apply Call.eq
 rw[aV,A.k26 (by simp)]
 cases b<;>simp(disch:=first|(simp;done)|omega|rfl) [-getElem?_pos,A.b26]
def Yzy{h:T O}{N i:Nat}{w:List Nat}{a0 a1 a2:Int}(hi:i<N):A.C.call (.func 21 [] []) [.slice i 0 3 (some 3) 1] ⟨h.set i (.cells [.int .i64 a0,.int .i64 a1,.int .i64 a2] 3 true),N,w⟩=some (.int .i64 (cY [a0,a1,a2]),⟨h.set i (.cells [.int .i64 a0,.int .i64 a1,.int .i64 a2] 3 true),N,w⟩):=
 Zw9 (l:=[a0,a1,a2]) (Sl.row (e:=3) (rw:=true) (cp:=some 3) hi (by simp[dI]) rfl (by simp)) (by simp)
variable {D k:Nat} {r:Rat}
def Zwn(es:List Rat)(D k:Nat):Rat:=if D<=k then pg es (k-D) else 0
def Zuz(g l p:Rat)(D:Nat)(d:List Rat):Nat->List Rat×List Rat×Rat
 |0=>([],[],0)
 |k+1=>
  let s:=Zuz g l p D d k
  let e:=s.1++[pg d k-s.2.2]
  (e,s.2.1++[s.2.2],l*s.2.2+(g*Zwn e D k+p*(Zwn e D k-Zwn e (D+1) k)))
def Ygt(g l p:Rat)(D:Nat)(d:List Rat):List Rat:=(Zuz g l p D d d.length).1
def Yz7(g l p:Rat)(D:Nat)(d:List Rat):List Rat:=(Zuz g l p D d d.length).2.1
def Yan{g l p:Rat}{D:Nat}{d:List Rat}:∀{k:Nat},(Zuz g l p D d k).1.length=k/\(Zuz g l p D d k).2.1.length=k
 |0=>⟨rfl,rfl⟩
 |k+1=>by
  have ih:=@Yan g l p D d k
  simp[Zuz,ih.1,ih.2]
def Db(D B:Nat)(q:Rat):Prop:=∃z:Int,q*(D:Rat)=(z:Rat)/\z.natAbs<=B
def Db.zero{B:Nat}:Db D B 0:=⟨0,by simp[Rat.zero_mul],by simp⟩
def Db.mono{B C:Nat}{q:Rat}(h:Db D B q)(hc:B<=C):Db D C q:=by
 obtain⟨z,h1,h2⟩:=h
 exact⟨z,h1,by omega⟩
def Db.add{B C:Nat}{q:Rat}(h:Db D B q)(k:Db D C r):Db D (B+C) (q+r):=by
 obtain⟨z,h1,h2⟩:=h
 obtain⟨y,k1,k2⟩:=k
 exact⟨z+y,by rw[Rat.add_mul,h1,k1,Rat.intCast_add],by omega⟩
def Db.sub{B C:Nat}{q:Rat}(h:Db D B q)(k:Db D C r):Db D (B+C) (q-r):=by
 obtain⟨z,h1,h2⟩:=h
 obtain⟨y,k1,k2⟩:=k
 exact⟨z-y,by rw[Rat.sub_eq_add_neg,Rat.add_mul,Rat.neg_mul,h1,k1,Rat.intCast_sub,Rat.sub_eq_add_neg],by omega⟩
def Db.mul{E B C:Nat}{q:Rat}(h:Db D B q)(k:Db E C r):Db (D*E) (B*C) (q*r):=by
 obtain⟨z,h1,h2⟩:=h
 obtain⟨y,k1,k2⟩:=k
 refine⟨z*y,?_,by rw[uI];exact jf h2 k2⟩
 rw[Rat.intCast_mul,<-h1,<-k1,Rat.natCast_mul]
 grind
def Db.up{E B:Nat}{q:Rat}(h:Db D B q):Db (E*D) (E*B) q:=by
 obtain⟨z,h1,h2⟩:=h
 refine⟨(E:Int)*z,?_,by rw[uI];exact jf (by simp) h2⟩
 rw[Rat.intCast_mul,<-h1,Rat.natCast_mul]
 have:((E:Int):Rat)=(E:Rat):=rfl
 rw[this]
 grind
def Db.qb{B:Nat}{q:Rat}(h:Db D B q)(h0:0<D)(hd:D<2^k)(hb:B<2^k):Qb k q:=by
 obtain⟨z,h1,h2⟩:=h
 have hD:(D:Rat)≠0:=by
  intro hc
  have:((D:Nat):Rat)=((0:Nat):Rat):=hc
  rw[Rat.natCast_inj]at this
  omega
 have hq:q=Rat.divInt z (D:Int):=by
  rw[Rat.divInt_eq_div,<-h1]
  have:(((D:Nat):Int):Rat)=(D:Rat):=rfl
  rw[this]
  grind
 rw[hq]
 exact R9 (by omega) (by omega) (by simpa using hd)
def Db.own{q:Rat}(h:Qb k q):Db q.den (2^k) q:=⟨q.num,by
 have h1:=AJ q
 rw[Rat.divInt_eq_div]at h1
 have h2:(((q.den:Nat):Int):Rat)=(q.den:Rat):=rfl
 rw[h2]at h1
 have hD:(q.den:Rat)≠0:=by
  intro hc
  have:((q.den:Nat):Rat)=((0:Nat):Rat):=hc
  rw[Rat.natCast_inj]at this
  have:=q.den_pos
  omega
 grind,by have:=h.1;omega⟩
def Yzs:List Rat->Nat
 |[]=>1
 |q::l=>q.den*Yzs l
def Ywn:∀{l:List Rat},0<Yzs l
 |[]=>by simp[Yzs]
 |q::l=>tH q.den_pos Ywn
def Yvw{k:Nat}:∀{l:List Rat},(∀q∈l,Qb k q)->Yzs l<=2^(k*l.length)
 |[],_=>by simp[Yzs]
 |q::l,h=>by
  have ih:=Yvw (l:=l) fun x hx=>h x (mD _ hx)
  have hq:=(h q oM).2
  have:2^(k*(q::l).length)=2^k*2^(k*l.length):=by
   rw[<-iF,ak,nL,tE,Nat.add_comm]
  rw[this]
  exact jf (by omega) ih
def Yzp{k:Nat}:∀{l:List Rat},(∀q∈l,Qb k q)->∀q∈l,Db (Yzs l) (2^(k*(l.length+1))) q
 |[],_,q,hq=>by simp at hq
 |x::l,h,q,hq=>by
  have hl:=Yvw (l:=l) fun x hx=>h x (mD _ hx)
  have hx:=(h x oM)
  have e:2^(k*((x::l).length+1))=2^k*2^(k*(l.length+1)):=by
   rw[<-iF,ak];congr 1;rw[nL k (l.length+1) 1];omega
  rw[e]
  rcases ku.1 hq with rfl|hq
  ·have h1:=(Db.own hx).up (E:=Yzs l)
   rw[gk]at h1
   refine h1.mono ?_
   have e2:2^(k*(l.length+1))=2^(k*l.length)*2^k:=by rw[<-iF,nL,tE]
   have h3:Yzs l*2^k<=2^(k*l.length)*2^k:=ky _ hl
   rw[e2]
   have h4:1<=2^k:=Nat.one_le_two_pow
   have h5:=jf h4 (aZ (2^(k*l.length)*2^k))
   omega
  ·have h1:=(Yzp (fun x hx=>h x (mD _ hx)) q hq).up (E:=x.den)
   exact h1.mono (ky _ (by have:=hx.2;omega))
def Yd5(X B:Nat):Nat->Nat
 |0=>B
 |k+1=>8*X*Yd5 X B k
def Db.raise{A D X B:Nat}{q:Rat}(hA:A<=X)(hX:1<=X):∀{j k:Nat},j<=k->Db (A^j*D) (2*Yd5 X B j) q->Db (A^k*D) (2*Yd5 X B k) q
 |j,0,h,hq=>by
  obtain rfl:j=0:=by omega
  exact hq
 |j,k+1,h,hq=>by
  by_cases e:j=k+1
  ·subst e;exact hq
  ·have ih:=(Db.raise hA hX (j:=j) (k:=k) (by omega) hq).up (E:=A)
   rw[<-uA,<-Nat.pow_succ']at ih
   refine ih.mono ?_
   rw[Yd5]
   have h1:A*(2*Yd5 X B k)<=X*(2*Yd5 X B k):=ky _ hA
   have h2:X*(2*Yd5 X B k)=2*(X*Yd5 X B k):=by rw[Nat.mul_left_comm]
   have h3:8*X*Yd5 X B k=8*(X*Yd5 X B k):=uA _ _ _
   omega
def Yxf{g l p:Rat}{D A Δ X B:Nat}{d:List Rat}(hX:1<=X)(hA:A<=X)(hg:Db A X g)(hl:Db A X l)(hp:Db A X p)(hd:∀q∈d,Db Δ B q):∀{k:Nat},k<=d.length->Db (A^k*Δ) (Yd5 X B k) (Zuz g l p D d k).2.2/\∀(j:Nat) (q:Rat),(Zuz g l p D d k).1[j]?=some q->Db (A^j*Δ) (2*Yd5 X B j) q
 |0,_=>⟨Db.zero,fun j q h=>by simp[Zuz]at h⟩
 |k+1,hk=>by
  obtain⟨ih1,ih2⟩:=Yxf (D:=D) hX hA hg hl hp hd (k:=k) (by omega)
  have le:=(@Yan g l p D d k).1
  have hdk:Db (A^k*Δ) (A^k*B) (pg d k):=(hd _ (eZ (eL (p:=d) (i:=k) (by omega)))).up
  have hAk:A^k*B<=Yd5 X B k:=by
   clear hdk ih1 ih2 le hk
   induction k with
   |zero=>simp[Yd5]
   |succ k ih=>
    rw[Yd5,fO,Nat.mul_right_comm,gk]
    have h1:A*(A^k*B)<=X*Yd5 X B k:=jf hA ih
    have h3:8*X*Yd5 X B k=8*(X*Yd5 X B k):=uA _ _ _
    omega
  have hek:Db (A^k*Δ) (2*Yd5 X B k) (pg d k-(Zuz g l p D d k).2.2):=(hdk.sub ih1).mono (by omega)
  have hE:∀(j:Nat) (q:Rat),((Zuz g l p D d k).1++[pg d k-(Zuz g l p D d k).2.2])[j]?=some q->Db (A^j*Δ) (2*Yd5 X B j) q:=fun j q hq=>by
   by_cases hj:j<k
   ·rw[rR (by omega)]at hq
    exact ih2 j q hq
   ·have nM:j=k:=by have:=yS hq;simp at this;omega
    subst nM
    rw[xg (by omega),le]at hq
    simp at hq
    rw[<-hq];exact hek
  have zfv:∀D',Db (A^k*Δ) (2*Yd5 X B k) (Zwn ((Zuz g l p D d k).1++[pg d k-(Zuz g l p D d k).2.2]) D' k):=fun D'=>by
   unfold Zwn
   split
   ·exact Db.raise hA hX (j:=k-D') (by omega) (hE _ _ (eL (by simp[le];omega)))
   ·exact Db.zero
  refine⟨?_,fun j q hq=>by
   have:(Zuz g l p D d (k+1)).1=(Zuz g l p D d k).1++[pg d k-(Zuz g l p D d k).2.2]:=rfl
   rw[this]at hq
   exact hE j q hq⟩
  have h1:=((hl.mul ih1).add ((hg.mul (zfv D)).add (hp.mul ((zfv D).sub (zfv (D+1))))))
  rw[<-uA,<-Nat.pow_succ']at h1
  refine h1.mono ?_
  rw[Yd5]
  have h3:8*X*Yd5 X B k=8*(X*Yd5 X B k):=uA _ _ _
  have h4:X*(2*Yd5 X B k)=2*(X*Yd5 X B k):=by rw[Nat.mul_left_comm]
  have h5:X*(2*Yd5 X B k+2*Yd5 X B k)=4*(X*Yd5 X B k):=by rw[nL,h4];omega
  omega
def A.b159:=A.q Tryz.f159
def A.k159:=@A.kk 159 11 [.cell 3 (some 4)] A.b159 (by kernel_rfl) rfl
def Yxg{a b:Nat}:∀{k:Nat},Yd5 (2^a) (2^b) k=2^((a+3)*k+b)
 |0=>by simp[Yd5]
 |k+1=>by
  rw[Yd5,Yxg (k:=k)]
  have h8:(8:Nat)=2^3:=rfl
  rw[h8,<-iF,<-iF]
  congr 1
  rw[nL (a+3) k 1];omega
def Yqa{g l p:Rat}{D kc kd:Nat}{d:List Rat}(hg:Qb kc g)(hl:Qb kc l)(hp:Qb kc p)(hd:∀q∈d,Qb kd q){k:Nat}(hk:k<=d.length):Qb ((3*kc+3)*d.length+kd*(d.length+1)+2) (Zuz g l p D d k).2.2/\∀q∈(Zuz g l p D d k).1,Qb ((3*kc+3)*d.length+kd*(d.length+1)+2) q:=by
 obtain⟨A,hA⟩:∃A,A=l.den*(p.den*g.den):=⟨_,rfl⟩
 have A0:0<A:=by rw[hA];exact tH l.den_pos (tH p.den_pos g.den_pos)
 have e3:2^(3*kc)=2^kc*(2^kc*2^kc):=by rw[<-iF,<-iF];congr 1;omega
 have uw:=Nat.le_of_lt hl.2
 have oP:=Nat.le_of_lt hp.2
 have xX:=Nat.le_of_lt hg.2
 have Ale:A<=2^(3*kc):=by rw[hA,e3];exact jf uw (jf oP xX)
 have dg:Db A (2^(3*kc)) g:=by
  have:=((Db.own hg).up (E:=p.den)).up (E:=l.den)
  rw[hA,e3]
  exact this.mono (jf uw (jf oP (aZ _)))
 have dp:Db A (2^(3*kc)) p:=by
  have:=((Db.own hp).up (E:=g.den)).up (E:=l.den)
  rw[hA,e3,gk p.den]
  exact this.mono (jf uw (jf xX (aZ _)))
 have dl:Db A (2^(3*kc)) l:=by
  have:=((Db.own hl).up (E:=g.den)).up (E:=p.den)
  have e:l.den*(p.den*g.den)=p.den*(g.den*l.den):=by rw[Nat.mul_left_comm,gk l.den]
  rw[hA,e3,e]
  exact this.mono (jf oP (jf xX (aZ _)))
 have X1:1<=2^(3*kc):=Nat.one_le_two_pow
 obtain⟨r1,r2⟩:=Yxf (D:=D) X1 Ale dg dl dp (Yzp hd) hk
 have hD:∀j,j<=d.length->A^j*Yzs d<2^((3*kc+3)*d.length+kd*(d.length+1)+2):=fun j hj=>by
  have h1:A^j<=(2^(3*kc))^j:=Dq Ale j
  have h2:=jf h1 (Yvw hd)
  rw[<-Nat.pow_mul,<-iF]at h2
  refine lG h2 (Nat.pow_lt_pow_right (by decide) ?_)
  have h3:3*kc*j<=3*kc*d.length:=je _ hj
  have h4:(3*kc+3)*d.length=3*kc*d.length+3*d.length:=jg _ _ _
  have h5:kd*(d.length+1)=kd*d.length+kd:=by rw[nL,tE]
  omega
 have hB:∀j,j<=d.length->2*Yd5 (2^(3*kc)) (2^(kd*(d.length+1))) j<2^((3*kc+3)*d.length+kd*(d.length+1)+2):=fun j hj=>by
  rw[Yxg]
  have e:2*2^((3*kc+3)*j+kd*(d.length+1))=2^((3*kc+3)*j+kd*(d.length+1)+1):=by rw[fO,gk]
  rw[e]
  refine Nat.pow_lt_pow_right (by decide) ?_
  have h3:(3*kc+3)*j<=(3*kc+3)*d.length:=je _ hj
  omega
 have pos:∀j,0<A^j*Yzs d:=fun j=>tH (vU A0) Ywn
 refine⟨r1.qb (pos k) (hD k hk) (by have:=hB k hk;omega),fun q hq=>?_⟩
 obtain⟨j,hj⟩:=Uh hq
 have AL:=yS hj
 rw[Yan.1]at AL
 exact(r2 j q hj).qb (pos j) (hD j (by omega)) (hB j (by omega))
def Ywi{h:T O}{N E:Nat}{ve:V}{es:List Rat}{D k:Nat}{z:Int}(hE:h.get E=some (.cells [ve] 100 true))(hEN:E<N)(he:yR h N ve es)(hz:z=(k:Int)-(D:Int))(hl:es.length=k+1)(hk:k<1000):FnV A.C (.func 159 [] [.ptr E 0]) [.int .i64 z] h N (fun v h' n'=>Fc h' n' v (Zwn es D k)):=by
 intro w
 have lY:∀c:List V,(V.agg c).cells=c:=fun _=>rfl
 have lv:=he.len
 have e0:zF=[V.int .i64 0,.aa,.int .i64 0,.aa]:=rfl
 rw[aV,A.k159 (by simp)]
 unfold Zwn
 by_cases c:D<=k
 ·rw[aQ c]
  have c1:¬z<0:=by omega
  have c2:z<((k+1:Nat):Int):=by omega
  have c3:z.toNat=k-D:=by omega
  have c4:0<=z:=by omega
  obtain⟨i,o,x,e,rw,cv,b1,b2,b3,b4,b5⟩:=he.at (eL (p:=es) (i:=k-D) (by omega))
  obtain⟨f1,f2⟩:=b5.len
  have e4:=rT (d:=zF) f1 rfl
  have s4:=tI f1
  have bF:¬i=N:=by omega
  have hEn:¬E=N:=by omega
  rw[hl]at lv
  rw[e0]at e4
  simp(disch:=first|(simp;done)|omega|rfl) [-getElem?_pos, -V.cells, -V.one,A.b159,c1,c2,c3,c4,hE,hEN,lv,b1,b2,b3,b4,lY,f1,f2,bE,e4,s4,aJ,bF,hEn,aF]
  exact⟨(ae.refl.new _).set (aZ _),(b5.ah ((ae.refl.new _).set (aZ _))).up⟩
 ·rw[aA c]
  have c1:z<0:=by omega
  simp(disch:=first|(simp;done)|omega|rfl) [-getElem?_pos, -V.cells, -V.one,A.b159,c1]
  refine az (xj (z:=0) (by decide) (by decide)) ?_
  rintro _ h1 n1 k1 hz
  obtain⟨c0,rfl,gw⟩:=hz.c
  obtain⟨f1,f2⟩:=gw.len
  have e4:=rT (d:=zF) f1 rfl
  have s4:=tI f1
  rw[e0]at e4
  have gN:=(k1.get N (by omega)).trans (show (h.set N (.cells [V.int .i64 0,.aa,.int .i64 0,.aa] 110 true)).get N=_ by rw[T.aj,aQ rfl])
  have lN:=k1.le
  have lN2:N<n1:=by omega
  simp(disch:=first|(simp;done)|omega|rfl) [-getElem?_pos, -V.cells, -V.one,lY,f1,f2,bE,gN,lN2,e4,s4,aF]
  exact⟨((ae.refl.new _).trans k1).set (by omega),(gw.aG gN (by intro x hx m;simp at hx;rcases hx with rfl|rfl|rfl|rfl<;>simp) (by simp[f1])).up⟩
end
end Go.Mx
