/-loop-/
import Derived.Test.YtlbnjhhebffhdaaGreatDoorLpF
set_option linter.all false
set_option maxHeartbeats 4000000
namespace Go.Mx
noncomputable section
open Go Go.Proofs
set_option maxRecDepth 1000000
def A.w44:=A.q Tryz.f44
def A.ziO:=A.ql A.w44 1 []
def A.ziP:=(fun x0=>A.ql A.w44 0 [x0]) A.ziO
def A.b44:=(fun x0=>A.qb A.w44 [x0]) A.ziP
def A.k44:=@A.kk 44 74 [.tmp 4,.tmp 5] A.b44 (by kernel_rfl) rfl
def Xie(a b:List bj):Int:=cN [ks a,ks b,if 14<a.length+b.length then 5 else 0]
def Xfz(h:T O)(N:Nat)(x:V)(bad:Int)(l:List Rat):Prop:=(bad≠0/\x=.aX [.ziA,.int .i64 bad])\/(bad=0/\((BB l=true/\x=.aX [.ziA,.int .i64 4])\/(BB l=false/\∃v,x=.aX [v,.int .i64 0]/\TxT h N v l)))
def Xfc{a b c:Int}:cN [a,b,c]=if cN [a,b]=0 then c else cN [a,b]:=by
 unfold cN
 by_cases ha:a=0
 ·rw[aR ha,aR ha]
  unfold cN
  by_cases hb:b=0
  ·rw[aR hb,aR hb]
   by_cases hc:c=0<;>simp[cN,hc]
  ·rw[aA hb,aA hb,aA hb]
 ·rw[aA ha,aA ha,aA ha]
def Xhv{h:T O}{N:Nat}{u v:V}{a b:List bj}(hu:Sl h N u (strs a))(hv:Sl h N v (strs b))(hP:j_ h N)(la:a.length<100000)(lb:b.length<100000)(fa:∀s∈a,s.length<=40)(fb:∀s∈b,s.length<=40):Fn A.C 44 [u,v] h N (fun x h' n'=>Xfz h' n' x (Xie a b) (Xgd (ziB a) (ziB b))):=by
 intro w
 have hlu:=hu.len
 rw[HZ]at hlu
 have qC:=hv.len
 rw[HZ]at qC
 rw[aZ,A.k44 (by simp)]
 simp(disch:=first|(simp;done)|omega|rfl) [-getElem?_pos,A.b44]
 refine av (Yqd hu la fun s hs=>by have:=fa s hs;omega) ?_
 rintro _ h1 n1 k1 rfl
 simp(disch:=first|(simp;done)|omega|rfl) [-getElem?_pos,]
 refine av (Yqd (hv.ai k1) lb fun s hs=>by have:=fb s hs;omega) ?_
 rintro _ h2 n2 k2 rfl
 have hi:n2<n2+1:=by omega
 have kD:ah h N (h2.set n2 (.cells [.int .i64 (ks a),.int .i64 (ks b)] 26 true)) (n2+1):=(k1.trans k2).trans (aO ah.refl _)
 have eM:Xie a b=if cN [ks a,ks b]=0 then (if 14<a.length+b.length then 5 else 0) else cN [ks a,ks b]:=Xfc
 rw[eM]
 by_cases c:cN [ks a,ks b]=0
 ·obtain⟨ca,cb⟩:=HV c
  obtain⟨a0,a1,a2,a3⟩:=Yti ca
  obtain⟨b0,b1,b2,b3⟩:=Yti cb
  rw[aR c]
  by_cases c3:14<a.length+b.length
  ·have c3':12<(a.length:Int)+(b.length:Int)-2:=by omega
   simp(disch:=first|(simp;done)|omega|rfl) [-getElem?_pos,aj,b_.chk,Zup hi,c,a_,hlu,qC,c3',c3,Ret]
   exact⟨kD,.inl ⟨by decide,rfl⟩⟩
  ·have c3':¬12<(a.length:Int)+(b.length:Int)-2:=by omega
   rw[aA c3]
   rw[ca,cb]at kD
   simp(disch:=first|(simp;done)|omega|rfl) [-getElem?_pos,aj,b_.chk,ca,cb,Zup hi,cN,a_,hlu,qC,c3']
   generalize h2.set n2 (.cells [.int .i64 0,.int .i64 0] 26 true)=H2 at*
   refine av (BI (z:=0) (by decide) (by decide)) ?_
   rintro _ h3 n3 k3 hz
   obtain⟨c3v,rfl,hc3⟩:=hz.c
   obtain⟨e31,e32⟩:=hc3.len
   have lO:∀c:List V,(V.agg c).cells=c:=fun _=>rfl
   have e4:=BD (d:=zF) e31 rfl
   unfold zF at e4
   have kE:ah h3 n3 (h3.set n3 (.cells c3v 102 true)) (n3+1):=ah.refl.new _
   have gE:(h3.set n3 (.cells c3v 102 true)).get n3=some (.cells c3v 102 true):=by rw[T.al,aR rfl]
   have en:(a.length:Int)+(b.length:Int)-1=((a.length+b.length-1:Nat):Int):=by omega
   simp(disch:=first|(simp;done)|omega|rfl) [-getElem?_pos, -V.cells, -V.one,lO,e31,e32,e4,b_.chk,hlu,qC]
   rw[en]
   generalize h3.set n3 (.cells c3v 102 true)=H3 at*
   refine av (Xh7 (by omega) gE (hc3.ai kE) (by omega) (by omega)) ?_
   rintro _ h4 n4 k4 ⟨rfl,hQ⟩
   have KA:=((kD.trans k3).trans kE).trans k4
   have ta:=Ymk a2
   have tb:=Ymk b2
   have qa:=Xfa a2 fa
   have qb:=Xfa b2 fb
   have Il:Sl h N u (tx (ziB a)):=by rw[<-ta];exact hu
   have hvb:Sl h N v (tx (ziB b)):=by rw[<-tb];exact hv
   have lra:=@Yht a
   have lrb:=@Yht b
   rw[<-lra,<-lrb]at hQ
   rw[<-lra]at a0 a1
   rw[<-lrb]at b0 b1
   rw[<-lra,<-lrb]
   generalize ziB a=p at*
   generalize ziB b=q at*
   simp(disch:=first|(simp;done)|omega|rfl) [-getElem?_pos,]
   refine av (Yhs (k0:=164) (Il.ai KA) (by omega) qa (by decide)) ?_
   rintro _ h5 n5 k5 ⟨rfl,hF5⟩
   have KB:=KA.trans k5
   obtain⟨R,hR⟩:∃R,R=n3+1:=⟨_,rfl⟩
   rw[<-hR]at hQ ⊢
   have leA:=((kD.trans k3).trans kE).le
   have le5:=k5.le
   have ltR:=hQ.lt
   have ltP:=hF5.lt
   have hQ5:=hQ.ai k5
   obtain⟨Rp,hRp⟩:∃Rp,Rp=n4:=⟨_,rfl⟩
   rw[<-hRp]at hF5 ⊢
   have hzz:dr zF 0=[]:=by simp[dr]
   have nR:¬R=Rp:=by omega
   simp(disch:=first|(simp;done)|omega|rfl) [-getElem?_pos,]
   refine Zal [(8,11),(40,69)] (fun e r st=>e=.exit 0/\aL N st.w=[]/\ah h N st.h st.n/\jQ st.h st.n R (Xgh p q p.length) 0) (fun m r st=>aL N st.w=[]/\ah h N st.h st.n/\n5<=st.n/\jQ st.h st.n Rp p 0/\∃t,t+m=p.length/\r.get 40=some (.int .i64 t)/\jQ st.h st.n R (Xgh p q t) 0) p.length ?_ ?_ ?_
   ·exact⟨by simp,KB,Yv5 _,hF5,0,by omega,by simp,hQ5⟩
   ·rintro m r ⟨H,n6,W⟩ hr hf ⟨hW,hK,hn6,hF,t,ht,h40,hQ6⟩
    simp only at hW hK hn6 hF hQ6
    rw[cn]
    cases m with
    |zero=>
     obtain rfl:t=p.length:=by omega
     simp(disch:=first|(simp;done)|omega|rfl) [-getElem?_pos,A.ziP,hr,hf,h40,hW,hK]
     exact hQ6
    |succ m=>
     have aW:t<p.length:=by omega
     have zij:(t:Int)<(p.length:Int):=by omega
     obtain⟨csp,y1,_,_⟩:=hF.ex
     obtain⟨ct,s1,fct⟩:=hF.at (iy (p:=p) (i:=t) aW) y1
     obtain⟨f1,f2⟩:=fct.len
     have e6:=BD (d:=zF) f1 rfl
     unfold zF at e6
     have lRp:=hF.lt
     have k7:ah H n6 ((H.set n6 (.cells [.int .i64 0,.ziA,.int .i64 0,.ziA] 102 true)).set n6 (.cells ct 102 true)) (n6+1):=(ah.refl.new _).set (Yv5 _)
     have g7:((H.set n6 (.cells [.int .i64 0,.ziA,.int .i64 0,.ziA] 102 true)).set n6 (.cells ct 102 true)).get n6=some (.cells ct 102 true):=by simp
     generalize csp.flatten++dr zF 0=Xp at*
     simp(disch:=first|(simp;done)|omega|rfl) [-getElem?_pos, -V.cells, -V.one,A.ziP,hr,hf,h40,aW,zij,y1,lRp,s1,aI,lO,f1,f2,bM,e6]
     generalize (H.set n6 (.cells [.int .i64 0,.ziA,.int .i64 0,.ziA] 102 true)).set n6 (.cells ct 102 true)=H7 at*
     have K7:=hK.trans k7
     refine av (Yhs (k0:=164) (hvb.ai K7) (by omega) qb (by decide)) ?_
     rintro _ h8 n8 k8 ⟨rfl,hG⟩
     have g8:=(k8.get n6 (by omega)).trans g7
     have Nx:=hK.le
     have le8:=k8.le
     have ltG:=hG.lt
     obtain⟨Rq,hRq⟩:∃Rq,Rq=n6+1:=⟨_,rfl⟩
     rw[<-hRq]at hG ⊢
     have K8:=K7.trans k8
     have nRq:¬R=Rq:=by omega
     have nRB:¬n6=R:=by omega
     have hF8:=(hF.ai k7).ai k8
     have hQ8:=(hQ6.ai k7).ai k8
     have zjm:=(fct.ai k7).ai k8
     have ml6:∀k,(Xgw (Xgh p q t) (pg p t) q t k).length=p.length+q.length-1:=fun k=>by rw[Xf2,Xf0]
     have mq:=@Xgm (Xgh p q t) (pg p t) q t (1+t*(164+164+1)) 164 164 (Xgl qa qb b0 (by omega)) (qa _ (eI (iy aW))) qb
     have wa:=(qa _ (eI (iy aW))).eX
     simp(disch:=first|(simp;done)|omega|rfl) [-getElem?_pos,]
     refine Zal [(10,11),(48,68)] (fun e r st=>e=.exit 2/\aL N st.w=[]/\ah h N st.h st.n/\n5<=st.n/\jQ st.h st.n Rp p 0/\jQ st.h st.n R (Xgh p q (t+1)) 0) (fun m r st=>aL N st.w=[]/\ah h N st.h st.n/\n8<=st.n/\jQ st.h st.n Rp p 0/\jQ st.h st.n Rq q 0/\st.h.get n6=some (.cells ct 102 true)/\fz st.h st.n ct (pg p t)/\∃k,k+m=q.length/\r.get 48=some (.int .i64 k)/\jQ st.h st.n R (Xgw (Xgh p q t) (pg p t) q t k) 0) q.length ?_ ?_ ?_
     ·exact⟨by simp[hW];omega,K8,Yv5 _,hF8,hG,g8,zjm,0,by omega,by simp,hQ8⟩
     ·rintro m' r' ⟨H1,gw,W1⟩ lV rF ⟨Tw,hK1,yM,hF1,hG1,g1,fc1,k,hk,h48,hQ1⟩
      simp only at Tw hK1 yM hF1 hG1 g1 fc1 hQ1
      rw[cn]
      cases m' with
      |zero=>
       obtain rfl:k=q.length:=by omega
       simp(disch:=first|(simp;done)|omega|rfl) [-getElem?_pos,A.ziO,lV,rF,hr,hf,h48,Tw,hK1]
       exact⟨by omega,hF1,hQ1⟩
      |succ m'=>
       have hkt:k<q.length:=by omega
       have zh_:(k:Int)<(q.length:Int):=by omega
       obtain⟨csq,z1,_,_⟩:=hG1.ex
       obtain⟨cb,s2,fcb⟩:=hG1.at (iy (p:=q) (i:=k) hkt) z1
       obtain⟨f3,f4⟩:=fcb.len
       have e8:=BD (d:=zF) f3 rfl
       unfold zF at e8
       have lRq:=hG1.lt
       have kA:ah H1 gw ((H1.set gw (.cells [.int .i64 0,.ziA,.int .i64 0,.ziA] 102 true)).set gw (.cells cb 102 true)) (gw+1):=(ah.refl.new _).set (Yv5 _)
       have gA:((H1.set gw (.cells [.int .i64 0,.ziA,.int .i64 0,.ziA] 102 true)).set gw (.cells cb 102 true)).get gw=some (.cells cb 102 true):=by simp
       have hij:t+k<(Xgw (Xgh p q t) (pg p t) q t k).length:=by rw[ml6];omega
       obtain⟨cso,o1,_,_⟩:=hQ1.ex
       obtain⟨co,s3,fco⟩:=hQ1.at (iy hij) o1
       obtain⟨f5,f6⟩:=fco.len
       have lR:=hQ1.lt
       have sa:=Ia f1
       have sb:=Ia f3
       have i1:(0:Int)<=(t:Int)+k:=by omega
       have i2:(t:Int)+k<((p.length+q.length-1:Nat):Int):=by omega
       have i3:((t:Int)+k).toNat=t+k:=by omega
       have lB:n6<gw:=by omega
       have lB':n6<gw+1:=by omega
       have lR':R<gw+1:=by omega
       have nRn:¬R=gw:=by omega
       have nBn:¬n6=gw:=by omega
       have bo:=mq (k:=k) (by omega) (by rw[Xf0];omega) (t+k) _ (iy hij)
       rw[aA (by omega)]at bo
       have bb:=qb _ (eI (iy (p:=q) (i:=k) hkt))
       have ba:=qa _ (eI (iy (p:=p) (i:=t) aW))
       have wb:=bb.eX
       have wo:=bo.eX
       have wm:=(ba.mul bb).eX
       have ziz:t*(164+164+1)<=13*(164+164+1):=ot _ (by omega)
       have foA:=fco.ai kA
       have fbA:=fcb.ai kA
       have faA:=fc1.ai kA
       generalize csq.flatten++dr zF 0=Xq at*
       generalize cso.flatten++dr zF 0=Xo at*
       simp(disch:=first|(simp;done)|omega|rfl) [-getElem?_pos, -V.cells, -V.one,A.ziO,lV,rF,hr,hf,h48,hkt,zh_,z1,lRq,s2,aI,lO,f3,f4,bM,e8,i1,i2,i3,o1,s3,g1,sa,sb,lB,lB',lR',nRn,nBn]
       generalize (H1.set gw (.cells [.int .i64 0,.ziA,.int .i64 0,.ziA] 102 true)).set gw (.cells cb 102 true)=HA at*
       refine av (KZ faA.up fbA.up (by omega) (by omega) (by omega) (by omega)) ?_
       rintro v9 h9 n9 k9 hm9
       simp(disch:=first|(simp;done)|omega|rfl) [-getElem?_pos,]
       refine av (Nn (foA.ai k9).up hm9 (by omega) (by omega) (by omega) (by omega)) ?_
       rintro _ hB nB kB' hmB
       obtain⟨cB,rfl,hcB⟩:=hmB.c
       obtain⟨eB1,eB2⟩:=hcB.len
       have K9:=kA.trans (k9.trans kB')
       have le9:=K9.le
       obtain⟨Y,p1,p2,p3⟩:=(hQ1.ai K9).put hcB (j:=t+k) hij
       have lRB:R<nB:=by omega
       have nuY:=jQ.nou (hQ1.ai K9) p1
       have slY:(aj Y ((t+k)*4) cB).length=Y.length:=Jx (by omega)
       have gB9:=(K9.get n6 (by omega)).trans g1
       simp(disch:=first|(simp;done)|omega|rfl) [-getElem?_pos, -V.cells, -V.one,lV,rF,hr,hf,h48,hkt,lO,eB1,eB2,bM,p1,p2,lRB,i1,i2,i3,b_.chk]
       have nRN:¬R<N:=by omega
       have n1N:¬gw<N:=by omega
       exact⟨m',by omega,by rw[aA nRN,aA n1N];exact Tw,(hK1.trans K9).set (by omega),by omega,(hF1.ai K9).zhR p1 nuY slY nR,(hG1.ai K9).zhR p1 nuY slY nRq,by rw[aA nRB];exact gB9,(fc1.ai K9).ay p1 nuY slY,k+1,by omega,by simp,p3⟩
     ·rintro _ r' ⟨H1,gw,W1⟩ lV ⟨rfl,Tw,hK1,yM,hF1,hQ1⟩
      simp only at Tw hK1 yM hF1 hQ1
      simp(disch:=first|(simp;done)|omega|rfl) [-getElem?_pos,lV,hr,hf,h40,Tw]
      have Dm:=hf.inner (D':=[(10,11),(48,68)]) rfl (fun hh=>by simpa using hh) lV
      exact⟨by simpa using Dm,m,by omega,hK1,yM,hF1,t+1,by omega,by simp,hQ1⟩
   ·rintro _ r ⟨H,n6,W⟩ hr ⟨rfl,hW,hK,hQ6⟩
    simp only at hW hK hQ6
    have hT:=hQ6.frt
    rw[Xf0]at hT
    have hbq:=Xgl qa qb b0 (Yv5 p.length)
    have ziz:p.length*(164+164+1)<=13*(164+164+1):=ot _ (by omega)
    have CA:=@Xf0 p q p.length
    simp(disch:=first|(simp;done)|omega|rfl) [-getElem?_pos,hr]
    refine av (Yg3 (k:=5000) hT.1 (hP.ai hK) (by rw[CA];omega) (fun y hy=>(hbq y hy).mono (by omega)) (by decide)) ?_
    rintro x h9 n9 k9 hx
    rcases hx with⟨hb,rfl⟩|⟨hb,y,rfl,hy⟩
    ·simp(disch:=first|(simp;done)|omega|rfl) [-getElem?_pos,hW,Ret]
     exact⟨hK.trans k9,.inr ⟨rfl,.inl ⟨hb,rfl⟩⟩⟩
    ·simp(disch:=first|(simp;done)|omega|rfl) [-getElem?_pos,hW,Ret]
     exact⟨hK.trans k9,.inr ⟨rfl,.inr ⟨hb,y,rfl,hy⟩⟩⟩
 ·rw[aA c]
  simp(disch:=first|(simp;done)|omega|rfl) [-getElem?_pos,aj,b_.chk,Zup hi,c,a_,Ret]
  exact⟨kD,.inl ⟨c,rfl⟩⟩
def Ytr(p:List Rat)(x:Rat):Nat->Rat
 |0=>0
 |k+1=>Ytr p x k*x+pg p (p.length-1-k)
def Ytf(p:List Rat)(x:Rat):Rat:=Ytr p x p.length
def Xgi{p:List Rat}{x:Rat}{A K:Nat}(hp:∀y∈p,Qb A y)(hx:Qb K x):∀{k:Nat},k<=p.length->Qb (1+k*(A+K+1)) (Ytr p x k)
 |0,_=>(Qb.int (z:=0) (k:=1) (by decide) (by decide)).mono (by omega)
 |k+1,h=>by
  have ih:=Xgi hp hx (k:=k) (by omega)
  rw[Ytr,ku]
  exact((ih.mul hx).add (hp _ (eI (iy (p:=p) (i:=p.length-1-k) (by omega))))).mono (by omega)
def A.b43:=A.q Tryz.f43
def A.k43:=@A.kk 43 26 [.tmp 4,.tmp 5] A.b43 (by kernel_rfl) rfl
def scE(a:List bj)(s:bj):Int:=cN [ks a,((aV s:Nat):Int),if s=[48] then 6 else 0]
def Xbs{p:List Rat}{x:Rat}{ja jk:Nat}(hp:∀y∈p,Qb ja y)(hx:Qb jk x):∀y∈Xae p x,Qb (ja+(p.length*jk+1)) y:=fun y hy=>by
 obtain⟨j,hj⟩:=Nd hy
 have hl:=yz hj
 rw[Yz1]at hl
 obtain⟨q,hq⟩:=eQ hl
 rw[Xag hq]at hj
 simp only[au]at hj
 rw[<-hj]
 have:=ot jk (show j<=p.length by omega)
 exact((hp q (eI hq)).mul (Xa8 hx j)).mono (by omega)
def Xfj{h:T O}{N:Nat}{u:V}{a:List bj}{s:bj}(hu:Sl h N u (strs a))(hP:j_ h N)(la:a.length<100000)(fa:∀s∈a,s.length<=40)(fs:s.length<=40):Fn A.C 43 [u,.str s] h N (fun x h' n'=>Xfz h' n' x (scE a s) (Xae (ziB a) (aY s))):=by
 intro w
 have hlu:=hu.len
 rw[HZ]at hlu
 rw[aZ,A.k43 (by simp)]
 simp(disch:=first|(simp;done)|omega|rfl) [-getElem?_pos,A.b43]
 refine av (Yqd hu la fun s hs=>by have:=fa s hs;omega) ?_
 rintro _ h1 n1 k1 rfl
 simp(disch:=first|(simp;done)|omega|rfl) [-getElem?_pos,]
 refine av (Zrc (by omega)) ?_
 rintro _ h2 n2 k2 rfl
 have hi:n2<n2+1:=by omega
 have kD:ah h N (h2.set n2 (.cells [.int .i64 (ks a),.int .i64 ((aV s:Nat):Int)] 26 true)) (n2+1):=(k1.trans k2).trans (aO ah.refl _)
 have eM:scE a s=if cN [ks a,((aV s:Nat):Int)]=0 then (if s=[48] then 6 else 0) else cN [ks a,((aV s:Nat):Int)]:=Xfc
 rw[eM]
 by_cases c:cN [ks a,((aV s:Nat):Int)]=0
 ·obtain⟨ca,cs⟩:=HV c
  have AH:aV s=0:=by omega
  obtain⟨a0,a1,a2,a3⟩:=Yti ca
  rw[aR c]
  by_cases c3:s=[48]
  ·have c4:(s==[48])=true:=by simpa using c3
   rw[aR c3]
   simp(disch:=first|(simp;done)|omega|rfl) [-getElem?_pos,aj,b_.chk,Zup hi,c,a_,c4,Ret]
   exact⟨kD,.inl ⟨by decide,rfl⟩⟩
  ·have c4:(s==[48])=false:=by simpa using c3
   rw[aA c3]
   rw[ca,cs]at kD
   have qs:=yB AH fs
   have es:=(kr AH).1
   simp(disch:=first|(simp;done)|omega|rfl) [-getElem?_pos,aj,b_.chk,ca,AH,Zup hi,cN,a_,c4]
   generalize h2.set n2 (.cells [.int .i64 0,.int .i64 0] 26 true)=H2 at*
   have ta:=Ymk a2
   have qa:=Xfa a2 fa
   have Il:Sl h N u (tx (ziB a)):=by rw[<-ta];exact hu
   have lra:=@Yht a
   rw[<-lra]at a0 a1
   generalize ziB a=p at*
   clear eM c c3 c4 cs AH
   generalize aY s=q at*
   subst es
   refine av (Yhs (k0:=164) (Il.ai kD) (by omega) qa (by decide)) ?_
   rintro _ h5 n5 k5 ⟨rfl,hF5⟩
   simp(disch:=first|(simp;done)|omega|rfl) [-getElem?_pos,]
   refine av (AB qs (by omega)) ?_
   rintro v6 h6 n6 k6 hv6
   simp(disch:=first|(simp;done)|omega|rfl) [-getElem?_pos,]
   refine av (Xbr (hF5.ai k6).frt hv6 qa qs (by omega) a0 (by decide) (by decide)) ?_
   rintro v7 h7 n7 k7 hT
   have hbq:=Xbs qa qs
   have ziz:p.length*(4*40+4)<=13*(4*40+4):=ot _ (by omega)
   have K:=((kD.trans k5).trans k6).trans k7
   simp(disch:=first|(simp;done)|omega|rfl) [-getElem?_pos,]
   refine av (Yg3 (k:=5000) hT.1 (hP.ai K) (by rw[Yz1];omega) (fun y hy=>(hbq y hy).mono (by omega)) (by decide)) ?_
   rintro x h9 n9 k9 hx
   rcases hx with⟨hb,rfl⟩|⟨hb,y,rfl,hy⟩
   ·simp(disch:=first|(simp;done)|omega|rfl) [-getElem?_pos,Ret]
    exact⟨K.trans k9,.inr ⟨rfl,.inl ⟨hb,rfl⟩⟩⟩
   ·simp(disch:=first|(simp;done)|omega|rfl) [-getElem?_pos,Ret]
    exact⟨K.trans k9,.inr ⟨rfl,.inr ⟨hb,y,rfl,hy⟩⟩⟩
 ·rw[aA c]
  simp(disch:=first|(simp;done)|omega|rfl) [-getElem?_pos,aj,b_.chk,Zup hi,c,a_,Ret]
  exact⟨kD,.inl ⟨c,rfl⟩⟩
open Go
def Xhg(r:T V)(n:Nat)(ps:List Nat)(a b:cC)(d:Nat):Yrr:={st:=.ready,iD:=none,r:=r,n:=n,ps:=ps,assign:=a,body:=b,defs:=d}
def Xgg:Option Ex->Ex
 |none=>.normal
 |some e=>e
def Xgv{C:Cx}{K:List Kf}{Q:Rs->Prop}{g:Src}{ps:List Nat}{a b:cC}{r:T V}{n N:Nat}{h:T O}{w:List Nat}{gv:V}{P:V->St->Prop}(hg:g.ev r=some gv)(hy:gv.LQ=false)(hc:Call C gv [.yield (N+1)] ⟨(h.set N (.defs true)).set (N+1) (.loop (Xhg r n ps a b N)),N+1+1,w⟩ P)(k:∀v st',P v st'->∃R,st'.h.get (N+1)=some (.loop R)/\R.st≠.busy/\Run C K (some (.ex (Xgg R.iD) ⟨r,n,[N]⟩ (st'.write (N+1) (.loop {R with st:=.exhausted})))) Q):Run C K (fx (C.code none (.zim g ps a b) ⟨r,n,[]⟩ ⟨h,N,w⟩)) Q:=by
 obtain⟨v,st',e,p⟩:=hc.ex
 obtain⟨R,h1,h2,h3⟩:=k v st' p
 have e2:C.code none (.zim g ps a b) ⟨r,n,[]⟩ ⟨h,N,w⟩=some (Xgg R.iD,⟨r,n,[N]⟩,st'.write (N+1) (.loop {R with st:=.exhausted})):=by
  rw[Cx.dJ]
  show B6 g ps a b C.call C.code none ⟨r,n,[]⟩ ⟨h,N,w⟩=_
  unfold B6
  simp only[hg,hy,Zuk,St.alloc]
  unfold Xhg at e
  simp only[gj,if_false,e,h1,h2]
  unfold Xgg
  rfl
 rw[e2]
 exact h3
def Xgq{C:Cx}{K:List Kf}{Q:Rs->Prop}{rs:List Iw}{st:St}{e:Ex}{r:T V}{n d:Nat}{h1:T O}{n1:Nat}{w1:List Nat}(hd:h1.get d=some (.defs true))(he:∀i,e≠.exit i):Run C (.fin rs st::K) (some (.ex e ⟨r,n,[d]⟩ ⟨h1,n1,w1⟩)) Q↔Run C K (Ytc (h1.set d (.defs false)) n1 (aL st.n (d::w1)++st.w) (gJ r ⟨h1.set d (.defs false),n1,d::w1⟩ rs)) Q:=iW (by
 have:shut ⟨h1,n1,w1⟩ [d]=some ⟨h1.set d (.defs false),n1,d::w1⟩:=by
  unfold shut
  simp only[hd]
  rfl
 cases e with
 |exit i=>exact absurd rfl (he i)
 |normal=>
  simp only[iV,l9,sE,this]
  rcases gJ r _ rs with _|_<;>rfl
 |ret=>
  simp only[iV,l9,sE,this]
  rcases gJ r _ rs with _|_<;>rfl)
def Xgz{C:Cx}{l:Nat}{args:List V}{st:St}{R:Yrr}{r0:T V}{P:V->St->Prop}(hx:C.x (.yield l) args st=none)(hl:st.h.get l=some (.loop R))(hs:R.st=.ready)(hp:I7 R.r R.n R.ps args=some r0)(hc:Code C (some l) R.assign ⟨r0,R.n,[]⟩ st (fun e fr cj=>e=.normal/\cj.h.get l=some (.loop R)/\Code C (some l) R.body fr (cj.write l (.loop {R with st:=.busy})) (fun e2 _ fh=>∃R2,fh.h.get l=some (.loop R2)/\P (.bool (Zev e2).isNone) (fh.write l (.loop {R2 with st:=Oe (Zev e2),iD:=Zev e2}))))):Call C (.yield l) args st P:=by
 obtain⟨e,fr,cj,e1,rfl,g1,hb⟩:=hc.ex
 obtain⟨e2,yc,fh,e3,R2,g2,p⟩:=hb.ex
 refine⟨_,_,?_,p⟩
 rw[Cx.qI]
 unfold rZ
 rw[hx]
 show I8 C.code l args st=_
 unfold I8
 simp only[hl,hp,e1,g1,hs,if_true,e3,g2]
variable {N i:Nat} {h:T O} {o:O}
def A.ziH:cC:=.fk [ge 10 (.alloc [.int .i64 0,.ziA,.int .i64 0,.ziA] 102),gn (.store 4 (tq 10) (tq 27))]
def A.ziI:cC:=.block 1 (.eY [lN 28 4 8,lN 29 4 7,c2 30 71 28 29,lN 31 4 10,c2 32 75 30 31,gn (.store 4 (tq 8) (tq 32))] [0,0,3,0,15,31])
def A.b48:cC:=sr [ge 4 (.kv (.const (.str []))),mc 5 0]
 (.seq (sr [mv 11 0,c1 12 61 11,mv 13 1,c1 14 120 13,ge 15 (.kb 26 1 2 [.int .i64 0,.int .i64 0] [(0,1,(tq 12)),(1,1,(tq 14))]),c1 16 103 15,mv 6 16]
 (sr [mv 17 6,ni 18 17 0]
 (cd 18
 (sr [mv 19 6,ge 4 (.kv (.const (.str []))),mv 5 19]
 (.ret))
 (.skip))))
 (sr [mv 20 1,c1 21 109 20,ge 22 (.call (fq 66) [.const (.int .i64 0)]),ge 7 (.alloc [.int .i64 0,.ziA,.int .i64 0,.ziA] 102),ge 8 (.alloc [.int .i64 0,.ziA,.int .i64 0,.ziA] 102),gn (.store 4 (tq 7) (tq 21)),gn (.store 4 (tq 8) (tq 22))]
 (.seq (sr [mv 23 0,c1 24 62 23,c1 25 122 24]
 (.block 0 (.zim (tq 25) [26,27] A.ziH A.ziI)))
 (sr [lN 33 4 8,c1 34 83 33,xt 35 34 0,xt 36 34 1,mv 4 35,mv 5 36]
 (.ret)))))
def A.k48:=@A.kk 48 37 [.tmp 4,.tmp 5] A.b48 (by kernel_rfl) rfl
def A.b122:=A.q Tryz.f122
def A.k122:=@A.kk 122 4 [.tmp 2] A.b122 (by kernel_rfl) rfl
def A.zjc:=A.q Tryz.f186
def A.ziJ:=A.ql A.zjc 0 []
def A.b186:=(fun x0=>A.qb A.zjc [x0]) A.ziJ
def A.k186:=@A.kk 186 18 [] A.b186 (by kernel_rfl) rfl
def Sl.ziE{v:V}{l:List V}{L:Yrr}(s:Sl h N v l)(g:h.get i=some (.loop L)):Sl (h.set i o) N v l:=s.fv (D:=fun j=>j=i) ⟨Yv5 _,fun j _ hj=>by rw[T.al,aA hj]⟩ fun j hj hc=>by
 subst hc
 rcases s with⟨_,rfl|rfl⟩|⟨j',o',cp,c,e,rw,rfl,_,h3,_⟩
 ·simp[jU]at hj
 ·simp[jU]at hj
 ·simp[jU]at hj
  subst hj
  rw[g]at h3
  cases h3
def fz.ziE{c:List V}{q:Rat}{L:Yrr}(s:fz h N c q)(g:h.get i=some (.loop L)):fz (h.set i o) N c q:=by
 have hI:∀{x:V} {z:Int},In h N x z->In (h.set i o) N x z:=fun s=>by
  rcases s with s|⟨i,o,l,c,s1,s2,s3⟩
  ·exact .inl s
  ·exact .inr ⟨i,o,l,c,s1,Sl.ziE s2 g,s3⟩
 obtain⟨n1,u1,n2,u2,rfl,s1,s2⟩:=s
 exact⟨n1,u1,n2,u2,rfl,hI s1,hI s2⟩
def Xba{n:Nat}{w:List Nat}(h:aL n w=[])(hN:N<=n):aL N w=[]:=KY fun i hi=>by
 have:=Ykw h i hi
 omega
def jQ.ziE{R m:Nat}{l:List Rat}{L:Yrr}(s:jQ h N R l m)(g:h.get i=some (.loop L)):jQ (h.set i o) N R l m:=by
 obtain⟨cs,g1,g2,g3⟩:=s.ex
 have cv:¬R=i:=fun hc=>by rw[hc,g]at g1;cases g1
 refine⟨s.lt,cs,by rw[T.al,aA cv];exact g1,g2,fun j q hq=>?_⟩
 obtain⟨c,a,b⟩:=g3 j q hq
 exact⟨c,a,b.ziE g⟩
def DW(N B i:Nat):Prop:=i=N+1\/i=B\/N+2<=i
def vR(r:T V)(d:Nat):Yrr:=Xhg r 37 [26,27] A.ziH A.ziI d
def Xhq{H:T O}{n M B C k d Rp j:Nat}{r:T V}{c cs ca:List V}{s x q:Rat}{p:List Rat}{W:List Nat}(hL:H.get (N+1)=some (.loop (vR r d)))(hB:H.get B=some (.cells cs 102 true))(fB:fz H n cs s)(hA:H.get C=some (.cells ca 102 true))(fA:fz H n ca x)(hc:fz H n c q)(hp:jQ H n Rp p 0)(hn:N+2<=n)(hMB:M<=B)(hBN:B<N)(hCN:C<N)(hBC:¬C=B)(hRB:¬B=Rp)(h8:r.get 8=some (.ptr B 0))(h7:r.get 7=some (.ptr C 0))(bs:Qb j s)(bx:Qb 164 x)(bq:Qb 164 q)(hj:j<=100000)(hW:aL M W=[]):Call A.C (.yield (N+1)) [.int .i64 k,.agg c] ⟨H,n,W⟩ (fun y st=>y=.bool true/\aL M st.w=[]/\wS (DW N B) H n st.h st.n/\st.h.get (N+1)=some (.loop (vR r d))/\∃AH,st.h.get B=some (.cells AH 102 true)/\fz st.h st.n AH (s*x+q)/\fz st.h st.n ca x/\jQ st.h st.n Rp p 0):=by
 obtain⟨c1,c2⟩:=hc.len
 obtain⟨s1,s2⟩:=fB.len
 obtain⟨a1,a2⟩:=fA.len
 have lO:∀c:List V,(V.agg c).cells=c:=fun _=>rfl
 have e4:=BD (d:=zF) c1 rfl
 unfold zF at e4
 have kA:ah H n ((H.set n (.cells [.int .i64 0,.ziA,.int .i64 0,.ziA] 102 true)).set n (.cells c 102 true)) (n+1):=(ah.refl.new _).set (Yv5 _)
 have gA:((H.set n (.cells [.int .i64 0,.ziA,.int .i64 0,.ziA] 102 true)).set n (.cells c 102 true)).get n=some (.cells c 102 true):=by simp
 refine Xgz (R:=vR r d) (r0:=(r.set 26 (.int .i64 k)).set 27 (.agg c)) rfl hL rfl (by simp[vR,Xhg,I7]) ?_
 rw[cn]
 show Run A.C [] (fx (A.C.code (some (N+1)) A.ziH ⟨_,37,[]⟩ ⟨H,n,W⟩)) _
 simp(disch:=first|(simp;done)|omega|rfl) [-getElem?_pos, -V.cells, -V.one,A.ziH,lO,c1,c2,bM,e4]
 have lN1:¬N+1=n:=by omega
 have gL:=(kA.get (N+1) (by omega)).trans hL
 have gB:=(kA.get B (by omega)).trans hB
 have gC:=(kA.get C (by omega)).trans hA
 have fB1:=fB.ai kA
 have fA1:=fA.ai kA
 have fc1:=hc.ai kA
 have Ai:=hp.ai kA
 have UA:wS (DW N B) H n ((H.set n (.cells [.int .i64 0,.ziA,.int .i64 0,.ziA] 102 true)).set n (.cells c 102 true)) (n+1):=kA.upd
 refine⟨by rw[aA lN1,aA lN1];exact hL,?_⟩
 rw[cn]
 generalize (H.set n (.cells [.int .i64 0,.ziA,.int .i64 0,.ziA] 102 true)).set n (.cells c 102 true)=HA at*
 show Run A.C [] (fx (A.C.code (some (N+1)) A.ziI ⟨_,37,[]⟩ ⟨HA.set (N+1) (.loop {vR r d with st:=.busy}),_,_⟩)) _
 have fB2:=fB1.ziE (o:=.loop {vR r d with st:=.busy}) gL
 have fA2:=fA1.ziE (o:=.loop {vR r d with st:=.busy}) gL
 have fc2:=fc1.ziE (o:=.loop {vR r d with st:=.busy}) gL
 have yb:=Ai.ziE (o:=.loop {vR r d with st:=.busy}) gL
 have U2:wS (DW N B) H n (HA.set (N+1) (.loop {vR r d with st:=.busy})) (n+1):=UA.set (.inl (.inl rfl))
 have gL2:(HA.set (N+1) (.loop {vR r d with st:=.busy})).get (N+1)=some (.loop {vR r d with st:=.busy}):=by rw[T.al,aR rfl]
 have Vo:(HA.set (N+1) (.loop {vR r d with st:=.busy})).get B=some (.cells cs 102 true):=by rw[T.al,aA (by omega)];exact gB
 have gC2:(HA.set (N+1) (.loop {vR r d with st:=.busy})).get C=some (.cells ca 102 true):=by rw[T.al,aA (by omega)];exact gC
 have Sx:(HA.set (N+1) (.loop {vR r d with st:=.busy})).get n=some (.cells c 102 true):=by rw[T.al,aA (by omega)];exact gA
 generalize HA.set (N+1) (.loop {vR r d with st:=.busy})=G at*
 have lB:B<n+1:=by omega
 have lC:C<n+1:=by omega
 have t1:=Ia s1
 have t2:=Ia a1
 have t3:=Ia c1
 have ws:=bs.eX
 have wx:=bx.eX
 have wq:=bq.eX
 have wm:=(bs.mul bx).eX
 simp(disch:=first|(simp;done)|omega|rfl) [-getElem?_pos, -V.cells, -V.one,A.ziI,h8,h7,Vo,gC2,lB,lC,aI,t1,t2]
 refine av (KZ fB2.up fA2.up (by omega) (by omega) (by omega) (by omega)) ?_
 rintro v3 h3 n3 k3 hm3
 have KU:=k3.le
 have gA3:=(k3.get n (by omega)).trans Sx
 have lA3:n<n3:=by omega
 simp(disch:=first|(simp;done)|omega|rfl) [-getElem?_pos, -V.cells, -V.one,gA3,lA3,aI,t3]
 refine av (Nn hm3 (fc2.ai k3).up (by omega) (by omega) (by omega) (by omega)) ?_
 rintro _ h4 n4 k4 hm4
 obtain⟨c4,rfl,hc4⟩:=hm4.c
 obtain⟨e41,e42⟩:=hc4.len
 have K4:=k3.trans k4
 have le4:=K4.le
 have gB4:=(K4.get B (by omega)).trans Vo
 have gL4:=(K4.get (N+1) (by omega)).trans gL2
 have lB4:B<n4:=by omega
 have e5:=BD (d:=cs) e41 s1
 have l5:4<=cs.length:=by omega
 have hLB:¬N+1<M:=by omega
 have hnB:¬n<M:=by omega
 have hBM:¬B<M:=by omega
 simp(disch:=first|(simp;done)|omega|rfl) [-getElem?_pos, -V.cells, -V.one,lO,e41,e42,bM,h8,gB4,lB4,e5,l5,b_.chk,hLB,hnB,hBM,hW]
 have nuB:=fB2.Sk
 have s5:c4.length=cs.length:=by omega
 have gL5:(h4.set B (.cells c4 102 true)).get (N+1)=some (.loop {vR r d with st:=.busy}):=by rw[T.al,aA (by omega)];exact gL4
 refine⟨{vR r d with st:=.busy},by rw[aA (by omega)];exact gL4,rfl,((U2.trans K4.upd).set (.inl (.inr (.inl rfl)))).set (.inl (.inl rfl)),rfl,c4,by rw[aA (by omega)],?_,?_,?_⟩
 ·exact(hc4.ay (e1:=102) (w1:=true) gB4 nuB s5).ziE gL5
 ·exact((fA2.ai K4).ay (e1:=102) (w1:=true) gB4 nuB s5).ziE gL5
 ·exact((yb.ai K4).zhR (e1:=102) (w1:=true) gB4 nuB s5 hRB).ziE gL5
def Xhx{u:V}(h1:V.one u=true)(h2:V.cells u=[u]):Fn A.C 122 [u] h N (fun x h' n'=>∃e,x=.func 186 [] [.ptr N 0]/\N<n'/\h'.get N=some (.cells [u] e true)):=by
 intro w
 have kB:∀e,ah h N (h.set N (.cells [u] e true)) (N+1):=fun e=>ah.refl.new _
 rw[aZ,A.k122 (by simp)]
 simp(disch:=first|(simp;done)|omega|rfl) [-getElem?_pos, -V.cells, -V.one,A.b122,h1,h2,Ret]
 exact kB _
def Xgx{M B C Cb Rp:Nat}{r:T V}{ca cs:List V}{x:Rat}{p:List Rat}{e:TypeId}{w:List Nat}(hB:h.get B=some (.cells cs 102 true))(fB:fz h N cs 0)(hA:h.get C=some (.cells ca 102 true))(fA:fz h N ca x)(hp:jQ h N Rp p 0)(hMB:M<=B)(hBN:B<N)(hCN:C<N)(hBC:¬C=B)(hRB:¬B=Rp)(hC:h.get Cb=some (.cells [.slice Rp 0 p.length (some p.length) 4] e true))(hCb:Cb<N)(zjp:¬Cb=B)(h8:r.get 8=some (.ptr B 0))(h7:r.get 7=some (.ptr C 0))(qa:∀y∈p,Qb 164 y)(bx:Qb 164 x)(hl:p.length<=13)(hw:aL M w=[]):
  Call A.C (.func 186 [] [.ptr Cb 0]) [.yield (N+1)] ⟨(h.set N (.defs true)).set (N+1) (.loop (vR r N)),N+1+1,w⟩ (fun _ st=>aL M st.w=[]/\N+2<=st.n/\(∀i,i<N->¬i=B->st.h.get i=h.get i)/\st.h.get N=some (.defs true)/\∃R AH,st.h.get (N+1)=some (.loop R)/\R.st=.ready/\R.iD=none/\st.h.get B=some (.cells AH 102 true)/\fz st.h st.n AH (Ytf p x)):=by
 have gD:((h.set N (.defs true)).set (N+1) (.loop (vR r N))).get N=some (.defs true):=by rw[T.al,aA (by omega),T.al,aR rfl]
 have gL:((h.set N (.defs true)).set (N+1) (.loop (vR r N))).get (N+1)=some (.loop (vR r N)):=by rw[T.al,aR rfl]
 have kG:ah h N ((h.set N (.defs true)).set (N+1) (.loop (vR r N))) (N+2):=(ah.refl.new _).new _
 generalize (h.set N (.defs true)).set (N+1) (.loop (vR r N))=G at*
 have gC:=(kG.get Cb hCb).trans hC
 have gB:=(kG.get B hBN).trans hB
 have gA:=(kG.get C hCN).trans hA
 have lC:Cb<N+1+1:=by omega
 rw[aZ,A.k186 (by simp)]
 have Ai:=hp.ai kG
 have dg:=fun w=>Yfo (w:=w) Ai.frt.1 (by omega)
 simp(disch:=first|(simp;done)|omega|rfl) [-getElem?_pos,A.b186,gC,lC,dg]
 refine Zal [(3,3),(6,17)] (fun e r' st=>e=.exit 0/\aL M st.w=[]/\wS (DW N B) G (N+2) st.h st.n/\st.h.get (N+1)=some (.loop (vR r N))/\∃AH,st.h.get B=some (.cells AH 102 true)/\fz st.h st.n AH (Ytf p x)) (fun m r' st=>aL M st.w=[]/\wS (DW N B) G (N+2) st.h st.n/\st.h.get (N+1)=some (.loop (vR r N))/\∃t,t+m=p.length/\r'.get 3=some (.int .i64 ((p.length:Int)-1-t))/\∃AH,st.h.get B=some (.cells AH 102 true)/\fz st.h st.n AH (Ytr p x t)/\fz st.h st.n ca x/\jQ st.h st.n Rp p 0) p.length ?_ ?_ ?_
 ·exact⟨by simp,wS.refl,gL,0,by omega,by simp,cs,gB,fB.ai kG,fA.ai kG,Ai⟩
 ·rintro m r' ⟨H1,n1,W⟩ hr hf ⟨hW,U1,gL1,t,ht,h3,cs1,gB1,fB1,fA1,yb⟩
  simp only at hW U1 gL1 gB1 fB1 fA1 yb
  rw[cn]
  cases m with
  |zero=>
   obtain rfl:t=p.length:=by omega
   have c1:¬(p.length:Int)<=(p.length:Int)-1:=by omega
   simp(disch:=first|(simp;done)|omega|rfl) [-getElem?_pos,A.ziJ,hr,hf,h3,c1,hW,U1,gL1,gB1]
   exact fB1
  |succ m=>
   have c1:(t:Int)<=(p.length:Int)-1:=by omega
   have c2:(p.length:Int)-1-(t:Int)<(p.length:Int):=by omega
   have c3:((p.length:Int)-1-(t:Int)).toNat=p.length-1-t:=by omega
   have c4:(p.length:Int)-1-(t:Int)=((p.length-1-t:Nat):Int):=by omega
   have hj:p.length-1-t<p.length:=by omega
   have yM:=U1.le
   have gC1:=(U1.get Cb (by omega) (by unfold DW;omega)).trans gC
   have Sw:=(U1.get C (by omega) (by unfold DW;omega)).trans gA
   have lC1:Cb<n1:=by omega
   obtain⟨csp,y1,_,_⟩:=yb.ex
   obtain⟨ct,s1,fct⟩:=yb.at (iy (p:=p) hj) y1
   have lR:=yb.lt
   have bv:=Xgi qa bx (k:=t) (by omega)
   have ziz:t*(164+164+1)<=13*(164+164+1):=ot _ (by omega)
   generalize csp.flatten++dr zF 0=Xp at*
   simp(disch:=first|(simp;done)|omega|rfl) [-getElem?_pos, -V.cells, -V.one,A.ziJ,hr,hf,h3,c1,c2,c3,gC1,lC1,y1,lR,s1,aI]
   rw[c4]
   refine A6 (Xhq gL1 gB1 fB1 Sw fA1 fct yb (by omega) hMB hBN hCN hBC hRB h8 h7 bv bx (qa _ (eI (iy (p:=p) hj))) (by omega) hW) ?_
   rintro _ ⟨H3,n3,W3⟩ ⟨rfl,JZ,U3,gL3,cs3,gB3,fB3,fA3,hp3⟩
   simp only at JZ U3 gL3 gB3 fB3 fA3 hp3
   simp(disch:=first|(simp;done)|omega|rfl) [-getElem?_pos,hr,hf,h3,JZ,gL3,gB3]
   exact⟨m,by omega,U1.trans U3,t+1,by omega,by omega,fB3,fA3,hp3⟩
 ·rintro _ r' ⟨H1,n1,W⟩ hr ⟨rfl,hW,U1,gL1,cs1,gB1,fB1⟩
  simp only at hW U1 gL1 gB1 fB1
  simp(disch:=first|(simp;done)|omega|rfl) [-getElem?_pos,hr]
  refine⟨KY fun i hi=>?_,U1.le,fun i hi hd=>(U1.get i (by omega) (by unfold DW;omega)).trans (kG.get i hi),(U1.get N (by omega) (by unfold DW;omega)).trans gD,vR r N,gL1,rfl,rfl,cs1,gB1,fB1⟩
  rcases tg.1 hi with hi|hi
  ·exact Ykw hW i (MM hi).1
  ·exact Ykw hw i hi
def Yvu(x:V)(bad:Int)(q:Rat):Prop:=(bad≠0/\x=.aX [.str [],.int .i64 bad])\/(bad=0/\x=if vk q=true then .aX [.str [],.int .i64 4] else .aX [.str (Zao q),.int .i64 0])
def vaE(a:List bj)(s:bj):Int:=cN [ks a,((aV s:Nat):Int)]
def Xht{h:T O}{N:Nat}{u:V}{a:List bj}{s:bj}(hu:Sl h N u (strs a))(hP:j_ h N)(la:a.length<100000)(fa:∀s∈a,s.length<=40)(fs:s.length<=40):Fn A.C 48 [u,.str s] h N (fun x _ _=>Yvu x (vaE a s) (Ytf (ziB a) (aY s))):=by
 intro w
 have hlu:=hu.len
 rw[HZ]at hlu
 rw[aZ,A.k48 (by simp)]
 simp(disch:=first|(simp;done)|omega|rfl) [-getElem?_pos,A.b48]
 refine av (Yqd hu la fun s hs=>by have:=fa s hs;omega) ?_
 rintro _ h1 n1 k1 rfl
 simp(disch:=first|(simp;done)|omega|rfl) [-getElem?_pos,]
 refine av (Zrc (by omega)) ?_
 rintro _ h2 n2 k2 rfl
 have hi:n2<n2+1:=by omega
 have kD:ah h N (h2.set n2 (.cells [.int .i64 (ks a),.int .i64 ((aV s:Nat):Int)] 26 true)) (n2+1):=(k1.trans k2).trans (aO ah.refl _)
 unfold vaE
 by_cases c:cN [ks a,((aV s:Nat):Int)]=0
 ·obtain⟨ca,cs⟩:=HV c
  have AH:aV s=0:=by omega
  obtain⟨a0,a1,a2,a3⟩:=Yti ca
  rw[c]
  rw[ca,cs]at kD
  have qs:=yB AH fs
  have es:=(kr AH).1
  simp(disch:=first|(simp;done)|omega|rfl) [-getElem?_pos,aj,b_.chk,ca,AH,Zup hi,cN,a_]
  generalize h2.set n2 (.cells [.int .i64 0,.int .i64 0] 26 true)=H2 at*
  have ta:=Ymk a2
  have qa:=Xfa a2 fa
  have Il:Sl h N u (tx (ziB a)):=by rw[<-ta];exact hu
  have lra:=@Yht a
  rw[<-lra]at a0 a1
  generalize ziB a=p at*
  clear c cs AH
  generalize aY s=q at*
  subst es
  refine av (AB qs (by omega)) ?_
  rintro v6 h6 n6 k6 hv6
  obtain⟨c6,rfl,hc6⟩:=hv6.c
  obtain⟨e61,e62⟩:=hc6.len
  have lO:∀c:List V,(V.agg c).cells=c:=fun _=>rfl
  simp(disch:=first|(simp;done)|omega|rfl) [-getElem?_pos,]
  refine av (BI (z:=0) (by decide) (by decide)) ?_
  rintro _ h7 n7 k7 hz
  obtain⟨c7,rfl,Vr⟩:=hz.c
  obtain⟨e71,e72⟩:=Vr.len
  have e4:=BD (d:=zF) e61 rfl
  unfold zF at e4
  have e5:=BD (d:=zF) e71 rfl
  unfold zF at e5
  have K7:=(kD.trans k6).trans k7
  have le7:=K7.le
  simp(disch:=first|(simp;done)|omega|rfl) [-getElem?_pos, -V.cells, -V.one,lO,e61,e62,e71,e72,bM,e4,e5]
  have kE:ah h7 n7 ((((h7.set n7 (.cells [.int .i64 0,.ziA,.int .i64 0,.ziA] 102 true)).set (n7+1) (.cells [.int .i64 0,.ziA,.int .i64 0,.ziA] 102 true)).set n7 (.cells c6 102 true)).set (n7+1) (.cells c7 102 true)) (n7+1+1):=(((ah.refl.new _).new _).set (Yv5 _)).set (by omega)
  have gA:((((h7.set n7 (.cells [.int .i64 0,.ziA,.int .i64 0,.ziA] 102 true)).set (n7+1) (.cells [.int .i64 0,.ziA,.int .i64 0,.ziA] 102 true)).set n7 (.cells c6 102 true)).set (n7+1) (.cells c7 102 true)).get n7=some (.cells c6 102 true):=by simp
  have gB:((((h7.set n7 (.cells [.int .i64 0,.ziA,.int .i64 0,.ziA] 102 true)).set (n7+1) (.cells [.int .i64 0,.ziA,.int .i64 0,.ziA] 102 true)).set n7 (.cells c6 102 true)).set (n7+1) (.cells c7 102 true)).get (n7+1)=some (.cells c7 102 true):=by simp
  generalize (((h7.set n7 (.cells [.int .i64 0,.ziA,.int .i64 0,.ziA] 102 true)).set (n7+1) (.cells [.int .i64 0,.ziA,.int .i64 0,.ziA] 102 true)).set n7 (.cells c6 102 true)).set (n7+1) (.cells c7 102 true)=HB at*
  have KE:=K7.trans kE
  refine av (Yhs (k0:=164) (Il.ai KE) (by omega) qa (by decide)) ?_
  rintro _ h8 n8 k8 ⟨rfl,hF⟩
  obtain⟨Rp,hRp⟩:∃Rp,Rp=n7+1+1:=⟨_,rfl⟩
  rw[<-hRp]at hF ⊢
  have le8:=k8.le
  simp(disch:=first|(simp;done)|omega|rfl) [-getElem?_pos,]
  refine av (Xhx rfl rfl) ?_
  rintro _ h9 n9 k9 ⟨e9,rfl,c1,c2⟩
  have le9:=k9.le
  have k89:=k8.trans k9
  have gA9:=(k89.get n7 (by omega)).trans gA
  have gB9:=(k89.get (n7+1) (by omega)).trans gB
  have fA9:=((hc6.ai k7).ai kE).ai k89
  have fB9:=(Vr.ai kE).ai k89
  have zjn:fz h9 n9 c7 0:=fB9
  simp(disch:=first|(simp;done)|omega|rfl) [-getElem?_pos,]
  refine Xgv (gv:=.func 186 [] [.ptr n8 0]) (by simp) rfl (Xgx (M:=n7) (B:=n7+1) (C:=n7) (Cb:=n8) (Rp:=Rp) gB9 zjn gA9 fA9 (hF.ai k9) (by omega) (by omega) (by omega) (by omega) (by omega) c2 c1 (by omega) (by simp) (by simp) qa qs (by omega) (by simp[KY])) ?_
  rintro _ ⟨H4,n4,W4⟩ ⟨J0,le4,U4,gD4,R,cs4,gL4,r1,r2,gB4,fB4⟩
  simp only at J0 le4 U4 gD4 gL4 gB4 fB4
  refine⟨R,gL4,by rw[r1];simp,?_⟩
  have hn:¬n7+1=n9+1:=by omega
  have fB5:=fB4.ziE (o:=.loop {R with st:=.exhausted}) gL4
  have gD5:(H4.set (n9+1) (.loop {R with st:=.exhausted})).get n9=some (.defs true):=by rw[T.al,aA (by omega)];exact gD4
  have gB5:(H4.set (n9+1) (.loop {R with st:=.exhausted})).get (n7+1)=some (.cells cs4 102 true):=by rw[T.al,aA hn];exact gB4
  have Nx:=KE.le
  have k5:ah h N (H4.set (n9+1) (.loop {R with st:=.exhausted})) n4:=⟨by omega,fun i hi=>by
   have:=K7.le
   rw[T.al,aA (by omega),U4 i (by omega) (by omega),k89.get i (by omega),KE.get i hi]⟩
  show Run A.C _ (some (.ex (Xgg R.iD) _ ⟨H4.set (n9+1) (.loop {R with st:=.exhausted}),n4,(n9+1)::W4⟩)) _
  generalize H4.set (n9+1) (.loop {R with st:=.exhausted})=F at*
  rw[r2]
  have lB:n7+1<n4:=by omega
  obtain⟨e41,e42⟩:=fB5.len
  have s4:=Ia e41
  simp(disch:=first|(simp;done)|omega|rfl) [-getElem?_pos, -V.cells, -V.one,gB5,lB,Xgg,aI,s4]
  have bq:=Xgi qa qs (k:=p.length) (by omega)
  have ziz:p.length*(164+164+1)<=13*(164+164+1):=ot _ (by omega)
  refine av (Ycq fB5.up (hP.ai k5) (k:=5000) (bq.mono (by omega)) (by decide)) ?_
  rintro _ xO n10 k10 hx
  have zjd:=(k10.get n9 (by omega)).trans gD5
  have zfB:=k10.le
  have K7l:=K7.le
  by_cases hb:vk (Ytf p q)=true
  ·rw[aR hb]at hx
   subst hx
   simp(disch:=first|(simp;done)|omega|rfl) [-getElem?_pos,]
   refine(Xgq zjd fun i=>by simp).2 ?_
   simp(disch:=first|(simp;done)|omega|rfl) [-getElem?_pos,Ret]
   exact⟨by rw[aA (by omega),aA (by omega)];exact Xba J0 (by omega),(k5.trans k10).set (by omega),.inr ⟨rfl,by rw[aR hb]⟩⟩
  ·rw[aA hb]at hx
   subst hx
   simp(disch:=first|(simp;done)|omega|rfl) [-getElem?_pos,]
   refine(Xgq zjd fun i=>by simp).2 ?_
   simp(disch:=first|(simp;done)|omega|rfl) [-getElem?_pos,Ret]
   exact⟨by rw[aA (by omega),aA (by omega)];exact Xba J0 (by omega),(k5.trans k10).set (by omega),.inr ⟨rfl,by rw[aA hb]⟩⟩
 ·simp(disch:=first|(simp;done)|omega|rfl) [-getElem?_pos,aj,b_.chk,Zup hi,c,a_,Ret]
  exact⟨kD,.inl ⟨c,rfl⟩⟩
def Db(D B:Nat)(q:Rat):Prop:=∃z:Int,q*(D:Rat)=(z:Rat)/\z.natAbs<=B
def Db.own{k:Nat}{q:Rat}(h:Qb k q):Db q.den (2^k) q:=⟨q.num,by
 have h1:=AA q
 rw[Rat.divInt_eq_div]at h1
 have h2:(((q.den:Nat):Int):Rat)=(q.den:Rat):=rfl
 rw[h2]at h1
 have hD:(q.den:Rat)≠0:=by
  intro hc
  have:((q.den:Nat):Rat)=((0:Nat):Rat):=hc
  rw[Rat.natCast_inj]at this
  have:=q.den_pos
  omega
 grind,by have:=h.1;omega⟩
def Yrg(l:List bj):Int:=if 64<l.length then 5 else gV l
structure RnH (g l p:bj) (D:Int) (d:List bj):Prop where
 lg:g.length<=40
 ll:l.length<=40
 lp:p.length<=40
 ld:d.length<100000
 fd:∀s∈d,s.length<=64
 q:gT g l p D=0->Qb 40 (aY g)/\Qb 40 (aY l)/\Qb 40 (aY p)
 s:Yrg d=0->d.length<=12
end
end Go.Mx
