/-lensletref01-/
import Derived.Test.YtlfdeoomaccciaaGreatDoorRcD
set_option linter.all false
namespace Go.Mx
noncomputable section
open Go Go.Proofs
set_option maxRecDepth 1000000
def Ynw{l:List Int}{d:Int}(h:d∈l):∃s:Nat,l[s]?=some d:=xW h
def Ysf{l:List Int}(h:∀(s:Nat) (d:Int),l[s]?=some d->0<=d/\d<1000000000):Di l:=fun d hd=>by
 obtain⟨s,hs⟩:=Ynw hd
 exact h s d hs
def Zxx{U U2:List Int}{j:Nat}{X:Int}(hj:j<=U.length)(hl:U2.length=U.length)(hs:∀s,s<j->U2[s]?=U[s]?)(hv:vI U2=vI U-pI j*X):vI (U2.drop j)=vI (U.drop j)-X:=by
 have h1:=K8 U j hj
 have h2:=K8 U2 j (by omega)
 have h3:U2.take j=U.take j:=by
  apply oe
  intro s
  rw[iM,iM]
  by_cases h:s<j
  ·rw[ay h,ay h];exact hs s h
  ·rw[ak h,ak h]
 rw[h3]at h2
 have h4:pI j*vI (U2.drop j)=pI j*(vI (U.drop j)-X):=by
  have:pI j*(vI (U.drop j)-X)=pI j*vI (U.drop j)-pI j*X:=by grind
  omega
 exact Int.eq_of_mul_eq_mul_left (Int.ne_of_gt (CE j)) h4
def Yke{U:List Int}{j L:Nat}{tt:Int}(hd:∀(s:Nat) (d:Int),s<j+L->U[s]?=some d->0<=d/\d<1000000000)(ht:U[j+L]?=some tt)(hz:∀s,j+L<s->s<U.length->U[s]?=some 0)(ax:vI (U.drop j)<pI L):(0<=vI (U.drop j)->tt=0)/\(vI (U.drop j)<0->tt<0):=by
 refine Ygj (w:=U.drop j) (n:=L) ?_ (by rw[fg];exact ht) ?_ ax
 ·refine Ysf fun s d hs=>?_
  by_cases h:s<L
  ·rw[iM,ay h,fg]at hs
   exact hd (j+s) d (by omega) hs
  ·rw[iM,ak h]at hs;cases hs
 ·intro s h1 h2
  rw[fg]
  exact hz (j+s) (by omega) (by simp at h2;omega)
structure NY (N:Nat) (h2:T O) (n2 iu iq n lu L:Nat) (A0:Int) (Y:List Int) (m:Nat) (r:T V) (st:St):Prop where
 ex:∃U Q,ZO N h2 n2 iu iq n U Q st/\r.get 13=some (.int .i64 ((m:Int)-1))/\U.length=lu/\Q.length=lu-L/\m<=lu-L/\Di U/\Di Q/\(∀s,m+L<=s->s<lu->U[s]?=some 0)/\vI (U.drop m)<vI Y/\(∀s,s<m->Q[s]?=some 0)/\vI U+vI Y*vI Q=A0
def Yhs{N:Nat}{h2:T O}{n2 iu iq n lu k:Nat}{A0 v1:Int}{Y:List Int}{v:V}{r0:T V}(hv:Sl h2 n2 v (dI Y))(hY:Y.length=k+2)(dY:Di Y)(oC:Y[k+1]?=some v1)(h5:500000000<=v1)(uY:k+2<lu)(wM:lu<1099511627776)(r9:r0.get 9=some v)(tZ:r0.get 10=some (.int .i64 (k+2:Nat)))(v_:r0.get 11=some (.slice iu 0 lu none 1))(HO:r0.get 12=some (.slice iq 0 (lu-(k+2)) (some (lu-(k+2))) 1))(a1:N<=n2)(a2:n2<=iu)(a3:iu<iq)(a4:iq<n):
  ∀m r st,(∀t,jS [(13,21),(82,191)] t=false->r.get t=r0.get t)->Fx [(13,21),(82,191)] r0 206 ⟨r,206,[]⟩->NY N h2 n2 iu iq n lu (k+2) A0 Y m r st->Code A.C none A.nH ⟨r,206,[]⟩ st (Rd [(13,21),(82,191)] r0 206 (NY N h2 n2 iu iq n lu (k+2) A0 Y) m (fun e r st=>e=.exit 2/\NY N h2 n2 iu iq n lu (k+2) A0 Y 0 r st)):=by
 rintro m r ⟨H,n1,W⟩ hr hf ⟨U,Q,⟨hW,hK,hn,ru,rq⟩,uL,ji,ZP,hm,dU,dQ,hz,xM,NZ,im⟩
 simp only at hW hK hn ru rq
 subst hn
 rw[bk]
 cases m with
 |zero=>
  simp[A.nH,hr,hf,uL]
  exact⟨U,Q,⟨hW,hK,rfl,ru,rq⟩,by simp[uL],ji,ZP,hm,dU,dQ,hz,xM,NZ,im⟩
 |succ j=>
  have yr:(((j+1:Nat):Int)-1)=(j:Int):=by omega
  rw[yr]at uL
  have GS:(0:Int)<=(j:Int):=by omega
  obtain⟨v2,jL⟩:=bh (l:=Y) (k:=k) (by omega)
  obtain⟨d1,e1⟩:=bh (l:=U) (k:=j+k) (by omega)
  obtain⟨d2,e2⟩:=bh (l:=U) (k:=j+k+1) (by omega)
  obtain⟨d3,e3⟩:=bh (l:=U) (k:=j+k+2) (by omega)
  obtain⟨x0,mG⟩:=bh (l:=U) (k:=j) (by omega)
  have hWt:=Yly (w:=U.drop j) (k:=k) (a:=d1) (c:=d2) (d:=d3) (by rw[fg];exact e1) (by rw[fg,<-pe];exact e2) (by rw[fg,<-pe];exact e3) (fun t h1 h2=>by rw[fg];exact hz _ (by omega) (by simp at h2;omega))
  have hDt:=Ylz jL oC hY
  have hWd:vI (U.drop j)<1000000000*vI Y:=by
   rw[lH mG,vI]
   have:=dU.get mG
   omega
  have hUk:=vG ((dU.drop j).take k)
  rw[gG,x_,pZ (by omega)]at hUk
  have hVk:=vG (dY.take k)
  rw[gG,pZ (by omega)]at hVk
  obtain⟨t,hg,t0,t1,fO,gW⟩:=Yiy (w:=W) (Sl.row (cp:=none) (L:=lu) (show iu<n1 by omega) ru (by simp[ji]) (fun k hk=>by cases hk)) (hv.ae hK) hY (by omega) e1 e2 e3 jL oC (dU.get e1) (dU.get e2) (dU.get e3) ⟨h5,(dY.get oC).2⟩ (dY.get jL) (CE k) (vF ((dU.drop j).take k)) hUk (vF (dY.take k)) hVk hWt hDt hWd
  have hVl:=vG dY
  rw[hY]at hVl
  have hVp:0<vI Y:=by have:=vF (dU.drop (j+1));omega
  simp[A.nH,hr,hf,uL,GS,r9,tZ,v_,HO,hg]
  refine bG [(15,18),(90,125)] (fun e r st=>e=.exit 4/\N6 N h2 n2 iu iq n1 U Q Y (k+2) j t 0 r st) (N6 N h2 n2 iu iq n1 U Q Y (k+2) j t) (k+2) ?_ ?_ ?_
  ·exact⟨0,U,0,by omega,by simp,by simp,by omega,by omega,⟨hW,hK,rfl,ru,rq⟩,rfl,fun _ _=>rfl,dU,by simp[vI]⟩
  ·exact Ygp hv hY dY (by omega) (by omega) ⟨by simp[hr,r9],by simp[hr,tZ],by simp[hr,v_,ji],by simp[hr,uL]⟩ (by simp) t0 t1 a1 a2 a3 a4
  ·rintro _ r2 ⟨H2,n3,W2⟩ dt ⟨rfl,i,U',c,hi,Oa,De,c0,c1,⟨dZ,eN,ff,ZQ,ZR⟩,uZ,eD,lE,Ob⟩
   simp only at dZ eN ff ZQ ZR
   subst ff
   obtain rfl:i=k+2:=by omega
   have Dq:=hf.inner (D':=[(15,18),(90,125)]) rfl (by simp) dt
   rw[<-hY,xg,hY]at Ob
   have ZS:U'[j+(k+2)]?=some d3:=by rw[eD _ (.inr (aQ _))];rw[<-pe];exact e3
   have Yw:=dU.get e3
   have q1:(j:Int)+((k:Int)+2)<(lu:Int):=by omega
   have q2:j+(k+2)<lu:=by omega
   have q3:(0:Int)<=(j:Int)+((k:Int)+2):=by omega
   have q4:((j:Int)+((k:Int)+2)).toNat=j+(k+2):=by omega
   have w8:=ib U'
   have b1':bl .i64 (d3-c)=d3-c:=cA (by omega) (by omega)
   have w7:=Bz (l:=U') (k:=j+(k+2)) (v:=d3-c) (by omega)
   have nn:¬iu<N:=by omega
   have d5:¬iq=iu:=by omega
   have d6:¬iu=iq:=by omega
   have nq:¬iq<N:=by omega
   have v2e:vI (U'.set (j+(k+2)) (d3-c))=vI U-pI j*(t*vI Y):=by
    rw[CG ZS]
    have:pI (j+(k+2))*(d3-c-d3)= -(pI (j+(k+2))*c):=by grind
    omega
   have oG:∀s,s<j->(U'.set (j+(k+2)) (d3-c))[s]?=U[s]?:=fun s hs=>by
    rw[dW (by omega)];exact eD s (.inl hs)
   have dL:∀s,j+(k+2)<s->s<lu->(U'.set (j+(k+2)) (d3-c))[s]?=some 0:=fun s h1 h2=>by
    rw[dW (by omega),eD s (.inr (by omega))];exact hz s (by omega) h2
   have ux:=Zxx (by omega) (by simp[uZ]) oG v2e
   have j9:(U'.set (j+(k+2)) (d3-c))[j+(k+2)]?=some (d3-c):=gK (by omega)
   have cX:vI ((U'.set (j+(k+2)) (d3-c)).drop j)<vI Y:=by
    rw[ux]
    have:(t+1)*vI Y=t*vI Y+vI Y:=by grind
    omega
   have ZT:=Yke (U:=U'.set (j+(k+2)) (d3-c)) (fun s d hs hd=>by
    rw[dW (by omega)]at hd;exact lE.get hd) j9 (fun s h1 h2=>dL s h1 (by simp at h2;omega)) (by omega)
   have qj1:(j:Int)<((lu-(k+2):Nat):Int):=by omega
   have qj2:j<lu-(k+2):=by omega
   have wq8:=ib Q
   by_cases er:d3-c<0
   ·have t1w:bl .i64 (t-1)=t-1:=cA (by omega) (by omega)
    simp(disch:=first|(simp;done)|omega|rfl) [-getElem?_pos,hr,dt,Dq,De,r9,tZ,v_,HO,uL,q1,q2,q3,q4,ZQ,ic ZS,b1',w7,ic j9,er,t1w]
    generalize hU2:U'.set (j+(k+2)) (d3-c)=U2 at*
    have iV:U2.length=lu:=by rw[<-hU2];simp[uZ,ji]
    have zaH:vI (U2.drop j)<0:=by
     apply Je;intro hc
     have:=ZT.1 hc
     omega
    have ZU:∀(s:Nat) (d:Int),s≠j+(k+2)->U2[s]?=some d->0<=d/\d<1000000000:=fun s d hs hd=>by
     rw[<-hU2,dW (by omega)]at hd;exact lE.get hd
    refine bG [(19,21),(148,174)] (fun e r st=>e=.exit 6/\Oc N h2 n2 iu iq n3 U2 Q Y (k+2) j 0 r st) (Oc N h2 n2 iu iq n3 U2 Q Y (k+2) j) (k+2) ?_ ?_ ?_
    ·exact⟨0,U2,0,by omega,by simp,by simp,by omega,by omega,⟨by simp[av,dZ,nn],eN.set (by omega),rfl,by simp,by simp[d5,ZR]⟩,rfl,fun _ _=>rfl,ZU,by simp[vI]⟩
    ·exact Yj9 hv hY dY (by omega) (by omega) ⟨by simp[hr,dt,r9],by simp[hr,dt,tZ],by simp[hr,dt,v_,iV],by simp[hr,dt,uL]⟩ a1 a2 a3 a4
    ·rintro _ r4 ⟨H4,n4,W4⟩ pG ⟨rfl,i4,U3,c4,hi4,RZ,R4,c40,c41,⟨BS,Ke,Od,Oe,Of⟩,Og,wu,Oh,Oi⟩
     simp only at BS Ke Od Oe Of
     subst Od
     obtain rfl:i4=k+2:=by omega
     have ZV:=Dq.inner (D':=[(19,21),(148,174)]) rfl (by simp) pG
     rw[<-hY,xg,hY]at Oi
     have e4:U3[j+(k+2)]?=some (d3-c):=by rw[wu _ (.inr (aQ _))];exact j9
     have x8:=ib U3
     have b4':bl .i64 (d3-c+c4)=d3-c+c4:=cA (by omega) (by omega)
     have x7:=Bz (l:=U3) (k:=j+(k+2)) (v:=d3-c+c4) (by omega)
     have v4e:vI (U3.set (j+(k+2)) (d3-c+c4))=vI U-pI j*((t-1)*vI Y):=by
      rw[CG e4]
      have x1:pI (j+(k+2))*(d3-c+c4-(d3-c))=pI (j+(k+2))*c4:=by grind
      have x2:pI j*((t-1)*vI Y)=pI j*(t*vI Y)-pI j*vI Y:=by grind
      omega
     have R5:∀s,s<j->(U3.set (j+(k+2)) (d3-c+c4))[s]?=U[s]?:=fun s hs=>by
      rw[dW (by omega),wu s (.inl hs)];exact oG s hs
     have zn:∀s,j+(k+2)<s->s<lu->(U3.set (j+(k+2)) (d3-c+c4))[s]?=some 0:=fun s h1 h2=>by
      rw[dW (by omega),wu s (.inr (by omega))];exact dL s h1 h2
     have Oj:=Zxx (by omega) (by simp[Og,iV,ji]) R5 v4e
     have AQ:(U3.set (j+(k+2)) (d3-c+c4))[j+(k+2)]?=some (d3-c+c4):=gK (by omega)
     have xt:(t-1)*vI Y=t*vI Y-vI Y:=by grind
     have ZW:vI ((U3.set (j+(k+2)) (d3-c+c4)).drop j)<vI Y:=by
      rw[Oj];omega
     have ZX:0<=vI ((U3.set (j+(k+2)) (d3-c+c4)).drop j):=by
      rw[Oj];omega
     have ZY:=Yke (U:=U3.set (j+(k+2)) (d3-c+c4)) (fun s d hs hd=>by
      rw[dW (by omega)]at hd;exact Oh s d (by omega) hd) AQ (fun s h1 h2=>zn s h1 (by simp at h2;omega)) (by omega)
     have tg:=ZY.1 ZX
     have w9:=Bz (l:=Q) (k:=j) (v:=t-1) (by omega)
     have pj:=NZ j (by omega)
     have zaI:1<=t:=by
      apply Ea;intro hc
      have:t=0:=by omega
      rw[this]at ux
      have:=vF (dU.drop j)
      omega
     simp(disch:=first|(simp;done)|omega|rfl) [-getElem?_pos,hr,dt,pG,ZV,R4,r9,tZ,v_,HO,uL,q1,q2,q3,q4,Oe,Of,ic e4,b4',x7,qj1,qj2,d5,d6,w9]
     refine⟨j,by omega,⟨U3.set (j+(k+2)) (d3-c+c4),Q.set j (t-1),⟨by simp[av,BS,nn,nq],?_,rfl,by simp[d6],by simp⟩,by simp,by simp[Og,iV],by simp[ZP],by omega,?_,dQ.set (by omega) (by omega),?_,?_,?_,?_⟩⟩
     ·exact(Ke.set (by omega)).set (by omega)
     ·refine Ysf fun s d hd=>?_
      by_cases hs:s=j+(k+2)
      ·subst hs
       rw[AQ,tg]at hd
       simp at hd
       omega
      ·rw[dW (fun h=>hs h.symm)]at hd
       exact Oh s d hs hd
     ·intro s h1 h2
      by_cases hs:s=j+(k+2)
      ·rw[hs,AQ,tg]
      ·exact zn s (by omega) h2
     ·exact ZW
     ·intro s hs
      rw[dW (by omega)];exact NZ s (by omega)
     ·rw[v4e,CG pj,<-im]
      grind
   ·have RG:0<=vI ((U'.set (j+(k+2)) (d3-c)).drop j):=by
     apply Ea;intro hc;exact er (ZT.2 hc)
    have tg:=ZT.1 RG
    have w9:=Bz (l:=Q) (k:=j) (v:=t) (by omega)
    have pj:=NZ j (by omega)
    rw[ux]at RG cX
    have tlt:t<1000000000:=by
     apply Je;intro hc
     have:=D4 hc (uE hVp)
     omega
    simp(disch:=first|(simp;done)|omega|rfl) [-getElem?_pos,hr,dt,Dq,De,r9,tZ,v_,HO,uL,q1,q2,q3,q4,ZQ,ZR,ic ZS,b1',w7,ic j9,er,qj1,qj2,d5,d6,w9]
    refine⟨j,by omega,⟨U'.set (j+(k+2)) (d3-c),Q.set j t,⟨by simp[av,dZ,nn,nq],?_,rfl,by simp[d6],by simp⟩,by simp,by simp[uZ,ji],by simp[ZP],by omega,?_,dQ.set t0 tlt,?_,?_,?_,?_⟩⟩
    ·exact(eN.set (by omega)).set (by omega)
    ·rw[tg];exact lE.set (by omega) (by omega)
    ·intro s h1 h2
     by_cases hs:s=j+(k+2)
     ·rw[hs,j9,tg]
     ·exact dL s (by omega) h2
    ·rw[ux];exact cX
    ·intro s hs
     rw[dW (by omega)];exact NZ s (by omega)
    ·rw[v2e,CG pj,<-im]
     grind
variable {N:Nat}
def Ok{N n2:Nat}(h:N<=n2):∀{w:List Nat},av n2 w=[]->av N w=[]
 |[],_=>rfl
 |i::w,hw=>by
  simp only[av]at hw ⊢
  by_cases h1:i<n2
  ·rw[ay h1]at hw
   unfold vD at hw
   split at hw
   ·rename_i hc
    rw[hw]at hc;simp at hc
   ·cases hw
  ·rw[ak h1]at hw
   rw[ak (by omega)]
   exact Ok h hw
def Zt4{h:T O}{i:Nat}{w:List Nat}{v:V}{l:List Int}(hr:h.get i=some (.cells [] 3 true))(hs:Sl h N v (dI l))(aW:l≠[])(hl:l.length<1099511627776):
  gJ ⟨h,N,w⟩ 1 8 3 (.slice i 0 0 (some 0) 1) v=some (.slice N 0 l.length none 1,⟨h.set N (.cells (dI l) 3 true),N+1,w⟩):=by
 have h0:l.length≠0:=fun hc=>aW (q8 hc)
 have jl:=Yqt (w:=w) hs
 rw[ib]at jl
 have hb:¬(uk<(2*(0+l.length)+1000)*8):=by unfold uk;omega
 simp only[gJ,jl]
 rw[ak h0,ak (by rintro(h|h|h)<;>omega)]
 simp only[St.row,hr]
 rw[ak (by omega)]
 simp[aD,St.alloc]
def Ykr(k:Nat):pI k=((1000000000^k:Nat):Int):=by unfold pI;simp
def Z0{b k:Nat}(h:(ds b).length=k+1):∃x,(ds b)[k]?=some x/\0<x/\x<1000000000/\pI k*x<=b/\(b:Int)<pI k*(x+1):=by
 have hb:b≠0:=fun hc=>by rw[hc,tB]at h;simp at h
 obtain⟨x,hx,mG⟩:=Yox hb
 rw[h,Nat.add_sub_cancel]at hx
 have hd:=(fY b).get hx
 have hv:=gm b
 rw[NV hx,zV (by omega),vI,Int.mul_zero,Int.add_zero]at hv
 have h1:=vF ((fY b).take k)
 have h2:=vG ((fY b).take k)
 rw[gG,pZ (by omega)]at h2
 have h3:pI k*(x+1)=pI k*x+pI k:=by grind
 exact⟨x,hx,mG,hd.2,by omega,by omega⟩
def Ynf{b k:Nat}(h:(ds b).length=k+1){x:Int}(hx:(ds b)[k]?=some x):∃f:Nat,(f:Int)=1000000000/(x+1)/\0<f/\f<1000000000/\(ds (b*f)).length=k+1/\∃y,(ds (b*f))[k]?=some y/\500000000<=y:=by
 obtain⟨x',jx,x0,x1,lo,hi⟩:=Z0 h
 obtain rfl:x=x':=pc (hx.symm.trans jx)
 have hd:(x+1)*(1000000000/(x+1))+1000000000%(x+1)=1000000000:=D8 ..
 have ef:0<=1000000000%(x+1):=D6 _ (by omega)
 have jr:1000000000%(x+1)<x+1:=D9 _ (by omega)
 have hh:=Yc4 (x:=x) (by omega) x1
 have f0:0<1000000000/(x+1):=by
  apply Je;intro hc
  have:=Int.mul_nonpos_of_nonneg_of_nonpos (a:=x) (by omega) hc
  omega
 have f1:1000000000/(x+1)<1000000000:=Int.ediv_lt_of_lt_mul (by omega) (by omega)
 obtain⟨f,hf⟩:=D3 (uE f0)
 rw[hf]at hd hh f0 f1
 have hp:=CE k
 have ZC:((b*f:Nat):Int)=(b:Int)*f:=by simp
 have up:(b:Int)*f<1000000000*pI k:=by
  have g1:(b:Int)*f<pI k*(x+1)*f:=Int.mul_lt_mul_of_pos_right hi f0
  have g2:pI k*(x+1)*f=pI k*((x+1)*f):=by grind
  have g3:pI k*((x+1)*f)<=pI k*1000000000:=q9 (by omega) (uE hp)
  omega
 have low:500000000*pI k<=(b:Int)*f:=by
  have g1:pI k*x*f<=(b:Int)*f:=D4 lo (uE f0)
  have g2:pI k*x*f=pI k*(x*f):=by grind
  have g3:pI k*500000000<=pI k*(x*f):=q9 hh (uE hp)
  omega
 have zaJ:(ds (b*f)).length<=k+1:=Jv (by
  have:((b*f:Nat):Int)<((1000000000^(k+1):Nat):Int):=by rw[<-Ykr,vE,ZC];exact up
  exact_mod_cast this)
 have zaK:(ds b).length<=(ds (b*f)).length:=uI (Nat.le_mul_of_pos_right b (by omega))
 have len:(ds (b*f)).length=k+1:=by omega
 obtain⟨y,hy,y0,y1,ylo,yhi⟩:=Z0 len
 refine⟨f,hf.symm,by omega,by omega,len,y,hy,?_⟩
 apply Ea
 intro hc
 have:pI k*(y+1)<=pI k*500000000:=q9 (by omega) (uE hp)
 omega
def Ol(N:Nat)(h2:T O)(n2 la:Nat)(A0:Int)(m:Nat)(r:T V)(st:St):Prop:=av n2 st.w=[]/\ab h2 n2 st.h st.n/\∃u l,r.get 11=some u/\Own 1 3 n2 st.h st.n u (pH l)/\l.length+m=la+1/\vI l=A0/\Di l
def Yhp{N:Nat}{h2:T O}{n2 la:Nat}{A0:Int}{u0:V}{r0:T V}{Ff:List Int}(lO:Sl h2 n2 u0 (dI Ff))(hla:Ff.length=la)(hl:la<1099511627776)(r0e:r0.get 0=some u0):
  ∀m r st,(∀t,jS [(11,11),(63,71)] t=false->r.get t=r0.get t)->Fx [(11,11),(63,71)] r0 206 ⟨r,206,[]⟩->Ol N h2 n2 la A0 m r st->Code A.C none A.nI ⟨r,206,[]⟩ st (Rd [(11,11),(63,71)] r0 206 (Ol N h2 n2 la A0) m (fun e r st=>e=.exit 0/\Ol N h2 n2 la A0 0 r st)):=by
 rintro m r ⟨H,n1,W⟩ hr hf ⟨hW,hK,u,l,ku,ho,hm,hv,hd⟩
 simp only at hW hK ho
 have lu:=lO.len
 rw[ib,hla]at lu
 have lo:=ho.len
 rw[CK]at lo
 rw[bk]
 cases m with
 |zero=>
  have:¬(l.length:Int)<(la:Int)+1:=by omega
  simp(disch:=first|(simp;done)|omega|rfl) [A.nI,hr,hf,r0e,ku,lu,lo,this]
  exact⟨hW,hK,u,l,by simp[ku],ho,hm,hv,hd⟩
 |succ m=>
  have h1:(l.length:Int)<(la:Int)+1:=by omega
  have fh:=hK.le
  obtain⟨v',h',w',e1,e2,e3,e4,e5⟩:=tP (x:=[.int .i64 0]) (u:=.slice n1 0 1 (some 1) 1) (bytes:=8) (w:=W) (ho.ae (ab.refl.new (.cells [.int .i64 0] 3 true))) (by omega) (by decide) rfl (by simp[eA,St.row,aD]) (by rw[CK];omega)
  rw[<-Ek]at e5
  simp(disch:=first|(simp;done)|omega|rfl) [A.nI,hr,hf,r0e,ku,lu,lo,h1,ad,e1]
  refine⟨m,by omega,⟨by rw[e2];exact hW,((hK.new _).then e3),v',l++[0],by simp,e5,by simp;omega,by rw[CF,hv];simp,hd.app (Di.one (by omega) (by omega))⟩⟩
def Yk7{r:Nat}(h:r<1000000000):rf [(r:Int)]=ds r:=GM (Di.one (by omega) (by omega)) (by simp[vI])
def Om{h:T O}{N:Nat}{u v:V}{a b:Nat}(hu:Dn h N u a)(hv:Dn h N v b)(hb:0<b)(hl:(ds a).length<1000000000000)(iV:(ds b).length<1000000000000):Fn A.C 200 [u,v] h N (fun x h' n'=>∃q r,x=.aV [q,r]/\Dn h' n' q (a/b)/\Dn h' n' r (a%b)):=by
 intro w
 have lu:=hu.len
 have lv:=hv.len
 rw[ib]at lu lv
 rw[aN,A.k200 (by simp)]
 by_cases fU:a<b
 ·have fQ:BK a b= -1:=by simp[BK,fU]
  have hc:=fun w=>XD (w:=w) hu hv (by omega) (by omega)
  simp[A.b200,hc,fQ,aA]
  refine⟨ab.refl,.aa,u,⟨rfl,rfl⟩,?_,?_⟩
  ·rw[zU fU];unfold Dn;rw[tB];exact Sl.nil
  ·rw[yk fU];exact hu
 ·have hba:b<=a:=by omega
  have jz:=uI hba
  have hc:=fun w=>XD (w:=w) hu hv (by omega) (by omega)
  have CT:¬BK a b<0:=by unfold BK;rw[ak fU];split<;>omega
  have Fm:1<=(ds b).length:=by
   have:ds b≠[]:=fun hc=>by rw[CH]at hc;omega
   exact List.length_pos_iff.2 this
  by_cases hL:(ds b).length=1
  ·obtain⟨x,hx⟩:=bh (l:=ds b) (k:=0) (by omega)
   have hbx:ds b=[x]:=by
    cases hq:ds b with
    |nil=>rw[hq]at hL;simp at hL
    |cons y l=>
     rw[hq]at hL hx
     simp at hL hx
     rw[hL,hx]
   have BC:=gm b
   rw[hbx]at BC
   simp[vI]at BC
   have NX:=(fY b).get hx
   obtain⟨b1,b2,b3,b4,b5,z1,z2,z3,z4⟩:=Sl.at (show Sl h N v (dI (ds b)) from hv) (ic hx)
   simp at z4
   simp[A.b200,hc,CT,lv,hL,aE,z1,z3,z4]
   refine aB (Zoh (show Sl h N u (dI (ds a)) from hu) (fY a) (by omega) (by omega) NX.2) ?_
   rintro y h1 n1 k1 ⟨q,rfl,hq⟩
   rw[gm]at hq
   simp only[gm]
   have e1:(a:Int).toNat=a:=by omega
   have e2:x.toNat=b:=by omega
   rw[e1,e2]at hq
   rw[e1,e2]
   have hRb:=kZ a hb
   have hb9:b<1000000000:=by omega
   generalize hQ:a/b=Q at*
   generalize hR:a%b=R at*
   simp[ad]
   refine aB (Hk (l:=[(R:Int)]) (Sl.row (e:=3) (rw:=true) (cp:=some 1) (vt n1) (by simp[dI]) rfl (fun k hk=>by simp at hk;omega)) (by simp)) ?_
   rintro y2 h2 n2 k2 sW
   rw[Yk7 (by omega)]at sW
   have kk:=(ab.refl (h:=h1) (n:=n1)).new (.cells [.int .i64 (R:Int)] 3 true)
   simp[aA]
   exact⟨(k1.trans kk).trans k2,q,y2,⟨rfl,rfl⟩,hq.ae (kk.trans k2),sW⟩
  ·obtain⟨k,hk⟩:∃k,(ds b).length=k+2:=⟨(ds b).length-2,by omega⟩
   obtain⟨x,hx⟩:=bh (l:=ds b) (k:=k+1) (by omega)
   have NX:=(fY b).get hx
   obtain⟨f,hf,f0,f1,hlen,y1,ph,R6⟩:=Ynf (k:=k+1) (by omega) hx
   obtain⟨b1,b2,b3,b4,b5,z1,z2,z3,z4⟩:=Sl.at (show Sl h N v (dI (ds b)) from hv) (ic hx)
   have c1:((k:Int)+2-1)=(k:Int)+1:=by omega
   have c2:(k:Int)+1<(k:Int)+2:=by omega
   have c3:¬((k:Int)+2=1):=by omega
   have c4:((k:Int)+1).toNat=k+1:=by omega
   have c5:(0:Int)<=(k:Int)+1:=by omega
   have w1:bl .i64 (x+1)=x+1:=cA (by omega) (by omega)
   have w2:(1000000000:Int).tdiv (x+1)=f:=by rw[hf];exact Bl (by decide)
   have w3:bl .i64 (f:Int)=f:=cA (by omega) (by omega)
   have c6:¬x+1=0:=by omega
   rw[hk]at lv
   simp(disch:=omega) [A.b200,hc,CT,lv,aE,c1,c2,c3,c4,c5,c6,z1,z3,z4,w1,w2,w3,ad]
   have k0:=(ab.refl (h:=h) (n:=N)).new (.cells [.int .i64 (f:Int)] 3 true)
   have sV:Sl (h.set N (.cells [.int .i64 (f:Int)] 3 true)) (N+1) (.slice N 0 1 (some 1) 1) (dI [(f:Int)]):=Sl.row (e:=3) (rw:=true) (vt N) (by simp[dI]) rfl (fun k hk=>by simp at hk;omega)
   have dF:Di [(f:Int)]:=Di.one (by omega) (by omega)
   refine aB (XC (a:=b) (b:=f) (Sl.ae hv k0) sV (fY b) dF (gm b) (by simp[vI]) (by simp;omega)) ?_
   rintro vv h1 n1 k1 hvv
   have fk:=k1.le
   have lvv:=hvv.len
   have fe:(ds (b*f)).length=k+2:=by omega
   rw[ib,fe]at lvv
   simp[lvv]
   have k1a:=(ab.refl (h:=h1) (n:=n1)).new (.cells [] 3 true)
   refine aB (XC (a:=a) (b:=f) (((Sl.ae hu k0).ae k1).ae k1a) ((sV.ae k1).ae k1a) (fY a) dF (gm a) (by simp[vI]) (by simp;omega)) ?_
   rintro uu h2 n2 k2 huu
   have il:=k2.le
   have aW:ds (a*f)≠[]:=fun hc=>by
    rw[CH]at hc
    have:0<a*f:=yF (by omega) f0
    omega
   have zaL:(ds (a*f)).length<=(ds a).length+1:=by
    apply Jv
    have g1:=vG (fY a)
    rw[gm,Ykr]at g1
    have g2:a<1000000000^(ds a).length:=by exact_mod_cast g1
    rw[fZ]
    exact A3 g2 f1
   have Z1:=(k2.get n1 (by omega)).trans (show _=some (.cells [] 3 true) by simp)
   have GW:=Zt4 (w:=[]) Z1 huu aW (by omega)
   simp[GW,lu]
   have we:N<=n2:=by omega
   have NA:=(((k0.trans k1).trans k1a).trans k2)
   refine bG [(11,11),(63,71)] (fun e r st=>e=.exit 0/\Ol N h2 n2 (ds a).length ((a*f:Nat):Int) 0 r st) (Ol N h2 n2 (ds a).length ((a*f:Nat):Int)) ((ds a).length+1-(ds (a*f)).length) ?_ ?_ ?_
   ·refine⟨by simp,ab.refl.new _,_,ds (a*f),by simp;rfl,⟨fun q hq=>?_,.inr ⟨n2,by rw[CK],aQ _,by show n2<n2+1;omega,by simp[Ws]⟩⟩,by omega,gm _,fY _⟩
    simp[pH]at hq
    obtain⟨q',_,rfl⟩:=hq
    rfl
   ·exact Yhp (((Sl.ae hu k0).ae k1).ae k1a |>.ae k2) rfl (by omega) (by simp)
   ·rintro _ r ⟨H,n3,W⟩ hr ⟨rfl,hW,hK,u3,l,ku,ho,hm,im,iw⟩
    simp only at hW hK ho
    obtain⟨_,⟨h0,_⟩|⟨iu,Ka,i1,i2,i3⟩⟩:=ho
    ·simp[pH]at h0;rw[h0]at hm;simp at hm
    ·rw[CK]at Ka
     rw[Ws]at i3
     subst Ka
     have uY:l.length=(ds a).length+1:=by omega
     have hka:k+2<l.length:=by omega
     obtain⟨S,hS⟩:∃S,S=l.length-(k+2):=⟨_,rfl⟩
     have cS:((l.length:Int)-((k:Int)+2))=(S:Int):=by omega
     have oN:=Ok we hW
     have kH:=hK.new (.cells (dI (List.replicate S 0)) 3 true)
     have fh:=hK.le
     have mz:(dp [.int .i64 0] S:List V)=dI (List.replicate S 0):=We
     simp(disch:=first|(simp;done)|omega|rfl) [hr,ku,cS,mz]
     have hvY:=Dn.ae hvv (k1a.trans k2)
     have zal:vI l=(a*f:Nat):=im
     refine bG [(13,21),(82,191)] (fun e r st=>e=.exit 2/\NY N h2 n2 iu n3 (n3+1) l.length (k+2) ((a*f:Nat):Int) (ds (b*f)) 0 r st) (NY N h2 n2 iu n3 (n3+1) l.length (k+2) ((a*f:Nat):Int) (ds (b*f))) S ?_ ?_ ?_
     ·refine⟨l,List.replicate S 0,⟨oN,kH,rfl,?_,by simp⟩,by simp,rfl,by simp[hS],by omega,iw,Di.Ej _,fun s h1 h2=>by omega,?_,fun s hs=>by simp[hs],by rw[Wa,im];simp⟩
      ·rw[T.ag,ak (by omega)];exact i3
      ·obtain⟨x',jx,x0,x1,lo,hi⟩:=Z0 (b:=b) (k:=k+1) (by omega)
       have g1:=vG (fY a)
       rw[gm,show (ds a).length=S+(k+1) by omega,Qi]at g1
       have g2:=K8 l S (by omega)
       have g3:=vF (iw.take S)
       have g4:pI (k+1)*1<=pI (k+1)*x':=q9 (by omega) (uE (CE _))
       have g5:pI S*pI (k+1)<=pI S*b:=q9 (by omega) (uE (CE _))
       have g6:(a:Int)*f<pI S*b*f:=Int.mul_lt_mul_of_pos_right (by omega) (by omega)
       rw[gm]
       apply Je
       intro hc
       have g7:pI S*((b*f:Nat):Int)<=pI S*vI (l.drop S):=q9 hc (uE (CE _))
       have g8:pI S*((b*f:Nat):Int)=pI S*b*f:=by push_cast;grind
       have g9:((a*f:Nat):Int)=(a:Int)*f:=by push_cast;rfl
       omega
     ·exact Yhs hvY fe (fY _) ph R6 hka (by omega) (by simp[hr]) (by simp[hr]) (by simp[hr,ku]) (by simp[hS]) we i1 i2 (vt n3)
     ·rintro _ r4 ⟨H4,n4,W4⟩ pG ⟨rfl,U,Q,⟨BS,Ke,Od,Oe,Of⟩,uL,hUl,hQl,_,dU,dQ,hz,xM,_,oM⟩
      simp only at BS Ke Od Oe Of
      subst Od
      rw[yU]at xM
      rw[gm]at xM oM
      obtain⟨qn,hqn⟩:=D3 (vF dQ)
      obtain⟨un,Z2⟩:=D3 (vF dU)
      rw[hqn,Z2]at oM
      rw[Z2]at xM
      have A1:un+b*f*qn=a*f:=by exact_mod_cast oM
      have yq:un<b*f:=by exact_mod_cast xM
      have m1:a/b=qn:=by
       have:a*f/(b*f)=qn:=by
        rw[<-A1,Nat.add_mul_div_left _ _ (by omega),zU yq,wX]
       rw[<-this,Qa _ _ f0]
      have m2:un/f=a%b:=by
       have:a*f%(b*f)=un:=by rw[<-A1,Nat.add_mul_mod_self_left,yk yq]
       rw[<-this,K3,Nat.mul_div_cancel _ f0]
      have Ym:Sl H4 (n3+1) (.slice iu 0 l.length none 1) (dI U):=Sl.row (by omega) Oe (by simp[hUl]) (fun k hk=>by cases hk)
      have hsQ:Sl H4 (n3+1) (.slice n3 0 S (some S) 1) (dI Q):=Sl.row (by omega) Of (by simp[hQl,hS]) (fun k hk=>by simp at hk;omega)
      obtain⟨v',e1,e2⟩:=DS (w:=[]) Ym (lo:=0) (hi:=k+2) (by omega) (by rw[ib];omega) none (some (.int .i64 ((k+2:Nat):Int))) (.inr ⟨rfl,rfl⟩) (.inl rfl)
      have e3:((dI U).take (k+2)).drop 0=dI (U.take (k+2)):=by rw[yU,dI,<-List.map_take];rfl
      rw[e3]at e2
      have ck:((k+2:Nat):Int)=(k:Int)+2:=by omega
      rw[ck]at e1
      have Z3:=(Ke.get N (by omega)).trans ((k2.get N (by omega)).trans ((show _=h1.get N by simp;omega).trans ((k1.get N (by omega)).trans (show _=some (.cells [.int .i64 (f:Int)] 3 true) by simp))))
      have Z4:vI (U.take (k+2))=un:=by
       rw[<-Z2]
       exact(Wj (fun t h1 h2=>hz t (by omega) (by omega))).symm
      simp[hr,pG,ku,Bh,aC,e1]
      refine aB (Hk e2 (by simp;omega)) ?_
      rintro y5 h5 n5 k5 On
      rw[GM (dU.take _) Z4]at On
      have Ic:=k5.le
      have Oo:=(k5.get N (by omega)).trans Z3
      have lt5:N<n5:=by omega
      have lt4:iu<n3+1:=by omega
      have Oq:(ds un).length<1099511627776:=by
       have:(ds un).length<=(ds (b*f)).length:=uI (by omega)
       omega
      simp[hr,pG,Oo]
      refine aB (Zoh (d:=(f:Int)) On (fY un) Oq (by omega) (by omega)) ?_
      rintro y6 h6 n6 k6 ⟨q6,rfl,Ng⟩
      have t1:(vI (ds un)).toNat=un:=by rw[gm];omega
      have t2:((f:Nat):Int).toNat=f:=by omega
      rw[t1,t2]at Ng
      rw[m2]at Ng
      generalize ((vI (ds un)).toNat%(f:Int).toNat)=ZZ
      simp[hr,pG,lt4,lt5]
      refine aB (Hk ((hsQ.ae k5).ae k6) (by omega)) ?_
      rintro y7 h7 n7 k7 hy7
      rw[GM dQ hqn]at hy7
      have oN4:av N W4=[]:=BS
      have Z5:=(((NA.trans Ke).trans k5).trans k6).trans k7
      simp[hr,pG,aA,oN4]
      refine⟨Z5,y7,q6,⟨rfl,rfl⟩,?_,?_⟩
      ·rw[m1];exact hy7
      ·exact Sl.ae Ng k7
variable {s:aM}
def A.Ot:=A.q Tryz.f131
def A.rY:=A.ql A.Ot 0 []
def A.b131:=(fun x0=>A.qb A.Ot [x0]) A.rY
def A.k131:=@A.kk 131 19 [.tmp 4] A.b131 (by kernel_rfl) rfl
def A.Ou:=A.q Tryz.f198
def A.j_:=A.ql A.Ou 0 []
def A.b198:=(fun x0=>A.qb A.Ou [x0]) A.j_
def A.k198:=@A.kk 198 40 [.cell 2 (some 2)] A.b198 (by kernel_rfl) rfl
def R7{h:T O}{N:Nat}{u v:V}{a b:Nat}(hu:Dn h N u a)(hv:Dn h N v b)(hl:(ds a).length<1000000000000)(iV:(ds b).length<1000000000000):Fn A.C 131 [u,v] h N (fun x h' n'=>Dn h' n' x (Nat.gcd a b)):=by
 intro w
 rw[aN,A.k131 (by simp)]
 simp[A.b131]
 refine bG [(0,1),(5,17)] (fun e r st=>e=.exit 0/\av N st.w=[]/\ab h N st.h st.n/\∃x,r.get 0=some x/\Dn st.h st.n x (Nat.gcd a b)) (fun m r st=>av N st.w=[]/\ab h N st.h st.n/\∃x y c,r.get 0=some x/\r.get 1=some y/\Dn st.h st.n x c/\Dn st.h st.n y m/\Nat.gcd c m=Nat.gcd a b/\(ds c).length<1000000000000/\(ds m).length<1000000000000) b ?_ ?_ ?_
 ·exact⟨by simp,ab.refl,u,v,a,by simp,by simp,hu,hv,rfl,hl,iV⟩
 ·rintro m r ⟨H,n1,W⟩ hr hf ⟨hW,hK,x,y,c,h0,h1,hx,hy,hg,l1,l2⟩
  simp only at hW hK hx hy
  have ly:=hy.len
  rw[ib]at ly
  rw[bk]
  by_cases hm:m=0
  ·subst hm
   have z0:(ds 0).length=0:=by rw[tB];rfl
   rw[z0]at ly
   simp at hg
   simp[A.rY,hr,hf,h0,h1,ly,hW,hK]
   rw[<-hg];exact hx
  ·have aW:(ds m).length≠0:=fun hc=>hm (CH.1 (q8 hc))
   have p1:(0:Int)<((ds m).length:Int):=by omega
   have p2:0<(ds m).length:=by omega
   have p3:ds m≠[]:=fun hc=>aW (by rw[hc];rfl)
   simp[A.rY,hr,hf,h0,h1,ly,p1,p2,p3]
   refine aB (Om hx hy (by omega) l1 l2) ?_
   rintro z h3 n3 k3 ⟨q,r',rfl,hq,lG⟩
   simp[hr,hf,h0,h1,hW]
   refine⟨c%m,kZ _ (by omega),hK.trans k3,m,hy.ae k3,lG,?_,l2,?_⟩
   ·rw[<-hg,Nat.gcd_comm c m,Nat.gcd_rec m c,Nat.gcd_comm]
   ·have:=uI (a:=c%m) (b:=m) (Nat.le_of_lt (kZ _ (by omega)));omega
 ·rintro _ r ⟨H,n1,W⟩ hr ⟨rfl,hW,hK,x,h0,hx⟩
  simp only at hW hK hx
  simp[hr,h0,aA,hW,hK]
  exact hx
def Zxa(x:aM):∀(y:aM),aG (x++y)=aG x*10^y.length+aG y:=by
 have key:∀(y:aM) (n:Nat),y.foldl (fun n (c:UInt8)=>10*n+(c.toNat-48)) n=n*10^y.length+y.foldl (fun n (c:UInt8)=>10*n+(c.toNat-48)) 0:=by
  intro y
  induction y with
  |nil=>simp
  |cons c y ih=>
   intro n
   rw[List.foldl_cons,List.foldl_cons,ih,ih (10*0+(c.toNat-48)),bp,fZ]
   grind
 intro y
 unfold aG
 rw[List.foldl_append,key]
def Zt5(h:cE s=true)(k:Nat):cE (s.take k)=true:=by
 unfold cE at*
 rw[l7]at*
 exact fun c hc=>h c (yL hc)
def R8(h:cE s=true)(k:Nat):cE (s.drop k)=true:=by
 unfold cE at*
 rw[l7]at*
 exact fun c hc=>h c (IL hc)
def R9(h0:T O)(N:Nat)(s:aM)(m:Nat)(r:T V)(st:St):Prop:=av N st.w=[]/\ab h0 N st.h st.n/\∃cur w l,r.get 0=some (.str cur)/\cur.length=m/\1<=m/\m<=s.length/\cE cur=true/\r.get 4=some w/\Own 1 3 N st.h st.n w (pH l)/\Di l/\l.length+m<=s.length/\vI l+pI l.length*(aG cur:Nat)=(aG s:Nat)
def Sa(hd:cE s=true)(h1:1<=s.length)(h2:s.length<=3000000000){h:T O}{N:Nat}:Fn A.C 198 [.str s] h N (fun v h' n'=>Rg h' n' v (aG s:Nat)):=by
 intro w
 obtain⟨c,hc⟩:=bh (l:=s) (k:=0) (by omega)
 have pA:=Lb hd hc
 have fQ:s.head?=some c:=by cases s with
  |nil=>simp at hc
  |cons=>simpa using hc
 have a1:¬cI c=45:=by omega
 have a2:(0:Int)<(s.length:Int):=by omega
 have a3:0<s.length:=by omega
 have aW:s≠[]:=fun h=>by rw[h]at h1;simp at h1
 rw[aN,A.k198 (by simp)]
 simp(disch:=first|(simp;done)|omega|rfl) [-getElem?_pos,A.b198,a1,a2,a3,aW,fQ,hc,aE]
 refine bG [(0,0),(4,4),(16,32)] (fun e r st=>e=.exit 0/\∃m,m<=9/\R9 (h.set N (.cells [.bool false,.aa] 146 true)) (N+1) s m r st) (R9 (h.set N (.cells [.bool false,.aa] 146 true)) (N+1) s) s.length ?_ ?_ ?_
 ·exact⟨by simp,ab.refl,s,.aa,[],by simp,rfl,h1,aQ _,hd,by simp,Own.nil,Di.nil,by simp,by simp[vI,pI]⟩
 ·rintro m r ⟨H,n1,W⟩ hr hf ⟨hW,hK,cur,u,l,g0,cO,m1,m2,pA,g4,ho,iQ,sP,hv⟩
  simp only at hW hK ho
  subst cO
  rw[bk]
  by_cases h9:9<cur.length
  ·have zC:(9:Int)<(cur.length:Int):=by omega
   have fh:=hK.le
   have Il:=NR (s:=cur.drop (cur.length-9)) (st:=⟨H,n1,W⟩) (R8 pA _) (by simp;omega)
   have CT:((cur.length:Int)-9).toNat=cur.length-9:=by omega
   have Fk:=BB (R8 pA (cur.length-9))
   have iw:(cur.drop (cur.length-9)).length=9:=by simp;omega
   rw[iw]at Fk
   have ix:=Zxa (cur.take (cur.length-9)) (cur.drop (cur.length-9))
   rw[Cl,iw,show (10:Nat)^9=1000000000 by decide]at ix
   generalize hD:aG (cur.drop (cur.length-9))=D at*
   obtain⟨v',h',w',e1,e2,e3,e4,e5⟩:=tP (x:=[.int .i64 (D:Int)]) (u:=.slice n1 0 1 (some 1) 1) (bytes:=8) (w:=W) (ho.ae (ab.refl.new (.cells [.int .i64 (D:Int)] 3 true))) (by omega) (by decide) rfl (by simp[eA,St.row,aD]) (by rw[CK];omega)
   rw[<-Ek]at e5
   simp(disch:=first|(simp;done)|omega|rfl) [A.j_,hr,hf,g0,g4,h9,zC,CT,aC,Il,ad,e1]
   refine⟨cur.length-9,by omega,⟨by rw[e2];exact hW,(hK.new _).then e3,cur.take (cur.length-9),v',l++[(D:Int)],by simp,by simp,by omega,by omega,Zt5 pA _,by simp,e5,iQ.app (Di.one (by omega) (by omega)),by simp;omega,?_⟩⟩
   rw[CF,i_,zW,vE,<-hv]
   have Im:((aG cur:Nat):Int)=(aG (cur.take (cur.length-9)):Nat)*1000000000+D:=by omega
   rw[Im]
   generalize ((aG (cur.take (cur.length-9)):Nat):Int)=X
   generalize pI l.length=P
   grind
  ·have zC:¬(9:Int)<(cur.length:Int):=by omega
   simp[A.j_,hr,hf,g0,h9,zC]
   exact⟨cur.length,by omega,hW,hK,cur,u,l,by simp[g0],rfl,m1,m2,pA,by simp[g4],ho,iQ,sP,hv⟩
 ·rintro _ r ⟨H,n1,W⟩ hr ⟨rfl,m,m9,hW,hK,cur,u,l,g0,cO,m1,m2,pA,g4,ho,iQ,sP,hv⟩
  simp only at hW hK ho
  subst cO
  have fh:=hK.le
  have Il:=NR (s:=cur) (st:=⟨H,n1,W⟩) pA (by omega)
  have Fk:=BB pA
  have hp9:=Qk m9
  generalize hD:aG cur=D at*
  obtain⟨v',h',w',e1,e2,e3,e4,e5⟩:=tP (x:=[.int .i64 (D:Int)]) (u:=.slice n1 0 1 (some 1) 1) (bytes:=8) (w:=W) (ho.ae (ab.refl.new (.cells [.int .i64 (D:Int)] 3 true))) (by omega) (by decide) rfl (by simp[eA,St.row,aD]) (by rw[CK];omega)
  rw[<-Ek]at e5
  simp[hr,g0,g4,Il,ad,e1]
  have lE:Di (l++[(D:Int)]):=iQ.app (Di.one (by omega) (by omega))
  refine aB (xC (n:=aG s) e5.sl lE (by rw[CF];exact hv) (by simp;omega)) ?_
  rintro y h5 n5 k5 hy
  have kk:=((hK.new (.cells [.int .i64 (D:Int)] 3 true)).then e3).trans k5
  have xD:=kk.le
  have oY:=kk.get N (by omega)
  simp at oY
  obtain⟨u5,rfl,AM⟩:=hy
  have HX:=fun c1 (hc:c1.length=2)=>Sl.setInt (i:=N) (c1:=c1) (e1:=146) (w1:=true) AM oY (by intro x hx k m;simp at hx;rcases hx with rfl|rfl<;>simp) hc
  have BV:=Sl.form AM |>.one
  unfold V.one at BV
  have ow:av N w'=[]:=Ok (vw N) (by rw[e2];exact hW)
  have k0:=(ab.refl (h:=h) (n:=N)).new (.cells [.bool false,.aa] 146 true)
  simp[hr,oY,ad,bD,BV,aO,aD,aA,ow]
  exact⟨(k0.trans kk).set (aQ N),u5,by simp,by simpa[Dn]using HX _ rfl⟩
end
end Go.Mx
