/-lensletref01-/
import Derived.Test.YteojhfjdbpdolaaGreatDoorRcD
set_option linter.all false
namespace Go.Mx
noncomputable section
open Go Go.Proofs
set_option maxRecDepth 1000000
def Ypi{l:List Int}{d:Int}(h:d∈l):∃s:Nat,l[s]?=some d:=tc h
def Yt4{l:List Int}(h:∀(s:Nat) (d:Int),l[s]?=some d->0<=d/\d<1000000000):Di l:=fun d hd=>by
 obtain⟨s,hs⟩:=Ypi hd
 exact h s d hs
def Zy1{U U2:List Int}{j:Nat}{X:Int}(hj:j<=U.length)(hl:U2.length=U.length)(hs:∀s,s<j->U2[s]?=U[s]?)(hv:vI U2=vI U-pI j*X):vI (U2.drop j)=vI (U.drop j)-X:=by
 have h1:=Lc U j hj
 have h2:=Lc U2 j (by omega)
 have h3:U2.take j=U.take j:=by
  apply lA
  intro s
  rw[iz,iz]
  by_cases h:s<j
  ·rw[av h,av h];exact hs s h
  ·rw[ak h,ak h]
 rw[h3]at h2
 have h4:pI j*vI (U2.drop j)=pI j*(vI (U.drop j)-X):=by
  have:pI j*(vI (U.drop j)-X)=pI j*vI (U.drop j)-pI j*X:=by grind
  omega
 exact Int.eq_of_mul_eq_mul_left (Int.ne_of_gt (CF j)) h4
def Ylu{U:List Int}{j L:Nat}{tt:Int}(hd:∀(s:Nat) (d:Int),s<j+L->U[s]?=some d->0<=d/\d<1000000000)(ht:U[j+L]?=some tt)(hz:∀s,j+L<s->s<U.length->U[s]?=some 0)(ay:vI (U.drop j)<pI L):(0<=vI (U.drop j)->tt=0)/\(vI (U.drop j)<0->tt<0):=by
 refine Yh2 (w:=U.drop j) (n:=L) ?_ (by rw[ff];exact ht) ?_ ay
 ·refine Yt4 fun s d hs=>?_
  by_cases h:s<L
  ·rw[iz,av h,ff]at hs
   exact hd (j+s) d (by omega) hs
  ·rw[iz,ak h]at hs;cases hs
 ·intro s h1 h2
  rw[ff]
  exact hz (j+s) (by omega) (by simp at h2;omega)
structure NY (N:Nat) (h2:T O) (n2 iu iq n lu L:Nat) (A0:Int) (Y:List Int) (m:Nat) (r:T V) (st:St):Prop where
 ex:∃U Q,ZW N h2 n2 iu iq n U Q st/\r.get 13=some (.int .i64 ((m:Int)-1))/\U.length=lu/\Q.length=lu-L/\m<=lu-L/\Di U/\Di Q/\(∀s,m+L<=s->s<lu->U[s]?=some 0)/\vI (U.drop m)<vI Y/\(∀s,s<m->Q[s]?=some 0)/\vI U+vI Y*vI Q=A0
def Yi8{N:Nat}{h2:T O}{n2 iu iq n lu k:Nat}{A0 v1:Int}{Y:List Int}{v:V}{r0:T V}(hv:Sl h2 n2 v (dI Y))(hY:Y.length=k+2)(dY:Di Y)(me:Y[k+1]?=some v1)(h5:500000000<=v1)(sZ:k+2<lu)(wK:lu<1099511627776)(r9:r0.get 9=some v)(tO:r0.get 10=some (.int .i64 (k+2:Nat)))(vX:r0.get 11=some (.slice iu 0 lu none 1))(HL:r0.get 12=some (.slice iq 0 (lu-(k+2)) (some (lu-(k+2))) 1))(a1:N<=n2)(a2:n2<=iu)(a3:iu<iq)(a4:iq<n):
  ∀m r st,(∀t,jP [(13,21),(82,191)] t=false->r.get t=r0.get t)->Fx [(13,21),(82,191)] r0 206 ⟨r,206,[]⟩->NY N h2 n2 iu iq n lu (k+2) A0 Y m r st->Code A.C none A.nE ⟨r,206,[]⟩ st (Rd [(13,21),(82,191)] r0 206 (NY N h2 n2 iu iq n lu (k+2) A0 Y) m (fun e r st=>e=.exit 2/\NY N h2 n2 iu iq n lu (k+2) A0 Y 0 r st)):=by
 rintro m r ⟨H,n1,W⟩ hr hf ⟨U,Q,⟨hW,hK,hn,ru,rq⟩,uE,iX,ZX,hm,dU,dQ,hz,xN,NZ,iL⟩
 simp only at hW hK hn ru rq
 subst hn
 rw[bl]
 cases m with
 |zero=>
  simp[A.nE,hr,hf,uE]
  exact⟨U,Q,⟨hW,hK,rfl,ru,rq⟩,by simp[uE],iX,ZX,hm,dU,dQ,hz,xN,NZ,iL⟩
 |succ j=>
  have CQ:(((j+1:Nat):Int)-1)=(j:Int):=by omega
  rw[CQ]at uE
  have GO:(0:Int)<=(j:Int):=by omega
  obtain⟨v2,iR⟩:=bk (l:=Y) (k:=k) (by omega)
  obtain⟨d1,e1⟩:=bk (l:=U) (k:=j+k) (by omega)
  obtain⟨d2,e2⟩:=bk (l:=U) (k:=j+k+1) (by omega)
  obtain⟨d3,e3⟩:=bk (l:=U) (k:=j+k+2) (by omega)
  obtain⟨x0,mH⟩:=bk (l:=U) (k:=j) (by omega)
  have hWt:=Yng (w:=U.drop j) (k:=k) (a:=d1) (c:=d2) (d:=d3) (by rw[ff];exact e1) (by rw[ff,<-oW];exact e2) (by rw[ff,<-oW];exact e3) (fun t h1 h2=>by rw[ff];exact hz _ (by omega) (by simp at h2;omega))
  have hDt:=Ynh iR me hY
  have hWd:vI (U.drop j)<1000000000*vI Y:=by
   rw[my mH,vI]
   have:=dU.get mH
   omega
  have hUk:=vC ((dU.drop j).take k)
  rw[gD,uQ,pV (by omega)]at hUk
  have hVk:=vC (dY.take k)
  rw[gD,pV (by omega)]at hVk
  obtain⟨t,hg,t0,t1,fN,gX⟩:=Yke (w:=W) (Sl.row (cp:=none) (L:=lu) (show iu<n1 by omega) ru (by simp[iX]) (fun k hk=>by cases hk)) (hv.ae hK) hY (by omega) e1 e2 e3 iR me (dU.get e1) (dU.get e2) (dU.get e3) ⟨h5,(dY.get me).2⟩ (dY.get iR) (CF k) (vA ((dU.drop j).take k)) hUk (vA (dY.take k)) hVk hWt hDt hWd
  have hVl:=vC dY
  rw[hY]at hVl
  have hVp:0<vI Y:=by have:=vA (dU.drop (j+1));omega
  simp[A.nE,hr,hf,uE,GO,r9,tO,vX,HL,hg]
  refine bL [(15,18),(90,125)] (fun e r st=>e=.exit 4/\N6 N h2 n2 iu iq n1 U Q Y (k+2) j t 0 r st) (N6 N h2 n2 iu iq n1 U Q Y (k+2) j t) (k+2) ?_ ?_ ?_
  ·exact⟨0,U,0,by omega,by simp,by simp,by omega,by omega,⟨hW,hK,rfl,ru,rq⟩,rfl,fun _ _=>rfl,dU,by simp[vI]⟩
  ·exact Yh8 hv hY dY (by omega) (by omega) ⟨by simp[hr,r9],by simp[hr,tO],by simp[hr,vX,iX],by simp[hr,uE]⟩ (by simp) t0 t1 a1 a2 a3 a4
  ·rintro _ r2 ⟨H2,n3,W2⟩ cZ ⟨rfl,i,U',c,hi,Oa,Dh,c0,c1,⟨eH,ib,eM,ZY,Z0⟩,uM,dP,kV,Ob⟩
   simp only at eH ib eM ZY Z0
   subst eM
   obtain rfl:i=k+2:=by omega
   have Ig:=hf.inner (D':=[(15,18),(90,125)]) rfl (by simp) cZ
   rw[<-hY,xU,hY]at Ob
   have Z1:U'[j+(k+2)]?=some d3:=by rw[dP _ (.inr (aM _))];rw[<-oW];exact e3
   have YJ:=dU.get e3
   have q1:(j:Int)+((k:Int)+2)<(lu:Int):=by omega
   have q2:j+(k+2)<lu:=by omega
   have q3:(0:Int)<=(j:Int)+((k:Int)+2):=by omega
   have q4:((j:Int)+((k:Int)+2)).toNat=j+(k+2):=by omega
   have w8:=fZ U'
   have b1':bj .i64 (d3-c)=d3-c:=cD (by omega) (by omega)
   have w7:=zL (l:=U') (k:=j+(k+2)) (v:=d3-c) (by omega)
   have nn:¬iu<N:=by omega
   have d5:¬iq=iu:=by omega
   have d6:¬iu=iq:=by omega
   have nq:¬iq<N:=by omega
   have v2e:vI (U'.set (j+(k+2)) (d3-c))=vI U-pI j*(t*vI Y):=by
    rw[CH Z1]
    have:pI (j+(k+2))*(d3-c-d3)= -(pI (j+(k+2))*c):=by grind
    omega
   have kg:∀s,s<j->(U'.set (j+(k+2)) (d3-c))[s]?=U[s]?:=fun s hs=>by
    rw[d_ (by omega)];exact dP s (.inl hs)
   have dT:∀s,j+(k+2)<s->s<lu->(U'.set (j+(k+2)) (d3-c))[s]?=some 0:=fun s h1 h2=>by
    rw[d_ (by omega),dP s (.inr (by omega))];exact hz s (by omega) h2
   have tY:=Zy1 (by omega) (by simp[uM]) kg v2e
   have jX:(U'.set (j+(k+2)) (d3-c))[j+(k+2)]?=some (d3-c):=gG (by omega)
   have dj:vI ((U'.set (j+(k+2)) (d3-c)).drop j)<vI Y:=by
    rw[tY]
    have:(t+1)*vI Y=t*vI Y+vI Y:=by grind
    omega
   have Z2:=Ylu (U:=U'.set (j+(k+2)) (d3-c)) (fun s d hs hd=>by
    rw[d_ (by omega)]at hd;exact kV.get hd) jX (fun s h1 h2=>dT s h1 (by simp at h2;omega)) (by omega)
   have qj1:(j:Int)<((lu-(k+2):Nat):Int):=by omega
   have qj2:j<lu-(k+2):=by omega
   have wq8:=fZ Q
   by_cases eC:d3-c<0
   ·have t1w:bj .i64 (t-1)=t-1:=cD (by omega) (by omega)
    simp(disch:=first|(simp;done)|omega|rfl) [-getElem?_pos,hr,cZ,Ig,Dh,r9,tO,vX,HL,uE,q1,q2,q3,q4,ZY,fS Z1,b1',w7,fS jX,eC,t1w]
    generalize hU2:U'.set (j+(k+2)) (d3-c)=U2 at*
    have iD:U2.length=lu:=by rw[<-hU2];simp[uM,iX]
    have zaR:vI (U2.drop j)<0:=by
     apply Je;intro hc
     have:=Z2.1 hc
     omega
    have Z3:∀(s:Nat) (d:Int),s≠j+(k+2)->U2[s]?=some d->0<=d/\d<1000000000:=fun s d hs hd=>by
     rw[<-hU2,d_ (by omega)]at hd;exact kV.get hd
    refine bL [(19,21),(148,174)] (fun e r st=>e=.exit 6/\Oc N h2 n2 iu iq n3 U2 Q Y (k+2) j 0 r st) (Oc N h2 n2 iu iq n3 U2 Q Y (k+2) j) (k+2) ?_ ?_ ?_
    ·exact⟨0,U2,0,by omega,by simp,by simp,by omega,by omega,⟨by simp[ax,eH,nn],ib.set (by omega),rfl,by simp,by simp[d5,Z0]⟩,rfl,fun _ _=>rfl,Z3,by simp[vI]⟩
    ·exact Ylq hv hY dY (by omega) (by omega) ⟨by simp[hr,cZ,r9],by simp[hr,cZ,tO],by simp[hr,cZ,vX,iD],by simp[hr,cZ,uE]⟩ a1 a2 a3 a4
    ·rintro _ r4 ⟨H4,n4,W4⟩ pk ⟨rfl,i4,U3,c4,hi4,Sf,Sg,c40,c41,⟨HE,J9,Od,Oe,Of⟩,Og,wj,Oh,Oi⟩
     simp only at HE J9 Od Oe Of
     subst Od
     obtain rfl:i4=k+2:=by omega
     have Z4:=Ig.inner (D':=[(19,21),(148,174)]) rfl (by simp) pk
     rw[<-hY,xU,hY]at Oi
     have e4:U3[j+(k+2)]?=some (d3-c):=by rw[wj _ (.inr (aM _))];exact jX
     have x8:=fZ U3
     have b4':bj .i64 (d3-c+c4)=d3-c+c4:=cD (by omega) (by omega)
     have x7:=zL (l:=U3) (k:=j+(k+2)) (v:=d3-c+c4) (by omega)
     have v4e:vI (U3.set (j+(k+2)) (d3-c+c4))=vI U-pI j*((t-1)*vI Y):=by
      rw[CH e4]
      have x1:pI (j+(k+2))*(d3-c+c4-(d3-c))=pI (j+(k+2))*c4:=by grind
      have x2:pI j*((t-1)*vI Y)=pI j*(t*vI Y)-pI j*vI Y:=by grind
      omega
     have Sh:∀s,s<j->(U3.set (j+(k+2)) (d3-c+c4))[s]?=U[s]?:=fun s hs=>by
      rw[d_ (by omega),wj s (.inl hs)];exact kg s hs
     have zr:∀s,j+(k+2)<s->s<lu->(U3.set (j+(k+2)) (d3-c+c4))[s]?=some 0:=fun s h1 h2=>by
      rw[d_ (by omega),wj s (.inr (by omega))];exact dT s h1 h2
     have Oj:=Zy1 (by omega) (by simp[Og,iD,iX]) Sh v4e
     have AU:(U3.set (j+(k+2)) (d3-c+c4))[j+(k+2)]?=some (d3-c+c4):=gG (by omega)
     have xt:(t-1)*vI Y=t*vI Y-vI Y:=by grind
     have Z5:vI ((U3.set (j+(k+2)) (d3-c+c4)).drop j)<vI Y:=by
      rw[Oj];omega
     have Z6:0<=vI ((U3.set (j+(k+2)) (d3-c+c4)).drop j):=by
      rw[Oj];omega
     have Z7:=Ylu (U:=U3.set (j+(k+2)) (d3-c+c4)) (fun s d hs hd=>by
      rw[d_ (by omega)]at hd;exact Oh s d (by omega) hd) AU (fun s h1 h2=>zr s h1 (by simp at h2;omega)) (by omega)
     have pP:=Z7.1 Z6
     have w9:=zL (l:=Q) (k:=j) (v:=t-1) (by omega)
     have sI:=NZ j (by omega)
     have zaS:1<=t:=by
      apply Ea;intro hc
      have:t=0:=by omega
      rw[this]at tY
      have:=vA (dU.drop j)
      omega
     simp(disch:=first|(simp;done)|omega|rfl) [-getElem?_pos,hr,cZ,pk,Z4,Sg,r9,tO,vX,HL,uE,q1,q2,q3,q4,Oe,Of,fS e4,b4',x7,qj1,qj2,d5,d6,w9]
     refine⟨j,by omega,⟨U3.set (j+(k+2)) (d3-c+c4),Q.set j (t-1),⟨by simp[ax,HE,nn,nq],?_,rfl,by simp[d6],by simp⟩,by simp,by simp[Og,iD],by simp[ZX],by omega,?_,dQ.set (by omega) (by omega),?_,?_,?_,?_⟩⟩
     ·exact(J9.set (by omega)).set (by omega)
     ·refine Yt4 fun s d hd=>?_
      by_cases hs:s=j+(k+2)
      ·subst hs
       rw[AU,pP]at hd
       simp at hd
       omega
      ·rw[d_ (fun h=>hs h.symm)]at hd
       exact Oh s d hs hd
     ·intro s h1 h2
      by_cases hs:s=j+(k+2)
      ·rw[hs,AU,pP]
      ·exact zr s (by omega) h2
     ·exact Z5
     ·intro s hs
      rw[d_ (by omega)];exact NZ s (by omega)
     ·rw[v4e,CH sI,<-iL]
      grind
   ·have RU:0<=vI ((U'.set (j+(k+2)) (d3-c)).drop j):=by
     apply Ea;intro hc;exact eC (Z2.2 hc)
    have pP:=Z2.1 RU
    have w9:=zL (l:=Q) (k:=j) (v:=t) (by omega)
    have sI:=NZ j (by omega)
    rw[tY]at RU dj
    have tlt:t<1000000000:=by
     apply Je;intro hc
     have:=D3 hc (uv hVp)
     omega
    simp(disch:=first|(simp;done)|omega|rfl) [-getElem?_pos,hr,cZ,Ig,Dh,r9,tO,vX,HL,uE,q1,q2,q3,q4,ZY,Z0,fS Z1,b1',w7,fS jX,eC,qj1,qj2,d5,d6,w9]
    refine⟨j,by omega,⟨U'.set (j+(k+2)) (d3-c),Q.set j t,⟨by simp[ax,eH,nn,nq],?_,rfl,by simp[d6],by simp⟩,by simp,by simp[uM,iX],by simp[ZX],by omega,?_,dQ.set t0 tlt,?_,?_,?_,?_⟩⟩
    ·exact(ib.set (by omega)).set (by omega)
    ·rw[pP];exact kV.set (by omega) (by omega)
    ·intro s h1 h2
     by_cases hs:s=j+(k+2)
     ·rw[hs,jX,pP]
     ·exact dT s (by omega) h2
    ·rw[tY];exact dj
    ·intro s hs
     rw[d_ (by omega)];exact NZ s (by omega)
    ·rw[v2e,CH sI,<-iL]
     grind
variable {N:Nat}
def Ok{N n2:Nat}(h:N<=n2):∀{w:List Nat},ax n2 w=[]->ax N w=[]
 |[],_=>rfl
 |i::w,hw=>by
  simp only[ax]at hw ⊢
  by_cases h1:i<n2
  ·rw[av h1]at hw
   unfold uW at hw
   split at hw
   ·rename_i hc
    rw[hw]at hc;simp at hc
   ·cases hw
  ·rw[ak h1]at hw
   rw[ak (by omega)]
   exact Ok h hw
def Zur{h:T O}{i:Nat}{w:List Nat}{v:V}{l:List Int}(hr:h.get i=some (.cells [] 3 true))(hs:Sl h N v (dI l))(aW:l≠[])(hl:l.length<1099511627776):
  fY ⟨h,N,w⟩ 1 8 3 (.slice i 0 0 (some 0) 1) v=some (.slice N 0 l.length none 1,⟨h.set N (.cells (dI l) 3 true),N+1,w⟩):=by
 have h0:l.length≠0:=fun hc=>aW (qE hc)
 have jq:=Yr9 (w:=w) hs
 rw[fZ]at jq
 have hb:¬(tZ<(2*(0+l.length)+1000)*8):=by unfold tZ;omega
 simp only[fY,jq]
 rw[ak h0,ak (by rintro(h|h|h)<;>omega)]
 simp only[St.row,hr]
 rw[ak (by omega)]
 simp[aF,St.alloc]
def Yme(k:Nat):pI k=((1000000000^k:Nat):Int):=by unfold pI;simp
def Z8{b k:Nat}(h:(ds b).length=k+1):∃x,(ds b)[k]?=some x/\0<x/\x<1000000000/\pI k*x<=b/\(b:Int)<pI k*(x+1):=by
 have hb:b≠0:=fun hc=>by rw[hc,th]at h;simp at h
 obtain⟨x,hx,mH⟩:=Yqp hb
 rw[h,Nat.add_sub_cancel]at hx
 have hd:=(fV b).get hx
 have hv:=gk b
 rw[NV hx,yC (by omega),vI,Int.mul_zero,Int.add_zero]at hv
 have h1:=vA ((fV b).take k)
 have h2:=vC ((fV b).take k)
 rw[gD,pV (by omega)]at h2
 have h3:pI k*(x+1)=pI k*x+pI k:=by grind
 exact⟨x,hx,mH,hd.2,by omega,by omega⟩
def Yo2{b k:Nat}(h:(ds b).length=k+1){x:Int}(hx:(ds b)[k]?=some x):∃f:Nat,(f:Int)=1000000000/(x+1)/\0<f/\f<1000000000/\(ds (b*f)).length=k+1/\∃y,(ds (b*f))[k]?=some y/\500000000<=y:=by
 obtain⟨x',jn,x0,x1,lo,hi⟩:=Z8 h
 obtain rfl:x=x':=oV (hx.symm.trans jn)
 have hd:(x+1)*(1000000000/(x+1))+1000000000%(x+1)=1000000000:=DZ ..
 have iS:0<=1000000000%(x+1):=Eb _ (by omega)
 have mG:1000000000%(x+1)<x+1:=D9 _ (by omega)
 have hh:=Yeh (x:=x) (by omega) x1
 have f0:0<1000000000/(x+1):=by
  apply Je;intro hc
  have:=Int.mul_nonpos_of_nonneg_of_nonpos (a:=x) (by omega) hc
  omega
 have f1:1000000000/(x+1)<1000000000:=Int.ediv_lt_of_lt_mul (by omega) (by omega)
 obtain⟨f,hf⟩:=D6 (uv f0)
 rw[hf]at hd hh f0 f1
 have hp:=CF k
 have ZM:((b*f:Nat):Int)=(b:Int)*f:=by simp
 have up:(b:Int)*f<1000000000*pI k:=by
  have g1:(b:Int)*f<pI k*(x+1)*f:=Int.mul_lt_mul_of_pos_right hi f0
  have g2:pI k*(x+1)*f=pI k*((x+1)*f):=by grind
  have g3:pI k*((x+1)*f)<=pI k*1000000000:=rb (by omega) (uv hp)
  omega
 have low:500000000*pI k<=(b:Int)*f:=by
  have g1:pI k*x*f<=(b:Int)*f:=D3 lo (uv f0)
  have g2:pI k*x*f=pI k*(x*f):=by grind
  have g3:pI k*500000000<=pI k*(x*f):=rb hh (uv hp)
  omega
 have zaT:(ds (b*f)).length<=k+1:=Jt (by
  have:((b*f:Nat):Int)<((1000000000^(k+1):Nat):Int):=by rw[<-Yme,vz,ZM];exact up
  exact_mod_cast this)
 have zaU:(ds b).length<=(ds (b*f)).length:=uC (Nat.le_mul_of_pos_right b (by omega))
 have len:(ds (b*f)).length=k+1:=by omega
 obtain⟨y,hy,y0,y1,ylo,yhi⟩:=Z8 len
 refine⟨f,hf.symm,by omega,by omega,len,y,hy,?_⟩
 apply Ea
 intro hc
 have:pI k*(y+1)<=pI k*500000000:=rb (by omega) (uv hp)
 omega
def Ol(N:Nat)(h2:T O)(n2 la:Nat)(A0:Int)(m:Nat)(r:T V)(st:St):Prop:=ax n2 st.w=[]/\ab h2 n2 st.h st.n/\∃u l,r.get 11=some u/\Own 1 3 n2 st.h st.n u (pz l)/\l.length+m=la+1/\vI l=A0/\Di l
def Yi5{N:Nat}{h2:T O}{n2 la:Nat}{A0:Int}{u0:V}{r0:T V}{Fb:List Int}(lF:Sl h2 n2 u0 (dI Fb))(hla:Fb.length=la)(hl:la<1099511627776)(r0e:r0.get 0=some u0):
  ∀m r st,(∀t,jP [(11,11),(63,71)] t=false->r.get t=r0.get t)->Fx [(11,11),(63,71)] r0 206 ⟨r,206,[]⟩->Ol N h2 n2 la A0 m r st->Code A.C none A.nF ⟨r,206,[]⟩ st (Rd [(11,11),(63,71)] r0 206 (Ol N h2 n2 la A0) m (fun e r st=>e=.exit 0/\Ol N h2 n2 la A0 0 r st)):=by
 rintro m r ⟨H,n1,W⟩ hr hf ⟨hW,hK,u,l,m_,ho,hm,hv,hd⟩
 simp only at hW hK ho
 have lu:=lF.len
 rw[fZ,hla]at lu
 have lo:=ho.len
 rw[CM]at lo
 rw[bl]
 cases m with
 |zero=>
  have:¬(l.length:Int)<(la:Int)+1:=by omega
  simp(disch:=first|(simp;done)|omega|rfl) [A.nF,hr,hf,r0e,m_,lu,lo,this]
  exact⟨hW,hK,u,l,by simp[m_],ho,hm,hv,hd⟩
 |succ m=>
  have h1:(l.length:Int)<(la:Int)+1:=by omega
  have fx:=hK.le
  obtain⟨v',h',w',e1,e2,e3,e4,e5⟩:=tU (x:=[.int .i64 0]) (u:=.slice n1 0 1 (some 1) 1) (bytes:=8) (w:=W) (ho.ae (ab.refl.new (.cells [.int .i64 0] 3 true))) (by omega) (by decide) rfl (by simp[eL,St.row,aF]) (by rw[CM];omega)
  rw[<-El]at e5
  simp(disch:=first|(simp;done)|omega|rfl) [A.nF,hr,hf,r0e,m_,lu,lo,h1,ad,e1]
  refine⟨m,by omega,⟨by rw[e2];exact hW,((hK.new _).then e3),v',l++[0],by simp,e5,by simp;omega,by rw[CG,hv];simp,hd.app (Di.one (by omega) (by omega))⟩⟩
def Ymx{r:Nat}(h:r<1000000000):rj [(r:Int)]=ds r:=GI (Di.one (by omega) (by omega)) (by simp[vI])
def Om{h:T O}{N:Nat}{u v:V}{a b:Nat}(hu:Dn h N u a)(hv:Dn h N v b)(hb:0<b)(hl:(ds a).length<1000000000000)(iD:(ds b).length<1000000000000):Fn A.C 223 [u,v] h N (fun x h' n'=>∃q r,x=.aX [q,r]/\Dn h' n' q (a/b)/\Dn h' n' r (a%b)):=by
 intro w
 have lu:=hu.len
 have lv:=hv.len
 rw[fZ]at lu lv
 rw[aR,A.k223 (by simp)]
 by_cases gp:a<b
 ·have fy:BL a b= -1:=by simp[BL,gp]
  have hc:=fun w=>XV (w:=w) hu hv (by omega) (by omega)
  simp[A.b223,hc,fy,aE]
  refine⟨ab.refl,.aa,u,⟨rfl,rfl⟩,?_,?_⟩
  ·rw[zZ gp];unfold Dn;rw[th];exact Sl.nil
  ·rw[yn gp];exact hu
 ·have hba:b<=a:=by omega
  have js:=uC hba
  have hc:=fun w=>XV (w:=w) hu hv (by omega) (by omega)
  have CY:¬BL a b<0:=by unfold BL;rw[ak gp];split<;>omega
  have Fl:1<=(ds b).length:=by
   have:ds b≠[]:=fun hc=>by rw[CI]at hc;omega
   exact List.length_pos_iff.2 this
  by_cases hL:(ds b).length=1
  ·obtain⟨x,hx⟩:=bk (l:=ds b) (k:=0) (by omega)
   have hbx:ds b=[x]:=by
    cases hq:ds b with
    |nil=>rw[hq]at hL;simp at hL
    |cons y l=>
     rw[hq]at hL hx
     simp at hL hx
     rw[hL,hx]
   have BC:=gk b
   rw[hbx]at BC
   simp[vI]at BC
   have NX:=(fV b).get hx
   obtain⟨b1,b2,b3,b4,b5,z1,z2,z3,z4⟩:=Sl.at (show Sl h N v (dI (ds b)) from hv) (fS hx)
   simp at z4
   simp[A.b223,hc,CY,lv,hL,aG,z1,z3,z4]
   refine aA (Zo7 (show Sl h N u (dI (ds a)) from hu) (fV a) (by omega) (by omega) NX.2) ?_
   rintro y h1 n1 k1 ⟨q,rfl,hq⟩
   rw[gk]at hq
   simp only[gk]
   have e1:(a:Int).toNat=a:=by omega
   have e2:x.toNat=b:=by omega
   rw[e1,e2]at hq
   rw[e1,e2]
   have hRb:=kO a hb
   have hb9:b<1000000000:=by omega
   generalize hQ:a/b=Q at*
   generalize hR:a%b=R at*
   simp[ad]
   refine aA (Hj (l:=[(R:Int)]) (Sl.row (e:=3) (rw:=true) (cp:=some 1) (vn n1) (by simp[dI]) rfl (fun k hk=>by simp at hk;omega)) (by simp)) ?_
   rintro y2 h2 n2 k2 xx
   rw[Ymx (by omega)]at xx
   have kk:=(ab.refl (h:=h1) (n:=n1)).new (.cells [.int .i64 (R:Int)] 3 true)
   simp[aE]
   exact⟨(k1.trans kk).trans k2,q,y2,⟨rfl,rfl⟩,hq.ae (kk.trans k2),xx⟩
  ·obtain⟨k,hk⟩:∃k,(ds b).length=k+2:=⟨(ds b).length-2,by omega⟩
   obtain⟨x,hx⟩:=bk (l:=ds b) (k:=k+1) (by omega)
   have NX:=(fV b).get hx
   obtain⟨f,hf,f0,f1,hlen,y1,sU,Fm⟩:=Yo2 (k:=k+1) (by omega) hx
   obtain⟨b1,b2,b3,b4,b5,z1,z2,z3,z4⟩:=Sl.at (show Sl h N v (dI (ds b)) from hv) (fS hx)
   have c1:((k:Int)+2-1)=(k:Int)+1:=by omega
   have c2:(k:Int)+1<(k:Int)+2:=by omega
   have c3:¬((k:Int)+2=1):=by omega
   have c4:((k:Int)+1).toNat=k+1:=by omega
   have c5:(0:Int)<=(k:Int)+1:=by omega
   have w1:bj .i64 (x+1)=x+1:=cD (by omega) (by omega)
   have w2:(1000000000:Int).tdiv (x+1)=f:=by rw[hf];exact Bm (by decide)
   have w3:bj .i64 (f:Int)=f:=cD (by omega) (by omega)
   have c6:¬x+1=0:=by omega
   rw[hk]at lv
   simp(disch:=omega) [A.b223,hc,CY,lv,aG,c1,c2,c3,c4,c5,c6,z1,z3,z4,w1,w2,w3,ad]
   have k0:=(ab.refl (h:=h) (n:=N)).new (.cells [.int .i64 (f:Int)] 3 true)
   have zg:Sl (h.set N (.cells [.int .i64 (f:Int)] 3 true)) (N+1) (.slice N 0 1 (some 1) 1) (dI [(f:Int)]):=Sl.row (e:=3) (rw:=true) (vn N) (by simp[dI]) rfl (fun k hk=>by simp at hk;omega)
   have dF:Di [(f:Int)]:=Di.one (by omega) (by omega)
   refine aA (XU (a:=b) (b:=f) (Sl.ae hv k0) zg (fV b) dF (gk b) (by simp[vI]) (by simp;omega)) ?_
   rintro vv h1 n1 k1 hvv
   have fu:=k1.le
   have lvv:=hvv.len
   have fk:(ds (b*f)).length=k+2:=by omega
   rw[fZ,fk]at lvv
   simp[lvv]
   have k1a:=(ab.refl (h:=h1) (n:=n1)).new (.cells [] 3 true)
   refine aA (XU (a:=a) (b:=f) (((Sl.ae hu k0).ae k1).ae k1a) ((zg.ae k1).ae k1a) (fV a) dF (gk a) (by simp[vI]) (by simp;omega)) ?_
   rintro uu h2 n2 k2 huu
   have gY:=k2.le
   have aW:ds (a*f)≠[]:=fun hc=>by
    rw[CI]at hc
    have:0<a*f:=yK (by omega) f0
    omega
   have zaV:(ds (a*f)).length<=(ds a).length+1:=by
    apply Jt
    have g1:=vC (fV a)
    rw[gk,Yme]at g1
    have g2:a<1000000000^(ds a).length:=by exact_mod_cast g1
    rw[gg]
    exact Bg g2 f1
   have Z9:=(k2.get n1 (by omega)).trans (show _=some (.cells [] 3 true) by simp)
   have Lt:=Zur (w:=[]) Z9 huu aW (by omega)
   simp[Lt,lu]
   have vZ:N<=n2:=by omega
   have NA:=(((k0.trans k1).trans k1a).trans k2)
   refine bL [(11,11),(63,71)] (fun e r st=>e=.exit 0/\Ol N h2 n2 (ds a).length ((a*f:Nat):Int) 0 r st) (Ol N h2 n2 (ds a).length ((a*f:Nat):Int)) ((ds a).length+1-(ds (a*f)).length) ?_ ?_ ?_
   ·refine⟨by simp,ab.refl.new _,_,ds (a*f),by simp;rfl,⟨fun q hq=>?_,.inr ⟨n2,by rw[CM],aM _,by show n2<n2+1;omega,by simp[WH]⟩⟩,by omega,gk _,fV _⟩
    simp[pz]at hq
    obtain⟨q',_,rfl⟩:=hq
    rfl
   ·exact Yi5 (((Sl.ae hu k0).ae k1).ae k1a |>.ae k2) rfl (by omega) (by simp)
   ·rintro _ r ⟨H,n3,W⟩ hr ⟨rfl,hW,hK,u3,l,m_,ho,hm,iL,gZ⟩
    simp only at hW hK ho
    obtain⟨_,⟨h0,_⟩|⟨iu,J5,i1,i2,i3⟩⟩:=ho
    ·simp[pz]at h0;rw[h0]at hm;simp at hm
    ·rw[CM]at J5
     rw[WH]at i3
     subst J5
     have sZ:l.length=(ds a).length+1:=by omega
     have hka:k+2<l.length:=by omega
     obtain⟨S,hS⟩:∃S,S=l.length-(k+2):=⟨_,rfl⟩
     have cS:((l.length:Int)-((k:Int)+2))=(S:Int):=by omega
     have oN:=Ok vZ hW
     have kH:=hK.new (.cells (dI (List.replicate S 0)) 3 true)
     have fx:=hK.le
     have mz:(cU [.int .i64 0] S:List V)=dI (List.replicate S 0):=Wu
     simp(disch:=first|(simp;done)|omega|rfl) [hr,m_,cS,mz]
     have hvY:=Dn.ae hvv (k1a.trans k2)
     have zav:vI l=(a*f:Nat):=iL
     refine bL [(13,21),(82,191)] (fun e r st=>e=.exit 2/\NY N h2 n2 iu n3 (n3+1) l.length (k+2) ((a*f:Nat):Int) (ds (b*f)) 0 r st) (NY N h2 n2 iu n3 (n3+1) l.length (k+2) ((a*f:Nat):Int) (ds (b*f))) S ?_ ?_ ?_
     ·refine⟨l,List.replicate S 0,⟨oN,kH,rfl,?_,by simp⟩,by simp,rfl,by simp[hS],by omega,gZ,Di.Ek _,fun s h1 h2=>by omega,?_,fun s hs=>by simp[hs],by rw[Wp,iL];simp⟩
      ·rw[T.ag,ak (by omega)];exact i3
      ·obtain⟨x',jn,x0,x1,lo,hi⟩:=Z8 (b:=b) (k:=k+1) (by omega)
       have g1:=vC (fV a)
       rw[gk,show (ds a).length=S+(k+1) by omega,Qu]at g1
       have g2:=Lc l S (by omega)
       have g3:=vA (gZ.take S)
       have g4:pI (k+1)*1<=pI (k+1)*x':=rb (by omega) (uv (CF _))
       have g5:pI S*pI (k+1)<=pI S*b:=rb (by omega) (uv (CF _))
       have g6:(a:Int)*f<pI S*b*f:=Int.mul_lt_mul_of_pos_right (by omega) (by omega)
       rw[gk]
       apply Je
       intro hc
       have g7:pI S*((b*f:Nat):Int)<=pI S*vI (l.drop S):=rb hc (uv (CF _))
       have g8:pI S*((b*f:Nat):Int)=pI S*b*f:=by push_cast;grind
       have g9:((a*f:Nat):Int)=(a:Int)*f:=by push_cast;rfl
       omega
     ·exact Yi8 hvY fk (fV _) sU Fm hka (by omega) (by simp[hr]) (by simp[hr]) (by simp[hr,m_]) (by simp[hS]) vZ i1 i2 (vn n3)
     ·rintro _ r4 ⟨H4,n4,W4⟩ pk ⟨rfl,U,Q,⟨HE,J9,Od,Oe,Of⟩,uE,hUl,hQl,_,dU,dQ,hz,xN,_,oC⟩
      simp only at HE J9 Od Oe Of
      subst Od
      rw[yJ]at xN
      rw[gk]at xN oC
      obtain⟨qn,hqn⟩:=D6 (vA dQ)
      obtain⟨un,hun⟩:=D6 (vA dU)
      rw[hqn,hun]at oC
      rw[hun]at xN
      have BH:un+b*f*qn=a*f:=by exact_mod_cast oC
      have uU:un<b*f:=by exact_mod_cast xN
      have m1:a/b=qn:=by
       have:a*f/(b*f)=qn:=by
        rw[<-BH,Nat.add_mul_div_left _ _ (by omega),zZ uU,xg]
       rw[<-this,Qo _ _ f0]
      have m2:un/f=a%b:=by
       have:a*f%(b*f)=un:=by rw[<-BH,Nat.add_mul_mod_self_left,yn uU]
       rw[<-this,K7,Nat.mul_div_cancel _ f0]
      have Yz:Sl H4 (n3+1) (.slice iu 0 l.length none 1) (dI U):=Sl.row (by omega) Oe (by simp[hUl]) (fun k hk=>by cases hk)
      have hsQ:Sl H4 (n3+1) (.slice n3 0 S (some S) 1) (dI Q):=Sl.row (by omega) Of (by simp[hQl,hS]) (fun k hk=>by simp at hk;omega)
      obtain⟨v',e1,e2⟩:=DO (w:=[]) Yz (lo:=0) (hi:=k+2) (by omega) (by rw[fZ];omega) none (some (.int .i64 ((k+2:Nat):Int))) (.inr ⟨rfl,rfl⟩) (.inl rfl)
      have e3:((dI U).take (k+2)).drop 0=dI (U.take (k+2)):=by rw[yJ,dI,<-List.map_take];rfl
      rw[e3]at e2
      have ck:((k+2:Nat):Int)=(k:Int)+2:=by omega
      rw[ck]at e1
      have zaa:=(J9.get N (by omega)).trans ((k2.get N (by omega)).trans ((show _=h1.get N by simp;omega).trans ((k1.get N (by omega)).trans (show _=some (.cells [.int .i64 (f:Int)] 3 true) by simp))))
      have zab:vI (U.take (k+2))=un:=by
       rw[<-hun]
       exact(Wy (fun t h1 h2=>hz t (by omega) (by omega))).symm
      simp[hr,pk,m_,zJ,aB,e1]
      refine aA (Hj e2 (by simp;omega)) ?_
      rintro y5 h5 n5 k5 On
      rw[GI (dU.take _) zab]at On
      have Ia:=k5.le
      have Oo:=(k5.get N (by omega)).trans zaa
      have lt5:N<n5:=by omega
      have lt4:iu<n3+1:=by omega
      have Oq:(ds un).length<1099511627776:=by
       have:(ds un).length<=(ds (b*f)).length:=uC (by omega)
       omega
      simp[hr,pk,Oo]
      refine aA (Zo7 (d:=(f:Int)) On (fV un) Oq (by omega) (by omega)) ?_
      rintro y6 h6 n6 k6 ⟨q6,rfl,Nf⟩
      have t1:(vI (ds un)).toNat=un:=by rw[gk];omega
      have t2:((f:Nat):Int).toNat=f:=by omega
      rw[t1,t2]at Nf
      rw[m2]at Nf
      generalize ((vI (ds un)).toNat%(f:Int).toNat)=ZZ
      simp[hr,pk,lt4,lt5]
      refine aA (Hj ((hsQ.ae k5).ae k6) (by omega)) ?_
      rintro y7 h7 n7 k7 Qc
      rw[GI dQ hqn]at Qc
      have oN4:ax N W4=[]:=HE
      have zac:=(((NA.trans J9).trans k5).trans k6).trans k7
      simp[hr,pk,aE,oN4]
      refine⟨zac,y7,q6,⟨rfl,rfl⟩,?_,?_⟩
      ·rw[m1];exact Qc
      ·exact Sl.ae Nf k7
variable {s:aQ}
def A.Ot:=A.q Tryz.f183
def A.r_:=A.ql A.Ot 0 []
def A.b183:=(fun x0=>A.qb A.Ot [x0]) A.r_
def A.k183:=@A.kk 183 19 [.tmp 4] A.b183 (by kernel_rfl) rfl
def A.Ou:=A.q Tryz.f221
def A.jY:=A.ql A.Ou 0 []
def A.b221:=(fun x0=>A.qb A.Ou [x0]) A.jY
def A.k221:=@A.kk 221 40 [.cell 2 (some 2)] A.b221 (by kernel_rfl) rfl
def Si{h:T O}{N:Nat}{u v:V}{a b:Nat}(hu:Dn h N u a)(hv:Dn h N v b)(hl:(ds a).length<1000000000000)(iD:(ds b).length<1000000000000):Fn A.C 183 [u,v] h N (fun x h' n'=>Dn h' n' x (Nat.gcd a b)):=by
 intro w
 rw[aR,A.k183 (by simp)]
 simp[A.b183]
 refine bL [(0,1),(5,17)] (fun e r st=>e=.exit 0/\ax N st.w=[]/\ab h N st.h st.n/\∃x,r.get 0=some x/\Dn st.h st.n x (Nat.gcd a b)) (fun m r st=>ax N st.w=[]/\ab h N st.h st.n/\∃x y c,r.get 0=some x/\r.get 1=some y/\Dn st.h st.n x c/\Dn st.h st.n y m/\Nat.gcd c m=Nat.gcd a b/\(ds c).length<1000000000000/\(ds m).length<1000000000000) b ?_ ?_ ?_
 ·exact⟨by simp,ab.refl,u,v,a,by simp,by simp,hu,hv,rfl,hl,iD⟩
 ·rintro m r ⟨H,n1,W⟩ hr hf ⟨hW,hK,x,y,c,h0,h1,hx,hy,hg,l1,l2⟩
  simp only at hW hK hx hy
  have ly:=hy.len
  rw[fZ]at ly
  rw[bl]
  by_cases hm:m=0
  ·subst hm
   have z0:(ds 0).length=0:=by rw[th];rfl
   rw[z0]at ly
   simp at hg
   simp[A.r_,hr,hf,h0,h1,ly,hW,hK]
   rw[<-hg];exact hx
  ·have aW:(ds m).length≠0:=fun hc=>hm (CI.1 (qE hc))
   have p1:(0:Int)<((ds m).length:Int):=by omega
   have p2:0<(ds m).length:=by omega
   have p3:ds m≠[]:=fun hc=>aW (by rw[hc];rfl)
   simp[A.r_,hr,hf,h0,h1,ly,p1,p2,p3]
   refine aA (Om hx hy (by omega) l1 l2) ?_
   rintro z h3 n3 k3 ⟨q,r',rfl,hq,kb⟩
   simp[hr,hf,h0,h1,hW]
   refine⟨c%m,kO _ (by omega),hK.trans k3,m,hy.ae k3,kb,?_,l2,?_⟩
   ·rw[<-hg,Nat.gcd_comm c m,Nat.gcd_rec m c,Nat.gcd_comm]
   ·have:=uC (a:=c%m) (b:=m) (Nat.le_of_lt (kO _ (by omega)));omega
 ·rintro _ r ⟨H,n1,W⟩ hr ⟨rfl,hW,hK,x,h0,hx⟩
  simp only at hW hK hx
  simp[hr,h0,aE,hW,hK]
  exact hx
def Zye(x:aQ):∀(y:aQ),aH (x++y)=aH x*10^y.length+aH y:=by
 have key:∀(y:aQ) (n:Nat),y.foldl (fun n (c:UInt8)=>10*n+(c.toNat-48)) n=n*10^y.length+y.foldl (fun n (c:UInt8)=>10*n+(c.toNat-48)) 0:=by
  intro y
  induction y with
  |nil=>simp
  |cons c y ih=>
   intro n
   rw[List.foldl_cons,List.foldl_cons,ih,ih (10*0+(c.toNat-48)),bo,gg]
   grind
 intro y
 unfold aH
 rw[List.foldl_append,key]
def Zus(h:cJ s=true)(k:Nat):cJ (s.take k)=true:=by
 unfold cJ at*
 rw[lB]at*
 exact fun c hc=>h c (wW hc)
def Sj(h:cJ s=true)(k:Nat):cJ (s.drop k)=true:=by
 unfold cJ at*
 rw[lB]at*
 exact fun c hc=>h c (IQ hc)
def Sk(h0:T O)(N:Nat)(s:aQ)(m:Nat)(r:T V)(st:St):Prop:=ax N st.w=[]/\ab h0 N st.h st.n/\∃cur w l,r.get 0=some (.str cur)/\cur.length=m/\1<=m/\m<=s.length/\cJ cur=true/\r.get 4=some w/\Own 1 3 N st.h st.n w (pz l)/\Di l/\l.length+m<=s.length/\vI l+pI l.length*(aH cur:Nat)=(aH s:Nat)
def Sm(hd:cJ s=true)(h1:1<=s.length)(h2:s.length<=3000000000){h:T O}{N:Nat}:Fn A.C 221 [.str s] h N (fun v h' n'=>Rg h' n' v (aH s:Nat)):=by
 intro w
 obtain⟨c,hc⟩:=bk (l:=s) (k:=0) (by omega)
 have pg:=Lg hd hc
 have fy:s.head?=some c:=by cases s with
  |nil=>simp at hc
  |cons=>simpa using hc
 have a1:¬cM c=45:=by omega
 have a2:(0:Int)<(s.length:Int):=by omega
 have a3:0<s.length:=by omega
 have aW:s≠[]:=fun h=>by rw[h]at h1;simp at h1
 rw[aR,A.k221 (by simp)]
 simp(disch:=first|(simp;done)|omega|rfl) [-getElem?_pos,A.b221,a1,a2,a3,aW,fy,hc,aG]
 refine bL [(0,0),(4,4),(16,32)] (fun e r st=>e=.exit 0/\∃m,m<=9/\Sk (h.set N (.cells [.bool false,.aa] 180 true)) (N+1) s m r st) (Sk (h.set N (.cells [.bool false,.aa] 180 true)) (N+1) s) s.length ?_ ?_ ?_
 ·exact⟨by simp,ab.refl,s,.aa,[],by simp,rfl,h1,aM _,hd,by simp,Own.nil,Di.nil,by simp,by simp[vI,pI]⟩
 ·rintro m r ⟨H,n1,W⟩ hr hf ⟨hW,hK,cur,u,l,g0,cN,m1,m2,pg,g4,ho,iJ,ue,hv⟩
  simp only at hW hK ho
  subst cN
  rw[bl]
  by_cases h9:9<cur.length
  ·have Ij:(9:Int)<(cur.length:Int):=by omega
   have fx:=hK.le
   have Ik:=NR (s:=cur.drop (cur.length-9)) (st:=⟨H,n1,W⟩) (Sj pg _) (by simp;omega)
   have CY:((cur.length:Int)-9).toNat=cur.length-9:=by omega
   have Fj:=BA (Sj pg (cur.length-9))
   have gZ:(cur.drop (cur.length-9)).length=9:=by simp;omega
   rw[gZ]at Fj
   have f_:=Zye (cur.take (cur.length-9)) (cur.drop (cur.length-9))
   rw[Cl,gZ,show (10:Nat)^9=1000000000 by decide]at f_
   generalize hD:aH (cur.drop (cur.length-9))=D at*
   obtain⟨v',h',w',e1,e2,e3,e4,e5⟩:=tU (x:=[.int .i64 (D:Int)]) (u:=.slice n1 0 1 (some 1) 1) (bytes:=8) (w:=W) (ho.ae (ab.refl.new (.cells [.int .i64 (D:Int)] 3 true))) (by omega) (by decide) rfl (by simp[eL,St.row,aF]) (by rw[CM];omega)
   rw[<-El]at e5
   simp(disch:=first|(simp;done)|omega|rfl) [A.jY,hr,hf,g0,g4,h9,Ij,CY,aB,Ik,ad,e1]
   refine⟨cur.length-9,by omega,⟨by rw[e2];exact hW,(hK.new _).then e3,cur.take (cur.length-9),v',l++[(D:Int)],by simp,by simp,by omega,by omega,Zus pg _,by simp,e5,iJ.app (Di.one (by omega) (by omega)),by simp;omega,?_⟩⟩
   rw[CG,iI,zY,vz,<-hv]
   have Il:((aH cur:Nat):Int)=(aH (cur.take (cur.length-9)):Nat)*1000000000+D:=by omega
   rw[Il]
   generalize ((aH (cur.take (cur.length-9)):Nat):Int)=X
   generalize pI l.length=P
   grind
  ·have Ij:¬(9:Int)<(cur.length:Int):=by omega
   simp[A.jY,hr,hf,g0,h9,Ij]
   exact⟨cur.length,by omega,hW,hK,cur,u,l,by simp[g0],rfl,m1,m2,pg,by simp[g4],ho,iJ,ue,hv⟩
 ·rintro _ r ⟨H,n1,W⟩ hr ⟨rfl,m,m9,hW,hK,cur,u,l,g0,cN,m1,m2,pg,g4,ho,iJ,ue,hv⟩
  simp only at hW hK ho
  subst cN
  have fx:=hK.le
  have Ik:=NR (s:=cur) (st:=⟨H,n1,W⟩) pg (by omega)
  have Fj:=BA pg
  have hp9:=Qw m9
  generalize hD:aH cur=D at*
  obtain⟨v',h',w',e1,e2,e3,e4,e5⟩:=tU (x:=[.int .i64 (D:Int)]) (u:=.slice n1 0 1 (some 1) 1) (bytes:=8) (w:=W) (ho.ae (ab.refl.new (.cells [.int .i64 (D:Int)] 3 true))) (by omega) (by decide) rfl (by simp[eL,St.row,aF]) (by rw[CM];omega)
  rw[<-El]at e5
  simp[hr,g0,g4,Ik,ad,e1]
  have kV:Di (l++[(D:Int)]):=iJ.app (Di.one (by omega) (by omega))
  refine aA (xD (n:=aH s) e5.sl kV (by rw[CG];exact hv) (by simp;omega)) ?_
  rintro y h5 n5 k5 hy
  have kk:=((hK.new (.cells [.int .i64 (D:Int)] 3 true)).then e3).trans k5
  have ve:=kk.le
  have oP:=kk.get N (by omega)
  simp at oP
  obtain⟨u5,rfl,AR⟩:=hy
  have HU:=fun c1 (hc:c1.length=2)=>Sl.setInt (i:=N) (c1:=c1) (e1:=180) (w1:=true) AR oP (by intro x hx k m;simp at hx;rcases hx with rfl|rfl<;>simp) hc
  have BV:=Sl.form AR |>.one
  unfold V.one at BV
  have ow:ax N w'=[]:=Ok (uR N) (by rw[e2];exact hW)
  have k0:=(ab.refl (h:=h) (n:=N)).new (.cells [.bool false,.aa] 180 true)
  simp[hr,oP,ad,bC,BV,aO,aF,aE,ow]
  exact⟨(k0.trans kk).set (aM N),u5,by simp,by simpa[Dn]using HU _ rfl⟩
end
end Go.Mx
