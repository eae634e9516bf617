/-lensletref01-/
import Derived.Test.YtgnadghjglamaaaGreatDoorRcD
set_option linter.all false
namespace Go.Mx
noncomputable section
open Go Go.Proofs
set_option maxRecDepth 1000000
def Yj5{l:List Int}{d:Int}(h:d∈l):∃s:Nat,l[s]?=some d:=Uh h
def Yne{l:List Int}(h:∀(s:Nat) (d:Int),l[s]?=some d->0<=d/\d<1000000000):Di l:=fun d hd=>by
 obtain⟨s,hs⟩:=Yj5 hd
 exact h s d hs
def Zv7{U U2:List Int}{j:Nat}{X:Int}(hj:j<=U.length)(hl:U2.length=U.length)(hs:∀s,s<j->U2[s]?=U[s]?)(hv:vI U2=vI U-pI j*X):vI (U2.drop j)=vI (U.drop j)-X:=by
 have h1:=Py U j hj
 have h2:=Py U2 j (by omega)
 have h3:U2.take j=U.take j:=by
  apply qG
  intro s
  rw[lX,lX]
  by_cases h:s<j
  ·rw[aQ h,aQ h];exact hs s h
  ·rw[aA h,aA h]
 rw[h3]at h2
 have h4:pI j*vI (U2.drop j)=pI j*(vI (U.drop j)-X):=by
  have:pI j*(vI (U.drop j)-X)=pI j*vI (U.drop j)-pI j*X:=by grind
  omega
 exact Int.eq_of_mul_eq_mul_left (Int.ne_of_gt (CH j)) h4
def Yhd{U:List Int}{j L:Nat}{tt:Int}(hd:∀(s:Nat) (d:Int),s<j+L->U[s]?=some d->0<=d/\d<1000000000)(ht:U[j+L]?=some tt)(hz:∀s,j+L<s->s<U.length->U[s]?=some 0)(aP:vI (U.drop j)<pI L):(0<=vI (U.drop j)->tt=0)/\(vI (U.drop j)<0->tt<0):=by
 refine Yeh (w:=U.drop j) (n:=L) ?_ (by rw[ix];exact ht) ?_ aP
 ·refine Yne fun s d hs=>?_
  by_cases h:s<L
  ·rw[lX,aQ h,ix]at hs
   exact hd (j+s) d (by omega) hs
  ·rw[lX,aA h]at hs;cases hs
 ·intro s h1 h2
  rw[ix]
  exact hz (j+s) (by omega) (by simp at h2;omega)
structure QN (N:Nat) (h2:T O) (n2 iu iq n lu L:Nat) (A0:Int) (Y:List Int) (m:Nat) (r:T V) (st:St):Prop where
 ex:∃U Q,DvS N h2 n2 iu iq n U Q st/\r.get 13=some (.int .i64 ((m:Int)-1))/\U.length=lu/\Q.length=lu-L/\m<=lu-L/\Di U/\Di Q/\(∀s,m+L<=s->s<lu->U[s]?=some 0)/\vI (U.drop m)<vI Y/\(∀s,s<m->Q[s]?=some 0)/\vI U+vI Y*vI Q=A0
def Yfb{N:Nat}{h2:T O}{n2 iu iq n lu k:Nat}{A0 v1:Int}{Y:List Int}{v:V}{r0:T V}(hv:Sl h2 n2 v (dI Y))(hY:Y.length=k+2)(dY:Di Y)(oC:Y[k+1]?=some v1)(h5:500000000<=v1)(hlu:k+2<lu)(hul:lu<1099511627776)(r9:r0.get 9=some v)(oS:r0.get 10=some (.int .i64 (k+2:Nat)))(pE:r0.get 11=some (.slice iu 0 lu none 1))(Kb:r0.get 12=some (.slice iq 0 (lu-(k+2)) (some (lu-(k+2))) 1))(a1:N<=n2)(a2:n2<=iu)(a3:iu<iq)(a4:iq<n):
  ∀m r st,(∀t,jR [(13,21),(82,191)] t=false->r.get t=r0.get t)->Fx [(13,21),(82,191)] r0 206 ⟨r,206,[]⟩->QN N h2 n2 iu iq n lu (k+2) A0 Y m r st->Code A.C none A.o9 ⟨r,206,[]⟩ st (Rd [(13,21),(82,191)] r0 206 (QN N h2 n2 iu iq n lu (k+2) A0 Y) m (fun e r st=>e=.exit 2/\QN N h2 n2 iu iq n lu (k+2) A0 Y 0 r st)):=by
 rintro m r ⟨H,n1,W⟩ hr hf ⟨U,Q,⟨hW,hK,hn,ru,rq⟩,ue,lB,hql,hm,dU,dQ,hz,y_,QO,iB⟩
 simp only at hW hK hn ru rq
 subst hn
 rw[dk]
 cases m with
 |zero=>
  simp(disch:=first|(simp;done)|omega|rfl) [-getElem?_pos,A.o9,hr,hf,ue]
  exact⟨U,Q,⟨hW,hK,rfl,ru,rq⟩,by simp[ue],lB,hql,hm,dU,dQ,hz,y_,QO,iB⟩
 |succ j=>
  have DZ:(((j+1:Nat):Int)-1)=(j:Int):=by omega
  rw[DZ]at ue
  have Jn:(0:Int)<=(j:Int):=by omega
  obtain⟨v2,jQ⟩:=fz (l:=Y) (k:=k) (by omega)
  obtain⟨d1,e1⟩:=fz (l:=U) (k:=j+k) (by omega)
  obtain⟨d2,e2⟩:=fz (l:=U) (k:=j+k+1) (by omega)
  obtain⟨d3,e3⟩:=fz (l:=U) (k:=j+k+2) (by omega)
  obtain⟨x0,ry⟩:=fz (l:=U) (k:=j) (by omega)
  have hWt:=Yik (w:=U.drop j) (k:=k) (a:=d1) (c:=d2) (d:=d3) (by rw[ix];exact e1) (by rw[ix,<-qS];exact e2) (by rw[ix,<-qS];exact e3) (fun t h1 h2=>by rw[ix];exact hz _ (by omega) (by simp at h2;omega))
  have hDt:=Yil jQ oC hY
  have hWd:vI (U.drop j)<1000000000*vI Y:=by
   rw[qk ry,vI]
   have:=dU.get ry
   omega
  have hUk:=vz ((dU.drop j).take k)
  rw[lW,A4,pA (by omega)]at hUk
  have hVk:=vz (dY.take k)
  rw[lW,pA (by omega)]at hVk
  obtain⟨t,hg,t0,t1,fZ,iZ⟩:=Yf5 (w:=W) (Sl.row (cp:=none) (L:=lu) (show iu<n1 by omega) ru (by simp[lB]) (fun k hk=>by cases hk)) (hv.ah hK) hY (by omega) e1 e2 e3 jQ oC (dU.get e1) (dU.get e2) (dU.get e3) ⟨h5,(dY.get oC).2⟩ (dY.get jQ) (CH k) (vD ((dU.drop j).take k)) hUk (vD (dY.take k)) hVk hWt hDt hWd
  have hVl:=vz dY
  rw[hY]at hVl
  have hVp:0<vI Y:=by have:=vD (dU.drop (j+1));omega
  simp(disch:=first|(simp;done)|omega|rfl) [-getElem?_pos,A.o9,hr,hf,ue,Jn,r9,oS,pE,Kb,hg]
  refine c_ [(15,18),(90,125)] (fun e r st=>e=.exit 4/\QP N h2 n2 iu iq n1 U Q Y (k+2) j t 0 r st) (QP N h2 n2 iu iq n1 U Q Y (k+2) j t) (k+2) ?_ ?_ ?_
  ·exact⟨0,U,0,by omega,by simp,by simp,by omega,by omega,⟨hW,hK,rfl,ru,rq⟩,rfl,fun _ _=>rfl,dU,by simp[vI]⟩
  ·exact Yel hv hY dY (by omega) (by omega) ⟨by simp[hr,r9],by simp[hr,oS],by simp[hr,pE,lB],by simp[hr,ue]⟩ (by simp) t0 t1 a1 a2 a3 a4
  ·rintro _ r2 ⟨H2,n3,W2⟩ bK ⟨rfl,i,U',c,hi,BR,xl,c0,c1,⟨f_,jC,fw,ru2,rq2⟩,KF,eQ,zgq,QQ⟩
   simp only at f_ jC fw ru2 rq2
   subst fw
   obtain rfl:i=k+2:=by omega
   have BI:=hf.inner (D':=[(15,18),(90,125)]) rfl (by simp) bK
   rw[<-hY,BF,hY]at QQ
   have SA:U'[j+(k+2)]?=some d3:=by rw[eQ _ (.inr (aZ _))];rw[<-qS];exact e3
   have hd3:=dU.get e3
   have q1:(j:Int)+((k:Int)+2)<(lu:Int):=by omega
   have q2:j+(k+2)<lu:=by omega
   have q3:(0:Int)<=(j:Int)+((k:Int)+2):=by omega
   have q4:((j:Int)+((k:Int)+2)).toNat=j+(k+2):=by omega
   have w8:=g_ U'
   have b1':bn .i64 (d3-c)=d3-c:=cL (by omega) (by omega)
   have w7:=Br (l:=U') (k:=j+(k+2)) (v:=d3-c) (by omega)
   have nn:¬iu<N:=by omega
   have d5:¬iq=iu:=by omega
   have d6:¬iu=iq:=by omega
   have nq:¬iq<N:=by omega
   have v2e:vI (U'.set (j+(k+2)) (d3-c))=vI U-pI j*(t*vI Y):=by
    rw[CI SA]
    have:pI (j+(k+2))*(d3-c-d3)= -(pI (j+(k+2))*c):=by grind
    omega
   have nP:∀s,s<j->(U'.set (j+(k+2)) (d3-c))[s]?=U[s]?:=fun s hs=>by
    rw[eR (by omega)];exact eQ s (.inl hs)
   have fS:∀s,j+(k+2)<s->s<lu->(U'.set (j+(k+2)) (d3-c))[s]?=some 0:=fun s h1 h2=>by
    rw[eR (by omega),eQ s (.inr (by omega))];exact hz s (by omega) h2
   have Ew:=Zv7 (by omega) (by simp[KF]) nP v2e
   have ka:(U'.set (j+(k+2)) (d3-c))[j+(k+2)]?=some (d3-c):=sI (by omega)
   have fm:vI ((U'.set (j+(k+2)) (d3-c)).drop j)<vI Y:=by
    rw[Ew]
    have:(t+1)*vI Y=t*vI Y+vI Y:=by grind
    omega
   have hto:=Yhd (U:=U'.set (j+(k+2)) (d3-c)) (fun s d hs hd=>by
    rw[eR (by omega)]at hd;exact zgq.get hd) ka (fun s h1 h2=>fS s h1 (by simp at h2;omega)) (by omega)
   have qj1:(j:Int)<((lu-(k+2):Nat):Int):=by omega
   have qj2:j<lu-(k+2):=by omega
   have wq8:=g_ Q
   by_cases eI:d3-c<0
   ·have t1w:bn .i64 (t-1)=t-1:=cL (by omega) (by omega)
    simp(disch:=first|(simp;done)|omega|rfl) [-getElem?_pos,hr,bK,BI,xl,r9,oS,pE,Kb,ue,q1,q2,q3,q4,ru2,gQ SA,b1',w7,gQ ka,eI,t1w]
    generalize hU2:U'.set (j+(k+2)) (d3-c)=U2 at*
    have oO:U2.length=lu:=by rw[<-hU2];simp[KF,lB]
    have zfi:vI (U2.drop j)<0:=by
     apply LJ;intro hc
     have:=hto.1 hc
     omega
    have zeq:∀(s:Nat) (d:Int),s≠j+(k+2)->U2[s]?=some d->0<=d/\d<1000000000:=fun s d hs hd=>by
     rw[<-hU2,eR (by omega)]at hd;exact zgq.get hd
    refine c_ [(19,21),(148,174)] (fun e r st=>e=.exit 6/\QR N h2 n2 iu iq n3 U2 Q Y (k+2) j 0 r st) (QR N h2 n2 iu iq n3 U2 Q Y (k+2) j) (k+2) ?_ ?_ ?_
    ·exact⟨0,U2,0,by omega,by simp,by simp,by omega,by omega,⟨by simp[aD,f_,nn],jC.set (by omega),rfl,by simp,by simp[d5,rq2]⟩,rfl,fun _ _=>rfl,zeq,by simp[vI]⟩
    ·exact Yg6 hv hY dY (by omega) (by omega) ⟨by simp[hr,bK,r9],by simp[hr,bK,oS],by simp[hr,bK,pE,oO],by simp[hr,bK,ue]⟩ a1 a2 a3 a4
    ·rintro _ r4 ⟨H4,n4,W4⟩ yU ⟨rfl,i4,U3,c4,hi4,Uo,Up,c40,c41,⟨J2,MJ,QS,QT,QU⟩,QV,vN,QW,QX⟩
     simp only at J2 MJ QS QT QU
     subst QS
     obtain rfl:i4=k+2:=by omega
     have zer:=BI.inner (D':=[(19,21),(148,174)]) rfl (by simp) yU
     rw[<-hY,BF,hY]at QX
     have e4:U3[j+(k+2)]?=some (d3-c):=by rw[vN _ (.inr (aZ _))];exact ka
     have x8:=g_ U3
     have b4':bn .i64 (d3-c+c4)=d3-c+c4:=cL (by omega) (by omega)
     have x7:=Br (l:=U3) (k:=j+(k+2)) (v:=d3-c+c4) (by omega)
     have v4e:vI (U3.set (j+(k+2)) (d3-c+c4))=vI U-pI j*((t-1)*vI Y):=by
      rw[CI e4]
      have x1:pI (j+(k+2))*(d3-c+c4-(d3-c))=pI (j+(k+2))*c4:=by grind
      have x2:pI j*((t-1)*vI Y)=pI j*(t*vI Y)-pI j*vI Y:=by grind
      omega
     have hs4:∀s,s<j->(U3.set (j+(k+2)) (d3-c+c4))[s]?=U[s]?:=fun s hs=>by
      rw[eR (by omega),vN s (.inl hs)];exact nP s hs
     have vZ:∀s,j+(k+2)<s->s<lu->(U3.set (j+(k+2)) (d3-c+c4))[s]?=some 0:=fun s h1 h2=>by
      rw[eR (by omega),vN s (.inr (by omega))];exact fS s h1 h2
     have QY:=Zv7 (by omega) (by simp[QV,oO,lB]) hs4 v4e
     have At:(U3.set (j+(k+2)) (d3-c+c4))[j+(k+2)]?=some (d3-c+c4):=sI (by omega)
     have xt:(t-1)*vI Y=t*vI Y-vI Y:=by grind
     have zes:vI ((U3.set (j+(k+2)) (d3-c+c4)).drop j)<vI Y:=by
      rw[QY];omega
     have zet:0<=vI ((U3.set (j+(k+2)) (d3-c+c4)).drop j):=by
      rw[QY];omega
     have zeu:=Yhd (U:=U3.set (j+(k+2)) (d3-c+c4)) (fun s d hs hd=>by
      rw[eR (by omega)]at hd;exact QW s d (by omega) hd) At (fun s h1 h2=>vZ s h1 (by simp at h2;omega)) (by omega)
     have pd:=zeu.1 zet
     have w9:=Br (l:=Q) (k:=j) (v:=t-1) (by omega)
     have xN:=QO j (by omega)
     have zfj:1<=t:=by
      apply DM;intro hc
      have:t=0:=by omega
      rw[this]at Ew
      have:=vD (dU.drop j)
      omega
     simp(disch:=first|(simp;done)|omega|rfl) [-getElem?_pos,hr,bK,yU,zer,Up,r9,oS,pE,Kb,ue,q1,q2,q3,q4,QT,QU,gQ e4,b4',x7,qj1,qj2,d5,d6,w9]
     refine⟨j,by omega,⟨U3.set (j+(k+2)) (d3-c+c4),Q.set j (t-1),⟨by simp[aD,J2,nn,nq],?_,rfl,by simp[d6],by simp⟩,by simp,by simp[QV,oO],by simp[hql],by omega,?_,dQ.set (by omega) (by omega),?_,?_,?_,?_⟩⟩
     ·exact(MJ.set (by omega)).set (by omega)
     ·refine Yne fun s d hd=>?_
      by_cases hs:s=j+(k+2)
      ·subst hs
       rw[At,pd]at hd
       simp at hd
       omega
      ·rw[eR (fun h=>hs h.symm)]at hd
       exact QW s d hs hd
     ·intro s h1 h2
      by_cases hs:s=j+(k+2)
      ·rw[hs,At,pd]
      ·exact vZ s (by omega) h2
     ·exact zes
     ·intro s hs
      rw[eR (by omega)];exact QO s (by omega)
     ·rw[v4e,CI xN,<-iB]
      grind
   ·have Uc:0<=vI ((U'.set (j+(k+2)) (d3-c)).drop j):=by
     apply DM;intro hc;exact eI (hto.2 hc)
    have pd:=hto.1 Uc
    have w9:=Br (l:=Q) (k:=j) (v:=t) (by omega)
    have xN:=QO j (by omega)
    rw[Ew]at Uc fm
    have tlt:t<1000000000:=by
     apply LJ;intro hc
     have:=DG hc (tX hVp)
     omega
    simp(disch:=first|(simp;done)|omega|rfl) [-getElem?_pos,hr,bK,BI,xl,r9,oS,pE,Kb,ue,q1,q2,q3,q4,ru2,rq2,gQ SA,b1',w7,gQ ka,eI,qj1,qj2,d5,d6,w9]
    refine⟨j,by omega,⟨U'.set (j+(k+2)) (d3-c),Q.set j t,⟨by simp[aD,f_,nn,nq],?_,rfl,by simp[d6],by simp⟩,by simp,by simp[KF,lB],by simp[hql],by omega,?_,dQ.set t0 tlt,?_,?_,?_,?_⟩⟩
    ·exact(jC.set (by omega)).set (by omega)
    ·rw[pd];exact zgq.set (by omega) (by omega)
    ·intro s h1 h2
     by_cases hs:s=j+(k+2)
     ·rw[hs,ka,pd]
     ·exact fS s (by omega) h2
    ·rw[Ew];exact fm
    ·intro s hs
     rw[eR (by omega)];exact QO s (by omega)
    ·rw[v2e,CI xN,<-iB]
     grind
variable {N:Nat}
def QZ{N n2:Nat}(h:N<=n2):∀{w:List Nat},aD n2 w=[]->aD N w=[]
 |[],_=>rfl
 |i::w,hw=>by
  simp only[aD]at hw ⊢
  by_cases h1:i<n2
  ·rw[aQ h1]at hw
   unfold xr at hw
   split at hw
   ·rename_i hc
    rw[hw]at hc;simp at hc
   ·cases hw
  ·rw[aA h1]at hw
   rw[aA (by omega)]
   exact QZ h hw
def Zr9{h:T O}{i:Nat}{w:List Nat}{v:V}{l:List Int}(hr:h.get i=some (.cells [] 3 true))(hs:Sl h N v (dI l))(bF:l≠[])(hl:l.length<1099511627776):
  l8 ⟨h,N,w⟩ 1 8 3 (.slice i 0 0 (some 0) 1) v=some (.slice N 0 l.length none 1,⟨h.set N (.cells (dI l) 3 true),N+1,w⟩):=by
 have h0:l.length≠0:=fun hc=>bF (kJ hc)
 have kQ:=Yl5 (w:=w) hs
 rw[g_]at kQ
 have hb:¬(yW<(2*(0+l.length)+1000)*8):=by unfold yW;omega
 simp only[l8,kQ]
 rw[aA h0,aA (by rintro(h|h|h)<;>omega)]
 simp only[St.row,hr]
 rw[aA (by omega)]
 simp[aE,St.alloc]
def Yhk(k:Nat):pI k=((1000000000^k:Nat):Int):=by unfold pI;simp
def Znf{b k:Nat}(h:(ds b).length=k+1):∃x,(ds b)[k]?=some x/\0<x/\x<1000000000/\pI k*x<=b/\(b:Int)<pI k*(x+1):=by
 have hb:b≠0:=fun hc=>by rw[hc,sC]at h;simp at h
 obtain⟨x,hx,ry⟩:=Ykz hb
 rw[h,Nat.add_sub_cancel]at hx
 have hd:=(gm b).get hx
 have hv:=gI b
 rw[QL hx,zv (by omega),vI,Int.mul_zero,Int.add_zero]at hv
 have h1:=vD ((gm b).take k)
 have h2:=vz ((gm b).take k)
 rw[lW,pA (by omega)]at h2
 have h3:pI k*(x+1)=pI k*x+pI k:=by grind
 exact⟨x,hx,ry,hd.2,by omega,by omega⟩
def Yjp{b k:Nat}(h:(ds b).length=k+1){x:Int}(hx:(ds b)[k]?=some x):∃f:Nat,(f:Int)=1000000000/(x+1)/\0<f/\f<1000000000/\(ds (b*f)).length=k+1/\∃y,(ds (b*f))[k]?=some y/\500000000<=y:=by
 obtain⟨x',mI,x0,x1,lo,hi⟩:=Znf h
 obtain rfl:x=x':=rY (hx.symm.trans mI)
 have hd:(x+1)*(1000000000/(x+1))+1000000000%(x+1)=1000000000:=DF ..
 have kR:0<=1000000000%(x+1):=DK _ (by omega)
 have CU:1000000000%(x+1)<x+1:=DL _ (by omega)
 have hh:=Ya4 (x:=x) (by omega) x1
 have f0:0<1000000000/(x+1):=by
  apply LJ;intro hc
  have:=Int.mul_nonpos_of_nonneg_of_nonpos (a:=x) (by omega) hc
  omega
 have f1:1000000000/(x+1)<1000000000:=Int.ediv_lt_of_lt_mul (by omega) (by omega)
 obtain⟨f,hf⟩:=DJ (tX f0)
 rw[hf]at hd hh f0 f1
 have hp:=CH k
 have hb1:((b*f:Nat):Int)=(b:Int)*f:=by simp
 have up:(b:Int)*f<1000000000*pI k:=by
  have g1:(b:Int)*f<pI k*(x+1)*f:=Int.mul_lt_mul_of_pos_right hi f0
  have g2:pI k*(x+1)*f=pI k*((x+1)*f):=by grind
  have g3:pI k*((x+1)*f)<=pI k*1000000000:=qR (by omega) (tX hp)
  omega
 have low:500000000*pI k<=(b:Int)*f:=by
  have g1:pI k*x*f<=(b:Int)*f:=DG lo (tX f0)
  have g2:pI k*x*f=pI k*(x*f):=by grind
  have g3:pI k*500000000<=pI k*(x*f):=qR hh (tX hp)
  omega
 have zfk:(ds (b*f)).length<=k+1:=Mk (by
  have:((b*f:Nat):Int)<((1000000000^(k+1):Nat):Int):=by rw[<-Yhk,qD,hb1];exact up
  exact_mod_cast this)
 have zfl:(ds b).length<=(ds (b*f)).length:=ud (Nat.le_mul_of_pos_right b (by omega))
 have len:(ds (b*f)).length=k+1:=by omega
 obtain⟨y,hy,y0,y1,ylo,yhi⟩:=Znf len
 refine⟨f,hf.symm,by omega,by omega,len,y,hy,?_⟩
 apply DM
 intro hc
 have:pI k*(y+1)<=pI k*500000000:=qR (by omega) (tX hp)
 omega
def Q0(N:Nat)(h2:T O)(n2 la:Nat)(A0:Int)(m:Nat)(r:T V)(st:St):Prop:=aD n2 st.w=[]/\ae h2 n2 st.h st.n/\∃u l,r.get 11=some u/\Own 1 3 n2 st.h st.n u (po l)/\l.length+m=la+1/\vI l=A0/\Di l
def Ye9{N:Nat}{h2:T O}{n2 la:Nat}{A0:Int}{u0:V}{r0:T V}{EA:List Int}(mU:Sl h2 n2 u0 (dI EA))(hla:EA.length=la)(hl:la<1099511627776)(r0e:r0.get 0=some u0):
  ∀m r st,(∀t,jR [(11,11),(63,71)] t=false->r.get t=r0.get t)->Fx [(11,11),(63,71)] r0 206 ⟨r,206,[]⟩->Q0 N h2 n2 la A0 m r st->Code A.C none A.fE ⟨r,206,[]⟩ st (Rd [(11,11),(63,71)] r0 206 (Q0 N h2 n2 la A0) m (fun e r st=>e=.exit 0/\Q0 N h2 n2 la A0 0 r st)):=by
 rintro m r ⟨H,n1,W⟩ hr hf ⟨hW,hK,u,l,fA,ho,hm,hv,hd⟩
 simp only at hW hK ho
 have lu:=mU.len
 rw[g_,hla]at lu
 have lo:=ho.len
 rw[CL]at lo
 rw[dk]
 cases m with
 |zero=>
  have:¬(l.length:Int)<(la:Int)+1:=by omega
  simp(disch:=first|(simp;done)|omega|rfl) [-getElem?_pos,A.fE,hr,hf,r0e,fA,lu,lo,this]
  exact⟨hW,hK,u,l,by simp[fA],ho,hm,hv,hd⟩
 |succ m=>
  have h1:(l.length:Int)<(la:Int)+1:=by omega
  have iT:=hK.le
  obtain⟨v',h',w',e1,e2,e3,e4,e5⟩:=xh (x:=[.int .i64 0]) (u:=.slice n1 0 1 (some 1) 1) (bytes:=8) (w:=W) (ho.ah (ae.refl.new (.cells [.int .i64 0] 3 true))) (by omega) (by decide) rfl (by simp[gp,St.row,aE]) (by rw[CL];omega)
  rw[<-Ec]at e5
  simp(disch:=first|(simp;done)|omega|rfl) [-getElem?_pos,A.fE,hr,hf,r0e,fA,lu,lo,h1,ag,e1]
  refine⟨m,by omega,⟨by rw[e2];exact hW,((hK.new _).then e3),v',l++[0],by simp,e5,by simp;omega,by rw[CC,hv];simp,hd.app (Di.one (by omega) (by omega))⟩⟩
def Yhy{r:Nat}(h:r<1000000000):qq [(r:Int)]=ds r:=HZ (Di.one (by omega) (by omega)) (by simp[vI])
def Q1{h:T O}{N:Nat}{u v:V}{a b:Nat}(hu:Dn h N u a)(hv:Dn h N v b)(hb:0<b)(hl:(ds a).length<1000000000000)(oO:(ds b).length<1000000000000):Fn A.C 150 [u,v] h N (fun x h' n'=>∃q r,x=.aS [q,r]/\Dn h' n' q (a/b)/\Dn h' n' r (a%b)):=by
 intro w
 have lu:=hu.len
 have lv:=hv.len
 rw[g_]at lu lv
 rw[aV,A.k150 (by simp)]
 by_cases ml:a<b
 ·have gw:Bp a b= -1:=by simp[Bp,ml]
  have hc:=fun w=>Zui (w:=w) hu hv (by omega) (by omega)
  simp(disch:=first|(simp;done)|omega|rfl) [-getElem?_pos,A.b150,hc,gw,aF]
  refine⟨ae.refl,.aa,u,⟨rfl,rfl⟩,?_,?_⟩
  ·rw[zu ml];unfold Dn;rw[sC];exact Sl.nil
  ·rw[xA ml];exact hu
 ·have hba:b<=a:=by omega
  have pk:=ud hba
  have hc:=fun w=>Zui (w:=w) hu hv (by omega) (by omega)
  have Cs:¬Bp a b<0:=by unfold Bp;rw[aA ml];split<;>omega
  have ya:1<=(ds b).length:=by
   have:ds b≠[]:=fun hc=>by rw[BG]at hc;omega
   exact List.length_pos_iff.2 this
  by_cases hL:(ds b).length=1
  ·obtain⟨x,hx⟩:=fz (l:=ds b) (k:=0) (by omega)
   have hbx:ds b=[x]:=by
    cases hq:ds b with
    |nil=>rw[hq]at hL;simp at hL
    |cons y l=>
     rw[hq]at hL hx
     simp at hL hx
     rw[hL,hx]
   have AX:=gI b
   rw[hbx]at AX
   simp[vI]at AX
   have QM:=(gm b).get hx
   obtain⟨b1,b2,b3,b4,b5,z1,z2,z3,z4⟩:=Sl.at (show Sl h N v (dI (ds b)) from hv) (gQ hx)
   simp at z4
   simp(disch:=first|(simp;done)|omega|rfl) [-getElem?_pos,A.b150,hc,Cs,lv,hL,aL,z1,z3,z4]
   refine az (Zng (show Sl h N u (dI (ds a)) from hu) (gm a) (by omega) (by omega) QM.2) ?_
   rintro y h1 n1 k1 ⟨q,rfl,hq⟩
   rw[gI]at hq
   simp only[gI]
   have e1:(a:Int).toNat=a:=by omega
   have e2:x.toNat=b:=by omega
   rw[e1,e2]at hq
   rw[e1,e2]
   have hRb:=kW a hb
   have hb9:b<1000000000:=by omega
   generalize hQ:a/b=Q at*
   generalize hR:a%b=R at*
   simp(disch:=first|(simp;done)|omega|rfl) [-getElem?_pos,ag]
   refine az (HW (l:=[(R:Int)]) (Sl.row (e:=3) (rw:=true) (cp:=some 1) (tO n1) (by simp[dI]) rfl (fun k hk=>by simp at hk;omega)) (by simp)) ?_
   rintro y2 h2 n2 k2 wj
   rw[Yhy (by omega)]at wj
   have kk:=(ae.refl (h:=h1) (n:=n1)).new (.cells [.int .i64 (R:Int)] 3 true)
   simp(disch:=first|(simp;done)|omega|rfl) [-getElem?_pos,aF]
   exact⟨(k1.trans kk).trans k2,q,y2,⟨rfl,rfl⟩,hq.ah (kk.trans k2),wj⟩
  ·obtain⟨k,hk⟩:∃k,(ds b).length=k+2:=⟨(ds b).length-2,by omega⟩
   obtain⟨x,hx⟩:=fz (l:=ds b) (k:=k+1) (by omega)
   have QM:=(gm b).get hx
   obtain⟨f,hf,f0,f1,hlen,y1,rV,Uq⟩:=Yjp (k:=k+1) (by omega) hx
   obtain⟨b1,b2,b3,b4,b5,z1,z2,z3,z4⟩:=Sl.at (show Sl h N v (dI (ds b)) from hv) (gQ hx)
   have c1:((k:Int)+2-1)=(k:Int)+1:=by omega
   have c2:(k:Int)+1<(k:Int)+2:=by omega
   have c3:¬((k:Int)+2=1):=by omega
   have c4:((k:Int)+1).toNat=k+1:=by omega
   have c5:(0:Int)<=(k:Int)+1:=by omega
   have w1:bn .i64 (x+1)=x+1:=cL (by omega) (by omega)
   have w2:(1000000000:Int).tdiv (x+1)=f:=by rw[hf];exact A2 (by decide)
   have w3:bn .i64 (f:Int)=f:=cL (by omega) (by omega)
   have c6:¬x+1=0:=by omega
   rw[hk]at lv
   simp(disch:=first|(simp;done)|omega|rfl) [-getElem?_pos,A.b150,hc,Cs,lv,aL,c1,c2,c3,c4,c5,c6,z1,z3,z4,w1,w2,w3,ag]
   have k0:=(ae.refl (h:=h) (n:=N)).new (.cells [.int .i64 (f:Int)] 3 true)
   have yn:Sl (h.set N (.cells [.int .i64 (f:Int)] 3 true)) (N+1) (.slice N 0 1 (some 1) 1) (dI [(f:Int)]):=Sl.row (e:=3) (rw:=true) (tO N) (by simp[dI]) rfl (fun k hk=>by simp at hk;omega)
   have dF:Di [(f:Int)]:=Di.one (by omega) (by omega)
   refine az (Zs4 (a:=b) (b:=f) (Sl.ah hv k0) yn (gm b) dF (gI b) (by simp[vI]) (by simp;omega)) ?_
   rintro vv h1 n1 k1 hvv
   have ft:=k1.le
   have lvv:=hvv.len
   have fy:(ds (b*f)).length=k+2:=by omega
   rw[g_,fy]at lvv
   simp(disch:=first|(simp;done)|omega|rfl) [-getElem?_pos,lvv]
   have k1a:=(ae.refl (h:=h1) (n:=n1)).new (.cells [] 3 true)
   refine az (Zs4 (a:=a) (b:=f) (((Sl.ah hu k0).ah k1).ah k1a) ((yn.ah k1).ah k1a) (gm a) dF (gI a) (by simp[vI]) (by simp;omega)) ?_
   rintro uu h2 n2 k2 huu
   have gJ:=k2.le
   have bF:ds (a*f)≠[]:=fun hc=>by
    rw[BG]at hc
    have:0<a*f:=tH (by omega) f0
    omega
   have zfm:(ds (a*f)).length<=(ds a).length+1:=by
    apply Mk
    have g1:=vz (gm a)
    rw[gI,Yhk]at g1
    have g2:a<1000000000^(ds a).length:=by exact_mod_cast g1
    rw[fO]
    exact B4 g2 f1
   have zev:=(k2.get n1 (by omega)).trans (show _=some (.cells [] 3 true) by simp)
   have OA:=Zr9 (w:=[]) zev huu bF (by omega)
   simp(disch:=first|(simp;done)|omega|rfl) [-getElem?_pos,OA,lu]
   have vG:N<=n2:=by omega
   have QA:=(((k0.trans k1).trans k1a).trans k2)
   refine c_ [(11,11),(63,71)] (fun e r st=>e=.exit 0/\Q0 N h2 n2 (ds a).length ((a*f:Nat):Int) 0 r st) (Q0 N h2 n2 (ds a).length ((a*f:Nat):Int)) ((ds a).length+1-(ds (a*f)).length) ?_ ?_ ?_
   ·refine⟨by simp,ae.refl.new _,_,ds (a*f),by simp;rfl,⟨fun q hq=>?_,.inr ⟨n2,by rw[CL],aZ _,by show n2<n2+1;omega,by simp[Zkt]⟩⟩,by omega,gI _,gm _⟩
    simp[po]at hq
    obtain⟨q',_,rfl⟩:=hq
    rfl
   ·exact Ye9 (((Sl.ah hu k0).ah k1).ah k1a |>.ah k2) rfl (by omega) (by simp)
   ·rintro _ r ⟨H,n3,W⟩ hr ⟨rfl,hW,hK,u3,l,fA,ho,hm,iB,lK⟩
    simp only at hW hK ho
    obtain⟨_,⟨h0,_⟩|⟨iu,Du,i1,i2,i3⟩⟩:=ho
    ·simp[po]at h0;rw[h0]at hm;simp at hm
    ·rw[CL]at Du
     rw[Zkt]at i3
     subst Du
     have hlu:l.length=(ds a).length+1:=by omega
     have hka:k+2<l.length:=by omega
     obtain⟨S,hS⟩:∃S,S=l.length-(k+2):=⟨_,rfl⟩
     have cS:((l.length:Int)-((k:Int)+2))=(S:Int):=by omega
     have oN:=QZ vG hW
     have kH:=hK.new (.cells (dI (List.replicate S 0)) 3 true)
     have iT:=hK.le
     have mz:(dw [.int .i64 0] S:List V)=dI (List.replicate S 0):=Zp2
     simp(disch:=first|(simp;done)|omega|rfl) [-getElem?_pos,hr,fA,cS,mz]
     have hvY:=Dn.ah hvv (k1a.trans k2)
     have zeQ:vI l=(a*f:Nat):=iB
     refine c_ [(13,21),(82,191)] (fun e r st=>e=.exit 2/\QN N h2 n2 iu n3 (n3+1) l.length (k+2) ((a*f:Nat):Int) (ds (b*f)) 0 r st) (QN N h2 n2 iu n3 (n3+1) l.length (k+2) ((a*f:Nat):Int) (ds (b*f))) S ?_ ?_ ?_
     ·refine⟨l,List.replicate S 0,⟨oN,kH,rfl,?_,by simp⟩,by simp,rfl,by simp[hS],by omega,lK,Di.Ej _,fun s h1 h2=>by omega,?_,fun s hs=>by simp[hs],by rw[Zpa,iB];simp⟩
      ·rw[T.aj,aA (by omega)];exact i3
      ·obtain⟨x',mI,x0,x1,lo,hi⟩:=Znf (b:=b) (k:=k+1) (by omega)
       have g1:=vz (gm a)
       rw[gI,show (ds a).length=S+(k+1) by omega,Ty]at g1
       have g2:=Py l S (by omega)
       have g3:=vD (lK.take S)
       have g4:pI (k+1)*1<=pI (k+1)*x':=qR (by omega) (tX (CH _))
       have g5:pI S*pI (k+1)<=pI S*b:=qR (by omega) (tX (CH _))
       have g6:(a:Int)*f<pI S*b*f:=Int.mul_lt_mul_of_pos_right (by omega) (by omega)
       rw[gI]
       apply LJ
       intro hc
       have g7:pI S*((b*f:Nat):Int)<=pI S*vI (l.drop S):=qR hc (tX (CH _))
       have g8:pI S*((b*f:Nat):Int)=pI S*b*f:=by push_cast;grind
       have g9:((a*f:Nat):Int)=(a:Int)*f:=by push_cast;rfl
       omega
     ·exact Yfb hvY fy (gm _) rV Uq hka (by omega) (by simp[hr]) (by simp[hr]) (by simp[hr,fA]) (by simp[hS]) vG i1 i2 (tO n3)
     ·rintro _ r4 ⟨H4,n4,W4⟩ yU ⟨rfl,U,Q,⟨J2,MJ,QS,QT,QU⟩,ue,hUl,hQl,_,dU,dQ,hz,y_,_,qE⟩
      simp only at J2 MJ QS QT QU
      subst QS
      rw[AA]at y_
      rw[gI]at y_ qE
      obtain⟨qn,hqn⟩:=DJ (vD dQ)
      obtain⟨un,hun⟩:=DJ (vD dU)
      rw[hqn,hun]at qE
      rw[hun]at y_
      have Be:un+b*f*qn=a*f:=by exact_mod_cast qE
      have xF:un<b*f:=by exact_mod_cast y_
      have m1:a/b=qn:=by
       have:a*f/(b*f)=qn:=by
        rw[<-Be,Nat.add_mul_div_left _ _ (by omega),zu xF,vW]
       rw[<-this,SM _ _ f0]
      have m2:un/f=a%b:=by
       have:a*f%(b*f)=un:=by rw[<-Be,Nat.add_mul_mod_self_left,xA xF]
       rw[<-this,Of,Nat.mul_div_cancel _ f0]
      have hsU:Sl H4 (n3+1) (.slice iu 0 l.length none 1) (dI U):=Sl.row (by omega) QT (by simp[hUl]) (fun k hk=>by cases hk)
      have hsQ:Sl H4 (n3+1) (.slice n3 0 S (some S) 1) (dI Q):=Sl.row (by omega) QU (by simp[hQl,hS]) (fun k hk=>by simp at hk;omega)
      obtain⟨v',e1,e2⟩:=RS (w:=[]) hsU (lo:=0) (hi:=k+2) (by omega) (by rw[g_];omega) none (some (.int .i64 ((k+2:Nat):Int))) (.inr ⟨rfl,rfl⟩) (.inl rfl)
      have e3:((dI U).take (k+2)).drop 0=dI (U.take (k+2)):=by rw[AA,dI,<-List.map_take];rfl
      rw[e3]at e2
      have ck:((k+2:Nat):Int)=(k:Int)+2:=by omega
      rw[ck]at e1
      have zew:=(MJ.get N (by omega)).trans ((k2.get N (by omega)).trans ((show _=h1.get N by simp;omega).trans ((k1.get N (by omega)).trans (show _=some (.cells [.int .i64 (f:Int)] 3 true) by simp))))
      have zex:vI (U.take (k+2))=un:=by
       rw[<-hun]
       exact(Zgv (fun t h1 h2=>hz t (by omega) (by omega))).symm
      simp(disch:=first|(simp;done)|omega|rfl) [-getElem?_pos,hr,yU,fA,M7,aC,e1]
      refine az (HW e2 (by simp;omega)) ?_
      rintro y5 h5 n5 k5 Q2
      rw[HZ (dU.take _) zex]at Q2
      have Ku:=k5.le
      have Q3:=(k5.get N (by omega)).trans zew
      have lt5:N<n5:=by omega
      have lt4:iu<n3+1:=by omega
      have Q4:(ds un).length<1099511627776:=by
       have:(ds un).length<=(ds (b*f)).length:=ud (by omega)
       omega
      simp(disch:=first|(simp;done)|omega|rfl) [-getElem?_pos,hr,yU,Q3]
      refine az (Zng (d:=(f:Int)) Q2 (gm un) Q4 (by omega) (by omega)) ?_
      rintro y6 h6 n6 k6 ⟨q6,rfl,Qg⟩
      have t1:(vI (ds un)).toNat=un:=by rw[gI];omega
      have t2:((f:Nat):Int).toNat=f:=by omega
      rw[t1,t2]at Qg
      rw[m2]at Qg
      generalize ((vI (ds un)).toNat%(f:Int).toNat)=ZZ
      simp(disch:=first|(simp;done)|omega|rfl) [-getElem?_pos,hr,yU,lt4,lt5]
      refine az (HW ((hsQ.ah k5).ah k6) (by omega)) ?_
      rintro y7 h7 n7 k7 hy7
      rw[HZ dQ hqn]at hy7
      have oN4:aD N W4=[]:=J2
      have zey:=(((QA.trans MJ).trans k5).trans k6).trans k7
      simp(disch:=first|(simp;done)|omega|rfl) [-getElem?_pos,hr,yU,aF,oN4]
      refine⟨zey,y7,q6,⟨rfl,rfl⟩,?_,?_⟩
      ·rw[m1];exact hy7
      ·exact Sl.ah Qg k7
variable {s:aU}
def A.Q5:=A.q Tryz.f117
def A.rI:=A.ql A.Q5 0 []
def A.b117:=(fun x0=>A.qb A.Q5 [x0]) A.rI
def A.k117:=@A.kk 117 19 [.tmp 4] A.b117 (by kernel_rfl) rfl
def A.Q6:=A.q Tryz.f118
def A.kb:=A.ql A.Q6 0 []
def A.b118:=(fun x0=>A.qb A.Q6 [x0]) A.kb
def A.k118:=@A.kk 118 40 [.cell 2 (some 2)] A.b118 (by kernel_rfl) rfl
def Ur{h:T O}{N:Nat}{u v:V}{a b:Nat}(hu:Dn h N u a)(hv:Dn h N v b)(hl:(ds a).length<1000000000000)(oO:(ds b).length<1000000000000):Fn A.C 117 [u,v] h N (fun x h' n'=>Dn h' n' x (Nat.gcd a b)):=by
 intro w
 rw[aV,A.k117 (by simp)]
 simp(disch:=first|(simp;done)|omega|rfl) [-getElem?_pos,A.b117]
 refine c_ [(0,1),(5,17)] (fun e r st=>e=.exit 0/\aD N st.w=[]/\ae h N st.h st.n/\∃x,r.get 0=some x/\Dn st.h st.n x (Nat.gcd a b)) (fun m r st=>aD N st.w=[]/\ae h N st.h st.n/\∃x y c,r.get 0=some x/\r.get 1=some y/\Dn st.h st.n x c/\Dn st.h st.n y m/\Nat.gcd c m=Nat.gcd a b/\(ds c).length<1000000000000/\(ds m).length<1000000000000) b ?_ ?_ ?_
 ·exact⟨by simp,ae.refl,u,v,a,by simp,by simp,hu,hv,rfl,hl,oO⟩
 ·rintro m r ⟨H,n1,W⟩ hr hf ⟨hW,hK,x,y,c,h0,h1,hx,hy,hg,l1,l2⟩
  simp only at hW hK hx hy
  have ly:=hy.len
  rw[g_]at ly
  rw[dk]
  by_cases hm:m=0
  ·subst hm
   have z0:(ds 0).length=0:=by rw[sC];rfl
   rw[z0]at ly
   simp at hg
   simp(disch:=first|(simp;done)|omega|rfl) [-getElem?_pos,A.rI,hr,hf,h0,h1,ly,hW,hK]
   rw[<-hg];exact hx
  ·have bF:(ds m).length≠0:=fun hc=>hm (BG.1 (kJ hc))
   have p1:(0:Int)<((ds m).length:Int):=by omega
   have p2:0<(ds m).length:=by omega
   have p3:ds m≠[]:=fun hc=>bF (by rw[hc];rfl)
   simp(disch:=first|(simp;done)|omega|rfl) [-getElem?_pos,A.rI,hr,hf,h0,h1,ly,p1,p2,p3]
   refine az (Q1 hx hy (by omega) l1 l2) ?_
   rintro z h3 n3 k3 ⟨q,r',rfl,hq,rQ⟩
   simp(disch:=first|(simp;done)|omega|rfl) [-getElem?_pos,hr,hf,h0,h1,hW]
   refine⟨c%m,kW _ (by omega),hK.trans k3,m,hy.ah k3,rQ,?_,l2,?_⟩
   ·rw[<-hg,Nat.gcd_comm c m,Nat.gcd_rec m c,Nat.gcd_comm]
   ·have:=ud (a:=c%m) (b:=m) (Nat.le_of_lt (kW _ (by omega)));omega
 ·rintro _ r ⟨H,n1,W⟩ hr ⟨rfl,hW,hK,x,h0,hx⟩
  simp only at hW hK hx
  simp(disch:=first|(simp;done)|omega|rfl) [-getElem?_pos,hr,h0,aF,hW,hK]
  exact hx
def Zvk(x:aU):∀(y:aU),aK (x++y)=aK x*10^y.length+aK y:=by
 have key:∀(y:aU) (n:Nat),y.foldl (fun n (c:UInt8)=>10*n+(c.toNat-48)) n=n*10^y.length+y.foldl (fun n (c:UInt8)=>10*n+(c.toNat-48)) 0:=by
  intro y
  induction y with
  |nil=>simp
  |cons c y ih=>
   intro n
   rw[List.foldl_cons,List.foldl_cons,ih,ih (10*0+(c.toNat-48)),ak,fO]
   grind
 intro y
 unfold aK
 rw[List.foldl_append,key]
def Zsb(h:cN s=true)(k:Nat):cN (s.take k)=true:=by
 unfold cN at*
 rw[sN]at*
 exact fun c hc=>h c (B0 hc)
def Us(h:cN s=true)(k:Nat):cN (s.drop k)=true:=by
 unfold cN at*
 rw[sN]at*
 exact fun c hc=>h c (List.mem_of_mem_drop hc)
def Ut(h0:T O)(N:Nat)(s:aU)(m:Nat)(r:T V)(st:St):Prop:=aD N st.w=[]/\ae h0 N st.h st.n/\∃cur w l,r.get 0=some (.str cur)/\cur.length=m/\1<=m/\m<=s.length/\cN cur=true/\r.get 4=some w/\Own 1 3 N st.h st.n w (po l)/\Di l/\l.length+m<=s.length/\vI l+pI l.length*(aK cur:Nat)=(aK s:Nat)
def Uu(hd:cN s=true)(h1:1<=s.length)(h2:s.length<=3000000000){h:T O}{N:Nat}:Fn A.C 118 [.str s] h N (fun v h' n'=>Rg h' n' v (aK s:Nat)):=by
 intro w
 obtain⟨c,hc⟩:=fz (l:=s) (k:=0) (by omega)
 have oZ:=M1 hd hc
 have gw:s.head?=some c:=by cases s with
  |nil=>simp at hc
  |cons=>simpa using hc
 have a1:¬cR c=45:=by omega
 have a2:(0:Int)<(s.length:Int):=by omega
 have a3:0<s.length:=by omega
 have bF:s≠[]:=fun h=>by rw[h]at h1;simp at h1
 rw[aV,A.k118 (by simp)]
 simp(disch:=first|(simp;done)|omega|rfl) [-getElem?_pos,A.b118,a1,a2,a3,bF,gw,hc,aL]
 refine c_ [(0,0),(4,4),(16,32)] (fun e r st=>e=.exit 0/\∃m,m<=9/\Ut (h.set N (.cells [.bool false,.aa] 92 true)) (N+1) s m r st) (Ut (h.set N (.cells [.bool false,.aa] 92 true)) (N+1) s) s.length ?_ ?_ ?_
 ·exact⟨by simp,ae.refl,s,.aa,[],by simp,rfl,h1,aZ _,hd,by simp,Own.nil,Di.nil,by simp,by simp[vI,pI]⟩
 ·rintro m r ⟨H,n1,W⟩ hr hf ⟨hW,hK,cur,u,l,g0,dW,m1,m2,oZ,g4,ho,iY,Jz,hv⟩
  simp only at hW hK ho
  subst dW
  rw[dk]
  by_cases h9:9<cur.length
  ·have Dt:(9:Int)<(cur.length:Int):=by omega
   have iT:=hK.le
   have KG:=M0 (s:=cur.drop (cur.length-9)) (st:=⟨H,n1,W⟩) (Us oZ _) (by simp;omega)
   have Cs:((cur.length:Int)-9).toNat=cur.length-9:=by omega
   have EH:=Bt (Us oZ (cur.length-9))
   have lK:(cur.drop (cur.length-9)).length=9:=by simp;omega
   rw[lK]at EH
   have lh:=Zvk (cur.take (cur.length-9)) (cur.drop (cur.length-9))
   rw[A6,lK,show (10:Nat)^9=1000000000 by decide]at lh
   generalize hD:aK (cur.drop (cur.length-9))=D at*
   obtain⟨v',h',w',e1,e2,e3,e4,e5⟩:=xh (x:=[.int .i64 (D:Int)]) (u:=.slice n1 0 1 (some 1) 1) (bytes:=8) (w:=W) (ho.ah (ae.refl.new (.cells [.int .i64 (D:Int)] 3 true))) (by omega) (by decide) rfl (by simp[gp,St.row,aE]) (by rw[CL];omega)
   rw[<-Ec]at e5
   simp(disch:=first|(simp;done)|omega|rfl) [-getElem?_pos,A.kb,hr,hf,g0,g4,h9,Dt,Cs,aC,KG,ag,e1]
   refine⟨cur.length-9,by omega,⟨by rw[e2];exact hW,(hK.new _).then e3,cur.take (cur.length-9),v',l++[(D:Int)],by simp,by simp,by omega,by omega,Zsb oZ _,by simp,e5,iY.app (Di.one (by omega) (by omega)),by simp;omega,?_⟩⟩
   rw[CC,jb,zy,qD,<-hv]
   have KH:((aK cur:Nat):Int)=(aK (cur.take (cur.length-9)):Nat)*1000000000+D:=by omega
   rw[KH]
   generalize ((aK (cur.take (cur.length-9)):Nat):Int)=X
   generalize pI l.length=P
   grind
  ·have Dt:¬(9:Int)<(cur.length:Int):=by omega
   simp(disch:=first|(simp;done)|omega|rfl) [-getElem?_pos,A.kb,hr,hf,g0,h9,Dt]
   exact⟨cur.length,by omega,hW,hK,cur,u,l,by simp[g0],rfl,m1,m2,oZ,by simp[g4],ho,iY,Jz,hv⟩
 ·rintro _ r ⟨H,n1,W⟩ hr ⟨rfl,m,m9,hW,hK,cur,u,l,g0,dW,m1,m2,oZ,g4,ho,iY,Jz,hv⟩
  simp only at hW hK ho
  subst dW
  have iT:=hK.le
  have KG:=M0 (s:=cur) (st:=⟨H,n1,W⟩) oZ (by omega)
  have EH:=Bt oZ
  have NN:=RQ m9
  generalize hD:aK cur=D at*
  obtain⟨v',h',w',e1,e2,e3,e4,e5⟩:=xh (x:=[.int .i64 (D:Int)]) (u:=.slice n1 0 1 (some 1) 1) (bytes:=8) (w:=W) (ho.ah (ae.refl.new (.cells [.int .i64 (D:Int)] 3 true))) (by omega) (by decide) rfl (by simp[gp,St.row,aE]) (by rw[CL];omega)
  rw[<-Ec]at e5
  simp(disch:=first|(simp;done)|omega|rfl) [-getElem?_pos,hr,g0,g4,KG,ag,e1]
  have zgq:Di (l++[(D:Int)]):=iY.app (Di.one (by omega) (by omega))
  refine az (vS (n:=aK s) e5.sl zgq (by rw[CC];exact hv) (by simp;omega)) ?_
  rintro y h5 n5 k5 hy
  have kk:=((hK.new (.cells [.int .i64 (D:Int)] 3 true)).then e3).trans k5
  have vT:=kk.le
  have oL:=kk.get N (by omega)
  simp at oL
  obtain⟨u5,rfl,Aq⟩:=hy
  have Kn:=fun c1 (hc:c1.length=2)=>Sl.setInt (i:=N) (c1:=c1) (e1:=92) (w1:=true) Aq oL (by intro x hx k m;simp at hx;rcases hx with rfl|rfl<;>simp) hc
  have AB:=Sl.form Aq |>.one
  unfold V.one at AB
  have ow:aD N w'=[]:=QZ (Ar N) (by rw[e2];exact hW)
  have k0:=(ae.refl (h:=h) (n:=N)).new (.cells [.bool false,.aa] 92 true)
  simp(disch:=first|(simp;done)|omega|rfl) [-getElem?_pos,hr,oL,ag,bE,AB,aJ,aE,aF,ow]
  exact⟨(k0.trans kk).set (aZ N),u5,by simp,by simpa[Dn]using Kn _ rfl⟩
end
end Go.Mx
