/-lensletref01-/
import Derived.Test.YtdlikflhcjmkeaaGreatDoorRcD
set_option linter.all false
namespace Go.Mx
noncomputable section
open Go Go.Proofs
set_option maxRecDepth 1000000
def Yi0{l:List Int}{d:Int}(h:d∈l):∃s:Nat,l[s]?=some d:=Ytr h
def Yl9{l:List Int}(h:∀(s:Nat) (d:Int),l[s]?=some d→0≤d∧d<1000000000):Di l:=fun d hd=>by
 obtain⟨s,hs⟩:=Yi0 hd
 exact h s d hs
def Zvc{U U2:List Int}{j:Nat}{X:Int}(hj:j≤U.length)(hl:U2.length=U.length)(hs:∀s,s<j→U2[s]?=U[s]?)(hv:vI U2=vI U-pI j*X):vI (U2.drop j)=vI (U.drop j)-X:=by
 have h1:=Zi4 U j hj
 have h2:=Zi4 U2 j (by omega)
 have h3:U2.take j=U.take j:=by
  apply Yq9
  intro s
  rw[Yqy,Yqy]
  by_cases h:s<j
  ·rw[Yqi h,Yqi h];exact hs s h
  ·rw[Yqe h,Yqe h]
 rw[h3]at h2
 have h4:pI j*vI (U2.drop j)=pI j*(vI (U.drop j)-X):=by
  have:pI j*(vI (U.drop j)-X)=pI j*vI (U.drop j)-pI j*X:=by grind
  omega
 exact Int.eq_of_mul_eq_mul_left (Int.ne_of_gt (Zjk j)) h4
def Yf2{U:List Int}{j L:Nat}{tt:Int}(hd:∀(s:Nat) (d:Int),s<j+L→U[s]?=some d→0≤d∧d<1000000000)(ht:U[j+L]?=some tt)(hz:∀s,j+L<s→s<U.length→U[s]?=some 0)(hlt:vI (U.drop j)<pI L):(0≤vI (U.drop j)→tt=0)∧(vI (U.drop j)<0→tt<0):=by
 refine Yc9 (w:=U.drop j) (n:=L) ?_ (by rw[Yqo];exact ht) ?_ hlt
 ·refine Yl9 fun s d hs=>?_
  by_cases h:s<L
  ·rw[Yqy,Yqi h,Yqo]at hs
   exact hd (j+s) d (by omega) hs
  ·rw[Yqy,Yqe h]at hs;cases hs
 ·intro s h1 h2
  rw[Yqo]
  exact hz (j+s) (by omega) (by simp at h2;omega)
structure OuI (N:Nat) (h2:T O) (n2 iu iq n lu L:Nat) (A0:Int) (Y:List Int) (m:Nat) (r:T V) (st:St):Prop where
 ex:∃U Q,DvS N h2 n2 iu iq n U Q st∧r.get 13=some (.int .i64 ((m:Int)-1))∧U.length=lu∧Q.length=lu-L∧m≤lu-L∧Di U∧Di Q∧(∀s,m+L≤s→s<lu→U[s]?=some 0)∧vI (U.drop m)<vI Y∧(∀s,s<m→Q[s]?=some 0)∧vI U+vI Y*vI Q=A0
def Yd2{N:Nat}{h2:T O}{n2 iu iq n lu k:Nat}{A0 v1:Int}{Y:List Int}{v:V}{r0:T V}(hv:Sl h2 n2 v (dI Y))(hY:Y.length=k+2)(dY:Di Y)(hv1:Y[k+1]?=some v1)(h5:500000000≤v1)(hlu:k+2<lu)(hul:lu<1099511627776)(r9:r0.get 9=some v)(r10:r0.get 10=some (.int .i64 (k+2:Nat)))(r11:r0.get 11=some (.slice iu 0 lu none 1))(r12:r0.get 12=some (.slice iq 0 (lu-(k+2)) (some (lu-(k+2))) 1))(a1:N≤n2)(a2:n2≤iu)(a3:iu<iq)(a4:iq<n):
  ∀m r st,(∀t,inD [(13,21),(82,191)] t=false→r.get t=r0.get t)→Fx [(13,21),(82,191)] r0 206 ⟨r,206,[]⟩→OuI N h2 n2 iu iq n lu (k+2) A0 Y m r st→Code A.C none A.lb182_2 ⟨r,206,[]⟩ st (Rd [(13,21),(82,191)] r0 206 (OuI N h2 n2 iu iq n lu (k+2) A0 Y) m (fun e r st=>e=.exit 2∧OuI N h2 n2 iu iq n lu (k+2) A0 Y 0 r st)):=by
 rintro m r ⟨H,n1,W⟩ hr hf ⟨U,Q,⟨hW,hK,hn,ru,rq⟩,r13,hul',hql,hm,dU,dQ,hz,hdr,hqz,hval⟩
 simp only at hW hK hn ru rq
 subst hn
 rw[Zai]
 cases m with
 |zero=>
  simp[A.lb182_2,hf,r13]
  exact⟨U,Q,⟨hW,hK,rfl,ru,rq⟩,by simp[r13],hul',hql,hm,dU,dQ,hz,hdr,hqz,hval⟩
 |succ j=>
  have hj1:(((j+1:Nat):Int)-1)=(j:Int):=by omega
  rw[hj1]at r13
  have hj0:(0:Int)≤(j:Int):=by omega
  obtain⟨v2,hv2⟩:=Zan (l:=Y) (k:=k) (by omega)
  obtain⟨d1,e1⟩:=Zan (l:=U) (k:=j+k) (by omega)
  obtain⟨d2,e2⟩:=Zan (l:=U) (k:=j+k+1) (by omega)
  obtain⟨d3,e3⟩:=Zan (l:=U) (k:=j+k+2) (by omega)
  obtain⟨x0,hx0⟩:=Zan (l:=U) (k:=j) (by omega)
  have hWt:=Yhb (w:=U.drop j) (k:=k) (a:=d1) (c:=d2) (d:=d3) (by rw[Yqo];exact e1) (by rw[Yqo,←Yrq];exact e2) (by rw[Yqo,←Yrq];exact e3) (fun t h1 h2=>by rw[Yqo];exact hz _ (by omega) (by simp at h2;omega))
  have hDt:=Yhc hv2 hv1 hY
  have hWd:vI (U.drop j)<1000000000*vI Y:=by
   rw[Za2 hx0,vI]
   have:=dU.get hx0
   omega
  have hUk:=Zh8 ((dU.drop j).take k)
  rw[Yq0,Yso,Yrb (by omega)]at hUk
  have hVk:=Zh8 (dY.take k)
  rw[Yq0,Yrb (by omega)]at hVk
  obtain⟨t,hg,t0,t1,hlo,hhi⟩:=Yey (w:=W) (Sl.row (cp:=none) (L:=lu) (show iu<n1 by omega) ru (by simp[hul']) (fun k hk=>by cases hk)) (hv.keep hK) hY (by omega) e1 e2 e3 hv2 hv1 (dU.get e1) (dU.get e2) (dU.get e3) ⟨h5,(dY.get hv1).2⟩ (dY.get hv2) (Zjk k) (Zh7 ((dU.drop j).take k)) hUk (Zh7 (dY.take k)) hVk hWt hDt hWd
  have hVl:=Zh8 dY
  rw[hY]at hVl
  have hVp:0<vI Y:=by have:=Zh7 (dU.drop (j+1));omega
  simp[A.lb182_2,hr,r13,hj0,r9,r11,hg]
  refine Zaj [(15,18),(90,125)] (fun e r st=>e=.exit 4∧SbR N h2 n2 iu iq n1 U Q Y (k+2) j t 0 r st) (SbR N h2 n2 iu iq n1 U Q Y (k+2) j t) (k+2) ?_ ?_ ?_
  ·exact⟨0,U,0,by omega,by simp,by simp,by omega,by omega,⟨hW,hK,rfl,ru,rq⟩,rfl,fun _ _=>rfl,dU,by simp[vI]⟩
  ·exact Yde hv hY dY (by omega) (by omega) ⟨by simp[hr,r9],by simp[hr,r10],by simp[hr,r11,hul'],by simp[r13]⟩ (by simp) t0 t1 a1 a2 a3 a4
  ·rintro _ r2 ⟨H2,n3,W2⟩ hr2 ⟨rfl,i,U',c,hi,h16,h15,c0,c1,⟨hW2,hK2,hn2,ru2,rq2⟩,hul2,hsame,hdi2,hval2⟩
   simp only at hW2 hK2 hn2 ru2 rq2
   subst hn2
   obtain rfl:i=k+2:=by omega
   have hfi:=hf.inner (D':=[(15,18),(90,125)]) rfl (by simp) hr2
   rw[←hY,Ysp,hY]at hval2
   have e3':U'[j+(k+2)]?=some d3:=by rw[hsame _ (.inr (Yqg _))];rw[←Yrq];exact e3
   have hd3:=dU.get e3
   have q1:(j:Int)+((k:Int)+2)<(lu:Int):=by omega
   have q2:j+(k+2)<lu:=by omega
   have q3:(0:Int)≤(j:Int)+((k:Int)+2):=by omega
   have q4:((j:Int)+((k:Int)+2)).toNat=j+(k+2):=by omega
   have w8:=Zas U'
   have b1':Zao .i64 (d3-c)=d3-c:=Zag (by omega) (by omega)
   have w7:=Zh2 (l:=U') (k:=j+(k+2)) (v:=d3-c) (by omega)
   have nn:¬iu<N:=by omega
   have d5:¬iq=iu:=by omega
   have d6:¬iu=iq:=by omega
   have nq:¬iq<N:=by omega
   have v2e:vI (U'.set (j+(k+2)) (d3-c))=vI U-pI j*(t*vI Y):=by
    rw[Zi5 e3']
    have:pI (j+(k+2))*(d3-c-d3)= -(pI (j+(k+2))*c):=by grind
    omega
   have hs2:∀s,s<j→(U'.set (j+(k+2)) (d3-c))[s]?=U[s]?:=fun s hs=>by
    rw[Yqj (by omega)];exact hsame s (.inl hs)
   have hz2:∀s,j+(k+2)<s→s<lu→(U'.set (j+(k+2)) (d3-c))[s]?=some 0:=fun s h1 h2=>by
    rw[Yqj (by omega),hsame s (.inr (by omega))];exact hz s (by omega) h2
   have hdv:=Zvc (by omega) (by simp[hul2]) hs2 v2e
   have htop:(U'.set (j+(k+2)) (d3-c))[j+(k+2)]?=some (d3-c):=Yq7 (by omega)
   have hlt2:vI ((U'.set (j+(k+2)) (d3-c)).drop j)<vI Y:=by
    rw[hdv]
    have:(t+1)*vI Y=t*vI Y+vI Y:=by grind
    omega
   have hto:=Yf2 (U:=U'.set (j+(k+2)) (d3-c)) (fun s d hs hd=>by
    rw[Yqj (by omega)]at hd;exact hdi2.get hd) htop (fun s h1 h2=>hz2 s h1 (by simp at h2;omega)) (by omega)
   have qj1:(j:Int)<((lu-(k+2):Nat):Int):=by omega
   have qj2:j<lu-(k+2):=by omega
   have wq8:=Zas Q
   by_cases hneg:d3-c<0
   ·have t1w:Zao .i64 (t-1)=t-1:=Zag (by omega) (by omega)
    simp(disch:=first|(simp;done)|omega|rfl) [-getElem?_pos,hr,hr2,h15,r10,r11,r13,q4,ru2,Zbf e3',b1',w7,Zbf htop,hneg,t1w]
    generalize hU2:U'.set (j+(k+2)) (d3-c)=U2 at*
    have hl2:U2.length=lu:=by rw[←hU2];simp[hul2,hul']
    have hWlt:vI (U2.drop j)<0:=by
     apply Ytu;intro hc
     have:=hto.1 hc
     omega
    have hdig:∀(s:Nat) (d:Int),s≠j+(k+2)→U2[s]?=some d→0≤d∧d<1000000000:=fun s d hs hd=>by
     rw[←hU2,Yqj (by omega)]at hd;exact hdi2.get hd
    refine Zaj [(19,21),(148,174)] (fun e r st=>e=.exit 6∧AbR N h2 n2 iu iq n3 U2 Q Y (k+2) j 0 r st) (AbR N h2 n2 iu iq n3 U2 Q Y (k+2) j) (k+2) ?_ ?_ ?_
    ·exact⟨0,U2,0,by omega,by simp,by simp,by omega,by omega,⟨by simp[Zac,hW2,nn],hK2.set (by omega),rfl,by simp,by simp[d5,rq2]⟩,rfl,fun _ _=>rfl,hdig,by simp[vI]⟩
    ·exact Yfx hv hY dY (by omega) (by omega) ⟨by simp[hr,hr2,r9],by simp[hr,hr2,r10],by simp[hr,hr2,r11,hl2],by simp[hr2,r13]⟩ a1 a2 a3 a4
    ·rintro _ r4 ⟨H4,n4,W4⟩ hr4 ⟨rfl,i4,U3,c4,hi4,h20,h19,c40,c41,⟨hW4,hK4,hn4,ru4,rq4⟩,hul4,hsame4,hdi4,hval4⟩
     simp only at hW4 hK4 hn4 ru4 rq4
     subst hn4
     obtain rfl:i4=k+2:=by omega
     have hfi4:=hfi.inner (D':=[(19,21),(148,174)]) rfl (by simp) hr4
     rw[←hY,Ysp,hY]at hval4
     have e4:U3[j+(k+2)]?=some (d3-c):=by rw[hsame4 _ (.inr (Yqg _))];exact htop
     have x8:=Zas U3
     have b4':Zao .i64 (d3-c+c4)=d3-c+c4:=Zag (by omega) (by omega)
     have x7:=Zh2 (l:=U3) (k:=j+(k+2)) (v:=d3-c+c4) (by omega)
     have v4e:vI (U3.set (j+(k+2)) (d3-c+c4))=vI U-pI j*((t-1)*vI Y):=by
      rw[Zi5 e4]
      have x1:pI (j+(k+2))*(d3-c+c4-(d3-c))=pI (j+(k+2))*c4:=by grind
      have x2:pI j*((t-1)*vI Y)=pI j*(t*vI Y)-pI j*vI Y:=by grind
      omega
     have hs4:∀s,s<j→(U3.set (j+(k+2)) (d3-c+c4))[s]?=U[s]?:=fun s hs=>by
      rw[Yqj (by omega),hsame4 s (.inl hs)];exact hs2 s hs
     have hz4:∀s,j+(k+2)<s→s<lu→(U3.set (j+(k+2)) (d3-c+c4))[s]?=some 0:=fun s h1 h2=>by
      rw[Yqj (by omega),hsame4 s (.inr (by omega))];exact hz2 s h1 h2
     have hdv4:=Zvc (by omega) (by simp[hul4,hl2,hul']) hs4 v4e
     have htop4:(U3.set (j+(k+2)) (d3-c+c4))[j+(k+2)]?=some (d3-c+c4):=Yq7 (by omega)
     have xt:(t-1)*vI Y=t*vI Y-vI Y:=by grind
     have hlt4:vI ((U3.set (j+(k+2)) (d3-c+c4)).drop j)<vI Y:=by
      rw[hdv4];omega
     have hge4:0≤vI ((U3.set (j+(k+2)) (d3-c+c4)).drop j):=by
      rw[hdv4];omega
     have hto4:=Yf2 (U:=U3.set (j+(k+2)) (d3-c+c4)) (fun s d hs hd=>by
      rw[Yqj (by omega)]at hd;exact hdi4 s d (by omega) hd) htop4 (fun s h1 h2=>hz4 s h1 (by simp at h2;omega)) (by omega)
     have hz0:=hto4.1 hge4
     have w9:=Zh2 (l:=Q) (k:=j) (v:=t-1) (by omega)
     have hq0:=hqz j (by omega)
     have tpos:1≤t:=by
      apply Ytg;intro hc
      have:t=0:=by omega
      rw[this]at hdv
      have:=Zh7 (dU.drop j)
      omega
     simp(disch:=first|(simp;done)|omega|rfl) [-getElem?_pos,hr,hr2,hr4,hfi4,h19,r10,r11,r12,r13,q4,ru4,rq4,Zbf e4,b4',x7,d5,w9]
     refine⟨j,by omega,⟨U3.set (j+(k+2)) (d3-c+c4),Q.set j (t-1),⟨by simp[Zac,hW4,nn,nq],?_,rfl,by simp[d6],by simp⟩,by simp,by simp[hul4,hl2],by simp[hql],by omega,?_,dQ.set (by omega) (by omega),?_,?_,?_,?_⟩⟩
     ·exact(hK4.set (by omega)).set (by omega)
     ·refine Yl9 fun s d hd=>?_
      by_cases hs:s=j+(k+2)
      ·subst hs
       rw[htop4,hz0]at hd
       simp at hd
       omega
      ·rw[Yqj (fun h=>hs h.symm)]at hd
       exact hdi4 s d hs hd
     ·intro s h1 h2
      by_cases hs:s=j+(k+2)
      ·rw[hs,htop4,hz0]
      ·exact hz4 s (by omega) h2
     ·exact hlt4
     ·intro s hs
      rw[Yqj (by omega)];exact hqz s (by omega)
     ·rw[v4e,Zi5 hq0,←hval]
      grind
   ·have hnn:0≤vI ((U'.set (j+(k+2)) (d3-c)).drop j):=by
     apply Ytg;intro hc;exact hneg (hto.2 hc)
    have hz0:=hto.1 hnn
    have w9:=Zh2 (l:=Q) (k:=j) (v:=t) (by omega)
    have hq0:=hqz j (by omega)
    rw[hdv]at hnn hlt2
    have tlt:t<1000000000:=by
     apply Ytu;intro hc
     have:=Yru hc (Yr8 hVp)
     omega
    simp(disch:=first|(simp;done)|omega|rfl) [-getElem?_pos,hr,hr2,hfi,h15,r10,r11,r12,r13,q4,ru2,rq2,Zbf e3',b1',w7,Zbf htop,hneg,d5,w9]
    refine⟨j,by omega,⟨U'.set (j+(k+2)) (d3-c),Q.set j t,⟨by simp[Zac,hW2,nn,nq],?_,rfl,by simp[d6],by simp⟩,by simp,by simp[hul2,hul'],by simp[hql],by omega,?_,dQ.set t0 tlt,?_,?_,?_,?_⟩⟩
    ·exact(hK2.set (by omega)).set (by omega)
    ·rw[hz0];exact hdi2.set (by omega) (by omega)
    ·intro s h1 h2
     by_cases hs:s=j+(k+2)
     ·rw[hs,htop,hz0]
     ·exact hz2 s (by omega) h2
    ·rw[hdv];exact hlt2
    ·intro s hs
     rw[Yqj (by omega)];exact hqz s (by omega)
    ·rw[v2e,Zi5 hq0,←hval]
     grind
variable {N:Nat}
def Zgw{N n2:Nat}(h:N≤n2):∀{w:List Nat},Zac n2 w=[]→Zac N w=[]
 |[],_=>rfl
 |i::w,hw=>by
  simp only[Zac]at hw ⊢
  by_cases h1:i<n2
  ·rw[Yqi h1]at hw
   unfold Zfi at hw
   split at hw
   ·rename_i hc
    rw[hw]at hc;simp at hc
   ·cases hw
  ·rw[Yqe h1]at hw
   rw[Yqe (by omega)]
   exact Zgw h hw
def Zrp{h:T O}{i:Nat}{w:List Nat}{v:V}{l:List Int}(hr:h.get i=some (.cells [] 3 true))(hs:Sl h N v (dI l))(hne:l≠[])(hl:l.length<1099511627776):
  Zc7 ⟨h,N,w⟩ 1 8 3 (.slice i 0 0 (some 0) 1) v=some (.slice N 0 l.length none 1,⟨h.set N (.cells (dI l) 3 true),N+1,w⟩):=by
 have h0:l.length≠0:=fun hc=>hne (Yqw hc)
 have hs':=Yk6 (w:=w) hs
 rw[Zas]at hs'
 have hb:¬(Zd5<(2*(0+l.length)+1000)*8):=by unfold Zd5;omega
 simp only[Zc7,hs']
 rw[Yqe h0,Yqe (by rintro(h|h|h)<;>omega)]
 simp only[St.row,hr]
 rw[Yqe (by omega)]
 simp[slc,St.alloc]
def Ygb(k:Nat):pI k=((1000000000^k:Nat):Int):=by unfold pI;simp
def Zmy{b k:Nat}(h:(ds b).length=k+1):∃x,(ds b)[k]?=some x∧0<x∧x<1000000000∧pI k*x≤b∧(b:Int)<pI k*(x+1):=by
 have hb:b≠0:=fun hc=>by rw[hc,Zch]at h;simp at h
 obtain⟨x,hx,hx0⟩:=Yju hb
 rw[h,Nat.add_sub_cancel]at hx
 have hd:=(Zb9 b).get hx
 have hv:=Zbd b
 rw[Zyn hx,Yrr (by omega),vI,Int.mul_zero,Int.add_zero]at hv
 have h1:=Zh7 ((Zb9 b).take k)
 have h2:=Zh8 ((Zb9 b).take k)
 rw[Yq0,Yrb (by omega)]at h2
 have h3:pI k*(x+1)=pI k*x+pI k:=by grind
 exact⟨x,hx,hx0,hd.2,by omega,by omega⟩
def Yik{b k:Nat}(h:(ds b).length=k+1){x:Int}(hx:(ds b)[k]?=some x):∃f:Nat,(f:Int)=1000000000/(x+1)∧0<f∧f<1000000000∧(ds (b*f)).length=k+1∧∃y,(ds (b*f))[k]?=some y∧500000000≤y:=by
 obtain⟨x',hx',x0,x1,lo,hi⟩:=Zmy h
 obtain rfl:x=x':=Yrc (hx.symm.trans hx')
 have hd:(x+1)*(1000000000/(x+1))+1000000000%(x+1)=1000000000:=Ysl ..
 have hr0:0≤1000000000%(x+1):=Yti _ (by omega)
 have hr1:1000000000%(x+1)<x+1:=Ysw _ (by omega)
 have hh:=Zz2 (x:=x) (by omega) x1
 have f0:0<1000000000/(x+1):=by
  apply Ytu;intro hc
  have:=Int.mul_nonpos_of_nonneg_of_nonpos (a:=x) (by omega) hc
  omega
 have f1:1000000000/(x+1)<1000000000:=Int.ediv_lt_of_lt_mul (by omega) (by omega)
 obtain⟨f,hf⟩:=Ysd (Yr8 f0)
 rw[hf]at hd hh f0 f1
 have hp:=Zjk k
 have hb1:((b*f:Nat):Int)=(b:Int)*f:=by simp
 have up:(b:Int)*f<1000000000*pI k:=by
  have g1:(b:Int)*f<pI k*(x+1)*f:=Int.mul_lt_mul_of_pos_right hi f0
  have g2:pI k*(x+1)*f=pI k*((x+1)*f):=by grind
  have g3:pI k*((x+1)*f)≤pI k*1000000000:=Yqt (by omega) (Yr8 hp)
  omega
 have low:500000000*pI k≤(b:Int)*f:=by
  have g1:pI k*x*f≤(b:Int)*f:=Yru lo (Yr8 f0)
  have g2:pI k*x*f=pI k*(x*f):=by grind
  have g3:pI k*500000000≤pI k*(x*f):=Yqt hh (Yr8 hp)
  omega
 have len1:(ds (b*f)).length≤k+1:=Zfl (by
  have:((b*f:Nat):Int)<((1000000000^(k+1):Nat):Int):=by rw[←Ygb,Zc1,hb1];exact up
  exact_mod_cast this)
 have len2:(ds b).length≤(ds (b*f)).length:=Zcn (Nat.le_mul_of_pos_right b (by omega))
 have len:(ds (b*f)).length=k+1:=by omega
 obtain⟨y,hy,y0,y1,ylo,yhi⟩:=Zmy len
 refine⟨f,hf.symm,by omega,by omega,len,y,hy,?_⟩
 apply Ytg
 intro hc
 have:pI k*(y+1)≤pI k*500000000:=Yqt (by omega) (Yr8 hp)
 omega
def PdI(N:Nat)(h2:T O)(n2 la:Nat)(A0:Int)(m:Nat)(r:T V)(st:St):Prop:=Zac n2 st.w=[]∧Keeps h2 n2 st.h st.n∧∃u l,r.get 11=some u∧Own 1 3 n2 st.h st.n u (Ze7 l)∧l.length+m=la+1∧vI l=A0∧Di l
def Yd0{N:Nat}{h2:T O}{n2 la:Nat}{A0:Int}{u0:V}{r0:T V}{la':List Int}(hu0:Sl h2 n2 u0 (dI la'))(hla:la'.length=la)(hl:la<1099511627776)(r0e:r0.get 0=some u0):
  ∀m r st,(∀t,inD [(11,11),(63,71)] t=false→r.get t=r0.get t)→Fx [(11,11),(63,71)] r0 206 ⟨r,206,[]⟩→PdI N h2 n2 la A0 m r st→Code A.C none A.lb182_3 ⟨r,206,[]⟩ st (Rd [(11,11),(63,71)] r0 206 (PdI N h2 n2 la A0) m (fun e r st=>e=.exit 0∧PdI N h2 n2 la A0 0 r st)):=by
 rintro m r ⟨H,n1,W⟩ hr hf ⟨hW,hK,u,l,h11,ho,hm,hv,hd⟩
 simp only at hW hK ho
 have lu:=hu0.len
 rw[Zas,hla]at lu
 have lo:=ho.len
 rw[Zdj]at lo
 rw[Zai]
 cases m with
 |zero=>
  have:¬(l.length:Int)<(la:Int)+1:=by omega
  simp(disch:=first|(simp;done)|omega|rfl) [A.lb182_3,hr,hf,r0e,h11,lu,lo,this]
  exact⟨hW,hK,u,l,by simp[h11],ho,hm,hv,hd⟩
 |succ m=>
  have h1:(l.length:Int)<(la:Int)+1:=by omega
  have nle:=hK.le
  obtain⟨v',h',w',e1,e2,e3,e4,e5⟩:=Zbw (x:=[.int .i64 0]) (u:=.slice n1 0 1 (some 1) 1) (bytes:=8) (w:=W) (ho.keep (Keeps.refl.new (.cells [.int .i64 0] 3 true))) (by omega) (by decide) rfl (by simp[Zbc,St.row,slc]) (by rw[Zdj];omega)
  rw[←Zdb]at e5
  simp(disch:=first|(simp;done)|omega|rfl) [A.lb182_3,hr,hf,r0e,h11,lu,lo,h1,splice,e1]
  refine⟨m,by omega,⟨by rw[e2];exact hW,((hK.new _).then e3),v',l++[0],by simp,e5,by simp;omega,by rw[Zfs,hv];simp,hd.app (Di.one (by omega) (by omega))⟩⟩
def Ygq{r:Nat}(h:r<1000000000):Zfv [(r:Int)]=ds r:=Zfu (Di.one (by omega) (by omega)) (by simp[vI])
def Zl7{h:T O}{N:Nat}{u v:V}{a b:Nat}(hu:Dn h N u a)(hv:Dn h N v b)(hb:0<b)(hl:(ds a).length<1000000000000)(hl2:(ds b).length<1000000000000):Fn A.C 182 [u,v] h N (fun x h' n'=>∃q r,x=.tup [q,r]∧Dn h' n' q (a/b)∧Dn h' n' r (a%b)):=by
 intro w
 have lu:=hu.len
 have lv:=hv.len
 rw[Zas]at lu lv
 rw[Zab,A.k182 (by simp)]
 by_cases hab:a<b
 ·have hc0:Ycz a b= -1:=by simp[Ycz,hab]
  have hc:=fun w=>Ztl (w:=w) hu hv (by omega) (by omega)
  simp[A.b182,hc,hc0,Ret]
  refine⟨Keeps.refl,.nilslice,u,⟨rfl,rfl⟩,?_,?_⟩
  ·rw[Ysi hab];unfold Dn;rw[Zch];exact Sl.nil
  ·rw[Yr2 hab];exact hu
 ·have hba:b≤a:=by omega
  have hlb:=Zcn hba
  have hc:=fun w=>Ztl (w:=w) hu hv (by omega) (by omega)
  have hcn:¬Ycz a b<0:=by unfold Ycz;rw[Yqe hab];split<;>omega
  have hL1:1≤(ds b).length:=by
   have:ds b≠[]:=fun hc=>by rw[Zdo]at hc;omega
   exact List.length_pos_iff.2 this
  by_cases hL:(ds b).length=1
  ·obtain⟨x,hx⟩:=Zan (l:=ds b) (k:=0) (by omega)
   have hbx:ds b=[x]:=by
    cases hq:ds b with
    |nil=>rw[hq]at hL;simp at hL
    |cons y l=>
     rw[hq]at hL hx
     simp at hL hx
     rw[hL,hx]
   have hxv:=Zbd b
   rw[hbx]at hxv
   simp[vI]at hxv
   have hxd:=(Zb9 b).get hx
   obtain⟨b1,b2,b3,b4,b5,z1,z2,z3,z4⟩:=Sl.at (show Sl h N v (dI (ds b)) from hv) (Zbf hx)
   simp at z4
   simp[A.b182,hc,hcn,lv,hL,z1,z3,z4]
   refine Zaa (Zmz (show Sl h N u (dI (ds a)) from hu) (Zb9 a) (by omega) (by omega) hxd.2) ?_
   rintro y h1 n1 k1 ⟨q,rfl,hq⟩
   rw[Zbd]at hq
   simp only[Zbd]
   have e1:(a:Int).toNat=a:=by omega
   have e2:x.toNat=b:=by omega
   rw[e1,e2]at hq
   rw[e1,e2]
   have hRb:=Yri a hb
   generalize hQ:a/b=Q at*
   generalize hR:a%b=R at*
   simp[splice]
   refine Zaa (Zfz (l:=[(R:Int)]) (Sl.row (e:=3) (rw:=true) (cp:=some 1) (Yrl n1) (by simp[dI]) rfl (fun k hk=>by simp at hk;omega)) (by simp)) ?_
   rintro y2 h2 n2 k2 hy2
   rw[Ygq (by omega)]at hy2
   have kk:=(Keeps.refl (h:=h1) (n:=n1)).new (.cells [.int .i64 (R:Int)] 3 true)
   simp[Ret]
   exact⟨(k1.trans kk).trans k2,q,y2,⟨rfl,rfl⟩,hq.keep (kk.trans k2),hy2⟩
  ·obtain⟨k,hk⟩:∃k,(ds b).length=k+2:=⟨(ds b).length-2,by omega⟩
   obtain⟨x,hx⟩:=Zan (l:=ds b) (k:=k+1) (by omega)
   have hxd:=(Zb9 b).get hx
   obtain⟨f,hf,f0,f1,hlen,y1,hy1,hy5⟩:=Yik (k:=k+1) (by omega) hx
   obtain⟨b1,b2,b3,b4,b5,z1,z2,z3,z4⟩:=Sl.at (show Sl h N v (dI (ds b)) from hv) (Zbf hx)
   have c1:((k:Int)+2-1)=(k:Int)+1:=by omega
   have c3:¬((k:Int)+2=1):=by omega
   have c4:((k:Int)+1).toNat=k+1:=by omega
   have w1:Zao .i64 (x+1)=x+1:=Zag (by omega) (by omega)
   have w2:(1000000000:Int).tdiv (x+1)=f:=by rw[hf];exact Yrk (by decide)
   have w3:Zao .i64 (f:Int)=f:=Zag (by omega) (by omega)
   have c6:¬x+1=0:=by omega
   rw[hk]at lv
   simp(disch:=omega) [A.b182,hc,hcn,lv,c1,c3,c4,z1,z3,z4,w1,w2,w3,splice]
   have k0:=(Keeps.refl (h:=h) (n:=N)).new (.cells [.int .i64 (f:Int)] 3 true)
   have hfr:Sl (h.set N (.cells [.int .i64 (f:Int)] 3 true)) (N+1) (.slice N 0 1 (some 1) 1) (dI [(f:Int)]):=Sl.row (e:=3) (rw:=true) (Yrl N) (by simp[dI]) rfl (fun k hk=>by simp at hk;omega)
   have dF:Di [(f:Int)]:=Di.one (by omega) (by omega)
   refine Zaa (Zsf (a:=b) (b:=f) (Sl.keep hv k0) hfr (Zb9 b) dF (Zbd b) (by simp[vI]) (by simp;omega)) ?_
   rintro vv h1 n1 k1 hvv
   have kle1:=k1.le
   have lvv:=hvv.len
   have hlen':(ds (b*f)).length=k+2:=by omega
   rw[Zas,hlen']at lvv
   simp[lvv]
   have k1a:=(Keeps.refl (h:=h1) (n:=n1)).new (.cells [] 3 true)
   refine Zaa (Zsf (a:=a) (b:=f) (((Sl.keep hu k0).keep k1).keep k1a) ((hfr.keep k1).keep k1a) (Zb9 a) dF (Zbd a) (by simp[vI]) (by simp;omega)) ?_
   rintro uu h2 n2 k2 huu
   have kle2:=k2.le
   have hne:ds (a*f)≠[]:=fun hc=>by
    rw[Zdo]at hc
    have:0<a*f:=Ytc (by omega) f0
    omega
   have hlaf:(ds (a*f)).length≤(ds a).length+1:=by
    apply Zfl
    have g1:=Zh8 (Zb9 a)
    rw[Zbd,Ygb]at g1
    have g2:a<1000000000^(ds a).length:=by exact_mod_cast g1
    rw[Yqx]
    exact Ysy g2 f1
   have hemp:=(k2.get n1 (by omega)).trans (show _=some (.cells [] 3 true) by simp)
   have hap:=Zrp (w:=[]) hemp huu hne (by omega)
   simp[hap]
   have hN2:N≤n2:=by omega
   have kk2:=(((k0.trans k1).trans k1a).trans k2)
   refine Zaj [(11,11),(63,71)] (fun e r st=>e=.exit 0∧PdI N h2 n2 (ds a).length ((a*f:Nat):Int) 0 r st) (PdI N h2 n2 (ds a).length ((a*f:Nat):Int)) ((ds a).length+1-(ds (a*f)).length) ?_ ?_ ?_
   ·refine⟨by simp,Keeps.refl.new _,_,ds (a*f),by simp;rfl,⟨fun q hq=>?_,.inr ⟨n2,by rw[Zdj],Yqg _,by show n2<n2+1;omega,by simp[Zkf]⟩⟩,by omega,Zbd _,Zb9 _⟩
    simp[Ze7]at hq
    obtain⟨q',_,rfl⟩:=hq
    rfl
   ·exact Yd0 (((Sl.keep hu k0).keep k1).keep k1a |>.keep k2) rfl (by omega) (by simp)
   ·rintro _ r ⟨H,n3,W⟩ hr ⟨rfl,hW,hK,u3,l,h11,ho,hm,hval,hdl⟩
    simp only at hW hK ho
    obtain⟨_,⟨h0,_⟩|⟨iu,hu3,i1,i2,i3⟩⟩:=ho
    ·simp[Ze7]at h0;rw[h0]at hm;simp at hm
    ·rw[Zdj]at hu3
     rw[Zkf]at i3
     subst hu3
     have hlu:l.length=(ds a).length+1:=by omega
     have hka:k+2<l.length:=by omega
     obtain⟨S,hS⟩:∃S,S=l.length-(k+2):=⟨_,rfl⟩
     have cS:((l.length:Int)-((k:Int)+2))=(S:Int):=by omega
     have oN:=Zgw hN2 hW
     have kH:=hK.new (.cells (dI (List.replicate S 0)) 3 true)
     have nle:=hK.le
     have mz:(Zeh [.int .i64 0] S:List V)=dI (List.replicate S 0):=Zpi
     simp(disch:=first|(simp;done)|omega|rfl) [hr,h11,cS,mz]
     have hvY:=Dn.keep hvv (k1a.trans k2)
     have hval':vI l=(a*f:Nat):=hval
     refine Zaj [(13,21),(82,191)] (fun e r st=>e=.exit 2∧OuI N h2 n2 iu n3 (n3+1) l.length (k+2) ((a*f:Nat):Int) (ds (b*f)) 0 r st) (OuI N h2 n2 iu n3 (n3+1) l.length (k+2) ((a*f:Nat):Int) (ds (b*f))) S ?_ ?_ ?_
     ·refine⟨l,List.replicate S 0,⟨oN,kH,rfl,?_,by simp⟩,by simp,rfl,by simp[hS],by omega,hdl,Di.zeros _,fun s h1 h2=>by omega,?_,fun s hs=>by simp[hs],by rw[Zop,hval];simp⟩
      ·rw[T.get_set,Yqe (by omega)];exact i3
      ·obtain⟨x',hx',x0,x1,lo,hi⟩:=Zmy (b:=b) (k:=k+1) (by omega)
       have g1:=Zh8 (Zb9 a)
       rw[Zbd,show (ds a).length=S+(k+1) by omega,Zui]at g1
       have g2:=Zi4 l S (by omega)
       have g3:=Zh7 (hdl.take S)
       have g4:pI (k+1)*1≤pI (k+1)*x':=Yqt (by omega) (Yr8 (Zjk _))
       have g5:pI S*pI (k+1)≤pI S*b:=Yqt (by omega) (Yr8 (Zjk _))
       have g6:(a:Int)*f<pI S*b*f:=Int.mul_lt_mul_of_pos_right (by omega) (by omega)
       rw[Zbd]
       apply Ytu
       intro hc
       have g7:pI S*((b*f:Nat):Int)≤pI S*vI (l.drop S):=Yqt hc (Yr8 (Zjk _))
       have g8:pI S*((b*f:Nat):Int)=pI S*b*f:=by push_cast;grind
       have g9:((a*f:Nat):Int)=(a:Int)*f:=by push_cast;rfl
       omega
     ·exact Yd2 hvY hlen' (Zb9 _) hy1 hy5 hka (by omega) (by simp[hr]) (by simp[hr]) (by simp[h11]) (by simp[hS]) hN2 i1 i2 (Yrl n3)
     ·rintro _ r4 ⟨H4,n4,W4⟩ hr4 ⟨rfl,U,Q,⟨hW4,hK4,hn4,ru4,rq4⟩,r13,hUl,hQl,_,dU,dQ,hz,hdr,_,hfin⟩
      simp only at hW4 hK4 hn4 ru4 rq4
      subst hn4
      rw[Ys2]at hdr
      rw[Zbd]at hdr hfin
      obtain⟨qn,hqn⟩:=Ysd (Zh7 dQ)
      obtain⟨un,hun⟩:=Ysd (Zh7 dU)
      rw[hqn,hun]at hfin
      rw[hun]at hdr
      have hfn:un+b*f*qn=a*f:=by exact_mod_cast hfin
      have hdn:un<b*f:=by exact_mod_cast hdr
      have m1:a/b=qn:=by
       have:a*f/(b*f)=qn:=by
        rw[←hfn,Nat.add_mul_div_left _ _ (by omega),Ysi hdn,Yst]
       rw[←this,Yt5 _ _ f0]
      have m2:un/f=a%b:=by
       have:a*f%(b*f)=un:=by rw[←hfn,Nat.add_mul_mod_self_left,Yr2 hdn]
       rw[←this,Ytp,Nat.mul_div_cancel _ f0]
      have hsU:Sl H4 (n3+1) (.slice iu 0 l.length none 1) (dI U):=Sl.row (by omega) ru4 (by simp[hUl]) (fun k hk=>by cases hk)
      have hsQ:Sl H4 (n3+1) (.slice n3 0 S (some S) 1) (dI Q):=Sl.row (by omega) rq4 (by simp[hQl,hS]) (fun k hk=>by simp at hk;omega)
      obtain⟨v',e1,e2⟩:=Zje (w:=[]) hsU (lo:=0) (hi:=k+2) (by omega) (by rw[Zas];omega) none (some (.int .i64 ((k+2:Nat):Int))) (.inr ⟨rfl,rfl⟩) (.inl rfl)
      have e3:((dI U).take (k+2)).drop 0=dI (U.take (k+2)):=by rw[Ys2,dI,←List.map_take];rfl
      rw[e3]at e2
      have ck:((k+2:Nat):Int)=(k:Int)+2:=by omega
      rw[ck]at e1
      have frow:=(hK4.get N (by omega)).trans ((k2.get N (by omega)).trans ((show _=h1.get N by simp;omega).trans ((k1.get N (by omega)).trans (show _=some (.cells [.int .i64 (f:Int)] 3 true) by simp))))
      have hdU2:vI (U.take (k+2))=un:=by
       rw[←hun]
       exact(Zgn (fun t h1 h2=>hz t (by omega) (by omega))).symm
      simp[hr,hr4,h11,Zea,evOpt,e1]
      refine Zaa (Zfz e2 (by simp;omega)) ?_
      rintro y5 h5 n5 k5 hy5'
      rw[Zfu (dU.take _) hdU2]at hy5'
      have kle5:=k5.le
      have frow5:=(k5.get N (by omega)).trans frow
      have lt5:N<n5:=by omega
      have lt4:iu<n3+1:=by omega
      have lenun:(ds un).length<1099511627776:=by
       have:(ds un).length≤(ds (b*f)).length:=Zcn (by omega)
       omega
      simp[hr,hr4,frow5]
      refine Zaa (Zmz (d:=(f:Int)) hy5' (Zb9 un) lenun (by omega) (by omega)) ?_
      rintro y6 h6 n6 k6 ⟨q6,rfl,hq6⟩
      have t1:(vI (ds un)).toNat=un:=by rw[Zbd];omega
      have t2:((f:Nat):Int).toNat=f:=by omega
      rw[t1,t2]at hq6
      rw[m2]at hq6
      generalize ((vI (ds un)).toNat%(f:Int).toNat)=ZZ
      simp[hr4,lt5]
      refine Zaa (Zfz ((hsQ.keep k5).keep k6) (by omega)) ?_
      rintro y7 h7 n7 k7 hy7
      rw[Zfu dQ hqn]at hy7
      have oN4:Zac N W4=[]:=hW4
      have kall:=(((kk2.trans hK4).trans k5).trans k6).trans k7
      simp[Ret,oN4]
      refine⟨kall,y7,q6,⟨rfl,rfl⟩,?_,?_⟩
      ·rw[m1];exact hy7
      ·exact Sl.keep hq6 k7
variable {s:Str}
def A.w117:=A.q Tryz.f117
def A.lb117_0:=A.ql A.w117 0 []
def A.b117:=(fun x0=>A.qb A.w117 [x0]) A.lb117_0
def A.k117:=@A.kk 117 19 [.tmp 4] A.b117 (by kernel_rfl) rfl
def A.w180:=A.q Tryz.f180
def A.lb180_0:=A.ql A.w180 0 []
def A.b180:=(fun x0=>A.qb A.w180 [x0]) A.lb180_0
def A.k180:=@A.kk 180 40 [.cell 2 (some 2)] A.b180 (by kernel_rfl) rfl
def Zj0{h:T O}{N:Nat}{u v:V}{a b:Nat}(hu:Dn h N u a)(hv:Dn h N v b)(hl:(ds a).length<1000000000000)(hl2:(ds b).length<1000000000000):Fn A.C 117 [u,v] h N (fun x h' n'=>Dn h' n' x (Nat.gcd a b)):=by
 intro w
 rw[Zab,A.k117 (by simp)]
 simp[A.b117]
 refine Zaj [(0,1),(5,17)] (fun e r st=>e=.exit 0∧Zac N st.w=[]∧Keeps h N st.h st.n∧∃x,r.get 0=some x∧Dn st.h st.n x (Nat.gcd a b)) (fun m r st=>Zac N st.w=[]∧Keeps h N st.h st.n∧∃x y c,r.get 0=some x∧r.get 1=some y∧Dn st.h st.n x c∧Dn st.h st.n y m∧Nat.gcd c m=Nat.gcd a b∧(ds c).length<1000000000000∧(ds m).length<1000000000000) b ?_ ?_ ?_
 ·exact⟨by simp,Keeps.refl,u,v,a,by simp,by simp,hu,hv,rfl,hl,hl2⟩
 ·rintro m r ⟨H,n1,W⟩ hr hf ⟨hW,hK,x,y,c,h0,h1,hx,hy,hg,l1,l2⟩
  simp only at hW hK hx hy
  have ly:=hy.len
  rw[Zas]at ly
  rw[Zai]
  by_cases hm:m=0
  ·subst hm
   have z0:(ds 0).length=0:=by rw[Zch];rfl
   rw[z0]at ly
   simp at hg
   simp[A.lb117_0,hf,h0,h1,ly,hW,hK]
   rw[←hg];exact hx
  ·have hne:(ds m).length≠0:=fun hc=>hm (Zdo.1 (Yqw hc))
   have p1:(0:Int)<((ds m).length:Int):=by omega
   have p2:0<(ds m).length:=by omega
   have p3:ds m≠[]:=fun hc=>hne (by rw[hc];rfl)
   simp[A.lb117_0,h0,h1,ly,p2]
   refine Zaa (Zl7 hx hy (by omega) l1 l2) ?_
   rintro z h3 n3 k3 ⟨q,r',rfl,hq,hr'⟩
   simp[hf,h1,hW]
   refine⟨c%m,Yri _ (by omega),hK.trans k3,m,hy.keep k3,hr',?_,l2,?_⟩
   ·rw[←hg,Nat.gcd_comm c m,Nat.gcd_rec m c,Nat.gcd_comm]
   ·have:=Zcn (a:=c%m) (b:=m) (Nat.le_of_lt (Yri _ (by omega)));omega
 ·rintro _ r ⟨H,n1,W⟩ hr ⟨rfl,hW,hK,x,h0,hx⟩
  simp only at hW hK hx
  simp[h0,Ret,hW,hK]
  exact hx
def Zup(x:Str):∀(y:Str),numV (x++y)=numV x*10^y.length+numV y:=by
 have key:∀(y:Str) (n:Nat),y.foldl (fun n (c:UInt8)=>10*n+(c.toNat-48)) n=n*10^y.length+y.foldl (fun n (c:UInt8)=>10*n+(c.toNat-48)) 0:=by
  intro y
  induction y with
  |nil=>simp
  |cons c y ih=>
   intro n
   rw[List.foldl_cons,List.foldl_cons,ih,ih (10*0+(c.toNat-48)),Yqd,Yqx]
   grind
 intro y
 unfold numV
 rw[List.foldl_append,key]
def Zrq(h:Zb8 s=true)(k:Nat):Zb8 (s.take k)=true:=by
 unfold Zb8 at*
 rw[Yrs]at*
 exact fun c hc=>h c (Ysg hc)
def Zj5(h:Zb8 s=true)(k:Nat):Zb8 (s.drop k)=true:=by
 unfold Zb8 at*
 rw[Yrs]at*
 exact fun c hc=>h c (List.mem_of_mem_drop hc)
def PsI(h0:T O)(N:Nat)(s:Str)(m:Nat)(r:T V)(st:St):Prop:=Zac N st.w=[]∧Keeps h0 N st.h st.n∧∃cur w l,r.get 0=some (.str cur)∧cur.length=m∧1≤m∧m≤s.length∧Zb8 cur=true∧r.get 4=some w∧Own 1 3 N st.h st.n w (Ze7 l)∧Di l∧l.length+m≤s.length∧vI l+pI l.length*(numV cur:Nat)=(numV s:Nat)
def Zlj(hd:Zb8 s=true)(h1:1≤s.length)(h2:s.length≤3000000000){h:T O}{N:Nat}:Fn A.C 180 [.str s] h N (fun v h' n'=>Rg h' n' v (numV s:Nat)):=by
 intro w
 obtain⟨c,hc⟩:=Zan (l:=s) (k:=0) (by omega)
 have hcd:=Zj4 hd hc
 have hc0:s.head?=some c:=by cases s with
  |nil=>simp at hc
  |cons=>simpa using hc
 have a1:¬u8I c=45:=by omega
 have a2:(0:Int)<(s.length:Int):=by omega
 have a3:0<s.length:=by omega
 have hne:s≠[]:=fun h=>by rw[h]at h1;simp at h1
 rw[Zab,A.k180 (by simp)]
 simp(disch:=first|(simp;done)|omega|rfl) [-getElem?_pos,A.b180,a1,a3,hc]
 refine Zaj [(0,0),(4,4),(16,32)] (fun e r st=>e=.exit 0∧∃m,m≤9∧PsI (h.set N (.cells [.bool false,.nilslice] 144 true)) (N+1) s m r st) (PsI (h.set N (.cells [.bool false,.nilslice] 144 true)) (N+1) s) s.length ?_ ?_ ?_
 ·exact⟨by simp,Keeps.refl,s,.nilslice,[],by simp,rfl,h1,Yqg _,hd,by simp,Own.nil,Di.nil,by simp,by simp[vI,pI]⟩
 ·rintro m r ⟨H,n1,W⟩ hr hf ⟨hW,hK,cur,u,l,g0,hcl,m1,m2,hcd,g4,ho,hdi,hll,hv⟩
  simp only at hW hK ho
  subst hcl
  rw[Zai]
  by_cases h9:9<cur.length
  ·have h9':(9:Int)<(cur.length:Int):=by omega
   have nle:=hK.le
   have hvd:=Zi2 (s:=cur.drop (cur.length-9)) (st:=⟨H,n1,W⟩) (Zj5 hcd _) (by simp;omega)
   have hcn:((cur.length:Int)-9).toNat=cur.length-9:=by omega
   have hnv:=Zd4 (Zj5 hcd (cur.length-9))
   have hdl:(cur.drop (cur.length-9)).length=9:=by simp;omega
   rw[hdl]at hnv
   have hsp:=Zup (cur.take (cur.length-9)) (cur.drop (cur.length-9))
   rw[Yr0,hdl,show (10:Nat)^9=1000000000 by decide]at hsp
   generalize hD:numV (cur.drop (cur.length-9))=D at*
   obtain⟨v',h',w',e1,e2,e3,e4,e5⟩:=Zbw (x:=[.int .i64 (D:Int)]) (u:=.slice n1 0 1 (some 1) 1) (bytes:=8) (w:=W) (ho.keep (Keeps.refl.new (.cells [.int .i64 (D:Int)] 3 true))) (by omega) (by decide) rfl (by simp[Zbc,St.row,slc]) (by rw[Zdj];omega)
   rw[←Zdb]at e5
   simp(disch:=first|(simp;done)|omega|rfl) [A.lb180_0,hf,g0,g4,h9',hcn,evOpt,hvd,splice,e1]
   refine⟨cur.length-9,by omega,⟨by rw[e2];exact hW,(hK.new _).then e3,cur.take (cur.length-9),v',l++[(D:Int)],by simp,by simp,by omega,by omega,Zrq hcd _,by simp,e5,hdi.app (Di.one (by omega) (by omega)),by simp;omega,?_⟩⟩
   rw[Zfs,Yqr,Yrw,Zc1,←hv]
   have hsp':((numV cur:Nat):Int)=(numV (cur.take (cur.length-9)):Nat)*1000000000+D:=by omega
   rw[hsp']
   generalize ((numV (cur.take (cur.length-9)):Nat):Int)=X
   generalize pI l.length=P
   grind
  ·have h9':¬(9:Int)<(cur.length:Int):=by omega
   simp[A.lb180_0,hf,g0,h9']
   exact⟨cur.length,by omega,hW,hK,cur,u,l,by simp[g0],rfl,m1,m2,hcd,by simp[g4],ho,hdi,hll,hv⟩
 ·rintro _ r ⟨H,n1,W⟩ hr ⟨rfl,m,m9,hW,hK,cur,u,l,g0,hcl,m1,m2,hcd,g4,ho,hdi,hll,hv⟩
  simp only at hW hK ho
  subst hcl
  have nle:=hK.le
  have hvd:=Zi2 (s:=cur) (st:=⟨H,n1,W⟩) hcd (by omega)
  have hnv:=Zd4 hcd
  have hp9:=Zuk m9
  generalize hD:numV cur=D at*
  obtain⟨v',h',w',e1,e2,e3,e4,e5⟩:=Zbw (x:=[.int .i64 (D:Int)]) (u:=.slice n1 0 1 (some 1) 1) (bytes:=8) (w:=W) (ho.keep (Keeps.refl.new (.cells [.int .i64 (D:Int)] 3 true))) (by omega) (by decide) rfl (by simp[Zbc,St.row,slc]) (by rw[Zdj];omega)
  rw[←Zdb]at e5
  simp[hr,g0,g4,hvd,splice,e1]
  have hdi2:Di (l++[(D:Int)]):=hdi.app (Di.one (by omega) (by omega))
  refine Zaa (Zby (n:=numV s) e5.sl hdi2 (by rw[Zfs];exact hv) (by simp;omega)) ?_
  rintro y h5 n5 k5 hy
  have kk:=((hK.new (.cells [.int .i64 (D:Int)] 3 true)).then e3).trans k5
  have kle:=kk.le
  have nrow:=kk.get N (by omega)
  simp at nrow
  obtain⟨u5,rfl,hu5⟩:=hy
  have hu6:=fun c1 (hc:c1.length=2)=>Sl.setInt (i:=N) (c1:=c1) (e1:=144) (w1:=true) hu5 nrow (by intro x hx k m;simp at hx;rcases hx with rfl|rfl<;>simp) hc
  have huo:=Sl.form hu5 |>.one
  unfold V.one at huo
  have ow:Zac N w'=[]:=Zgw (Ytb N) (by rw[e2];exact hW)
  have k0:=(Keeps.refl (h:=h) (n:=N)).new (.cells [.bool false,.nilslice] 144 true)
  simp[hr,nrow,splice,Zal,huo,Zah,slc,Ret,ow]
  exact⟨(k0.trans kk).set (Yqg N),u5,by simp,by simpa[Dn]using hu6 _ rfl⟩
end
end Go.Mx
