/-lensletref01-/
import Derived.Test.YtgnadghjglamaaaGreatDoorRcD
set_option linter.all false
namespace Go.Mx
noncomputable section
open Go Go.Proofs
set_option maxRecDepth 1000000
def Yj5{l:List Int}{d:Int}(h:d∈l):∃s:Nat,l[s]?=some d:=Yu0 h
def Yne{l:List Int}(h:∀(s:Nat) (d:Int),l[s]?=some d→0≤d∧d<1000000000):Di l:=fun d hd=>by
 obtain⟨s,hs⟩:=Yj5 hd
 exact h s d hs
def Zv7{U U2:List Int}{j:Nat}{X:Int}(hj:j≤U.length)(hl:U2.length=U.length)(hs:∀s,s<j→U2[s]?=U[s]?)(hv:vI U2=vI U-pI j*X):vI (U2.drop j)=vI (U.drop j)-X:=by
 have h1:=Zjb U j hj
 have h2:=Zjb U2 j (by omega)
 have h3:U2.take j=U.take j:=by
  apply Ysw
  intro s
  rw[Ysh,Ysh]
  by_cases h:s<j
  ·rw[Yrw h,Yrw h];exact hs s h
  ·rw[Yrt h,Yrt h]
 rw[h3]at h2
 have h4:pI j*vI (U2.drop j)=pI j*(vI (U.drop j)-X):=by
  have:pI j*(vI (U.drop j)-X)=pI j*vI (U.drop j)-pI j*X:=by grind
  omega
 exact Int.eq_of_mul_eq_mul_left (Int.ne_of_gt (Zjt j)) h4
def Yhd{U:List Int}{j L:Nat}{tt:Int}(hd:∀(s:Nat) (d:Int),s<j+L→U[s]?=some d→0≤d∧d<1000000000)(ht:U[j+L]?=some tt)(hz:∀s,j+L<s→s<U.length→U[s]?=some 0)(hlt:vI (U.drop j)<pI L):(0≤vI (U.drop j)→tt=0)∧(vI (U.drop j)<0→tt<0):=by
 refine Yeh (w:=U.drop j) (n:=L) ?_ (by rw[Yr4];exact ht) ?_ hlt
 ·refine Yne fun s d hs=>?_
  by_cases h:s<L
  ·rw[Ysh,Yrw h,Yr4]at hs
   exact hd (j+s) d (by omega) hs
  ·rw[Ysh,Yrt h]at hs;cases hs
 ·intro s h1 h2
  rw[Yr4]
  exact hz (j+s) (by omega) (by simp at h2;omega)
structure OuI (N:Nat) (h2:T O) (n2 iu iq n lu L:Nat) (A0:Int) (Y:List Int) (m:Nat) (r:T V) (st:St):Prop where
 ex:∃U Q,DvS N h2 n2 iu iq n U Q st∧r.get 13=some (.int .i64 ((m:Int)-1))∧U.length=lu∧Q.length=lu-L∧m≤lu-L∧Di U∧Di Q∧(∀s,m+L≤s→s<lu→U[s]?=some 0)∧vI (U.drop m)<vI Y∧(∀s,s<m→Q[s]?=some 0)∧vI U+vI Y*vI Q=A0
def Yfb{N:Nat}{h2:T O}{n2 iu iq n lu k:Nat}{A0 v1:Int}{Y:List Int}{v:V}{r0:T V}(hv:Sl h2 n2 v (dI Y))(hY:Y.length=k+2)(dY:Di Y)(hv1:Y[k+1]?=some v1)(h5:500000000≤v1)(hlu:k+2<lu)(hul:lu<1099511627776)(r9:r0.get 9=some v)(r10:r0.get 10=some (.int .i64 (k+2:Nat)))(r11:r0.get 11=some (.slice iu 0 lu none 1))(r12:r0.get 12=some (.slice iq 0 (lu-(k+2)) (some (lu-(k+2))) 1))(a1:N≤n2)(a2:n2≤iu)(a3:iu<iq)(a4:iq<n):
  ∀m r st,(∀t,inD [(13,21),(82,191)] t=false→r.get t=r0.get t)→Fx [(13,21),(82,191)] r0 206 ⟨r,206,[]⟩→OuI N h2 n2 iu iq n lu (k+2) A0 Y m r st→Code A.C none A.lb150_2 ⟨r,206,[]⟩ st (Rd [(13,21),(82,191)] r0 206 (OuI N h2 n2 iu iq n lu (k+2) A0 Y) m (fun e r st=>e=.exit 2∧OuI N h2 n2 iu iq n lu (k+2) A0 Y 0 r st)):=by
 rintro m r ⟨H,n1,W⟩ hr hf ⟨U,Q,⟨hW,hK,hn,ru,rq⟩,r13,hul',hql,hm,dU,dQ,hz,hdr,hqz,hval⟩
 simp only at hW hK hn ru rq
 subst hn
 rw[Zai]
 cases m with
 |zero=>
  simp(disch:=first|(simp;done)|omega|rfl) [-getElem?_pos,A.lb150_2,hr,hf,r13]
  exact⟨U,Q,⟨hW,hK,rfl,ru,rq⟩,by simp[r13],hul',hql,hm,dU,dQ,hz,hdr,hqz,hval⟩
 |succ j=>
  have hj1:(((j+1:Nat):Int)-1)=(j:Int):=by omega
  rw[hj1]at r13
  have hj0:(0:Int)≤(j:Int):=by omega
  obtain⟨v2,hv2⟩:=Zao (l:=Y) (k:=k) (by omega)
  obtain⟨d1,e1⟩:=Zao (l:=U) (k:=j+k) (by omega)
  obtain⟨d2,e2⟩:=Zao (l:=U) (k:=j+k+1) (by omega)
  obtain⟨d3,e3⟩:=Zao (l:=U) (k:=j+k+2) (by omega)
  obtain⟨x0,hx0⟩:=Zao (l:=U) (k:=j) (by omega)
  have hWt:=Yik (w:=U.drop j) (k:=k) (a:=d1) (c:=d2) (d:=d3) (by rw[Yr4];exact e1) (by rw[Yr4,←Yta];exact e2) (by rw[Yr4,←Yta];exact e3) (fun t h1 h2=>by rw[Yr4];exact hz _ (by omega) (by simp at h2;omega))
  have hDt:=Yil hv2 hv1 hY
  have hWd:vI (U.drop j)<1000000000*vI Y:=by
   rw[Zaz hx0,vI]
   have:=dU.get hx0
   omega
  have hUk:=Zii ((dU.drop j).take k)
  rw[Ysi,Yt8,Ysz (by omega)]at hUk
  have hVk:=Zii (dY.take k)
  rw[Ysi,Ysz (by omega)]at hVk
  obtain⟨t,hg,t0,t1,hlo,hhi⟩:=Yf5 (w:=W) (Sl.row (cp:=none) (L:=lu) (show iu<n1 by omega) ru (by simp[hul']) (fun k hk=>by cases hk)) (hv.keep hK) hY (by omega) e1 e2 e3 hv2 hv1 (dU.get e1) (dU.get e2) (dU.get e3) ⟨h5,(dY.get hv1).2⟩ (dY.get hv2) (Zjt k) (Zih ((dU.drop j).take k)) hUk (Zih (dY.take k)) hVk hWt hDt hWd
  have hVl:=Zii dY
  rw[hY]at hVl
  have hVp:0<vI Y:=by have:=Zih (dU.drop (j+1));omega
  simp(disch:=first|(simp;done)|omega|rfl) [-getElem?_pos,A.lb150_2,hr,hf,r13,hj0,r9,r10,r11,r12,hg]
  refine Zak [(15,18),(90,125)] (fun e r st=>e=.exit 4∧SbR N h2 n2 iu iq n1 U Q Y (k+2) j t 0 r st) (SbR N h2 n2 iu iq n1 U Q Y (k+2) j t) (k+2) ?_ ?_ ?_
  ·exact⟨0,U,0,by omega,by simp,by simp,by omega,by omega,⟨hW,hK,rfl,ru,rq⟩,rfl,fun _ _=>rfl,dU,by simp[vI]⟩
  ·exact Yel hv hY dY (by omega) (by omega) ⟨by simp[hr,r9],by simp[hr,r10],by simp[hr,r11,hul'],by simp[hr,r13]⟩ (by simp) t0 t1 a1 a2 a3 a4
  ·rintro _ r2 ⟨H2,n3,W2⟩ hr2 ⟨rfl,i,U',c,hi,h16,h15,c0,c1,⟨hW2,hK2,hn2,ru2,rq2⟩,hul2,hsame,hdi2,hval2⟩
   simp only at hW2 hK2 hn2 ru2 rq2
   subst hn2
   obtain rfl:i=k+2:=by omega
   have hfi:=hf.inner (D':=[(15,18),(90,125)]) rfl (by simp) hr2
   rw[←hY,Yt9,hY]at hval2
   have e3':U'[j+(k+2)]?=some d3:=by rw[hsame _ (.inr (Yru _))];rw[←Yta];exact e3
   have hd3:=dU.get e3
   have q1:(j:Int)+((k:Int)+2)<(lu:Int):=by omega
   have q2:j+(k+2)<lu:=by omega
   have q3:(0:Int)≤(j:Int)+((k:Int)+2):=by omega
   have q4:((j:Int)+((k:Int)+2)).toNat=j+(k+2):=by omega
   have w8:=Zat U'
   have b1':Zap .i64 (d3-c)=d3-c:=Zah (by omega) (by omega)
   have w7:=Zid (l:=U') (k:=j+(k+2)) (v:=d3-c) (by omega)
   have nn:¬iu<N:=by omega
   have d5:¬iq=iu:=by omega
   have d6:¬iu=iq:=by omega
   have nq:¬iq<N:=by omega
   have v2e:vI (U'.set (j+(k+2)) (d3-c))=vI U-pI j*(t*vI Y):=by
    rw[Zjc e3']
    have:pI (j+(k+2))*(d3-c-d3)= -(pI (j+(k+2))*c):=by grind
    omega
   have hs2:∀s,s<j→(U'.set (j+(k+2)) (d3-c))[s]?=U[s]?:=fun s hs=>by
    rw[Yry (by omega)];exact hsame s (.inl hs)
   have hz2:∀s,j+(k+2)<s→s<lu→(U'.set (j+(k+2)) (d3-c))[s]?=some 0:=fun s h1 h2=>by
    rw[Yry (by omega),hsame s (.inr (by omega))];exact hz s (by omega) h2
   have hdv:=Zv7 (by omega) (by simp[hul2]) hs2 v2e
   have htop:(U'.set (j+(k+2)) (d3-c))[j+(k+2)]?=some (d3-c):=Ysf (by omega)
   have hlt2:vI ((U'.set (j+(k+2)) (d3-c)).drop j)<vI Y:=by
    rw[hdv]
    have:(t+1)*vI Y=t*vI Y+vI Y:=by grind
    omega
   have hto:=Yhd (U:=U'.set (j+(k+2)) (d3-c)) (fun s d hs hd=>by
    rw[Yry (by omega)]at hd;exact hdi2.get hd) htop (fun s h1 h2=>hz2 s h1 (by simp at h2;omega)) (by omega)
   have qj1:(j:Int)<((lu-(k+2):Nat):Int):=by omega
   have qj2:j<lu-(k+2):=by omega
   have wq8:=Zat Q
   by_cases hneg:d3-c<0
   ·have t1w:Zap .i64 (t-1)=t-1:=Zah (by omega) (by omega)
    simp(disch:=first|(simp;done)|omega|rfl) [-getElem?_pos,hr,hr2,hfi,h15,r9,r10,r11,r12,r13,q1,q2,q3,q4,ru2,Zbj e3',b1',w7,Zbj htop,hneg,t1w]
    generalize hU2:U'.set (j+(k+2)) (d3-c)=U2 at*
    have hl2:U2.length=lu:=by rw[←hU2];simp[hul2,hul']
    have hWlt:vI (U2.drop j)<0:=by
     apply Yvb;intro hc
     have:=hto.1 hc
     omega
    have hdig:∀(s:Nat) (d:Int),s≠j+(k+2)→U2[s]?=some d→0≤d∧d<1000000000:=fun s d hs hd=>by
     rw[←hU2,Yry (by omega)]at hd;exact hdi2.get hd
    refine Zak [(19,21),(148,174)] (fun e r st=>e=.exit 6∧AbR N h2 n2 iu iq n3 U2 Q Y (k+2) j 0 r st) (AbR N h2 n2 iu iq n3 U2 Q Y (k+2) j) (k+2) ?_ ?_ ?_
    ·exact⟨0,U2,0,by omega,by simp,by simp,by omega,by omega,⟨by simp[Zae,hW2,nn],hK2.set (by omega),rfl,by simp,by simp[d5,rq2]⟩,rfl,fun _ _=>rfl,hdig,by simp[vI]⟩
    ·exact Yg6 hv hY dY (by omega) (by omega) ⟨by simp[hr,hr2,r9],by simp[hr,hr2,r10],by simp[hr,hr2,r11,hl2],by simp[hr,hr2,r13]⟩ a1 a2 a3 a4
    ·rintro _ r4 ⟨H4,n4,W4⟩ hr4 ⟨rfl,i4,U3,c4,hi4,h20,h19,c40,c41,⟨hW4,hK4,hn4,ru4,rq4⟩,hul4,hsame4,hdi4,hval4⟩
     simp only at hW4 hK4 hn4 ru4 rq4
     subst hn4
     obtain rfl:i4=k+2:=by omega
     have hfi4:=hfi.inner (D':=[(19,21),(148,174)]) rfl (by simp) hr4
     rw[←hY,Yt9,hY]at hval4
     have e4:U3[j+(k+2)]?=some (d3-c):=by rw[hsame4 _ (.inr (Yru _))];exact htop
     have x8:=Zat U3
     have b4':Zap .i64 (d3-c+c4)=d3-c+c4:=Zah (by omega) (by omega)
     have x7:=Zid (l:=U3) (k:=j+(k+2)) (v:=d3-c+c4) (by omega)
     have v4e:vI (U3.set (j+(k+2)) (d3-c+c4))=vI U-pI j*((t-1)*vI Y):=by
      rw[Zjc e4]
      have x1:pI (j+(k+2))*(d3-c+c4-(d3-c))=pI (j+(k+2))*c4:=by grind
      have x2:pI j*((t-1)*vI Y)=pI j*(t*vI Y)-pI j*vI Y:=by grind
      omega
     have hs4:∀s,s<j→(U3.set (j+(k+2)) (d3-c+c4))[s]?=U[s]?:=fun s hs=>by
      rw[Yry (by omega),hsame4 s (.inl hs)];exact hs2 s hs
     have hz4:∀s,j+(k+2)<s→s<lu→(U3.set (j+(k+2)) (d3-c+c4))[s]?=some 0:=fun s h1 h2=>by
      rw[Yry (by omega),hsame4 s (.inr (by omega))];exact hz2 s h1 h2
     have hdv4:=Zv7 (by omega) (by simp[hul4,hl2,hul']) hs4 v4e
     have htop4:(U3.set (j+(k+2)) (d3-c+c4))[j+(k+2)]?=some (d3-c+c4):=Ysf (by omega)
     have xt:(t-1)*vI Y=t*vI Y-vI Y:=by grind
     have hlt4:vI ((U3.set (j+(k+2)) (d3-c+c4)).drop j)<vI Y:=by
      rw[hdv4];omega
     have hge4:0≤vI ((U3.set (j+(k+2)) (d3-c+c4)).drop j):=by
      rw[hdv4];omega
     have hto4:=Yhd (U:=U3.set (j+(k+2)) (d3-c+c4)) (fun s d hs hd=>by
      rw[Yry (by omega)]at hd;exact hdi4 s d (by omega) hd) htop4 (fun s h1 h2=>hz4 s h1 (by simp at h2;omega)) (by omega)
     have hz0:=hto4.1 hge4
     have w9:=Zid (l:=Q) (k:=j) (v:=t-1) (by omega)
     have hq0:=hqz j (by omega)
     have tpos:1≤t:=by
      apply Yuy;intro hc
      have:t=0:=by omega
      rw[this]at hdv
      have:=Zih (dU.drop j)
      omega
     simp(disch:=first|(simp;done)|omega|rfl) [-getElem?_pos,hr,hr2,hr4,hfi4,h19,r9,r10,r11,r12,r13,q1,q2,q3,q4,ru4,rq4,Zbj e4,b4',x7,qj1,qj2,d5,d6,w9]
     refine⟨j,by omega,⟨U3.set (j+(k+2)) (d3-c+c4),Q.set j (t-1),⟨by simp[Zae,hW4,nn,nq],?_,rfl,by simp[d6],by simp⟩,by simp,by simp[hul4,hl2],by simp[hql],by omega,?_,dQ.set (by omega) (by omega),?_,?_,?_,?_⟩⟩
     ·exact(hK4.set (by omega)).set (by omega)
     ·refine Yne fun s d hd=>?_
      by_cases hs:s=j+(k+2)
      ·subst hs
       rw[htop4,hz0]at hd
       simp at hd
       omega
      ·rw[Yry (fun h=>hs h.symm)]at hd
       exact hdi4 s d hs hd
     ·intro s h1 h2
      by_cases hs:s=j+(k+2)
      ·rw[hs,htop4,hz0]
      ·exact hz4 s (by omega) h2
     ·exact hlt4
     ·intro s hs
      rw[Yry (by omega)];exact hqz s (by omega)
     ·rw[v4e,Zjc hq0,←hval]
      grind
   ·have hnn:0≤vI ((U'.set (j+(k+2)) (d3-c)).drop j):=by
     apply Yuy;intro hc;exact hneg (hto.2 hc)
    have hz0:=hto.1 hnn
    have w9:=Zid (l:=Q) (k:=j) (v:=t) (by omega)
    have hq0:=hqz j (by omega)
    rw[hdv]at hnn hlt2
    have tlt:t<1000000000:=by
     apply Yvb;intro hc
     have:=Ytd hc (Yts hVp)
     omega
    simp(disch:=first|(simp;done)|omega|rfl) [-getElem?_pos,hr,hr2,hfi,h15,r9,r10,r11,r12,r13,q1,q2,q3,q4,ru2,rq2,Zbj e3',b1',w7,Zbj htop,hneg,qj1,qj2,d5,d6,w9]
    refine⟨j,by omega,⟨U'.set (j+(k+2)) (d3-c),Q.set j t,⟨by simp[Zae,hW2,nn,nq],?_,rfl,by simp[d6],by simp⟩,by simp,by simp[hul2,hul'],by simp[hql],by omega,?_,dQ.set t0 tlt,?_,?_,?_,?_⟩⟩
    ·exact(hK2.set (by omega)).set (by omega)
    ·rw[hz0];exact hdi2.set (by omega) (by omega)
    ·intro s h1 h2
     by_cases hs:s=j+(k+2)
     ·rw[hs,htop,hz0]
     ·exact hz2 s (by omega) h2
    ·rw[hdv];exact hlt2
    ·intro s hs
     rw[Yry (by omega)];exact hqz s (by omega)
    ·rw[v2e,Zjc hq0,←hval]
     grind
variable {N:Nat}
def Zg2{N n2:Nat}(h:N≤n2):∀{w:List Nat},Zae n2 w=[]→Zae N w=[]
 |[],_=>rfl
 |i::w,hw=>by
  simp only[Zae]at hw ⊢
  by_cases h1:i<n2
  ·rw[Yrw h1]at hw
   unfold Zfm at hw
   split at hw
   ·rename_i hc
    rw[hw]at hc;simp at hc
   ·cases hw
  ·rw[Yrt h1]at hw
   rw[Yrt (by omega)]
   exact Zg2 h hw
def Zr9{h:T O}{i:Nat}{w:List Nat}{v:V}{l:List Int}(hr:h.get i=some (.cells [] 3 true))(hs:Sl h N v (dI l))(hne:l≠[])(hl:l.length<1099511627776):
  Zbi ⟨h,N,w⟩ 1 8 3 (.slice i 0 0 (some 0) 1) v=some (.slice N 0 l.length none 1,⟨h.set N (.cells (dI l) 3 true),N+1,w⟩):=by
 have h0:l.length≠0:=fun hc=>hne (Yr7 hc)
 have hs':=Yl5 (w:=w) hs
 rw[Zat]at hs'
 have hb:¬(Zc0<(2*(0+l.length)+1000)*8):=by unfold Zc0;omega
 simp only[Zbi,hs']
 rw[Yrt h0,Yrt (by rintro(h|h|h)<;>omega)]
 simp only[St.row,hr]
 rw[Yrt (by omega)]
 simp[slc,St.alloc]
def Yhk(k:Nat):pI k=((1000000000^k:Nat):Int):=by unfold pI;simp
def Znf{b k:Nat}(h:(ds b).length=k+1):∃x,(ds b)[k]?=some x∧0<x∧x<1000000000∧pI k*x≤b∧(b:Int)<pI k*(x+1):=by
 have hb:b≠0:=fun hc=>by rw[hc,Zcm]at h;simp at h
 obtain⟨x,hx,hx0⟩:=Ykz hb
 rw[h,Nat.add_sub_cancel]at hx
 have hd:=(Zce b).get hx
 have hv:=Zbg b
 rw[Zzm hx,Ytb (by omega),vI,Int.mul_zero,Int.add_zero]at hv
 have h1:=Zih ((Zce b).take k)
 have h2:=Zii ((Zce b).take k)
 rw[Ysi,Ysz (by omega)]at h2
 have h3:pI k*(x+1)=pI k*x+pI k:=by grind
 exact⟨x,hx,hx0,hd.2,by omega,by omega⟩
def Yjp{b k:Nat}(h:(ds b).length=k+1){x:Int}(hx:(ds b)[k]?=some x):∃f:Nat,(f:Int)=1000000000/(x+1)∧0<f∧f<1000000000∧(ds (b*f)).length=k+1∧∃y,(ds (b*f))[k]?=some y∧500000000≤y:=by
 obtain⟨x',hx',x0,x1,lo,hi⟩:=Znf h
 obtain rfl:x=x':=Ys0 (hx.symm.trans hx')
 have hd:(x+1)*(1000000000/(x+1))+1000000000%(x+1)=1000000000:=Yt6 ..
 have hr0:0≤1000000000%(x+1):=Yu1 _ (by omega)
 have hr1:1000000000%(x+1)<x+1:=Yuk _ (by omega)
 have hh:=Ya4 (x:=x) (by omega) x1
 have f0:0<1000000000/(x+1):=by
  apply Yvb;intro hc
  have:=Int.mul_nonpos_of_nonneg_of_nonpos (a:=x) (by omega) hc
  omega
 have f1:1000000000/(x+1)<1000000000:=Int.ediv_lt_of_lt_mul (by omega) (by omega)
 obtain⟨f,hf⟩:=Ytw (Yts f0)
 rw[hf]at hd hh f0 f1
 have hp:=Zjt k
 have hb1:((b*f:Nat):Int)=(b:Int)*f:=by simp
 have up:(b:Int)*f<1000000000*pI k:=by
  have g1:(b:Int)*f<pI k*(x+1)*f:=Int.mul_lt_mul_of_pos_right hi f0
  have g2:pI k*(x+1)*f=pI k*((x+1)*f):=by grind
  have g3:pI k*((x+1)*f)≤pI k*1000000000:=Ysa (by omega) (Yts hp)
  omega
 have low:500000000*pI k≤(b:Int)*f:=by
  have g1:pI k*x*f≤(b:Int)*f:=Ytd lo (Yts f0)
  have g2:pI k*x*f=pI k*(x*f):=by grind
  have g3:pI k*500000000≤pI k*(x*f):=Ysa hh (Yts hp)
  omega
 have len1:(ds (b*f)).length≤k+1:=Zfq (by
  have:((b*f:Nat):Int)<((1000000000^(k+1):Nat):Int):=by rw[←Yhk,Zc2,hb1];exact up
  exact_mod_cast this)
 have len2:(ds b).length≤(ds (b*f)).length:=Zct (Nat.le_mul_of_pos_right b (by omega))
 have len:(ds (b*f)).length=k+1:=by omega
 obtain⟨y,hy,y0,y1,ylo,yhi⟩:=Znf len
 refine⟨f,hf.symm,by omega,by omega,len,y,hy,?_⟩
 apply Yuy
 intro hc
 have:pI k*(y+1)≤pI k*500000000:=Ysa (by omega) (Yts hp)
 omega
def PdI(N:Nat)(h2:T O)(n2 la:Nat)(A0:Int)(m:Nat)(r:T V)(st:St):Prop:=Zae n2 st.w=[]∧Keeps h2 n2 st.h st.n∧∃u l,r.get 11=some u∧Own 1 3 n2 st.h st.n u (Zfc l)∧l.length+m=la+1∧vI l=A0∧Di l
def Ye9{N:Nat}{h2:T O}{n2 la:Nat}{A0:Int}{u0:V}{r0:T V}{la':List Int}(hu0:Sl h2 n2 u0 (dI la'))(hla:la'.length=la)(hl:la<1099511627776)(r0e:r0.get 0=some u0):
  ∀m r st,(∀t,inD [(11,11),(63,71)] t=false→r.get t=r0.get t)→Fx [(11,11),(63,71)] r0 206 ⟨r,206,[]⟩→PdI N h2 n2 la A0 m r st→Code A.C none A.lb150_3 ⟨r,206,[]⟩ st (Rd [(11,11),(63,71)] r0 206 (PdI N h2 n2 la A0) m (fun e r st=>e=.exit 0∧PdI N h2 n2 la A0 0 r st)):=by
 rintro m r ⟨H,n1,W⟩ hr hf ⟨hW,hK,u,l,h11,ho,hm,hv,hd⟩
 simp only at hW hK ho
 have lu:=hu0.len
 rw[Zat,hla]at lu
 have lo:=ho.len
 rw[Zdl]at lo
 rw[Zai]
 cases m with
 |zero=>
  have:¬(l.length:Int)<(la:Int)+1:=by omega
  simp(disch:=first|(simp;done)|omega|rfl) [-getElem?_pos,A.lb150_3,hr,hf,r0e,h11,lu,lo,this]
  exact⟨hW,hK,u,l,by simp[h11],ho,hm,hv,hd⟩
 |succ m=>
  have h1:(l.length:Int)<(la:Int)+1:=by omega
  have nle:=hK.le
  obtain⟨v',h',w',e1,e2,e3,e4,e5⟩:=Zb5 (x:=[.int .i64 0]) (u:=.slice n1 0 1 (some 1) 1) (bytes:=8) (w:=W) (ho.keep (Keeps.refl.new (.cells [.int .i64 0] 3 true))) (by omega) (by decide) rfl (by simp[Za0,St.row,slc]) (by rw[Zdl];omega)
  rw[←Zdd]at e5
  simp(disch:=first|(simp;done)|omega|rfl) [-getElem?_pos,A.lb150_3,hr,hf,r0e,h11,lu,lo,h1,splice,e1]
  refine⟨m,by omega,⟨by rw[e2];exact hW,((hK.new _).then e3),v',l++[0],by simp,e5,by simp;omega,by rw[Zfx,hv];simp,hd.app (Di.one (by omega) (by omega))⟩⟩
def Yhy{r:Nat}(h:r<1000000000):Zf0 [(r:Int)]=ds r:=Zfz (Di.one (by omega) (by omega)) (by simp[vI])
def Zml{h:T O}{N:Nat}{u v:V}{a b:Nat}(hu:Dn h N u a)(hv:Dn h N v b)(hb:0<b)(hl:(ds a).length<1000000000000)(hl2:(ds b).length<1000000000000):Fn A.C 150 [u,v] h N (fun x h' n'=>∃q r,x=.tup [q,r]∧Dn h' n' q (a/b)∧Dn h' n' r (a%b)):=by
 intro w
 have lu:=hu.len
 have lv:=hv.len
 rw[Zat]at lu lv
 rw[Zaf,A.k150 (by simp)]
 by_cases hab:a<b
 ·have hc0:Yd3 a b= -1:=by simp[Yd3,hab]
  have hc:=fun w=>Zui (w:=w) hu hv (by omega) (by omega)
  simp(disch:=first|(simp;done)|omega|rfl) [-getElem?_pos,A.b150,hc,hc0,Ret]
  refine⟨Keeps.refl,.nilslice,u,⟨rfl,rfl⟩,?_,?_⟩
  ·rw[Yt0 hab];unfold Dn;rw[Zcm];exact Sl.nil
  ·rw[Ytl hab];exact hu
 ·have hba:b≤a:=by omega
  have hlb:=Zct hba
  have hc:=fun w=>Zui (w:=w) hu hv (by omega) (by omega)
  have hcn:¬Yd3 a b<0:=by unfold Yd3;rw[Yrt hab];split<;>omega
  have hL1:1≤(ds b).length:=by
   have:ds b≠[]:=fun hc=>by rw[Zdq]at hc;omega
   exact List.length_pos_iff.2 this
  by_cases hL:(ds b).length=1
  ·obtain⟨x,hx⟩:=Zao (l:=ds b) (k:=0) (by omega)
   have hbx:ds b=[x]:=by
    cases hq:ds b with
    |nil=>rw[hq]at hL;simp at hL
    |cons y l=>
     rw[hq]at hL hx
     simp at hL hx
     rw[hL,hx]
   have hxv:=Zbg b
   rw[hbx]at hxv
   simp[vI]at hxv
   have hxd:=(Zce b).get hx
   obtain⟨b1,b2,b3,b4,b5,z1,z2,z3,z4⟩:=Sl.at (show Sl h N v (dI (ds b)) from hv) (Zbj hx)
   simp at z4
   simp(disch:=first|(simp;done)|omega|rfl) [-getElem?_pos,A.b150,hc,hcn,lv,hL,Zag,z1,z3,z4]
   refine Zac (Zng (show Sl h N u (dI (ds a)) from hu) (Zce a) (by omega) (by omega) hxd.2) ?_
   rintro y h1 n1 k1 ⟨q,rfl,hq⟩
   rw[Zbg]at hq
   simp only[Zbg]
   have e1:(a:Int).toNat=a:=by omega
   have e2:x.toNat=b:=by omega
   rw[e1,e2]at hq
   rw[e1,e2]
   have hRb:=Ys2 a hb
   have hb9:b<1000000000:=by omega
   generalize hQ:a/b=Q at*
   generalize hR:a%b=R at*
   simp(disch:=first|(simp;done)|omega|rfl) [-getElem?_pos,splice]
   refine Zac (Zf5 (l:=[(R:Int)]) (Sl.row (e:=3) (rw:=true) (cp:=some 1) (Ys4 n1) (by simp[dI]) rfl (fun k hk=>by simp at hk;omega)) (by simp)) ?_
   rintro y2 h2 n2 k2 hy2
   rw[Yhy (by omega)]at hy2
   have kk:=(Keeps.refl (h:=h1) (n:=n1)).new (.cells [.int .i64 (R:Int)] 3 true)
   simp(disch:=first|(simp;done)|omega|rfl) [-getElem?_pos,Ret]
   exact⟨(k1.trans kk).trans k2,q,y2,⟨rfl,rfl⟩,hq.keep (kk.trans k2),hy2⟩
  ·obtain⟨k,hk⟩:∃k,(ds b).length=k+2:=⟨(ds b).length-2,by omega⟩
   obtain⟨x,hx⟩:=Zao (l:=ds b) (k:=k+1) (by omega)
   have hxd:=(Zce b).get hx
   obtain⟨f,hf,f0,f1,hlen,y1,hy1,hy5⟩:=Yjp (k:=k+1) (by omega) hx
   obtain⟨b1,b2,b3,b4,b5,z1,z2,z3,z4⟩:=Sl.at (show Sl h N v (dI (ds b)) from hv) (Zbj hx)
   have c1:((k:Int)+2-1)=(k:Int)+1:=by omega
   have c2:(k:Int)+1<(k:Int)+2:=by omega
   have c3:¬((k:Int)+2=1):=by omega
   have c4:((k:Int)+1).toNat=k+1:=by omega
   have c5:(0:Int)≤(k:Int)+1:=by omega
   have w1:Zap .i64 (x+1)=x+1:=Zah (by omega) (by omega)
   have w2:(1000000000:Int).tdiv (x+1)=f:=by rw[hf];exact Ys3 (by decide)
   have w3:Zap .i64 (f:Int)=f:=Zah (by omega) (by omega)
   have c6:¬x+1=0:=by omega
   rw[hk]at lv
   simp(disch:=first|(simp;done)|omega|rfl) [-getElem?_pos,A.b150,hc,hcn,lv,Zag,c1,c2,c3,c4,c5,c6,z1,z3,z4,w1,w2,w3,splice]
   have k0:=(Keeps.refl (h:=h) (n:=N)).new (.cells [.int .i64 (f:Int)] 3 true)
   have hfr:Sl (h.set N (.cells [.int .i64 (f:Int)] 3 true)) (N+1) (.slice N 0 1 (some 1) 1) (dI [(f:Int)]):=Sl.row (e:=3) (rw:=true) (Ys4 N) (by simp[dI]) rfl (fun k hk=>by simp at hk;omega)
   have dF:Di [(f:Int)]:=Di.one (by omega) (by omega)
   refine Zac (Zs4 (a:=b) (b:=f) (Sl.keep hv k0) hfr (Zce b) dF (Zbg b) (by simp[vI]) (by simp;omega)) ?_
   rintro vv h1 n1 k1 hvv
   have kle1:=k1.le
   have lvv:=hvv.len
   have hlen':(ds (b*f)).length=k+2:=by omega
   rw[Zat,hlen']at lvv
   simp(disch:=first|(simp;done)|omega|rfl) [-getElem?_pos,lvv]
   have k1a:=(Keeps.refl (h:=h1) (n:=n1)).new (.cells [] 3 true)
   refine Zac (Zs4 (a:=a) (b:=f) (((Sl.keep hu k0).keep k1).keep k1a) ((hfr.keep k1).keep k1a) (Zce a) dF (Zbg a) (by simp[vI]) (by simp;omega)) ?_
   rintro uu h2 n2 k2 huu
   have kle2:=k2.le
   have hne:ds (a*f)≠[]:=fun hc=>by
    rw[Zdq]at hc
    have:0<a*f:=Yuc (by omega) f0
    omega
   have hlaf:(ds (a*f)).length≤(ds a).length+1:=by
    apply Zfq
    have g1:=Zii (Zce a)
    rw[Zbg,Yhk]at g1
    have g2:a<1000000000^(ds a).length:=by exact_mod_cast g1
    rw[Ysg]
    exact Yul g2 f1
   have hemp:=(k2.get n1 (by omega)).trans (show _=some (.cells [] 3 true) by simp)
   have hap:=Zr9 (w:=[]) hemp huu hne (by omega)
   simp(disch:=first|(simp;done)|omega|rfl) [-getElem?_pos,hap,lu]
   have hN2:N≤n2:=by omega
   have kk2:=(((k0.trans k1).trans k1a).trans k2)
   refine Zak [(11,11),(63,71)] (fun e r st=>e=.exit 0∧PdI N h2 n2 (ds a).length ((a*f:Nat):Int) 0 r st) (PdI N h2 n2 (ds a).length ((a*f:Nat):Int)) ((ds a).length+1-(ds (a*f)).length) ?_ ?_ ?_
   ·refine⟨by simp,Keeps.refl.new _,_,ds (a*f),by simp;rfl,⟨fun q hq=>?_,.inr ⟨n2,by rw[Zdl],Yru _,by show n2<n2+1;omega,by simp[Zkt]⟩⟩,by omega,Zbg _,Zce _⟩
    simp[Zfc]at hq
    obtain⟨q',_,rfl⟩:=hq
    rfl
   ·exact Ye9 (((Sl.keep hu k0).keep k1).keep k1a |>.keep k2) rfl (by omega) (by simp)
   ·rintro _ r ⟨H,n3,W⟩ hr ⟨rfl,hW,hK,u3,l,h11,ho,hm,hval,hdl⟩
    simp only at hW hK ho
    obtain⟨_,⟨h0,_⟩|⟨iu,hu3,i1,i2,i3⟩⟩:=ho
    ·simp[Zfc]at h0;rw[h0]at hm;simp at hm
    ·rw[Zdl]at hu3
     rw[Zkt]at i3
     subst hu3
     have hlu:l.length=(ds a).length+1:=by omega
     have hka:k+2<l.length:=by omega
     obtain⟨S,hS⟩:∃S,S=l.length-(k+2):=⟨_,rfl⟩
     have cS:((l.length:Int)-((k:Int)+2))=(S:Int):=by omega
     have oN:=Zg2 hN2 hW
     have kH:=hK.new (.cells (dI (List.replicate S 0)) 3 true)
     have nle:=hK.le
     have mz:(Zc8 [.int .i64 0] S:List V)=dI (List.replicate S 0):=Zp2
     simp(disch:=first|(simp;done)|omega|rfl) [-getElem?_pos,hr,h11,cS,mz]
     have hvY:=Dn.keep hvv (k1a.trans k2)
     have hval':vI l=(a*f:Nat):=hval
     refine Zak [(13,21),(82,191)] (fun e r st=>e=.exit 2∧OuI N h2 n2 iu n3 (n3+1) l.length (k+2) ((a*f:Nat):Int) (ds (b*f)) 0 r st) (OuI N h2 n2 iu n3 (n3+1) l.length (k+2) ((a*f:Nat):Int) (ds (b*f))) S ?_ ?_ ?_
     ·refine⟨l,List.replicate S 0,⟨oN,kH,rfl,?_,by simp⟩,by simp,rfl,by simp[hS],by omega,hdl,Di.zeros _,fun s h1 h2=>by omega,?_,fun s hs=>by simp[hs],by rw[Zpa,hval];simp⟩
      ·rw[T.get_set,Yrt (by omega)];exact i3
      ·obtain⟨x',hx',x0,x1,lo,hi⟩:=Znf (b:=b) (k:=k+1) (by omega)
       have g1:=Zii (Zce a)
       rw[Zbg,show (ds a).length=S+(k+1) by omega,Zvd]at g1
       have g2:=Zjb l S (by omega)
       have g3:=Zih (hdl.take S)
       have g4:pI (k+1)*1≤pI (k+1)*x':=Ysa (by omega) (Yts (Zjt _))
       have g5:pI S*pI (k+1)≤pI S*b:=Ysa (by omega) (Yts (Zjt _))
       have g6:(a:Int)*f<pI S*b*f:=Int.mul_lt_mul_of_pos_right (by omega) (by omega)
       rw[Zbg]
       apply Yvb
       intro hc
       have g7:pI S*((b*f:Nat):Int)≤pI S*vI (l.drop S):=Ysa hc (Yts (Zjt _))
       have g8:pI S*((b*f:Nat):Int)=pI S*b*f:=by push_cast;grind
       have g9:((a*f:Nat):Int)=(a:Int)*f:=by push_cast;rfl
       omega
     ·exact Yfb hvY hlen' (Zce _) hy1 hy5 hka (by omega) (by simp[hr]) (by simp[hr]) (by simp[hr,h11]) (by simp[hS]) hN2 i1 i2 (Ys4 n3)
     ·rintro _ r4 ⟨H4,n4,W4⟩ hr4 ⟨rfl,U,Q,⟨hW4,hK4,hn4,ru4,rq4⟩,r13,hUl,hQl,_,dU,dQ,hz,hdr,_,hfin⟩
      simp only at hW4 hK4 hn4 ru4 rq4
      subst hn4
      rw[Yun]at hdr
      rw[Zbg]at hdr hfin
      obtain⟨qn,hqn⟩:=Ytw (Zih dQ)
      obtain⟨un,hun⟩:=Ytw (Zih dU)
      rw[hqn,hun]at hfin
      rw[hun]at hdr
      have hfn:un+b*f*qn=a*f:=by exact_mod_cast hfin
      have hdn:un<b*f:=by exact_mod_cast hdr
      have m1:a/b=qn:=by
       have:a*f/(b*f)=qn:=by
        rw[←hfn,Nat.add_mul_div_left _ _ (by omega),Yt0 hdn,Yt5]
       rw[←this,Yvm _ _ f0]
      have m2:un/f=a%b:=by
       have:a*f%(b*f)=un:=by rw[←hfn,Nat.add_mul_mod_self_left,Ytl hdn]
       rw[←this,Yu7,Nat.mul_div_cancel _ f0]
      have hsU:Sl H4 (n3+1) (.slice iu 0 l.length none 1) (dI U):=Sl.row (by omega) ru4 (by simp[hUl]) (fun k hk=>by cases hk)
      have hsQ:Sl H4 (n3+1) (.slice n3 0 S (some S) 1) (dI Q):=Sl.row (by omega) rq4 (by simp[hQl,hS]) (fun k hk=>by simp at hk;omega)
      obtain⟨v',e1,e2⟩:=Zjn (w:=[]) hsU (lo:=0) (hi:=k+2) (by omega) (by rw[Zat];omega) none (some (.int .i64 ((k+2:Nat):Int))) (.inr ⟨rfl,rfl⟩) (.inl rfl)
      have e3:((dI U).take (k+2)).drop 0=dI (U.take (k+2)):=by rw[Yun,dI,←List.map_take];rfl
      rw[e3]at e2
      have ck:((k+2:Nat):Int)=(k:Int)+2:=by omega
      rw[ck]at e1
      have frow:=(hK4.get N (by omega)).trans ((k2.get N (by omega)).trans ((show _=h1.get N by simp;omega).trans ((k1.get N (by omega)).trans (show _=some (.cells [.int .i64 (f:Int)] 3 true) by simp))))
      have hdU2:vI (U.take (k+2))=un:=by
       rw[←hun]
       exact(Zgv (fun t h1 h2=>hz t (by omega) (by omega))).symm
      simp(disch:=first|(simp;done)|omega|rfl) [-getElem?_pos,hr,hr4,h11,Zef,evOpt,e1]
      refine Zac (Zf5 e2 (by simp;omega)) ?_
      rintro y5 h5 n5 k5 hy5'
      rw[Zfz (dU.take _) hdU2]at hy5'
      have kle5:=k5.le
      have frow5:=(k5.get N (by omega)).trans frow
      have lt5:N<n5:=by omega
      have lt4:iu<n3+1:=by omega
      have lenun:(ds un).length<1099511627776:=by
       have:(ds un).length≤(ds (b*f)).length:=Zct (by omega)
       omega
      simp(disch:=first|(simp;done)|omega|rfl) [-getElem?_pos,hr,hr4,frow5]
      refine Zac (Zng (d:=(f:Int)) hy5' (Zce un) lenun (by omega) (by omega)) ?_
      rintro y6 h6 n6 k6 ⟨q6,rfl,hq6⟩
      have t1:(vI (ds un)).toNat=un:=by rw[Zbg];omega
      have t2:((f:Nat):Int).toNat=f:=by omega
      rw[t1,t2]at hq6
      rw[m2]at hq6
      generalize ((vI (ds un)).toNat%(f:Int).toNat)=ZZ
      simp(disch:=first|(simp;done)|omega|rfl) [-getElem?_pos,hr,hr4,lt4,lt5]
      refine Zac (Zf5 ((hsQ.keep k5).keep k6) (by omega)) ?_
      rintro y7 h7 n7 k7 hy7
      rw[Zfz dQ hqn]at hy7
      have oN4:Zae N W4=[]:=hW4
      have kall:=(((kk2.trans hK4).trans k5).trans k6).trans k7
      simp(disch:=first|(simp;done)|omega|rfl) [-getElem?_pos,hr,hr4,Ret,oN4]
      refine⟨kall,y7,q6,⟨rfl,rfl⟩,?_,?_⟩
      ·rw[m1];exact hy7
      ·exact Sl.keep hq6 k7
variable {s:Str}
def A.w117:=A.q Tryz.f117
def A.lb117_0:=A.ql A.w117 0 []
def A.b117:=(fun x0=>A.qb A.w117 [x0]) A.lb117_0
def A.k117:=@A.kk 117 19 [.tmp 4] A.b117 (by kernel_rfl) rfl
def A.w118:=A.q Tryz.f118
def A.lb118_0:=A.ql A.w118 0 []
def A.b118:=(fun x0=>A.qb A.w118 [x0]) A.lb118_0
def A.k118:=@A.kk 118 40 [.cell 2 (some 2)] A.b118 (by kernel_rfl) rfl
def Zkf{h:T O}{N:Nat}{u v:V}{a b:Nat}(hu:Dn h N u a)(hv:Dn h N v b)(hl:(ds a).length<1000000000000)(hl2:(ds b).length<1000000000000):Fn A.C 117 [u,v] h N (fun x h' n'=>Dn h' n' x (Nat.gcd a b)):=by
 intro w
 rw[Zaf,A.k117 (by simp)]
 simp(disch:=first|(simp;done)|omega|rfl) [-getElem?_pos,A.b117]
 refine Zak [(0,1),(5,17)] (fun e r st=>e=.exit 0∧Zae N st.w=[]∧Keeps h N st.h st.n∧∃x,r.get 0=some x∧Dn st.h st.n x (Nat.gcd a b)) (fun m r st=>Zae N st.w=[]∧Keeps h N st.h st.n∧∃x y c,r.get 0=some x∧r.get 1=some y∧Dn st.h st.n x c∧Dn st.h st.n y m∧Nat.gcd c m=Nat.gcd a b∧(ds c).length<1000000000000∧(ds m).length<1000000000000) b ?_ ?_ ?_
 ·exact⟨by simp,Keeps.refl,u,v,a,by simp,by simp,hu,hv,rfl,hl,hl2⟩
 ·rintro m r ⟨H,n1,W⟩ hr hf ⟨hW,hK,x,y,c,h0,h1,hx,hy,hg,l1,l2⟩
  simp only at hW hK hx hy
  have ly:=hy.len
  rw[Zat]at ly
  rw[Zai]
  by_cases hm:m=0
  ·subst hm
   have z0:(ds 0).length=0:=by rw[Zcm];rfl
   rw[z0]at ly
   simp at hg
   simp(disch:=first|(simp;done)|omega|rfl) [-getElem?_pos,A.lb117_0,hr,hf,h0,h1,ly,hW,hK]
   rw[←hg];exact hx
  ·have hne:(ds m).length≠0:=fun hc=>hm (Zdq.1 (Yr7 hc))
   have p1:(0:Int)<((ds m).length:Int):=by omega
   have p2:0<(ds m).length:=by omega
   have p3:ds m≠[]:=fun hc=>hne (by rw[hc];rfl)
   simp(disch:=first|(simp;done)|omega|rfl) [-getElem?_pos,A.lb117_0,hr,hf,h0,h1,ly,p1,p2,p3]
   refine Zac (Zml hx hy (by omega) l1 l2) ?_
   rintro z h3 n3 k3 ⟨q,r',rfl,hq,hr'⟩
   simp(disch:=first|(simp;done)|omega|rfl) [-getElem?_pos,hr,hf,h0,h1,hW]
   refine⟨c%m,Ys2 _ (by omega),hK.trans k3,m,hy.keep k3,hr',?_,l2,?_⟩
   ·rw[←hg,Nat.gcd_comm c m,Nat.gcd_rec m c,Nat.gcd_comm]
   ·have:=Zct (a:=c%m) (b:=m) (Nat.le_of_lt (Ys2 _ (by omega)));omega
 ·rintro _ r ⟨H,n1,W⟩ hr ⟨rfl,hW,hK,x,h0,hx⟩
  simp only at hW hK hx
  simp(disch:=first|(simp;done)|omega|rfl) [-getElem?_pos,hr,h0,Ret,hW,hK]
  exact hx
def Zvk(x:Str):∀(y:Str),numV (x++y)=numV x*10^y.length+numV y:=by
 have key:∀(y:Str) (n:Nat),y.foldl (fun n (c:UInt8)=>10*n+(c.toNat-48)) n=n*10^y.length+y.foldl (fun n (c:UInt8)=>10*n+(c.toNat-48)) 0:=by
  intro y
  induction y with
  |nil=>simp
  |cons c y ih=>
   intro n
   rw[List.foldl_cons,List.foldl_cons,ih,ih (10*0+(c.toNat-48)),Yrr,Ysg]
   grind
 intro y
 unfold numV
 rw[List.foldl_append,key]
def Zsb(h:Zb7 s=true)(k:Nat):Zb7 (s.take k)=true:=by
 unfold Zb7 at*
 rw[Ys5]at*
 exact fun c hc=>h c (Ytx hc)
def Zkl(h:Zb7 s=true)(k:Nat):Zb7 (s.drop k)=true:=by
 unfold Zb7 at*
 rw[Ys5]at*
 exact fun c hc=>h c (List.mem_of_mem_drop hc)
def PsI(h0:T O)(N:Nat)(s:Str)(m:Nat)(r:T V)(st:St):Prop:=Zae N st.w=[]∧Keeps h0 N st.h st.n∧∃cur w l,r.get 0=some (.str cur)∧cur.length=m∧1≤m∧m≤s.length∧Zb7 cur=true∧r.get 4=some w∧Own 1 3 N st.h st.n w (Zfc l)∧Di l∧l.length+m≤s.length∧vI l+pI l.length*(numV cur:Nat)=(numV s:Nat)
def Zlx(hd:Zb7 s=true)(h1:1≤s.length)(h2:s.length≤3000000000){h:T O}{N:Nat}:Fn A.C 118 [.str s] h N (fun v h' n'=>Rg h' n' v (numV s:Nat)):=by
 intro w
 obtain⟨c,hc⟩:=Zao (l:=s) (k:=0) (by omega)
 have hcd:=Zkk hd hc
 have hc0:s.head?=some c:=by cases s with
  |nil=>simp at hc
  |cons=>simpa using hc
 have a1:¬u8I c=45:=by omega
 have a2:(0:Int)<(s.length:Int):=by omega
 have a3:0<s.length:=by omega
 have hne:s≠[]:=fun h=>by rw[h]at h1;simp at h1
 rw[Zaf,A.k118 (by simp)]
 simp(disch:=first|(simp;done)|omega|rfl) [-getElem?_pos,A.b118,a1,a2,a3,hne,hc0,hc,Zag]
 refine Zak [(0,0),(4,4),(16,32)] (fun e r st=>e=.exit 0∧∃m,m≤9∧PsI (h.set N (.cells [.bool false,.nilslice] 92 true)) (N+1) s m r st) (PsI (h.set N (.cells [.bool false,.nilslice] 92 true)) (N+1) s) s.length ?_ ?_ ?_
 ·exact⟨by simp,Keeps.refl,s,.nilslice,[],by simp,rfl,h1,Yru _,hd,by simp,Own.nil,Di.nil,by simp,by simp[vI,pI]⟩
 ·rintro m r ⟨H,n1,W⟩ hr hf ⟨hW,hK,cur,u,l,g0,hcl,m1,m2,hcd,g4,ho,hdi,hll,hv⟩
  simp only at hW hK ho
  subst hcl
  rw[Zai]
  by_cases h9:9<cur.length
  ·have h9':(9:Int)<(cur.length:Int):=by omega
   have nle:=hK.le
   have hvd:=Zi9 (s:=cur.drop (cur.length-9)) (st:=⟨H,n1,W⟩) (Zkl hcd _) (by simp;omega)
   have hcn:((cur.length:Int)-9).toNat=cur.length-9:=by omega
   have hnv:=Zea (Zkl hcd (cur.length-9))
   have hdl:(cur.drop (cur.length-9)).length=9:=by simp;omega
   rw[hdl]at hnv
   have hsp:=Zvk (cur.take (cur.length-9)) (cur.drop (cur.length-9))
   rw[Ytj,hdl,show (10:Nat)^9=1000000000 by decide]at hsp
   generalize hD:numV (cur.drop (cur.length-9))=D at*
   obtain⟨v',h',w',e1,e2,e3,e4,e5⟩:=Zb5 (x:=[.int .i64 (D:Int)]) (u:=.slice n1 0 1 (some 1) 1) (bytes:=8) (w:=W) (ho.keep (Keeps.refl.new (.cells [.int .i64 (D:Int)] 3 true))) (by omega) (by decide) rfl (by simp[Za0,St.row,slc]) (by rw[Zdl];omega)
   rw[←Zdd]at e5
   simp(disch:=first|(simp;done)|omega|rfl) [-getElem?_pos,A.lb118_0,hr,hf,g0,g4,h9,h9',hcn,evOpt,hvd,splice,e1]
   refine⟨cur.length-9,by omega,⟨by rw[e2];exact hW,(hK.new _).then e3,cur.take (cur.length-9),v',l++[(D:Int)],by simp,by simp,by omega,by omega,Zsb hcd _,by simp,e5,hdi.app (Di.one (by omega) (by omega)),by simp;omega,?_⟩⟩
   rw[Zfx,Yr8,Ytg,Zc2,←hv]
   have hsp':((numV cur:Nat):Int)=(numV (cur.take (cur.length-9)):Nat)*1000000000+D:=by omega
   rw[hsp']
   generalize ((numV (cur.take (cur.length-9)):Nat):Int)=X
   generalize pI l.length=P
   grind
  ·have h9':¬(9:Int)<(cur.length:Int):=by omega
   simp(disch:=first|(simp;done)|omega|rfl) [-getElem?_pos,A.lb118_0,hr,hf,g0,h9,h9']
   exact⟨cur.length,by omega,hW,hK,cur,u,l,by simp[g0],rfl,m1,m2,hcd,by simp[g4],ho,hdi,hll,hv⟩
 ·rintro _ r ⟨H,n1,W⟩ hr ⟨rfl,m,m9,hW,hK,cur,u,l,g0,hcl,m1,m2,hcd,g4,ho,hdi,hll,hv⟩
  simp only at hW hK ho
  subst hcl
  have nle:=hK.le
  have hvd:=Zi9 (s:=cur) (st:=⟨H,n1,W⟩) hcd (by omega)
  have hnv:=Zea hcd
  have hp9:=Zvf m9
  generalize hD:numV cur=D at*
  obtain⟨v',h',w',e1,e2,e3,e4,e5⟩:=Zb5 (x:=[.int .i64 (D:Int)]) (u:=.slice n1 0 1 (some 1) 1) (bytes:=8) (w:=W) (ho.keep (Keeps.refl.new (.cells [.int .i64 (D:Int)] 3 true))) (by omega) (by decide) rfl (by simp[Za0,St.row,slc]) (by rw[Zdl];omega)
  rw[←Zdd]at e5
  simp(disch:=first|(simp;done)|omega|rfl) [-getElem?_pos,hr,g0,g4,hvd,splice,e1]
  have hdi2:Di (l++[(D:Int)]):=hdi.app (Di.one (by omega) (by omega))
  refine Zac (Zbz (n:=numV s) e5.sl hdi2 (by rw[Zfx];exact hv) (by simp;omega)) ?_
  rintro y h5 n5 k5 hy
  have kk:=((hK.new (.cells [.int .i64 (D:Int)] 3 true)).then e3).trans k5
  have kle:=kk.le
  have nrow:=kk.get N (by omega)
  simp at nrow
  obtain⟨u5,rfl,hu5⟩:=hy
  have hu6:=fun c1 (hc:c1.length=2)=>Sl.setInt (i:=N) (c1:=c1) (e1:=92) (w1:=true) hu5 nrow (by intro x hx k m;simp at hx;rcases hx with rfl|rfl<;>simp) hc
  have huo:=Sl.form hu5 |>.one
  unfold V.one at huo
  have ow:Zae N w'=[]:=Zg2 (Yuu N) (by rw[e2];exact hW)
  have k0:=(Keeps.refl (h:=h) (n:=N)).new (.cells [.bool false,.nilslice] 92 true)
  simp(disch:=first|(simp;done)|omega|rfl) [-getElem?_pos,hr,nrow,splice,Zam,huo,Zaj,slc,Ret,ow]
  exact⟨(k0.trans kk).set (Yru N),u5,by simp,by simpa[Dn]using hu6 _ rfl⟩
end
end Go.Mx
