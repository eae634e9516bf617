/-lensletref01-/
import Derived.Test.YtokjleejipaidaaGreatDoorRcD
set_option linter.all false
namespace Go.Mx
noncomputable section
open Go Go.Proofs
variable {N:Nat}
set_option maxRecDepth 1000000
def OK{N n2:Nat}(h:N<=n2):∀{w:List Nat},ar n2 w=[]->ar N w=[]
 |[],_=>rfl
 |i::w,hw=>by
  simp only[ar]at hw ⊢
  by_cases h1:i<n2
  ·rw[ax h1]at hw
   unfold vZ at hw
   split at hw
   ·rename_i hc
    rw[hw]at hc;simp at hc
   ·cases hw
  ·rw[ak h1]at hw
   rw[ak (by omega)]
   exact OK h hw
def Zuw{h:T O}{i:Nat}{w:List Nat}{v:V}{l:List Int}(hr:h.get i=some (.cells [] 3 true))(hs:Sl h N v (dI l))(aW:l≠[])(hl:l.length<1099511627776):
  gX ⟨h,N,w⟩ 1 8 3 (.slice i 0 0 (some 0) 1) v=some (.slice N 0 l.length none 1,⟨h.set N (.cells (dI l) 3 true),N+1,w⟩):=by
 have h0:l.length≠0:=fun hc=>aW (rm hc)
 have jh:=Yse (w:=w) hs
 rw[gJ]at jh
 have hb:¬(uS<(2*(0+l.length)+1000)*8):=by unfold uS;omega
 simp only[gX,jh]
 rw[ak h0,ak (by rintro(h|h|h)<;>omega)]
 simp only[St.row,hr]
 rw[ak (by omega)]
 simp[aC,St.alloc]
def Yl7(k:Nat):pI k=((1000000000^k:Nat):Int):=by unfold pI;simp
def Zo2{b k:Nat}(h:(ds b).length=k+1):∃x,(ds b)[k]?=some x/\0<x/\x<1000000000/\pI k*x<=b/\(b:Int)<pI k*(x+1):=by
 have hb:b≠0:=fun hc=>by rw[hc,tX]at h;simp at h
 obtain⟨x,hx,nz⟩:=Yqm hb
 rw[h,Nat.add_sub_cancel]at hx
 have hd:=(fY b).get hx
 have hv:=gF b
 rw[OI hx,qh (by omega),vI,Int.mul_zero,Int.add_zero]at hv
 have h1:=wc ((fY b).take k)
 have h2:=we ((fY b).take k)
 rw[gO,qt (by omega)]at h2
 have h3:pI k*(x+1)=pI k*x+pI k:=by grind
 exact⟨x,hx,nz,hd.2,by omega,by omega⟩
def Yo0{b k:Nat}(h:(ds b).length=k+1){x:Int}(hx:(ds b)[k]?=some x):∃f:Nat,(f:Int)=1000000000/(x+1)/\0<f/\f<1000000000/\(ds (b*f)).length=k+1/\∃y,(ds (b*f))[k]?=some y/\500000000<=y:=by
 obtain⟨x',jv,x0,x1,lo,hi⟩:=Zo2 h
 obtain rfl:x=x':=mJ (hx.symm.trans jv)
 have hd:(x+1)*(1000000000/(x+1))+1000000000%(x+1)=1000000000:=EL ..
 have d_:0<=1000000000%(x+1):=EN _ (by omega)
 have jn:1000000000%(x+1)<x+1:=EH _ (by omega)
 have hh:=Yed (x:=x) (by omega) x1
 have f0:0<1000000000/(x+1):=by
  apply JR;intro hc
  have:=Int.mul_nonpos_of_nonneg_of_nonpos (a:=x) (by omega) hc
  omega
 have f1:1000000000/(x+1)<1000000000:=Int.ediv_lt_of_lt_mul (by omega) (by omega)
 obtain⟨f,hf⟩:=EK (uY f0)
 rw[hf]at hd hh f0 f1
 have hp:=C7 k
 have EE:((b*f:Nat):Int)=(b:Int)*f:=by simp
 have up:(b:Int)*f<1000000000*pI k:=by
  have g1:(b:Int)*f<pI k*(x+1)*f:=Int.mul_lt_mul_of_pos_right hi f0
  have g2:pI k*(x+1)*f=pI k*((x+1)*f):=by grind
  have g3:pI k*((x+1)*f)<=pI k*1000000000:=rI (by omega) (uY hp)
  omega
 have low:500000000*pI k<=(b:Int)*f:=by
  have g1:pI k*x*f<=(b:Int)*f:=ER lo (uY f0)
  have g2:pI k*x*f=pI k*(x*f):=by grind
  have g3:pI k*500000000<=pI k*(x*f):=rI hh (uY hp)
  omega
 have za7:(ds (b*f)).length<=k+1:=J5 (by
  have:((b*f:Nat):Int)<((1000000000^(k+1):Nat):Int):=by rw[<-Yl7,v_,EE];exact up
  exact_mod_cast this)
 have za8:(ds b).length<=(ds (b*f)).length:=vc (Nat.le_mul_of_pos_right b (by omega))
 have len:(ds (b*f)).length=k+1:=by omega
 obtain⟨y,hy,y0,y1,ylo,yhi⟩:=Zo2 len
 refine⟨f,hf.symm,by omega,by omega,len,y,hy,?_⟩
 apply EM
 intro hc
 have:pI k*(y+1)<=pI k*500000000:=rI (by omega) (uY hp)
 omega
def OL(N:Nat)(h2:T O)(n2 la:Nat)(A0:Int)(m:Nat)(r:T V)(st:St):Prop:=ar n2 st.w=[]/\ab h2 n2 st.h st.n/\∃u l,r.get 11=some u/\Own 1 3 n2 st.h st.n u (p_ l)/\l.length+m=la+1/\vI l=A0/\Di l
def Yi1{N:Nat}{h2:T O}{n2 la:Nat}{A0:Int}{u0:V}{r0:T V}{FY:List Int}(lV:Sl h2 n2 u0 (dI FY))(yh:FY.length=la)(hl:la<1099511627776)(r0e:r0.get 0=some u0):
  ∀m r st,(∀t,jT [(11,11),(63,71)] t=false->r.get t=r0.get t)->Fx [(11,11),(63,71)] r0 206 ⟨r,206,[]⟩->OL N h2 n2 la A0 m r st->Code A.C none A.nK ⟨r,206,[]⟩ st (Rd [(11,11),(63,71)] r0 206 (OL N h2 n2 la A0) m (fun e r st=>e=.exit 0/\OL N h2 n2 la A0 0 r st)):=by
 rintro m r ⟨H,n1,W⟩ hr hf ⟨hW,hK,u,l,ks,ho,hm,hv,hd⟩
 simp only at hW hK ho
 have lu:=lV.len
 rw[gJ,yh]at lu
 have lo:=ho.len
 rw[Dd]at lo
 rw[bb]
 cases m with
 |zero=>
  have:¬(l.length:Int)<(la:Int)+1:=by omega
  simp(disch:=first|(simp;done)|omega|rfl) [A.nK,hr,hf,r0e,ks,lu,lo,this]
  exact⟨hW,hK,u,l,by simp[ks],ho,hm,hv,hd⟩
 |succ m=>
  have h1:(l.length:Int)<(la:Int)+1:=by omega
  have fk:=hK.le
  obtain⟨v',h',w',e1,e2,e3,e4,e5⟩:=tJ (x:=[.int .i64 0]) (u:=.slice n1 0 1 (some 1) 1) (bytes:=8) (w:=W) (ho.ad (ab.refl.new (.cells [.int .i64 0] 3 true))) (by omega) (by decide) rfl (by simp[ef,St.row,aC]) (by rw[Dd];omega)
  rw[<-Fe]at e5
  simp(disch:=first|(simp;done)|omega|rfl) [A.nK,hr,hf,r0e,ks,lu,lo,h1,ae,e1]
  refine⟨m,by omega,⟨by rw[e2];exact hW,((hK.new _).then e3),v',l++[0],by simp,e5,by simp;omega,by rw[C8,hv];simp,hd.app (Di.one (by omega) (by omega))⟩⟩
def Ymn{r:Nat}(h:r<1000000000):rP [(r:Int)]=ds r:=Hv (Di.one (by omega) (by omega)) (by simp[vI])
def ON{h:T O}{N:Nat}{u v:V}{a b:Nat}(hu:Dn h N u a)(hv:Dn h N v b)(hb:0<b)(hl:(ds a).length<1000000000000)(gj:(ds b).length<1000000000000):Fn A.C 180 [u,v] h N (fun x h' n'=>∃q r,x=.aV [q,r]/\Dn h' n' q (a/b)/\Dn h' n' r (a%b)):=by
 intro w
 have lu:=hu.len
 have lv:=hv.len
 rw[gJ]at lu lv
 rw[aM,A.k180 (by simp)]
 by_cases ec:a<b
 ·have gl:Cf a b= -1:=by simp[Cf,ec]
  have hc:=fun w=>Yj (w:=w) hu hv (by omega) (by omega)
  simp[A.b180,hc,gl,az]
  refine⟨ab.refl,.aa,u,⟨rfl,rfl⟩,?_,?_⟩
  ·rw[Ax ec];unfold Dn;rw[tX];exact Sl.nil
  ·rw[yQ ec];exact hu
 ·have hba:b<=a:=by omega
  have jw:=vc hba
  have hc:=fun w=>Yj (w:=w) hu hv (by omega) (by omega)
  have Dp:¬Cf a b<0:=by unfold Cf;rw[ak ec];split<;>omega
  have F8:1<=(ds b).length:=by
   have:ds b≠[]:=fun hc=>by rw[Da]at hc;omega
   exact List.length_pos_iff.2 this
  by_cases hL:(ds b).length=1
  ·obtain⟨x,hx⟩:=a_ (l:=ds b) (k:=0) (by omega)
   have hbx:ds b=[x]:=by
    cases hq:ds b with
    |nil=>rw[hq]at hL;simp at hL
    |cons y l=>
     rw[hq]at hL hx
     simp at hL hx
     rw[hL,hx]
   have B9:=gF b
   rw[hbx]at B9
   simp[vI]at B9
   have OJ:=(fY b).get hx
   obtain⟨b1,b2,b3,b4,b5,z1,z2,z3,z4⟩:=Sl.at (show Sl h N v (dI (ds b)) from hv) (gK hx)
   simp at z4
   simp[A.b180,hc,Dp,lv,hL,aJ,z1,z3,z4]
   refine ay (Zo3 (show Sl h N u (dI (ds a)) from hu) (fY a) (by omega) (by omega) OJ.2) ?_
   rintro y h1 n1 k1 ⟨q,rfl,hq⟩
   rw[gF]at hq
   simp only[gF]
   have e1:(a:Int).toNat=a:=by omega
   have e2:x.toNat=b:=by omega
   rw[e1,e2]at hq
   rw[e1,e2]
   have hRb:=kQ a hb
   have hb9:b<1000000000:=by omega
   generalize hQ:a/b=Q at*
   generalize hR:a%b=R at*
   simp[ae]
   refine ay (HV (l:=[(R:Int)]) (Sl.row (e:=3) (rw:=true) (cp:=some 1) (vS n1) (by simp[dI]) rfl (fun k hk=>by simp at hk;omega)) (by simp)) ?_
   rintro y2 h2 n2 k2 x_
   rw[Ymn (by omega)]at x_
   have kk:=(ab.refl (h:=h1) (n:=n1)).new (.cells [.int .i64 (R:Int)] 3 true)
   simp[az]
   exact⟨(k1.trans kk).trans k2,q,y2,⟨rfl,rfl⟩,hq.ad (kk.trans k2),x_⟩
  ·obtain⟨k,hk⟩:∃k,(ds b).length=k+2:=⟨(ds b).length-2,by omega⟩
   obtain⟨x,hx⟩:=a_ (l:=ds b) (k:=k+1) (by omega)
   have OJ:=(fY b).get hx
   obtain⟨f,hf,f0,f1,hlen,y1,tD,SO⟩:=Yo0 (k:=k+1) (by omega) hx
   obtain⟨b1,b2,b3,b4,b5,z1,z2,z3,z4⟩:=Sl.at (show Sl h N v (dI (ds b)) from hv) (gK hx)
   have c1:((k:Int)+2-1)=(k:Int)+1:=by omega
   have c2:(k:Int)+1<(k:Int)+2:=by omega
   have c3:¬((k:Int)+2=1):=by omega
   have c4:((k:Int)+1).toNat=k+1:=by omega
   have c5:(0:Int)<=(k:Int)+1:=by omega
   have w1:bh .i64 (x+1)=x+1:=cE (by omega) (by omega)
   have w2:(1000000000:Int).tdiv (x+1)=f:=by rw[hf];exact BT (by decide)
   have w3:bh .i64 (f:Int)=f:=cE (by omega) (by omega)
   have c6:¬x+1=0:=by omega
   rw[hk]at lv
   simp(disch:=omega) [A.b180,hc,Dp,lv,aJ,c1,c2,c3,c4,c5,c6,z1,z3,z4,w1,w2,w3,ae]
   have k0:=(ab.refl (h:=h) (n:=N)).new (.cells [.int .i64 (f:Int)] 3 true)
   have wu:Sl (h.set N (.cells [.int .i64 (f:Int)] 3 true)) (N+1) (.slice N 0 1 (some 1) 1) (dI [(f:Int)]):=Sl.row (e:=3) (rw:=true) (vS N) (by simp[dI]) rfl (fun k hk=>by simp at hk;omega)
   have dF:Di [(f:Int)]:=Di.one (by omega) (by omega)
   refine ay (Yi (a:=b) (b:=f) (Sl.ad hv k0) wu (fY b) dF (gF b) (by simp[vI]) (by simp;omega)) ?_
   rintro vv h1 n1 k1 hvv
   have eY:=k1.le
   have lvv:=hvv.len
   have fj:(ds (b*f)).length=k+2:=by omega
   rw[gJ,fj]at lvv
   simp[lvv]
   have k1a:=(ab.refl (h:=h1) (n:=n1)).new (.cells [] 3 true)
   refine ay (Yi (a:=a) (b:=f) (((Sl.ad hu k0).ad k1).ad k1a) ((wu.ad k1).ad k1a) (fY a) dF (gF a) (by simp[vI]) (by simp;omega)) ?_
   rintro uu h2 n2 k2 huu
   have gI:=k2.le
   have aW:ds (a*f)≠[]:=fun hc=>by
    rw[Da]at hc
    have:0<a*f:=zr (by omega) f0
    omega
   have za9:(ds (a*f)).length<=(ds a).length+1:=by
    apply J5
    have g1:=we (fY a)
    rw[gF,Yl7]at g1
    have g2:a<1000000000^(ds a).length:=by exact_mod_cast g1
    rw[gw]
    exact BR g2 f1
   have zab:=(k2.get n1 (by omega)).trans (show _=some (.cells [] 3 true) by simp)
   have Mj:=Zuw (w:=[]) zab huu aW (by omega)
   simp[Mj,lu]
   have wH:N<=n2:=by omega
   have Om:=(((k0.trans k1).trans k1a).trans k2)
   refine bA [(11,11),(63,71)] (fun e r st=>e=.exit 0/\OL N h2 n2 (ds a).length ((a*f:Nat):Int) 0 r st) (OL N h2 n2 (ds a).length ((a*f:Nat):Int)) ((ds a).length+1-(ds (a*f)).length) ?_ ?_ ?_
   ·refine⟨by simp,ab.refl.new _,_,ds (a*f),by simp;rfl,⟨fun q hq=>?_,.inr ⟨n2,by rw[Dd],aO _,by show n2<n2+1;omega,by simp[Xh]⟩⟩,by omega,gF _,fY _⟩
    simp[p_]at hq
    obtain⟨q',_,rfl⟩:=hq
    rfl
   ·exact Yi1 (((Sl.ad hu k0).ad k1).ad k1a |>.ad k2) rfl (by omega) (by simp)
   ·rintro _ r ⟨H,n3,W⟩ hr ⟨rfl,hW,hK,u3,l,ks,ho,hm,im,iw⟩
    simp only at hW hK ho
    obtain⟨_,⟨h0,_⟩|⟨iu,KL,i1,i2,i3⟩⟩:=ho
    ·simp[p_]at h0;rw[h0]at hm;simp at hm
    ·rw[Dd]at KL
     rw[Xh]at i3
     subst KL
     have vn:l.length=(ds a).length+1:=by omega
     have hka:k+2<l.length:=by omega
     obtain⟨S,hS⟩:∃S,S=l.length-(k+2):=⟨_,rfl⟩
     have cS:((l.length:Int)-((k:Int)+2))=(S:Int):=by omega
     have oN:=OK wH hW
     have kH:=hK.new (.cells (dI (List.replicate S 0)) 3 true)
     have fk:=hK.le
     have mz:(cW [.int .i64 0] S:List V)=dI (List.replicate S 0):=WY
     simp(disch:=first|(simp;done)|omega|rfl) [hr,ks,cS,mz]
     have hvY:=Dn.ad hvv (k1a.trans k2)
     have zaE:vI l=(a*f:Nat):=im
     refine bA [(13,21),(82,191)] (fun e r st=>e=.exit 2/\OO N h2 n2 iu n3 (n3+1) l.length (k+2) ((a*f:Nat):Int) (ds (b*f)) 0 r st) (OO N h2 n2 iu n3 (n3+1) l.length (k+2) ((a*f:Nat):Int) (ds (b*f))) S ?_ ?_ ?_
     ·refine⟨l,List.replicate S 0,⟨oN,kH,rfl,?_,by simp⟩,by simp,rfl,by simp[hS],by omega,iw,Di.Fb _,fun s h1 h2=>by omega,?_,fun s hs=>by simp[hs],by rw[WU,im];simp⟩
      ·rw[T.ag,ak (by omega)];exact i3
      ·obtain⟨x',jv,x0,x1,lo,hi⟩:=Zo2 (b:=b) (k:=k+1) (by omega)
       have g1:=we (fY a)
       rw[gF,show (ds a).length=S+(k+1) by omega,Q5]at g1
       have g2:=LV l S (by omega)
       have g3:=wc (iw.take S)
       have g4:pI (k+1)*1<=pI (k+1)*x':=rI (by omega) (uY (C7 _))
       have g5:pI S*pI (k+1)<=pI S*b:=rI (by omega) (uY (C7 _))
       have g6:(a:Int)*f<pI S*b*f:=Int.mul_lt_mul_of_pos_right (by omega) (by omega)
       rw[gF]
       apply JR
       intro hc
       have g7:pI S*((b*f:Nat):Int)<=pI S*vI (l.drop S):=rI hc (uY (C7 _))
       have g8:pI S*((b*f:Nat):Int)=pI S*b*f:=by push_cast;grind
       have g9:((a*f:Nat):Int)=(a:Int)*f:=by push_cast;rfl
       omega
     ·exact Yi4 hvY fj (fY _) tD SO hka (by omega) (by simp[hr]) (by simp[hr]) (by simp[hr,ks]) (by simp[hS]) wH i1 i2 (vS n3)
     ·rintro _ r4 ⟨H4,n4,W4⟩ pU ⟨rfl,U,Q,⟨BL,KQ,OP,OQ,OR⟩,vf,hUl,hQl,_,dU,dQ,hz,yp,_,oZ⟩
      simp only at BL KQ OP OQ OR
      subst OP
      rw[zq]at yp
      rw[gF]at yp oZ
      obtain⟨qn,hqn⟩:=EK (wc dQ)
      obtain⟨un,hun⟩:=EK (wc dU)
      rw[hqn,hun]at oZ
      rw[hun]at yp
      have Bx:un+b*f*qn=a*f:=by exact_mod_cast oZ
      have yX:un<b*f:=by exact_mod_cast yp
      have m1:a/b=qn:=by
       have:a*f/(b*f)=qn:=by
        rw[<-Bx,Nat.add_mul_div_left _ _ (by omega),Ax yX,xP]
       rw[<-this,QY _ _ f0]
      have m2:un/f=a%b:=by
       have:a*f%(b*f)=un:=by rw[<-Bx,Nat.add_mul_mod_self_left,yQ yX]
       rw[<-this,LQ,Nat.mul_div_cancel _ f0]
      have YT:Sl H4 (n3+1) (.slice iu 0 l.length none 1) (dI U):=Sl.row (by omega) OQ (by simp[hUl]) (fun k hk=>by cases hk)
      have hsQ:Sl H4 (n3+1) (.slice n3 0 S (some S) 1) (dI Q):=Sl.row (by omega) OR (by simp[hQl,hS]) (fun k hk=>by simp at hk;omega)
      obtain⟨v',e1,e2⟩:=Es (w:=[]) YT (lo:=0) (hi:=k+2) (by omega) (by rw[gJ];omega) none (some (.int .i64 ((k+2:Nat):Int))) (.inr ⟨rfl,rfl⟩) (.inl rfl)
      have e3:((dI U).take (k+2)).drop 0=dI (U.take (k+2)):=by rw[zq,dI,<-List.map_take];rfl
      rw[e3]at e2
      have ck:((k+2:Nat):Int)=(k:Int)+2:=by omega
      rw[ck]at e1
      have zac:=(KQ.get N (by omega)).trans ((k2.get N (by omega)).trans ((show _=h1.get N by simp;omega).trans ((k1.get N (by omega)).trans (show _=some (.cells [.int .i64 (f:Int)] 3 true) by simp))))
      have zad:vI (U.take (k+2))=un:=by
       rw[<-hun]
       exact(W9 (fun t h1 h2=>hz t (by omega) (by omega))).symm
      simp[hr,pU,ks,BH,aB,e1]
      refine ay (HV e2 (by simp;omega)) ?_
      rintro y5 h5 n5 k5 OS
      rw[Hv (dU.take _) zad]at OS
      have IM:=k5.le
      have OT:=(k5.get N (by omega)).trans zac
      have lt5:N<n5:=by omega
      have lt4:iu<n3+1:=by omega
      have OU:(ds un).length<1099511627776:=by
       have:(ds un).length<=(ds (b*f)).length:=vc (by omega)
       omega
      simp[hr,pU,OT]
      refine ay (Zo3 (d:=(f:Int)) OS (fY un) OU (by omega) (by omega)) ?_
      rintro y6 h6 n6 k6 ⟨q6,rfl,NS⟩
      have t1:(vI (ds un)).toNat=un:=by rw[gF];omega
      have t2:((f:Nat):Int).toNat=f:=by omega
      rw[t1,t2]at NS
      rw[m2]at NS
      generalize ((vI (ds un)).toNat%(f:Int).toNat)=ZZ
      simp[hr,pU,lt4,lt5]
      refine ay (HV ((hsQ.ad k5).ad k6) (by omega)) ?_
      rintro y7 h7 n7 k7 hy7
      rw[Hv dQ hqn]at hy7
      have oN4:ar N W4=[]:=BL
      have zae:=(((Om.trans KQ).trans k5).trans k6).trans k7
      simp[hr,pU,az,oN4]
      refine⟨zae,y7,q6,⟨rfl,rfl⟩,?_,?_⟩
      ·rw[m1];exact hy7
      ·exact Sl.ad NS k7
variable {s:aQ}
def A.OV:=A.q Tryz.f124
def A.sM:=A.ql A.OV 0 []
def A.b124:=(fun x0=>A.qb A.OV [x0]) A.sM
def A.k124:=@A.kk 124 19 [.tmp 4] A.b124 (by kernel_rfl) rfl
def A.OW:=A.q Tryz.f178
def A.j_:=A.ql A.OW 0 []
def A.b178:=(fun x0=>A.qb A.OW [x0]) A.j_
def A.k178:=@A.kk 178 40 [.cell 2 (some 2)] A.b178 (by kernel_rfl) rfl
def SP{h:T O}{N:Nat}{u v:V}{a b:Nat}(hu:Dn h N u a)(hv:Dn h N v b)(hl:(ds a).length<1000000000000)(gj:(ds b).length<1000000000000):Fn A.C 124 [u,v] h N (fun x h' n'=>Dn h' n' x (Nat.gcd a b)):=by
 intro w
 rw[aM,A.k124 (by simp)]
 simp[A.b124]
 refine bA [(0,1),(5,17)] (fun e r st=>e=.exit 0/\ar N st.w=[]/\ab h N st.h st.n/\∃x,r.get 0=some x/\Dn st.h st.n x (Nat.gcd a b)) (fun m r st=>ar N st.w=[]/\ab h N st.h st.n/\∃x y c,r.get 0=some x/\r.get 1=some y/\Dn st.h st.n x c/\Dn st.h st.n y m/\Nat.gcd c m=Nat.gcd a b/\(ds c).length<1000000000000/\(ds m).length<1000000000000) b ?_ ?_ ?_
 ·exact⟨by simp,ab.refl,u,v,a,by simp,by simp,hu,hv,rfl,hl,gj⟩
 ·rintro m r ⟨H,n1,W⟩ hr hf ⟨hW,hK,x,y,c,h0,h1,hx,hy,hg,l1,l2⟩
  simp only at hW hK hx hy
  have ly:=hy.len
  rw[gJ]at ly
  rw[bb]
  by_cases hm:m=0
  ·subst hm
   have z0:(ds 0).length=0:=by rw[tX];rfl
   rw[z0]at ly
   simp at hg
   simp[A.sM,hr,hf,h0,h1,ly,hW,hK]
   rw[<-hg];exact hx
  ·have aW:(ds m).length≠0:=fun hc=>hm (Da.1 (rm hc))
   have p1:(0:Int)<((ds m).length:Int):=by omega
   have p2:0<(ds m).length:=by omega
   have p3:ds m≠[]:=fun hc=>aW (by rw[hc];rfl)
   simp[A.sM,hr,hf,h0,h1,ly,p1,p2,p3]
   refine ay (ON hx hy (by omega) l1 l2) ?_
   rintro z h3 n3 k3 ⟨q,r',rfl,hq,ko⟩
   simp[hr,hf,h0,h1,hW]
   refine⟨c%m,kQ _ (by omega),hK.trans k3,m,hy.ad k3,ko,?_,l2,?_⟩
   ·rw[<-hg,Nat.gcd_comm c m,Nat.gcd_rec m c,Nat.gcd_comm]
   ·have:=vc (a:=c%m) (b:=m) (Nat.le_of_lt (kQ _ (by omega)));omega
 ·rintro _ r ⟨H,n1,W⟩ hr ⟨rfl,hW,hK,x,h0,hx⟩
  simp only at hW hK hx
  simp[hr,h0,az,hW,hK]
  exact hx
def Zx6(x:aQ):∀(y:aQ),aF (x++y)=aF x*10^y.length+aF y:=by
 have key:∀(y:aQ) (n:Nat),y.foldl (fun n (c:UInt8)=>10*n+(c.toNat-48)) n=n*10^y.length+y.foldl (fun n (c:UInt8)=>10*n+(c.toNat-48)) 0:=by
  intro y
  induction y with
  |nil=>simp
  |cons c y ih=>
   intro n
   rw[List.foldl_cons,List.foldl_cons,ih,ih (10*0+(c.toNat-48)),bo,gw]
   grind
 intro y
 unfold aF
 rw[List.foldl_append,key]
def Zux(h:cI s=true)(k:Nat):cI (s.take k)=true:=by
 unfold cI at*
 rw[me]at*
 exact fun c hc=>h c (yJ hc)
def SQ(h:cI s=true)(k:Nat):cI (s.drop k)=true:=by
 unfold cI at*
 rw[me]at*
 exact fun c hc=>h c (JP hc)
def SR(h0:T O)(N:Nat)(s:aQ)(m:Nat)(r:T V)(st:St):Prop:=ar N st.w=[]/\ab h0 N st.h st.n/\∃cur w l,r.get 0=some (.str cur)/\cur.length=m/\1<=m/\m<=s.length/\cI cur=true/\r.get 4=some w/\Own 1 3 N st.h st.n w (p_ l)/\Di l/\l.length+m<=s.length/\vI l+pI l.length*(aF cur:Nat)=(aF s:Nat)
def SS(hd:cI s=true)(h1:1<=s.length)(h2:s.length<=3000000000){h:T O}{N:Nat}:Fn A.C 178 [.str s] h N (fun v h' n'=>Rg h' n' v (aF s:Nat)):=by
 intro w
 obtain⟨c,hc⟩:=a_ (l:=s) (k:=0) (by omega)
 have pP:=LY hd hc
 have gl:s.head?=some c:=by cases s with
  |nil=>simp at hc
  |cons=>simpa using hc
 have a1:¬cK c=45:=by omega
 have a2:(0:Int)<(s.length:Int):=by omega
 have a3:0<s.length:=by omega
 have aW:s≠[]:=fun h=>by rw[h]at h1;simp at h1
 rw[aM,A.k178 (by simp)]
 simp(disch:=first|(simp;done)|omega|rfl) [-getElem?_pos,A.b178,a1,a2,a3,aW,gl,hc,aJ]
 refine bA [(0,0),(4,4),(16,32)] (fun e r st=>e=.exit 0/\∃m,m<=9/\SR (h.set N (.cells [.bool false,.aa] 143 true)) (N+1) s m r st) (SR (h.set N (.cells [.bool false,.aa] 143 true)) (N+1) s) s.length ?_ ?_ ?_
 ·exact⟨by simp,ab.refl,s,.aa,[],by simp,rfl,h1,aO _,hd,by simp,Own.nil,Di.nil,by simp,by simp[vI,pI]⟩
 ·rintro m r ⟨H,n1,W⟩ hr hf ⟨hW,hK,cur,u,l,g0,cO,m1,m2,pP,g4,ho,iO,tm,hv⟩
  simp only at hW hK ho
  subst cO
  rw[bb]
  by_cases h9:9<cur.length
  ·have IU:(9:Int)<(cur.length:Int):=by omega
   have fk:=hK.le
   have IV:=OE (s:=cur.drop (cur.length-9)) (st:=⟨H,n1,W⟩) (SQ pP _) (by simp;omega)
   have Dp:((cur.length:Int)-9).toNat=cur.length-9:=by omega
   have F6:=B7 (SQ pP (cur.length-9))
   have iw:(cur.drop (cur.length-9)).length=9:=by simp;omega
   rw[iw]at F6
   have gb:=Zx6 (cur.take (cur.length-9)) (cur.drop (cur.length-9))
   rw[CT,iw,show (10:Nat)^9=1000000000 by decide]at gb
   generalize hD:aF (cur.drop (cur.length-9))=D at*
   obtain⟨v',h',w',e1,e2,e3,e4,e5⟩:=tJ (x:=[.int .i64 (D:Int)]) (u:=.slice n1 0 1 (some 1) 1) (bytes:=8) (w:=W) (ho.ad (ab.refl.new (.cells [.int .i64 (D:Int)] 3 true))) (by omega) (by decide) rfl (by simp[ef,St.row,aC]) (by rw[Dd];omega)
   rw[<-Fe]at e5
   simp(disch:=first|(simp;done)|omega|rfl) [A.j_,hr,hf,g0,g4,h9,IU,Dp,aB,IV,ae,e1]
   refine⟨cur.length-9,by omega,⟨by rw[e2];exact hW,(hK.new _).then e3,cur.take (cur.length-9),v',l++[(D:Int)],by simp,by simp,by omega,by omega,Zux pP _,by simp,e5,iO.app (Di.one (by omega) (by omega)),by simp;omega,?_⟩⟩
   rw[C8,iN,Az,v_,<-hv]
   have IW:((aF cur:Nat):Int)=(aF (cur.take (cur.length-9)):Nat)*1000000000+D:=by omega
   rw[IW]
   generalize ((aF (cur.take (cur.length-9)):Nat):Int)=X
   generalize pI l.length=P
   grind
  ·have IU:¬(9:Int)<(cur.length:Int):=by omega
   simp[A.j_,hr,hf,g0,h9,IU]
   exact⟨cur.length,by omega,hW,hK,cur,u,l,by simp[g0],rfl,m1,m2,pP,by simp[g4],ho,iO,tm,hv⟩
 ·rintro _ r ⟨H,n1,W⟩ hr ⟨rfl,m,m9,hW,hK,cur,u,l,g0,cO,m1,m2,pP,g4,ho,iO,tm,hv⟩
  simp only at hW hK ho
  subst cO
  have fk:=hK.le
  have IV:=OE (s:=cur) (st:=⟨H,n1,W⟩) pP (by omega)
  have F6:=B7 pP
  have hp9:=Q7 m9
  generalize hD:aF cur=D at*
  obtain⟨v',h',w',e1,e2,e3,e4,e5⟩:=tJ (x:=[.int .i64 (D:Int)]) (u:=.slice n1 0 1 (some 1) 1) (bytes:=8) (w:=W) (ho.ad (ab.refl.new (.cells [.int .i64 (D:Int)] 3 true))) (by omega) (by decide) rfl (by simp[ef,St.row,aC]) (by rw[Dd];omega)
  rw[<-Fe]at e5
  simp[hr,g0,g4,IV,ae,e1]
  have kZ:Di (l++[(D:Int)]):=iO.app (Di.one (by omega) (by omega))
  refine ay (yd (n:=aF s) e5.sl kZ (by rw[C8];exact hv) (by simp;omega)) ?_
  rintro y h5 n5 k5 hy
  have kk:=((hK.new (.cells [.int .i64 (D:Int)] 3 true)).then e3).trans k5
  have ye:=kk.le
  have pq:=kk.get N (by omega)
  simp at pq
  obtain⟨u5,rfl,Bf⟩:=hy
  have IH:=fun c1 (hc:c1.length=2)=>Sl.setInt (i:=N) (c1:=c1) (e1:=143) (w1:=true) Bf pq (by intro x hx k m;simp at hx;rcases hx with rfl|rfl<;>simp) hc
  have Co:=Sl.form Bf |>.one
  unfold V.one at Co
  have ow:ar N w'=[]:=OK (vF N) (by rw[e2];exact hW)
  have k0:=(ab.refl (h:=h) (n:=N)).new (.cells [.bool false,.aa] 143 true)
  simp[hr,pq,ae,bD,Co,aR,aC,az,ow]
  exact⟨(k0.trans kk).set (aO N),u5,by simp,by simpa[Dn]using IH _ rfl⟩
variable {s:aQ}
def A.b123:=A.q Tryz.f123
def A.k123:=@A.kk 123 25 [.cell 2 (some 2),.cell 3 (some 2)] A.b123 (by kernel_rfl) rfl
def A.b47:=A.q Tryz.f47
def A.k47:=@A.kk 47 96 [.tmp 2] A.b47 (by kernel_rfl) rfl
def Ztb(hk:ah s<s.length)(hp:cI (s.take (ah s))=true)(hd:cI (s.drop (ah s+1))=true)(p1:1<=(s.take (ah s)).length)(d1:1<=(s.drop (ah s+1)).length)(hl:s.length<=100000){h:T O}{N:Nat}:Fn A.C 123 [.str s] h N (fun v h' n'=>∃x y,v=.aV [.agg [.bool false,x],.agg [.bool false,y]]/\Dn h' n' x (aF (s.take (ah s)))/\Dn h' n' y (aF (s.drop (ah s+1)))):=by
 intro w
 rw[aM,A.k123 (by simp)]
 have cD:=fun st=>F7 (s:=s) (st:=st) (by omega)
 have c1:¬((ah s:Int)=(s.length:Int)):=by omega
 have c2:¬(ah s=s.length):=by omega
 have c3:(ah s:Int)<=(s.length:Int):=by omega
 have c4:(ah s:Int)+1<=(s.length:Int):=by omega
 have c5:((ah s:Int)+1).toNat=ah s+1:=by omega
 simp[A.b123,cD,c1,c2,c3,c4,c5,aJ,aB]
 refine ay (SS hp p1 (by simp;omega)) ?_
 rintro v1 h1 n1 k1 ⟨x,rfl,hx⟩
 have nx:¬((aF (s.take (ah s)):Nat):Int)<0:=by omega
 simp(disch:=omega) [cD,c1,c2,c3,c4,c5,aJ,aB,nx]
 refine ay (SS hd d1 (by simp;omega)) ?_
 rintro v2 h2 n2 k2 ⟨y,rfl,hy⟩
 have ny:¬((aF (s.drop (ah s+1)):Nat):Int)<0:=by omega
 have eY:=k1.le
 have gI:=k2.le
 have hx:=Dn.ad hx k2
 have r0:=(k2.get N (by omega)).trans (k1.get N (by omega))
 have r1:=(k2.get (N+1) (by omega)).trans (k1.get (N+1) (by omega))
 simp at r0 r1
 have jl:∀u∈([.bool false,.aa]:List V),∀k n,u≠V.int k n:=by intro u hu k n;simp at hu;rcases hu with rfl|rfl<;>simp
 have yq:=(Sl.form hx).one
 have qO:=(Sl.form hy).one
 unfold V.one at yq qO
 have OX:N<n1:=by omega
 have OY:N<n2:=by omega
 have OZ:N+1<n2:=by omega
 have d4':¬N+1=N:=by omega
 simp[r0,r1,ny,nx,ae,bD,yq,qO,OX,OY,OZ,aR,aC,cn.cr,az]
 have tS:=Sl.setInt (i:=N) (c1:=[.bool false,x]) (e1:=143) (w1:=true) hx r0 jl rfl
 have tD:=Sl.setInt (i:=N) (c1:=[.bool false,x]) (e1:=143) (w1:=true) hy r0 jl rfl
 have F9:(h2.set N (.cells [.bool false,x] 143 true)).get (N+1)=some (.cells [.bool false,.aa] 143 true):=by rw[T.ag,ak (by omega)];exact r1
 have pZ:=Sl.setInt (i:=N+1) (c1:=[.bool false,y]) (e1:=143) (w1:=true) tS F9 jl rfl
 have x_:=Sl.setInt (i:=N+1) (c1:=[.bool false,y]) (e1:=143) (w1:=true) tD F9 jl rfl
 have k0:=((ab.refl (h:=h) (n:=N)).new (.cells [.bool false,.aa] 143 true)).new (.cells [.bool false,.aa] 143 true)
 exact⟨(((k0.trans k1).trans k2).set (aO N)).set (by omega),x,y,⟨rfl,rfl⟩,pZ,x_⟩
def SU{s:aQ}(h:ja s=true):cI s=true/\1<=s.length:=by
 cases s with
 |nil=>cases h
 |cons c s=>
  unfold ja at h
  rw[iz]at h
  exact⟨h.1,by simp⟩
def SV:ds 1=[1]:=by rw[AG (by decide),tX];rfl
def SW(h:cI s=true)(hl:s.length<=100000):(ds (aF s)).length<1000000000000:=by
 have h1:=B7 h
 have h2:(10:Nat)^s.length<=1000000000^s.length:=G5 (by decide) _
 have:=J5 (n:=aF s) (k:=s.length) (by omega)
 omega
def Ztg{s:aQ}(hl:s.length<=100000){h:T O}{N:Nat}:Fn A.C 47 [.str s] h N (fun v _ _=>v=.int .i64 (bj s:Nat)):=by
 intro w
 rw[aM,A.k47 (by simp)]
 cases s with
 |nil=>
  have cD:=fun st=>F7 (s:=[]) (st:=st) (by simp)
  have eZ:=fun st=>OD (s:=[]) (st:=st) (by simp)
  simp[A.b47,cD,ah,aB,eZ,ja,az]
  exact⟨ab.refl,rfl⟩
 |cons c t=>
  by_cases h45:cK c=45
  ·have dM:bj (c::t)=kp true (t.take (ah t)) (decide (ah t<t.length)) (t.drop (ah t+1)):=by
    have:c.toNat=45:=by unfold cK at h45;omega
    simp[bj,Kt,cy,bk,this]
   rw[dM]
   have cB:(0:Int)<(t.length:Int)+1:=by omega
   have cD:=fun st=>F7 (s:=t) (st:=st) (by simp at hl;omega)
   have eZ:=fun st=>OD (s:=t.take (ah t)) (st:=st) (by simp at hl ⊢;omega)
   have fR:(ah t:Int)<=(t.length:Int):=by have:=FF t;omega
   have fI:ah t<=t.length:=FF t
   have iG:(t.take (ah t)).length=ah t:=by simp;omega
   have iw:(t.drop (ah t+1)).length=t.length-(ah t+1):=by simp
   have dp:=h45
   have gl:=h45
   have pM:=h45
   simp at hl
   generalize hp:t.take (ah t)=p at*
   generalize l_:t.drop (ah t+1)=d at*
   by_cases hA:ja p=true
   ·by_cases hz:p=[48]
    ·have e1:(p==[48])=true:=by simp[hz]
     simp(disch:=first|(simp;done)|omega|(simp only[bB,cC,bo];omega)|rfl) [A.b47,cB,cD,eZ,fR,fI,hp,l_,aB,aJ,dp,gl,pM,hA,e1,az]
     exact⟨ab.refl,by simp[kp,gH,hz]⟩
    ·have e1:(p==[48])=false:=by simp[hz]
     by_cases qf:ah t<t.length
     ·have fV:(ah t:Int)<(t.length:Int):=by omega
      have oF:=fun st=>OD (s:=d) (st:=st) (by omega)
      by_cases hD:ja d=true
      ·by_cases h48:d=[48]
       ·have e8:(d==[48])=true:=by simp[h48]
        simp(disch:=first|(simp;done)|omega|(simp only[bB,cC,bo];omega)|rfl) [A.b47,cB,cD,eZ,fR,fI,hp,l_,aB,aJ,dp,gl,pM,hA,e1,qf,fV,oF,hD,e8,az]
        exact⟨ab.refl,by simp[kp,gH,h48]⟩
       ·have e8:(d==[48])=false:=by simp[h48]
        by_cases zW:d=[49]
        ·have e9:(d==[49])=true:=by simp[zW]
         simp(disch:=first|(simp;done)|omega|(simp only[bB,cC,bo];omega)|rfl) [A.b47,cB,cD,eZ,fR,fI,hp,l_,aB,aJ,dp,gl,pM,hA,e1,qf,fV,oF,hD,e8,e9,az]
         exact⟨ab.refl,by simp[kp,gH,zW]⟩
        ·have e9:(d==[49])=false:=by simp[zW]
         have dE:gH true p true d=true:=by simp[gH,hA,hD,h48,zW,hz]
         by_cases b6:600<p.length
         ·have b6':(600:Int)<(ah t:Int):=by omega
          simp(disch:=first|(simp;done)|omega|(simp only[bB,cC,bo];omega)|rfl) [A.b47,cB,cD,eZ,fR,fI,hp,l_,aB,aJ,dp,gl,pM,hA,e1,qf,fV,oF,hD,e8,e9,b6',az]
          exact⟨ab.refl,by simp[kp,dE,b6]⟩
         ·have b6':¬(600:Int)<(ah t:Int):=by omega
          by_cases b7:600<d.length
          ·have b7':(600:Int)<(t.length:Int)-(ah t:Int)-1:=by omega
           simp(disch:=first|(simp;done)|omega|(simp only[bB,cC,bo];omega)|rfl) [A.b47,cB,cD,eZ,fR,fI,hp,l_,aB,aJ,dp,gl,pM,hA,e1,qf,fV,oF,hD,e8,e9,b6',b7',az]
           exact⟨ab.refl,by simp[kp,dE,b6,b7]⟩
          ·have b7':¬(600:Int)<(t.length:Int)-(ah t:Int)-1:=by omega
           obtain⟨pa,pb⟩:=SU hA
           obtain⟨da,db⟩:=SU hD
           simp(disch:=first|(simp;done)|omega|(simp only[bB,cC,bo];omega)|rfl) [A.b47,cB,cD,eZ,fR,fI,hp,l_,aB,aJ,dp,gl,pM,hA,e1,qf,fV,oF,hD,e8,e9,b6',b7']
           refine ay (Ztb qf (by rw[hp];exact pa) (by rw[l_];exact da) (by rw[hp];exact pb) (by rw[l_];exact db) (by omega)) ?_
           rintro v1 h1 n1 k1 ⟨x,y,rfl,hx,hy⟩
           rw[hp]at hx
           rw[l_]at hy
           have yq:=(Sl.form hx).one
           have qO:=(Sl.form hy).one
           unfold V.one at yq qO
           have kx:=((((ab.refl (h:=h1) (n:=n1)).new (.cells [.bool false,.aa] 143 true)).new (.cells [.bool false,.aa] 143 true)).set (i:=n1) (o:=.cells [.bool false,x] 143 true) (aO n1)).set (i:=n1+1) (o:=.cells [.bool false,y] 143 true) (by omega)
           simp[ae,bD,yq,qO]
           refine ay (SP (hx.ad kx) (hy.ad kx) (SW pa (by omega)) (SW da (by omega))) ?_
           rintro z h2 n2 k2 eg
           have kk:=(k1.trans kx).trans k2
           have lz:=eg.len
           rw[gJ]at lz
           have ix:¬n1<N:=by have:=k1.le;omega
           have mE:¬n1+1<N:=by have:=k1.le;omega
           generalize hG:Nat.gcd (aF p) (aF d)=G at*
           by_cases g1:G=1
           ·subst g1
            rw[SV]at lz
            obtain⟨b1,b2,b3,b4,b5,z1,z2,z3,z4⟩:=Sl.at (show Sl h2 n2 z (dI [1]) from SV▸eg) (j:=0) (x:=.int .i64 1) rfl
            simp at z4
            simp[lz,z1,z3,z4,aJ,az,ix,mE]
            exact⟨kk,by simp[kp,dE,b6,b7,hG]⟩
           ·have uw:kp true p true d=1:=by simp[kp,dE,b6,b7,hG,g1]
            by_cases g2:(ds G).length=1
            ·obtain⟨gx,O0⟩:=a_ (l:=ds G) (k:=0) (by omega)
             obtain⟨b1,b2,b3,b4,b5,z1,z2,z3,z4⟩:=Sl.at (show Sl h2 n2 z (dI (ds G)) from eg) (gK O0)
             simp at z4
             have gne:¬gx=1:=fun hc=>g1 (by
              have hv:=gF G
              rw[OI O0,qh (by omega)]at hv
              simp[vI,pI]at hv
              omega)
             simp[lz,g2,z1,z3,z4,gne,aJ,az,ix,mE,uw]
             exact kk
            ·have qj:¬((ds G).length:Int)=1:=by omega
             simp[lz,g2,qj,aJ,az,ix,mE,uw]
             exact kk
      ·have hD:ja d=false:=by simpa using hD
       simp(disch:=first|(simp;done)|omega|(simp only[bB,cC,bo];omega)|rfl) [A.b47,cB,cD,eZ,fR,fI,hp,l_,aB,aJ,dp,gl,pM,hA,e1,qf,fV,oF,hD,az]
       exact⟨ab.refl,by simp[kp,gH,hD]⟩
     ·have zaf:ah t=t.length:=by omega
      have fV:¬(ah t:Int)<(t.length:Int):=by omega
      have dE:gH true p false d=true:=by simp[gH,hA,hz]
      have dl0:¬600<d.length:=by omega
      have b7':¬(600:Int)<(t.length:Int)-(ah t:Int)-1:=by omega
      by_cases b6:600<p.length
      ·have b6':(600:Int)<(ah t:Int):=by omega
       simp(disch:=first|(simp;done)|omega|(simp only[bB,cC,bo];omega)|rfl) [A.b47,cB,cD,eZ,fR,fI,hp,l_,aB,aJ,dp,gl,pM,hA,e1,qf,fV,b6',az]
       exact⟨ab.refl,by simp[kp,dE,b6]⟩
      ·have b6':¬(600:Int)<(ah t:Int):=by omega
       simp(disch:=first|(simp;done)|omega|(simp only[bB,cC,bo];omega)|rfl) [A.b47,cB,cD,eZ,fR,fI,hp,l_,aB,aJ,dp,gl,pM,hA,e1,qf,fV,b6',b7',az]
       exact⟨ab.refl,by simp[kp,dE,b6,dl0]⟩
   ·have hA:ja p=false:=by simpa using hA
    simp(disch:=first|(simp;done)|omega|(simp only[bB,cC,bo];omega)|rfl) [A.b47,cB,cD,eZ,fR,fI,hp,l_,aB,aJ,dp,gl,pM,hA,az]
    exact⟨ab.refl,by simp[kp,gH,hA]⟩
  ·have IX:cy (c::t)=false:=by
    simp only[cy,decide_eq_false_iff_not];unfold cK at h45;omega
   obtain⟨t,ht⟩:∃t',t'=c::t:=⟨c::t,rfl⟩
   rw[<-ht]at hl IX ⊢
   have gl:t[0]?=some c:=by rw[ht];rfl
   have dp:t.head?=some c:=by rw[ht];rfl
   have hlen:0<t.length:=by rw[ht];simp
   have pM:t≠[]:=by rw[ht];simp
   have fj:(0:Int)<(t.length:Int):=by omega
   have cB:0<t.length:=hlen
   clear ht
   have dM:bj t=kp false (t.take (ah t)) (decide (ah t<t.length)) (t.drop (ah t+1)):=by
    simp[bj,Kt,bk,IX]
   rw[dM]
   have cD:=fun st=>F7 (s:=t) (st:=st) (by omega)
   have eZ:=fun st=>OD (s:=t.take (ah t)) (st:=st) (by simp;omega)
   have fR:(ah t:Int)<=(t.length:Int):=by have:=FF t;omega
   have fI:ah t<=t.length:=FF t
   have iG:(t.take (ah t)).length=ah t:=by simp;omega
   have iw:(t.drop (ah t+1)).length=t.length-(ah t+1):=by simp
   generalize hp:t.take (ah t)=p at*
   generalize l_:t.drop (ah t+1)=d at*
   by_cases hA:ja p=true
   ·have e1:True:=trivial
    by_cases qf:ah t<t.length
    ·have fV:(ah t:Int)<(t.length:Int):=by omega
     have oF:=fun st=>OD (s:=d) (st:=st) (by omega)
     by_cases hD:ja d=true
     ·by_cases h48:d=[48]
      ·have e8:(d==[48])=true:=by simp[h48]
       simp(disch:=first|(simp;done)|omega|(simp only[bB,cC,bo];omega)|rfl) [-getElem?_pos,A.b47,cB,cD,eZ,fR,fI,hp,l_,aB,aJ,dp,gl,pM,h45,fj,hA,e1,qf,fV,oF,hD,e8,az]
       exact⟨ab.refl,by simp[kp,gH,h48]⟩
      ·have e8:(d==[48])=false:=by simp[h48]
       by_cases zW:d=[49]
       ·have e9:(d==[49])=true:=by simp[zW]
        simp(disch:=first|(simp;done)|omega|(simp only[bB,cC,bo];omega)|rfl) [-getElem?_pos,A.b47,cB,cD,eZ,fR,fI,hp,l_,aB,aJ,dp,gl,pM,h45,fj,hA,e1,qf,fV,oF,hD,e8,e9,az]
        exact⟨ab.refl,by simp[kp,gH,zW]⟩
       ·have e9:(d==[49])=false:=by simp[zW]
        have dE:gH false p true d=true:=by simp[gH,hA,hD,h48,zW]
        by_cases b6:600<p.length
        ·have b6':(600:Int)<(ah t:Int):=by omega
         simp(disch:=first|(simp;done)|omega|(simp only[bB,cC,bo];omega)|rfl) [-getElem?_pos,A.b47,cB,cD,eZ,fR,fI,hp,l_,aB,aJ,dp,gl,pM,h45,fj,hA,e1,qf,fV,oF,hD,e8,e9,b6',az]
         exact⟨ab.refl,by simp[kp,dE,b6]⟩
        ·have b6':¬(600:Int)<(ah t:Int):=by omega
         by_cases b7:600<d.length
         ·have b7':(600:Int)<(t.length:Int)-(ah t:Int)-1:=by omega
          simp(disch:=first|(simp;done)|omega|(simp only[bB,cC,bo];omega)|rfl) [-getElem?_pos,A.b47,cB,cD,eZ,fR,fI,hp,l_,aB,aJ,dp,gl,pM,h45,fj,hA,e1,qf,fV,oF,hD,e8,e9,b6',b7',az]
          exact⟨ab.refl,by simp[kp,dE,b6,b7]⟩
         ·have b7':¬(600:Int)<(t.length:Int)-(ah t:Int)-1:=by omega
          obtain⟨pa,pb⟩:=SU hA
          obtain⟨da,db⟩:=SU hD
          simp(disch:=first|(simp;done)|omega|(simp only[bB,cC,bo];omega)|rfl) [-getElem?_pos,A.b47,cB,cD,eZ,fR,fI,hp,l_,aB,aJ,dp,gl,pM,h45,fj,hA,e1,qf,fV,oF,hD,e8,e9,b6',b7']
          refine ay (Ztb qf (by rw[hp];exact pa) (by rw[l_];exact da) (by rw[hp];exact pb) (by rw[l_];exact db) (by omega)) ?_
          rintro v1 h1 n1 k1 ⟨x,y,rfl,hx,hy⟩
          rw[hp]at hx
          rw[l_]at hy
          have yq:=(Sl.form hx).one
          have qO:=(Sl.form hy).one
          unfold V.one at yq qO
          have kx:=((((ab.refl (h:=h1) (n:=n1)).new (.cells [.bool false,.aa] 143 true)).new (.cells [.bool false,.aa] 143 true)).set (i:=n1) (o:=.cells [.bool false,x] 143 true) (aO n1)).set (i:=n1+1) (o:=.cells [.bool false,y] 143 true) (by omega)
          simp[ae,bD,yq,qO]
          refine ay (SP (hx.ad kx) (hy.ad kx) (SW pa (by omega)) (SW da (by omega))) ?_
          rintro z h2 n2 k2 eg
          have kk:=(k1.trans kx).trans k2
          have lz:=eg.len
          rw[gJ]at lz
          have ix:¬n1<N:=by have:=k1.le;omega
          have mE:¬n1+1<N:=by have:=k1.le;omega
          generalize hG:Nat.gcd (aF p) (aF d)=G at*
          by_cases g1:G=1
          ·subst g1
           rw[SV]at lz
           obtain⟨b1,b2,b3,b4,b5,z1,z2,z3,z4⟩:=Sl.at (show Sl h2 n2 z (dI [1]) from SV▸eg) (j:=0) (x:=.int .i64 1) rfl
           simp at z4
           simp[lz,z1,z3,z4,aJ,az,ix,mE]
           exact⟨kk,by simp[kp,dE,b6,b7,hG]⟩
          ·have uw:kp false p true d=1:=by simp[kp,dE,b6,b7,hG,g1]
           by_cases g2:(ds G).length=1
           ·obtain⟨gx,O0⟩:=a_ (l:=ds G) (k:=0) (by omega)
            obtain⟨b1,b2,b3,b4,b5,z1,z2,z3,z4⟩:=Sl.at (show Sl h2 n2 z (dI (ds G)) from eg) (gK O0)
            simp at z4
            have gne:¬gx=1:=fun hc=>g1 (by
             have hv:=gF G
             rw[OI O0,qh (by omega)]at hv
             simp[vI,pI]at hv
             omega)
            simp[lz,g2,z1,z3,z4,gne,aJ,az,ix,mE,uw]
            exact kk
           ·have qj:¬((ds G).length:Int)=1:=by omega
            simp[lz,g2,qj,aJ,az,ix,mE,uw]
            exact kk
     ·have hD:ja d=false:=by simpa using hD
      simp(disch:=first|(simp;done)|omega|(simp only[bB,cC,bo];omega)|rfl) [-getElem?_pos,A.b47,cB,cD,eZ,fR,fI,hp,l_,aB,aJ,dp,gl,pM,h45,fj,hA,e1,qf,fV,oF,hD,az]
      exact⟨ab.refl,by simp[kp,gH,hD]⟩
    ·have zaf:ah t=t.length:=by omega
     have fV:¬(ah t:Int)<(t.length:Int):=by omega
     have dE:gH false p false d=true:=by simp[gH,hA]
     have dl0:¬600<d.length:=by omega
     have b7':¬(600:Int)<(t.length:Int)-(ah t:Int)-1:=by omega
     by_cases b6:600<p.length
     ·have b6':(600:Int)<(ah t:Int):=by omega
      simp(disch:=first|(simp;done)|omega|(simp only[bB,cC,bo];omega)|rfl) [-getElem?_pos,A.b47,cB,cD,eZ,fR,fI,hp,l_,aB,aJ,dp,gl,pM,h45,fj,hA,e1,qf,fV,b6',az]
      exact⟨ab.refl,by simp[kp,dE,b6]⟩
     ·have b6':¬(600:Int)<(ah t:Int):=by omega
      simp(disch:=first|(simp;done)|omega|(simp only[bB,cC,bo];omega)|rfl) [-getElem?_pos,A.b47,cB,cD,eZ,fR,fI,hp,l_,aB,aJ,dp,gl,pM,h45,fj,hA,e1,qf,fV,b6',b7',az]
      exact⟨ab.refl,by simp[kp,dE,b6,dl0]⟩
   ·have hA:ja p=false:=by simpa using hA
    simp(disch:=first|(simp;done)|omega|(simp only[bB,cC,bo];omega)|rfl) [-getElem?_pos,A.b47,cB,cD,eZ,fR,fI,hp,l_,aB,aJ,dp,gl,pM,h45,fj,hA,az]
    exact⟨ab.refl,by simp[kp,gH,hA]⟩
end
end Go.Mx
