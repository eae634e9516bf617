/-lensletref01-/
import Derived.Test.YtlbnjhhebffhdaaGreatDoorRcD
set_option linter.all false
namespace Go.Mx
noncomputable section
open Go Go.Proofs
variable {N:Nat}
set_option maxRecDepth 1000000
def QW{N n2:Nat}(h:N<=n2):∀{w:List Nat},aL n2 w=[]->aL N w=[]
 |[],_=>rfl
 |i::w,hw=>by
  simp only[aL]at hw ⊢
  by_cases h1:i<n2
  ·rw[aR h1]at hw
   unfold xe at hw
   split at hw
   ·rename_i hc
    rw[hw]at hc;simp at hc
   ·cases hw
  ·rw[aA h1]at hw
   rw[aA (by omega)]
   exact QW h hw
def Ztn{h:T O}{i:Nat}{w:List Nat}{v:V}{l:List Int}(hr:h.get i=some (.cells [] 3 true))(hs:Sl h N v (dI l))(cv:l≠[])(hl:l.length<1099511627776):
  tf ⟨h,N,w⟩ 1 8 3 (.slice i 0 0 (some 0) 1) v=some (.slice N 0 l.length none 1,⟨h.set N (.cells (dI l) 3 true),N+1,w⟩):=by
 have h0:l.length≠0:=fun hc=>cv (rz hc)
 have gg:=Yp0 (w:=w) hs
 rw[gp]at gg
 have hb:¬(AU<(2*(0+l.length)+1000)*8):=by unfold AU;omega
 simp only[tf,gg]
 rw[aA h0,aA (by rintro(h|h|h)<;>omega)]
 simp only[St.row,hr]
 rw[aA (by omega)]
 simp[aK,St.alloc]
def Yku(k:Nat):pI k=((1000000000^k:Nat):Int):=by unfold pI;simp
def Zoe{b k:Nat}(h:(ds b).length=k+1):∃x,(ds b)[k]?=some x/\0<x/\x<1000000000/\pI k*x<=b/\(b:Int)<pI k*(x+1):=by
 have hb:b≠0:=fun hc=>by rw[hc,ry]at h;simp at h
 obtain⟨x,hx,oI⟩:=Yof hb
 rw[h,Nat.add_sub_cancel]at hx
 have hd:=(fW b).get hx
 have hv:=ga b
 rw[QT hx,zd (by omega),vI,Int.mul_zero,Int.add_zero]at hv
 have h1:=ux ((fW b).take k)
 have h2:=uy ((fW b).take k)
 rw[j9,oW (by omega)]at h2
 have h3:pI k*(x+1)=pI k*x+pI k:=by grind
 exact⟨x,hx,oI,hd.2,by omega,by omega⟩
def Ymy{b k:Nat}(h:(ds b).length=k+1){x:Int}(hx:(ds b)[k]?=some x):∃f:Nat,(f:Int)=1000000000/(x+1)/\0<f/\f<1000000000/\(ds (b*f)).length=k+1/\∃y,(ds (b*f))[k]?=some y/\500000000<=y:=by
 obtain⟨x',oA,x0,x1,lo,hi⟩:=Zoe h
 obtain rfl:x=x':=rL (hx.symm.trans oA)
 have hd:(x+1)*(1000000000/(x+1))+1000000000%(x+1)=1000000000:=DG ..
 have kh:0<=1000000000%(x+1):=DI _ (by omega)
 have Es:1000000000%(x+1)<x+1:=DH _ (by omega)
 have hh:=Ydh (x:=x) (by omega) x1
 have f0:0<1000000000/(x+1):=by
  apply LC;intro hc
  have:=Int.mul_nonpos_of_nonneg_of_nonpos (a:=x) (by omega) hc
  omega
 have f1:1000000000/(x+1)<1000000000:=Int.ediv_lt_of_lt_mul (by omega) (by omega)
 obtain⟨f,hf⟩:=DC (tr f0)
 rw[hf]at hd hh f0 f1
 have hp:=B8 k
 have hb1:((b*f:Nat):Int)=(b:Int)*f:=by simp
 have up:(b:Int)*f<1000000000*pI k:=by
  have g1:(b:Int)*f<pI k*(x+1)*f:=Int.mul_lt_mul_of_pos_right hi f0
  have g2:pI k*(x+1)*f=pI k*((x+1)*f):=by grind
  have g3:pI k*((x+1)*f)<=pI k*1000000000:=qE (by omega) (tr hp)
  omega
 have low:500000000*pI k<=(b:Int)*f:=by
  have g1:pI k*x*f<=(b:Int)*f:=DD lo (tr f0)
  have g2:pI k*x*f=pI k*(x*f):=by grind
  have g3:pI k*500000000<=pI k*(x*f):=qE hh (tr hp)
  omega
 have zfV:(ds (b*f)).length<=k+1:=LS (by
  have:((b*f:Nat):Int)<((1000000000^(k+1):Nat):Int):=by rw[<-Yku,uw,hb1];exact up
  exact_mod_cast this)
 have zfW:(ds b).length<=(ds (b*f)).length:=tJ (Nat.le_mul_of_pos_right b (by omega))
 have len:(ds (b*f)).length=k+1:=by omega
 obtain⟨y,hy,y0,y1,ylo,yhi⟩:=Zoe len
 refine⟨f,hf.symm,by omega,by omega,len,y,hy,?_⟩
 apply DF
 intro hc
 have:pI k*(y+1)<=pI k*500000000:=qE (by omega) (tr hp)
 omega
def QX(N:Nat)(h2:T O)(n2 la:Nat)(A0:Int)(m:Nat)(r:T V)(st:St):Prop:=aL n2 st.w=[]/\ah h2 n2 st.h st.n/\∃u l,r.get 11=some u/\Own 1 3 n2 st.h st.n u (oO l)/\l.length+m=la+1/\vI l=A0/\Di l
def Yh2{N:Nat}{h2:T O}{n2 la:Nat}{A0:Int}{u0:V}{r0:T V}{Ez:List Int}(l_:Sl h2 n2 u0 (dI Ez))(hla:Ez.length=la)(hl:la<1099511627776)(r0e:r0.get 0=some u0):
  ∀m r st,(∀t,jx [(11,11),(63,71)] t=false->r.get t=r0.get t)->Fx [(11,11),(63,71)] r0 206 ⟨r,206,[]⟩->QX N h2 n2 la A0 m r st->Code A.C none A.mL ⟨r,206,[]⟩ st (Rd [(11,11),(63,71)] r0 206 (QX N h2 n2 la A0) m (fun e r st=>e=.exit 0/\QX N h2 n2 la A0 0 r st)):=by
 rintro m r ⟨H,n1,W⟩ hr hf ⟨hW,hK,u,l,jR,ho,hm,hv,hd⟩
 simp only at hW hK ho
 have lu:=l_.len
 rw[gp,hla]at lu
 have lo:=ho.len
 rw[Cd]at lo
 rw[cn]
 cases m with
 |zero=>
  have:¬(l.length:Int)<(la:Int)+1:=by omega
  simp(disch:=first|(simp;done)|omega|rfl) [A.mL,hr,hf,r0e,jR,lu,lo,this]
  exact⟨hW,hK,u,l,by simp[jR],ho,hm,hv,hd⟩
 |succ m=>
  have h1:(l.length:Int)<(la:Int)+1:=by omega
  have gW:=hK.le
  obtain⟨v',h',w',e1,e2,e3,e4,e5⟩:=Bj (x:=[.int .i64 0]) (u:=.slice n1 0 1 (some 1) 1) (bytes:=8) (w:=W) (ho.ai (ah.refl.new (.cells [.int .i64 0] 3 true))) (by omega) (by decide) rfl (by simp[oL,St.row,aK]) (by rw[Cd];omega)
  rw[<-DU]at e5
  simp(disch:=first|(simp;done)|omega|rfl) [A.mL,hr,hf,r0e,jR,lu,lo,h1,aj,e1]
  refine⟨m,by omega,⟨by rw[e2];exact hW,((hK.new _).then e3),v',l++[0],by simp,e5,by simp;omega,by rw[B9,hv];simp,hd.app (Di.one (by omega) (by omega))⟩⟩
def Yk9{r:Nat}(h:r<1000000000):pP [(r:Int)]=ds r:=HR (Di.one (by omega) (by omega)) (by simp[vI])
def QY{h:T O}{N:Nat}{u v:V}{a b:Nat}(hu:Dn h N u a)(hv:Dn h N v b)(hb:0<b)(hl:(ds a).length<1000000000000)(oG:(ds b).length<1000000000000):Fn A.C 167 [u,v] h N (fun x h' n'=>∃q r,x=.aX [q,r]/\Dn h' n' q (a/b)/\Dn h' n' r (a%b)):=by
 intro w
 have lu:=hu.len
 have lv:=hv.len
 rw[gp]at lu lv
 rw[aZ,A.k167 (by simp)]
 by_cases jb:a<b
 ·have iM:Bk a b= -1:=by simp[Bk,jb]
  have hc:=fun w=>Zvy (w:=w) hu hv (by omega) (by omega)
  simp[A.b167,hc,iM,Ret]
  refine⟨ah.refl,.ziA,u,⟨rfl,rfl⟩,?_,?_⟩
  ·rw[zg jb];unfold Dn;rw[ry];exact Sl.nil
  ·rw[w6 jb];exact hu
 ·have hba:b<=a:=by omega
  have oR:=tJ hba
  have hc:=fun w=>Zvy (w:=w) hu hv (by omega) (by omega)
  have Cz:¬Bk a b<0:=by unfold Bk;rw[aA jb];split<;>omega
  have MO:1<=(ds b).length:=by
   have:ds b≠[]:=fun hc=>by rw[Bz]at hc;omega
   exact List.length_pos_iff.2 this
  by_cases hL:(ds b).length=1
  ·obtain⟨x,hx⟩:=eQ (l:=ds b) (k:=0) (by omega)
   have hbx:ds b=[x]:=by
    cases hq:ds b with
    |nil=>rw[hq]at hL;simp at hL
    |cons y l=>
     rw[hq]at hL hx
     simp at hL hx
     rw[hL,hx]
   have Bb:=ga b
   rw[hbx]at Bb
   simp[vI]at Bb
   have QU:=(fW b).get hx
   obtain⟨b1,b2,b3,b4,b5,z1,z2,z3,z4⟩:=Sl.at (show Sl h N v (dI (ds b)) from hv) (fY hx)
   simp at z4
   simp[A.b167,hc,Cz,lv,hL,z1,z3,z4]
   refine av (Zof (show Sl h N u (dI (ds a)) from hu) (fW a) (by omega) (by omega) QU.2) ?_
   rintro y h1 n1 k1 ⟨q,rfl,hq⟩
   rw[ga]at hq
   simp only[ga]
   have e1:(a:Int).toNat=a:=by omega
   have e2:x.toNat=b:=by omega
   rw[e1,e2]at hq
   rw[e1,e2]
   have hRb:=kf a hb
   generalize hQ:a/b=Q at*
   generalize hR:a%b=R at*
   simp[aj]
   refine av (HP (l:=[(R:Int)]) (Sl.row (e:=3) (rw:=true) (cp:=some 1) (tu n1) (by simp[dI]) rfl (fun k hk=>by simp at hk;omega)) (by simp)) ?_
   rintro y2 h2 n2 k2 vX
   rw[Yk9 (by omega)]at vX
   have kk:=(ah.refl (h:=h1) (n:=n1)).new (.cells [.int .i64 (R:Int)] 3 true)
   simp[Ret]
   exact⟨(k1.trans kk).trans k2,q,y2,⟨rfl,rfl⟩,hq.ai (kk.trans k2),vX⟩
  ·obtain⟨k,hk⟩:∃k,(ds b).length=k+2:=⟨(ds b).length-2,by omega⟩
   obtain⟨x,hx⟩:=eQ (l:=ds b) (k:=k+1) (by omega)
   have QU:=(fW b).get hx
   obtain⟨f,hf,f0,f1,hlen,y1,rN,U0⟩:=Ymy (k:=k+1) (by omega) hx
   obtain⟨b1,b2,b3,b4,b5,z1,z2,z3,z4⟩:=Sl.at (show Sl h N v (dI (ds b)) from hv) (fY hx)
   have c1:((k:Int)+2-1)=(k:Int)+1:=by omega
   have c3:¬((k:Int)+2=1):=by omega
   have c4:((k:Int)+1).toNat=k+1:=by omega
   have w1:bA .i64 (x+1)=x+1:=cH (by omega) (by omega)
   have w2:(1000000000:Int).tdiv (x+1)=f:=by rw[hf];exact AL (by decide)
   have w3:bA .i64 (f:Int)=f:=cH (by omega) (by omega)
   have c6:¬x+1=0:=by omega
   rw[hk]at lv
   simp(disch:=omega) [A.b167,hc,Cz,lv,c1,c3,c4,z1,z3,z4,w1,w2,w3,aj]
   have k0:=(ah.refl (h:=h) (n:=N)).new (.cells [.int .i64 (f:Int)] 3 true)
   have ya:Sl (h.set N (.cells [.int .i64 (f:Int)] 3 true)) (N+1) (.slice N 0 1 (some 1) 1) (dI [(f:Int)]):=Sl.row (e:=3) (rw:=true) (tu N) (by simp[dI]) rfl (fun k hk=>by simp at hk;omega)
   have dF:Di [(f:Int)]:=Di.one (by omega) (by omega)
   refine av (Zuj (a:=b) (b:=f) (Sl.ai hv k0) ya (fW b) dF (ga b) (by simp[vI]) (by simp;omega)) ?_
   rintro vv h1 n1 k1 hvv
   have fC:=k1.le
   have lvv:=hvv.len
   have fy:(ds (b*f)).length=k+2:=by omega
   rw[gp,fy]at lvv
   simp[lvv]
   have k1a:=(ah.refl (h:=h1) (n:=n1)).new (.cells [] 3 true)
   refine av (Zuj (a:=a) (b:=f) (((Sl.ai hu k0).ai k1).ai k1a) ((ya.ai k1).ai k1a) (fW a) dF (ga a) (by simp[vI]) (by simp;omega)) ?_
   rintro uu h2 n2 k2 huu
   have zgl:=k2.le
   have cv:ds (a*f)≠[]:=fun hc=>by
    rw[Bz]at hc
    have:0<a*f:=xM (by omega) f0
    omega
   have zfX:(ds (a*f)).length<=(ds a).length+1:=by
    apply LS
    have g1:=uy (fW a)
    rw[ga,Yku]at g1
    have g2:a<1000000000^(ds a).length:=by exact_mod_cast g1
    rw[fV]
    exact BW g2 f1
   have zeI:=(k2.get n1 (by omega)).trans (show _=some (.cells [] 3 true) by simp)
   have Ow:=Ztn (w:=[]) zeI huu cv (by omega)
   simp[Ow]
   have uZ:N<=n2:=by omega
   have QK:=(((k0.trans k1).trans k1a).trans k2)
   refine Zal [(11,11),(63,71)] (fun e r st=>e=.exit 0/\QX N h2 n2 (ds a).length ((a*f:Nat):Int) 0 r st) (QX N h2 n2 (ds a).length ((a*f:Nat):Int)) ((ds a).length+1-(ds (a*f)).length) ?_ ?_ ?_
   ·refine⟨by simp,ah.refl.new _,_,ds (a*f),by simp;rfl,⟨fun q hq=>?_,.inr ⟨n2,by rw[Cd],Yv5 _,by show n2<n2+1;omega,by simp[Zlp]⟩⟩,by omega,ga _,fW _⟩
    simp[oO]at hq
    obtain⟨q',_,rfl⟩:=hq
    rfl
   ·exact Yh2 (((Sl.ai hu k0).ai k1).ai k1a |>.ai k2) rfl (by omega) (by simp)
   ·rintro _ r ⟨H,n3,W⟩ hr ⟨rfl,hW,hK,u3,l,jR,ho,hm,zgm,hdl⟩
    simp only at hW hK ho
    obtain⟨_,⟨h0,_⟩|⟨iu,ML,i1,i2,i3⟩⟩:=ho
    ·simp[oO]at h0;rw[h0]at hm;simp at hm
    ·rw[Cd]at ML
     rw[Zlp]at i3
     subst ML
     have hlu:l.length=(ds a).length+1:=by omega
     have hka:k+2<l.length:=by omega
     obtain⟨S,hS⟩:∃S,S=l.length-(k+2):=⟨_,rfl⟩
     have cS:((l.length:Int)-((k:Int)+2))=(S:Int):=by omega
     have oN:=QW uZ hW
     have kH:=hK.new (.cells (dI (List.replicate S 0)) 3 true)
     have gW:=hK.le
     have mz:(dr [.int .i64 0] S:List V)=dI (List.replicate S 0):=Zq9
     simp(disch:=first|(simp;done)|omega|rfl) [hr,jR,cS,mz]
     have hvY:=Dn.ai hvv (k1a.trans k2)
     have zfv:vI l=(a*f:Nat):=zgm
     refine Zal [(13,21),(82,191)] (fun e r st=>e=.exit 2/\QZ N h2 n2 iu n3 (n3+1) l.length (k+2) ((a*f:Nat):Int) (ds (b*f)) 0 r st) (QZ N h2 n2 iu n3 (n3+1) l.length (k+2) ((a*f:Nat):Int) (ds (b*f))) S ?_ ?_ ?_
     ·refine⟨l,List.replicate S 0,⟨oN,kH,rfl,?_,by simp⟩,by simp,rfl,by simp[hS],by omega,hdl,Di.DT _,fun s h1 h2=>by omega,?_,fun s hs=>by simp[hs],by rw[Zp9,zgm];simp⟩
      ·rw[T.al,aA (by omega)];exact i3
      ·obtain⟨x',oA,x0,x1,lo,hi⟩:=Zoe (b:=b) (k:=k+1) (by omega)
       have g1:=uy (fW a)
       rw[ga,show (ds a).length=S+(k+1) by omega,Tm]at g1
       have g2:=Of l S (by omega)
       have g3:=ux (hdl.take S)
       have g4:pI (k+1)*1<=pI (k+1)*x':=qE (by omega) (tr (B8 _))
       have g5:pI S*pI (k+1)<=pI S*b:=qE (by omega) (tr (B8 _))
       have g6:(a:Int)*f<pI S*b*f:=Int.mul_lt_mul_of_pos_right (by omega) (by omega)
       rw[ga]
       apply LC
       intro hc
       have g7:pI S*((b*f:Nat):Int)<=pI S*vI (l.drop S):=qE hc (tr (B8 _))
       have g8:pI S*((b*f:Nat):Int)=pI S*b*f:=by push_cast;grind
       have g9:((a*f:Nat):Int)=(a:Int)*f:=by push_cast;rfl
       omega
     ·exact Yh4 hvY fy (fW _) rN U0 hka (by omega) (by simp[hr]) (by simp[hr]) (by simp[jR]) (by simp[hS]) uZ i1 i2 (tu n3)
     ·rintro _ r4 ⟨H4,n4,W4⟩ Bq ⟨rfl,U,Q,⟨J0,MP,Q0,Q1,Q3⟩,tL,hUl,hQl,_,dU,dQ,hz,hdr,_,uS⟩
      simp only at J0 MP Q0 Q1 Q3
      subst Q0
      rw[Au]at hdr
      rw[ga]at hdr uS
      obtain⟨qn,hqn⟩:=DC (ux dQ)
      obtain⟨un,hun⟩:=DC (ux dU)
      rw[hqn,hun]at uS
      rw[hun]at hdr
      have A8:un+b*f*qn=a*f:=by exact_mod_cast uS
      have xh:un<b*f:=by exact_mod_cast hdr
      have m1:a/b=qn:=by
       have:a*f/(b*f)=qn:=by
        rw[<-A8,Nat.add_mul_div_left _ _ (by omega),zg xh,oJ]
       rw[<-this,Tf _ _ f0]
      have m2:un/f=a%b:=by
       have:a*f%(b*f)=un:=by rw[<-A8,Nat.add_mul_mod_self_left,w6 xh]
       rw[<-this,NU,Nat.mul_div_cancel _ f0]
      have hsU:Sl H4 (n3+1) (.slice iu 0 l.length none 1) (dI U):=Sl.row (by omega) Q1 (by simp[hUl]) (fun k hk=>by cases hk)
      have hsQ:Sl H4 (n3+1) (.slice n3 0 S (some S) 1) (dI Q):=Sl.row (by omega) Q3 (by simp[hQl,hS]) (fun k hk=>by simp at hk;omega)
      obtain⟨v',e1,e2⟩:=R6 (w:=[]) hsU (lo:=0) (hi:=k+2) (by omega) (by rw[gp];omega) none (some (.int .i64 ((k+2:Nat):Int))) (.inr ⟨rfl,rfl⟩) (.inl rfl)
      have e3:((dI U).take (k+2)).drop 0=dI (U.take (k+2)):=by rw[Au,dI,<-List.map_take];rfl
      rw[e3]at e2
      have ck:((k+2:Nat):Int)=(k:Int)+2:=by omega
      rw[ck]at e1
      have zeJ:=(MP.get N (by omega)).trans ((k2.get N (by omega)).trans ((show _=h1.get N by simp;omega).trans ((k1.get N (by omega)).trans (show _=some (.cells [.int .i64 (f:Int)] 3 true) by simp))))
      have zeK:vI (U.take (k+2))=un:=by
       rw[<-hun]
       exact(Zg9 (fun t h1 h2=>hz t (by omega) (by omega))).symm
      simp[hr,Bq,jR,Nb,aH,e1]
      refine av (HP e2 (by simp;omega)) ?_
      rintro y5 h5 n5 k5 Q4
      rw[HR (dU.take _) zeK]at Q4
      have Kl:=k5.le
      have Q5:=(k5.get N (by omega)).trans zeJ
      have lt5:N<n5:=by omega
      have lt4:iu<n3+1:=by omega
      have Q6:(ds un).length<1099511627776:=by
       have:(ds un).length<=(ds (b*f)).length:=tJ (by omega)
       omega
      simp[hr,Bq,Q5]
      refine av (Zof (d:=(f:Int)) Q4 (fW un) Q6 (by omega) (by omega)) ?_
      rintro y6 h6 n6 k6 ⟨q6,rfl,Qp⟩
      have t1:(vI (ds un)).toNat=un:=by rw[ga];omega
      have t2:((f:Nat):Int).toNat=f:=by omega
      rw[t1,t2]at Qp
      rw[m2]at Qp
      generalize ((vI (ds un)).toNat%(f:Int).toNat)=ZZ
      simp[Bq,lt5]
      refine av (HP ((hsQ.ai k5).ai k6) (by omega)) ?_
      rintro y7 h7 n7 k7 hy7
      rw[HR dQ hqn]at hy7
      have oN4:aL N W4=[]:=J0
      have zeL:=(((QK.trans MP).trans k5).trans k6).trans k7
      simp[Ret,oN4]
      refine⟨zeL,y7,q6,⟨rfl,rfl⟩,?_,?_⟩
      ·rw[m1];exact hy7
      ·exact Sl.ai Qp k7
variable {s:bj}
def A.Q7:=A.q Tryz.f118
def A.rf:=A.ql A.Q7 0 []
def A.b118:=(fun x0=>A.qb A.Q7 [x0]) A.rf
def A.k118:=@A.kk 118 19 [.tmp 4] A.b118 (by kernel_rfl) rfl
def A.Q8:=A.q Tryz.f119
def A.jH:=A.ql A.Q8 0 []
def A.b119:=(fun x0=>A.qb A.Q8 [x0]) A.jH
def A.k119:=@A.kk 119 40 [.cell 2 (some 2)] A.b119 (by kernel_rfl) rfl
def Zk7{h:T O}{N:Nat}{u v:V}{a b:Nat}(hu:Dn h N u a)(hv:Dn h N v b)(hl:(ds a).length<1000000000000)(oG:(ds b).length<1000000000000):Fn A.C 118 [u,v] h N (fun x h' n'=>Dn h' n' x (Nat.gcd a b)):=by
 intro w
 rw[aZ,A.k118 (by simp)]
 simp[A.b118]
 refine Zal [(0,1),(5,17)] (fun e r st=>e=.exit 0/\aL N st.w=[]/\ah h N st.h st.n/\∃x,r.get 0=some x/\Dn st.h st.n x (Nat.gcd a b)) (fun m r st=>aL N st.w=[]/\ah h N st.h st.n/\∃x y c,r.get 0=some x/\r.get 1=some y/\Dn st.h st.n x c/\Dn st.h st.n y m/\Nat.gcd c m=Nat.gcd a b/\(ds c).length<1000000000000/\(ds m).length<1000000000000) b ?_ ?_ ?_
 ·exact⟨by simp,ah.refl,u,v,a,by simp,by simp,hu,hv,rfl,hl,oG⟩
 ·rintro m r ⟨H,n1,W⟩ hr hf ⟨hW,hK,x,y,c,h0,h1,hx,hy,hg,l1,l2⟩
  simp only at hW hK hx hy
  have ly:=hy.len
  rw[gp]at ly
  rw[cn]
  by_cases hm:m=0
  ·subst hm
   have z0:(ds 0).length=0:=by rw[ry];rfl
   rw[z0]at ly
   simp at hg
   simp[A.rf,hf,h0,h1,ly,hW,hK]
   rw[<-hg];exact hx
  ·have cv:(ds m).length≠0:=fun hc=>hm (Bz.1 (rz hc))
   have p1:(0:Int)<((ds m).length:Int):=by omega
   have p2:0<(ds m).length:=by omega
   have p3:ds m≠[]:=fun hc=>cv (by rw[hc];rfl)
   simp[A.rf,h0,h1,ly,p2]
   refine av (QY hx hy (by omega) l1 l2) ?_
   rintro z h3 n3 k3 ⟨q,r',rfl,hq,lV⟩
   simp[hf,h1,hW]
   refine⟨c%m,kf _ (by omega),hK.trans k3,m,hy.ai k3,lV,?_,l2,?_⟩
   ·rw[<-hg,Nat.gcd_comm c m,Nat.gcd_rec m c,Nat.gcd_comm]
   ·have:=tJ (a:=c%m) (b:=m) (Nat.le_of_lt (kf _ (by omega)));omega
 ·rintro _ r ⟨H,n1,W⟩ hr ⟨rfl,hW,hK,x,h0,hx⟩
  simp only at hW hK hx
  simp[h0,Ret,hW,hK]
  exact hx
def Zxe(x:bj):∀(y:bj),aN (x++y)=aN x*10^y.length+aN y:=by
 have key:∀(y:bj) (n:Nat),y.foldl (fun n (c:UInt8)=>10*n+(c.toNat-48)) n=n*10^y.length+y.foldl (fun n (c:UInt8)=>10*n+(c.toNat-48)) 0:=by
  intro y
  induction y with
  |nil=>simp
  |cons c y ih=>
   intro n
   rw[List.foldl_cons,List.foldl_cons,ih,ih (10*0+(c.toNat-48)),bC,fV]
   grind
 intro y
 unfold aN
 rw[List.foldl_append,key]
def Ztp(h:cO s=true)(k:Nat):cO (s.take k)=true:=by
 unfold cO at*
 rw[uv]at*
 exact fun c hc=>h c (BR hc)
def Zlf(h:cO s=true)(k:Nat):cO (s.drop k)=true:=by
 unfold cO at*
 rw[uv]at*
 exact fun c hc=>h c (List.mem_of_mem_drop hc)
def U5(h0:T O)(N:Nat)(s:bj)(m:Nat)(r:T V)(st:St):Prop:=aL N st.w=[]/\ah h0 N st.h st.n/\∃cur w l,r.get 0=some (.str cur)/\cur.length=m/\1<=m/\m<=s.length/\cO cur=true/\r.get 4=some w/\Own 1 3 N st.h st.n w (oO l)/\Di l/\l.length+m<=s.length/\vI l+pI l.length*(aN cur:Nat)=(aN s:Nat)
def U6(hd:cO s=true)(h1:1<=s.length)(h2:s.length<=3000000000){h:T O}{N:Nat}:Fn A.C 119 [.str s] h N (fun v h' n'=>Rg h' n' v (aN s:Nat)):=by
 intro w
 obtain⟨c,hc⟩:=eQ (l:=s) (k:=0) (by omega)
 have oD:=M7 hd hc
 have iM:s.head?=some c:=by cases s with
  |nil=>simp at hc
  |cons=>simpa using hc
 have a1:¬cX c=45:=by omega
 have a2:(0:Int)<(s.length:Int):=by omega
 have a3:0<s.length:=by omega
 have cv:s≠[]:=fun h=>by rw[h]at h1;simp at h1
 rw[aZ,A.k119 (by simp)]
 simp(disch:=first|(simp;done)|omega|rfl) [-getElem?_pos,A.b119,a1,a3,hc]
 refine Zal [(0,0),(4,4),(16,32)] (fun e r st=>e=.exit 0/\∃m,m<=9/\U5 (h.set N (.cells [.bool false,.ziA] 129 true)) (N+1) s m r st) (U5 (h.set N (.cells [.bool false,.ziA] 129 true)) (N+1) s) s.length ?_ ?_ ?_
 ·exact⟨by simp,ah.refl,s,.ziA,[],by simp,rfl,h1,Yv5 _,hd,by simp,Own.nil,Di.nil,by simp,by simp[vI,pI]⟩
 ·rintro m r ⟨H,n1,W⟩ hr hf ⟨hW,hK,cur,u,l,g0,dW,m1,m2,oD,g4,ho,iG,JA,hv⟩
  simp only at hW hK ho
  subst dW
  rw[cn]
  by_cases h9:9<cur.length
  ·have Ks:(9:Int)<(cur.length:Int):=by omega
   have gW:=hK.le
   have Kt:=M6 (s:=cur.drop (cur.length-9)) (st:=⟨H,n1,W⟩) (Zlf oD _) (by simp;omega)
   have Cz:((cur.length:Int)-9).toNat=cur.length-9:=by omega
   have EE:=A5 (Zlf oD (cur.length-9))
   have hdl:(cur.drop (cur.length-9)).length=9:=by simp;omega
   rw[hdl]at EE
   have hsp:=Zxe (cur.take (cur.length-9)) (cur.drop (cur.length-9))
   rw[AO,hdl,show (10:Nat)^9=1000000000 by decide]at hsp
   generalize hD:aN (cur.drop (cur.length-9))=D at*
   obtain⟨v',h',w',e1,e2,e3,e4,e5⟩:=Bj (x:=[.int .i64 (D:Int)]) (u:=.slice n1 0 1 (some 1) 1) (bytes:=8) (w:=W) (ho.ai (ah.refl.new (.cells [.int .i64 (D:Int)] 3 true))) (by omega) (by decide) rfl (by simp[oL,St.row,aK]) (by rw[Cd];omega)
   rw[<-DU]at e5
   simp(disch:=first|(simp;done)|omega|rfl) [A.jH,hf,g0,g4,Ks,Cz,aH,Kt,aj,e1]
   refine⟨cur.length-9,by omega,⟨by rw[e2];exact hW,(hK.new _).then e3,cur.take (cur.length-9),v',l++[(D:Int)],by simp,by simp,by omega,by omega,Ztp oD _,by simp,e5,iG.app (Di.one (by omega) (by omega)),by simp;omega,?_⟩⟩
   rw[B9,iJ,zf,uw,<-hv]
   have Ku:((aN cur:Nat):Int)=(aN (cur.take (cur.length-9)):Nat)*1000000000+D:=by omega
   rw[Ku]
   generalize ((aN (cur.take (cur.length-9)):Nat):Int)=X
   generalize pI l.length=P
   grind
  ·have Ks:¬(9:Int)<(cur.length:Int):=by omega
   simp[A.jH,hf,g0,Ks]
   exact⟨cur.length,by omega,hW,hK,cur,u,l,by simp[g0],rfl,m1,m2,oD,by simp[g4],ho,iG,JA,hv⟩
 ·rintro _ r ⟨H,n1,W⟩ hr ⟨rfl,m,m9,hW,hK,cur,u,l,g0,dW,m1,m2,oD,g4,ho,iG,JA,hv⟩
  simp only at hW hK ho
  subst dW
  have gW:=hK.le
  have Kt:=M6 (s:=cur) (st:=⟨H,n1,W⟩) oD (by omega)
  have EE:=A5 oD
  have hp9:=R4 m9
  generalize hD:aN cur=D at*
  obtain⟨v',h',w',e1,e2,e3,e4,e5⟩:=Bj (x:=[.int .i64 (D:Int)]) (u:=.slice n1 0 1 (some 1) 1) (bytes:=8) (w:=W) (ho.ai (ah.refl.new (.cells [.int .i64 (D:Int)] 3 true))) (by omega) (by decide) rfl (by simp[oL,St.row,aK]) (by rw[Cd];omega)
  rw[<-DU]at e5
  simp[hr,g0,g4,Kt,aj,e1]
  have km:Di (l++[(D:Int)]):=iG.app (Di.one (by omega) (by omega))
  refine av (vj (n:=aN s) e5.sl km (by rw[B9];exact hv) (by simp;omega)) ?_
  rintro y h5 n5 k5 hy
  have kk:=((hK.new (.cells [.int .i64 (D:Int)] 3 true)).then e3).trans k5
  have xE:=kk.le
  have nW:=kk.get N (by omega)
  simp at nW
  obtain⟨u5,rfl,Ak⟩:=hy
  have Kg:=fun c1 (hc:c1.length=2)=>Sl.setInt (i:=N) (c1:=c1) (e1:=129) (w1:=true) Ak nW (by intro x hx k m;simp at hx;rcases hx with rfl|rfl<;>simp) hc
  have Av:=Sl.form Ak |>.one
  unfold V.one at Av
  have ow:aL N w'=[]:=QW (xS N) (by rw[e2];exact hW)
  have k0:=(ah.refl (h:=h) (n:=N)).new (.cells [.bool false,.ziA] 129 true)
  simp[hr,nW,aj,bM,Av,aI,aK,Ret,ow]
  exact⟨(k0.trans kk).set (Yv5 N),u5,by simp,by simpa[Dn]using Kg _ rfl⟩
variable {s:bj}
def A.b96:=A.q Tryz.f96
def A.k96:=@A.kk 96 25 [.cell 2 (some 2),.cell 3 (some 2)] A.b96 (by kernel_rfl) rfl
def A.b37:=A.q Tryz.f37
def A.k37:=@A.kk 37 96 [.tmp 2] A.b37 (by kernel_rfl) rfl
def Zr1(hk:ak s<s.length)(hp:cO (s.take (ak s))=true)(hd:cO (s.drop (ak s+1))=true)(p1:1<=(s.take (ak s)).length)(d1:1<=(s.drop (ak s+1)).length)(hl:s.length<=100000){h:T O}{N:Nat}:Fn A.C 96 [.str s] h N (fun v h' n'=>∃x y,v=.aX [.agg [.bool false,x],.agg [.bool false,y]]/\Dn h' n' x (aN (s.take (ak s)))/\Dn h' n' y (aN (s.drop (ak s+1)))):=by
 intro w
 rw[aZ,A.k96 (by simp)]
 have de:=fun st=>By (s:=s) (st:=st) (by omega)
 have c1:¬((ak s:Int)=(s.length:Int)):=by omega
 have c2:¬(ak s=s.length):=by omega
 have c3:(ak s:Int)<=(s.length:Int):=by omega
 have c4:(ak s:Int)+1<=(s.length:Int):=by omega
 have c5:((ak s:Int)+1).toNat=ak s+1:=by omega
 simp[A.b96,de,c1,c3,aH]
 refine av (U6 hp p1 (by simp;omega)) ?_
 rintro v1 h1 n1 k1 ⟨x,rfl,hx⟩
 have nx:¬((aN (s.take (ak s)):Nat):Int)<0:=by omega
 simp(disch:=omega) [c5,aH,nx]
 refine av (U6 hd d1 (by simp;omega)) ?_
 rintro v2 h2 n2 k2 ⟨y,rfl,hy⟩
 have ny:¬((aN (s.drop (ak s+1)):Nat):Int)<0:=by omega
 have fC:=k1.le
 have zgl:=k2.le
 have hx:=Dn.ai hx k2
 have r0:=(k2.get N (by omega)).trans (k1.get N (by omega))
 have r1:=(k2.get (N+1) (by omega)).trans (k1.get (N+1) (by omega))
 simp at r0 r1
 have iX:∀u∈([.bool false,.ziA]:List V),∀k n,u≠V.int k n:=by intro u hu k n;simp at hu;rcases hu with rfl|rfl<;>simp
 have wG:=(Sl.form hx).one
 have wH:=(Sl.form hy).one
 unfold V.one at wG wH
 have U7:N<n1:=by omega
 have U8:N<n2:=by omega
 have U9:N+1<n2:=by omega
 have d4':¬N+1=N:=by omega
 simp[r0,r1,ny,aj,bM,wG,wH,U7,U8,U9,aI,aK,b_.chk,Ret]
 have zK:=Sl.setInt (i:=N) (c1:=[.bool false,x]) (e1:=129) (w1:=true) hx r0 iX rfl
 have rN:=Sl.setInt (i:=N) (c1:=[.bool false,x]) (e1:=129) (w1:=true) hy r0 iX rfl
 have Q9:(h2.set N (.cells [.bool false,x] 129 true)).get (N+1)=some (.cells [.bool false,.ziA] 129 true):=by rw[T.al,aA (by omega)];exact r1
 have Mh:=Sl.setInt (i:=N+1) (c1:=[.bool false,y]) (e1:=129) (w1:=true) zK Q9 iX rfl
 have vX:=Sl.setInt (i:=N+1) (c1:=[.bool false,y]) (e1:=129) (w1:=true) rN Q9 iX rfl
 have k0:=((ah.refl (h:=h) (n:=N)).new (.cells [.bool false,.ziA] 129 true)).new (.cells [.bool false,.ziA] 129 true)
 exact⟨(((k0.trans k1).trans k2).set (Yv5 N)).set (by omega),x,y,⟨rfl,rfl⟩,Mh,vX⟩
def Va{s:bj}(h:ij s=true):cO s=true/\1<=s.length:=by
 cases s with
 |nil=>cases h
 |cons c s=>
  unfold ij at h
  rw[jc]at h
  exact⟨h.1,by simp⟩
def Vb:ds 1=[1]:=by rw[xN (by decide),ry];rfl
def Vc(h:cO s=true)(hl:s.length<=100000):(ds (aN s)).length<1000000000000:=by
 have h1:=A5 h
 have h2:(10:Nat)^s.length<=1000000000^s.length:=IB (by decide) _
 have:=LS (n:=aN s) (k:=s.length) (by omega)
 omega
def SO{s:bj}(hl:s.length<9223372036854775808){h:T O}{N:Nat}:Fn A.C 37 [.str s] h N (fun v _ _=>v=.int .i64 (aV s:Nat)):=by
 intro w
 rw[aZ,A.k37 (by simp)]
 cases s with
 |nil=>
  have de:=fun st=>By (s:=[]) (st:=st) (by simp)
  have eN:=fun st=>M4 (s:=[]) (st:=st) (by simp)
  simp(disch:=first|(simp;done)|omega|(simp only[bH,cy,bC];omega)|rfl) [-getElem?_pos,A.b37,de,ak,aH,eN,ij,Ret]
  exact⟨ah.refl,rfl⟩
 |cons c t=>
  by_cases h45:cX c=45
  ·have dN:aV (c::t)=js true (t.take (ak t)) (decide (ak t<t.length)) (t.drop (ak t+1)):=by
    have:c.toNat=45:=by unfold cX at h45;omega
    simp[aV,JB,cF,Zas,this]
   rw[dN]
   have cM:(0:Int)<(t.length:Int)+1:=by omega
   have cK:∀st:St,pR st (some (.str (c::t))) (some (some (.int .i64 1))) (some none)=some (.str t,st):=fun st=>by rw[BC (by omega) (by simp only[bC];omega)];rfl
   have de:=fun st=>By (s:=t) (st:=st) (by simp at hl;omega)
   have eN:=fun st=>M4 (s:=t.take (ak t)) (st:=st) (by simp at hl ⊢;omega)
   have fN:(ak t:Int)<=(t.length:Int):=by have:=BN t;omega
   have fH:ak t<=t.length:=BN t
   have Cq:(t.take (ak t)).length=ak t:=by simp;omega
   have hdl:(t.drop (ak t+1)).length=t.length-(ak t+1):=by simp
   have dt:=h45
   have iM:=h45
   have oE:=h45
   simp at hl
   generalize hp:t.take (ak t)=p at*
   generalize kQ:t.drop (ak t+1)=d at*
   by_cases hA:ij p=true
   ·by_cases hz:p=[48]
    ·have e1:(p==[48])=true:=by simp[hz]
     simp(disch:=first|(simp;done)|omega|(simp only[bH,cy,bC];omega)|rfl) [-getElem?_pos,A.b37,cM,cK,de,eN,fN,fH,hp,kQ,aH,a_,dt,iM,oE,hA,e1,Ret]
     exact⟨ah.refl,by simp[js,fP,hz]⟩
    ·have e1:(p==[48])=false:=by simp[hz]
     by_cases oU:ak t<t.length
     ·have zgh:(ak t:Int)<(t.length:Int):=by omega
      have pw:=fun st=>M4 (s:=d) (st:=st) (by omega)
      by_cases hD:ij d=true
      ·by_cases h48:d=[48]
       ·have e8:(d==[48])=true:=by simp[h48]
        simp(disch:=first|(simp;done)|omega|(simp only[bH,cy,bC];omega)|rfl) [-getElem?_pos,A.b37,cM,cK,de,eN,fN,fH,hp,kQ,aH,a_,dt,iM,oE,hA,e1,oU,zgh,pw,hD,e8,Ret]
        exact⟨ah.refl,by simp[js,fP,h48]⟩
       ·have e8:(d==[48])=false:=by simp[h48]
        by_cases ym:d=[49]
        ·have e9:(d==[49])=true:=by simp[ym]
         simp(disch:=first|(simp;done)|omega|(simp only[bH,cy,bC];omega)|rfl) [-getElem?_pos,A.b37,cM,cK,de,eN,fN,fH,hp,kQ,aH,a_,dt,iM,oE,hA,e1,oU,zgh,pw,hD,e8,e9,Ret]
         exact⟨ah.refl,by simp[js,fP,ym]⟩
        ·have e9:(d==[49])=false:=by simp[ym]
         have dK:fP true p true d=true:=by simp[fP,hA,hD,h48,ym,hz]
         by_cases b6:600<p.length
         ·have b6':(600:Int)<(ak t:Int):=by omega
          simp(disch:=first|(simp;done)|omega|(simp only[bH,cy,bC];omega)|rfl) [-getElem?_pos,A.b37,cM,cK,de,eN,fN,fH,hp,kQ,aH,a_,dt,iM,oE,hA,e1,oU,zgh,pw,hD,e8,e9,b6',Ret]
          exact⟨ah.refl,by simp[js,dK,b6]⟩
         ·have b6':¬(600:Int)<(ak t:Int):=by omega
          by_cases b7:600<d.length
          ·have b7':(600:Int)<(t.length:Int)-(ak t:Int)-1:=by omega
           simp(disch:=first|(simp;done)|omega|(simp only[bH,cy,bC];omega)|rfl) [-getElem?_pos,A.b37,cM,cK,de,eN,fN,fH,hp,kQ,aH,a_,dt,iM,oE,hA,e1,oU,zgh,pw,hD,e8,e9,b6',b7',Ret]
           exact⟨ah.refl,by simp[js,dK,b6,b7]⟩
          ·have b7':¬(600:Int)<(t.length:Int)-(ak t:Int)-1:=by omega
           obtain⟨pa,pb⟩:=Va hA
           obtain⟨da,db⟩:=Va hD
           simp(disch:=first|(simp;done)|omega|(simp only[bH,cy,bC];omega)|rfl) [-getElem?_pos,A.b37,cM,cK,de,eN,fN,fH,hp,kQ,aH,a_,dt,iM,oE,hA,e1,oU,zgh,pw,hD,e8,e9,b6',b7']
           refine av (Zr1 oU (by rw[hp];exact pa) (by rw[kQ];exact da) (by rw[hp];exact pb) (by rw[kQ];exact db) (by omega)) ?_
           rintro v1 h1 n1 k1 ⟨x,y,rfl,hx,hy⟩
           rw[hp]at hx
           rw[kQ]at hy
           have wG:=(Sl.form hx).one
           have wH:=(Sl.form hy).one
           unfold V.one at wG wH
           have kx:=((((ah.refl (h:=h1) (n:=n1)).new (.cells [.bool false,.ziA] 129 true)).new (.cells [.bool false,.ziA] 129 true)).set (i:=n1) (o:=.cells [.bool false,x] 129 true) (Yv5 n1)).set (i:=n1+1) (o:=.cells [.bool false,y] 129 true) (by omega)
           simp(disch:=first|(simp;done)|omega|(simp only[bH,cy,bC];omega)|rfl) [-getElem?_pos,aj,bM,wG,wH]
           refine av (Zk7 (hx.ai kx) (hy.ai kx) (Vc pa (by omega)) (Vc da (by omega))) ?_
           rintro z h2 n2 k2 fK
           have kk:=(k1.trans kx).trans k2
           have lz:=fK.len
           rw[gp]at lz
           have lP:¬n1<N:=by have:=k1.le;omega
           have lG:¬n1+1<N:=by have:=k1.le;omega
           generalize hG:Nat.gcd (aN p) (aN d)=G at*
           by_cases g1:G=1
           ·subst g1
            rw[Vb]at lz
            obtain⟨b1,b2,b3,b4,b5,z1,z2,z3,z4⟩:=Sl.at (show Sl h2 n2 z (dI [1]) from Vb▸fK) (j:=0) (x:=.int .i64 1) rfl
            simp at z4
            simp(disch:=first|(simp;done)|omega|(simp only[bH,cy,bC];omega)|rfl) [-getElem?_pos,lz,z1,z3,z4,a_,Ret,lP,lG]
            exact⟨kk,by simp[js,dK,b6,b7,hG]⟩
           ·have si:js true p true d=1:=by simp[js,dK,b6,b7,hG,g1]
            by_cases g2:(ds G).length=1
            ·obtain⟨gx,Ra⟩:=eQ (l:=ds G) (k:=0) (by omega)
             obtain⟨b1,b2,b3,b4,b5,z1,z2,z3,z4⟩:=Sl.at (show Sl h2 n2 z (dI (ds G)) from fK) (fY Ra)
             simp at z4
             have gne:¬gx=1:=fun hc=>g1 (by
              have hv:=ga G
              rw[QT Ra,zd (by omega)]at hv
              simp[vI,pI]at hv
              omega)
             simp(disch:=first|(simp;done)|omega|(simp only[bH,cy,bC];omega)|rfl) [-getElem?_pos,lz,g2,z1,z3,z4,gne,a_,Ret,lP,lG,si]
             exact kk
            ·have UM:¬((ds G).length:Int)=1:=by omega
             simp(disch:=first|(simp;done)|omega|(simp only[bH,cy,bC];omega)|rfl) [-getElem?_pos,lz,g2,UM,a_,Ret,lP,lG,si]
             exact kk
      ·have hD:ij d=false:=by simpa using hD
       simp(disch:=first|(simp;done)|omega|(simp only[bH,cy,bC];omega)|rfl) [-getElem?_pos,A.b37,cM,cK,de,eN,fN,fH,hp,kQ,aH,a_,dt,iM,oE,hA,e1,oU,zgh,pw,hD,Ret]
       exact⟨ah.refl,by simp[js,fP,hD]⟩
     ·have zeM:ak t=t.length:=by omega
      have zgh:¬(ak t:Int)<(t.length:Int):=by omega
      have dK:fP true p false d=true:=by simp[fP,hA,hz]
      have dl0:¬600<d.length:=by omega
      have b7':¬(600:Int)<(t.length:Int)-(ak t:Int)-1:=by omega
      by_cases b6:600<p.length
      ·have b6':(600:Int)<(ak t:Int):=by omega
       simp(disch:=first|(simp;done)|omega|(simp only[bH,cy,bC];omega)|rfl) [-getElem?_pos,A.b37,cM,cK,de,eN,fN,fH,hp,kQ,aH,a_,dt,iM,oE,hA,e1,oU,zgh,b6',Ret]
       exact⟨ah.refl,by simp[js,dK,b6]⟩
      ·have b6':¬(600:Int)<(ak t:Int):=by omega
       simp(disch:=first|(simp;done)|omega|(simp only[bH,cy,bC];omega)|rfl) [-getElem?_pos,A.b37,cM,cK,de,eN,fN,fH,hp,kQ,aH,a_,dt,iM,oE,hA,e1,oU,zgh,b6',b7',Ret]
       exact⟨ah.refl,by simp[js,dK,b6,dl0]⟩
   ·have hA:ij p=false:=by simpa using hA
    simp(disch:=first|(simp;done)|omega|(simp only[bH,cy,bC];omega)|rfl) [-getElem?_pos,A.b37,cM,cK,de,eN,fN,fH,hp,kQ,aH,a_,dt,iM,oE,hA,Ret]
    exact⟨ah.refl,by simp[js,fP,hA]⟩
  ·have Qm:cF (c::t)=false:=by
    simp only[cF,decide_eq_false_iff_not];unfold cX at h45;omega
   obtain⟨t,ht⟩:∃t',t'=c::t:=⟨c::t,rfl⟩
   rw[<-ht]at hl Qm ⊢
   have iM:t[0]?=some c:=by rw[ht];rfl
   have dt:t.head?=some c:=by rw[ht];rfl
   have hlen:0<t.length:=by rw[ht];simp
   have oE:t≠[]:=by rw[ht];simp
   have fy:(0:Int)<(t.length:Int):=by omega
   have cM:0<t.length:=hlen
   have cK:True:=trivial
   clear ht
   have dN:aV t=js false (t.take (ak t)) (decide (ak t<t.length)) (t.drop (ak t+1)):=by
    simp[aV,JB,Zas,Qm]
   rw[dN]
   have de:=fun st=>By (s:=t) (st:=st) (by omega)
   have eN:=fun st=>M4 (s:=t.take (ak t)) (st:=st) (by simp;omega)
   have fN:(ak t:Int)<=(t.length:Int):=by have:=BN t;omega
   have fH:ak t<=t.length:=BN t
   have Cq:(t.take (ak t)).length=ak t:=by simp;omega
   have hdl:(t.drop (ak t+1)).length=t.length-(ak t+1):=by simp
   generalize hp:t.take (ak t)=p at*
   generalize kQ:t.drop (ak t+1)=d at*
   by_cases hA:ij p=true
   ·have e1:True:=trivial
    by_cases oU:ak t<t.length
    ·have zgh:(ak t:Int)<(t.length:Int):=by omega
     have pw:=fun st=>M4 (s:=d) (st:=st) (by omega)
     by_cases hD:ij d=true
     ·by_cases h48:d=[48]
      ·have e8:(d==[48])=true:=by simp[h48]
       simp(disch:=first|(simp;done)|omega|(simp only[bH,cy,bC];omega)|rfl) [-getElem?_pos,A.b37,cM,cK,de,eN,fN,fH,hp,kQ,aH,a_,dt,iM,oE,h45,fy,hA,e1,oU,zgh,pw,hD,e8,Ret]
       exact⟨ah.refl,by simp[js,fP,h48]⟩
      ·have e8:(d==[48])=false:=by simp[h48]
       by_cases ym:d=[49]
       ·have e9:(d==[49])=true:=by simp[ym]
        simp(disch:=first|(simp;done)|omega|(simp only[bH,cy,bC];omega)|rfl) [-getElem?_pos,A.b37,cM,cK,de,eN,fN,fH,hp,kQ,aH,a_,dt,iM,oE,h45,fy,hA,e1,oU,zgh,pw,hD,e8,e9,Ret]
        exact⟨ah.refl,by simp[js,fP,ym]⟩
       ·have e9:(d==[49])=false:=by simp[ym]
        have dK:fP false p true d=true:=by simp[fP,hA,hD,h48,ym]
        by_cases b6:600<p.length
        ·have b6':(600:Int)<(ak t:Int):=by omega
         simp(disch:=first|(simp;done)|omega|(simp only[bH,cy,bC];omega)|rfl) [-getElem?_pos,A.b37,cM,cK,de,eN,fN,fH,hp,kQ,aH,a_,dt,iM,oE,h45,fy,hA,e1,oU,zgh,pw,hD,e8,e9,b6',Ret]
         exact⟨ah.refl,by simp[js,dK,b6]⟩
        ·have b6':¬(600:Int)<(ak t:Int):=by omega
         by_cases b7:600<d.length
         ·have b7':(600:Int)<(t.length:Int)-(ak t:Int)-1:=by omega
          simp(disch:=first|(simp;done)|omega|(simp only[bH,cy,bC];omega)|rfl) [-getElem?_pos,A.b37,cM,cK,de,eN,fN,fH,hp,kQ,aH,a_,dt,iM,oE,h45,fy,hA,e1,oU,zgh,pw,hD,e8,e9,b6',b7',Ret]
          exact⟨ah.refl,by simp[js,dK,b6,b7]⟩
         ·have b7':¬(600:Int)<(t.length:Int)-(ak t:Int)-1:=by omega
          obtain⟨pa,pb⟩:=Va hA
          obtain⟨da,db⟩:=Va hD
          simp(disch:=first|(simp;done)|omega|(simp only[bH,cy,bC];omega)|rfl) [-getElem?_pos,A.b37,cM,cK,de,eN,fN,fH,hp,kQ,aH,a_,dt,iM,oE,h45,fy,hA,e1,oU,zgh,pw,hD,e8,e9,b6',b7']
          refine av (Zr1 oU (by rw[hp];exact pa) (by rw[kQ];exact da) (by rw[hp];exact pb) (by rw[kQ];exact db) (by omega)) ?_
          rintro v1 h1 n1 k1 ⟨x,y,rfl,hx,hy⟩
          rw[hp]at hx
          rw[kQ]at hy
          have wG:=(Sl.form hx).one
          have wH:=(Sl.form hy).one
          unfold V.one at wG wH
          have kx:=((((ah.refl (h:=h1) (n:=n1)).new (.cells [.bool false,.ziA] 129 true)).new (.cells [.bool false,.ziA] 129 true)).set (i:=n1) (o:=.cells [.bool false,x] 129 true) (Yv5 n1)).set (i:=n1+1) (o:=.cells [.bool false,y] 129 true) (by omega)
          simp(disch:=first|(simp;done)|omega|(simp only[bH,cy,bC];omega)|rfl) [-getElem?_pos,aj,bM,wG,wH]
          refine av (Zk7 (hx.ai kx) (hy.ai kx) (Vc pa (by omega)) (Vc da (by omega))) ?_
          rintro z h2 n2 k2 fK
          have kk:=(k1.trans kx).trans k2
          have lz:=fK.len
          rw[gp]at lz
          have lP:¬n1<N:=by have:=k1.le;omega
          have lG:¬n1+1<N:=by have:=k1.le;omega
          generalize hG:Nat.gcd (aN p) (aN d)=G at*
          by_cases g1:G=1
          ·subst g1
           rw[Vb]at lz
           obtain⟨b1,b2,b3,b4,b5,z1,z2,z3,z4⟩:=Sl.at (show Sl h2 n2 z (dI [1]) from Vb▸fK) (j:=0) (x:=.int .i64 1) rfl
           simp at z4
           simp(disch:=first|(simp;done)|omega|(simp only[bH,cy,bC];omega)|rfl) [-getElem?_pos,lz,z1,z3,z4,a_,Ret,lP,lG]
           exact⟨kk,by simp[js,dK,b6,b7,hG]⟩
          ·have si:js false p true d=1:=by simp[js,dK,b6,b7,hG,g1]
           by_cases g2:(ds G).length=1
           ·obtain⟨gx,Ra⟩:=eQ (l:=ds G) (k:=0) (by omega)
            obtain⟨b1,b2,b3,b4,b5,z1,z2,z3,z4⟩:=Sl.at (show Sl h2 n2 z (dI (ds G)) from fK) (fY Ra)
            simp at z4
            have gne:¬gx=1:=fun hc=>g1 (by
             have hv:=ga G
             rw[QT Ra,zd (by omega)]at hv
             simp[vI,pI]at hv
             omega)
            simp(disch:=first|(simp;done)|omega|(simp only[bH,cy,bC];omega)|rfl) [-getElem?_pos,lz,g2,z1,z3,z4,gne,a_,Ret,lP,lG,si]
            exact kk
           ·have UM:¬((ds G).length:Int)=1:=by omega
            simp(disch:=first|(simp;done)|omega|(simp only[bH,cy,bC];omega)|rfl) [-getElem?_pos,lz,g2,UM,a_,Ret,lP,lG,si]
            exact kk
     ·have hD:ij d=false:=by simpa using hD
      simp(disch:=first|(simp;done)|omega|(simp only[bH,cy,bC];omega)|rfl) [-getElem?_pos,A.b37,cM,cK,de,eN,fN,fH,hp,kQ,aH,a_,dt,iM,oE,h45,fy,hA,e1,oU,zgh,pw,hD,Ret]
      exact⟨ah.refl,by simp[js,fP,hD]⟩
    ·have zeM:ak t=t.length:=by omega
     have zgh:¬(ak t:Int)<(t.length:Int):=by omega
     have dK:fP false p false d=true:=by simp[fP,hA]
     have dl0:¬600<d.length:=by omega
     have b7':¬(600:Int)<(t.length:Int)-(ak t:Int)-1:=by omega
     by_cases b6:600<p.length
     ·have b6':(600:Int)<(ak t:Int):=by omega
      simp(disch:=first|(simp;done)|omega|(simp only[bH,cy,bC];omega)|rfl) [-getElem?_pos,A.b37,cM,cK,de,eN,fN,fH,hp,kQ,aH,a_,dt,iM,oE,h45,fy,hA,e1,oU,zgh,b6',Ret]
      exact⟨ah.refl,by simp[js,dK,b6]⟩
     ·have b6':¬(600:Int)<(ak t:Int):=by omega
      simp(disch:=first|(simp;done)|omega|(simp only[bH,cy,bC];omega)|rfl) [-getElem?_pos,A.b37,cM,cK,de,eN,fN,fH,hp,kQ,aH,a_,dt,iM,oE,h45,fy,hA,e1,oU,zgh,b6',b7',Ret]
      exact⟨ah.refl,by simp[js,dK,b6,dl0]⟩
   ·have hA:ij p=false:=by simpa using hA
    simp(disch:=first|(simp;done)|omega|(simp only[bH,cy,bC];omega)|rfl) [-getElem?_pos,A.b37,cM,cK,de,eN,fN,fH,hp,kQ,aH,a_,dt,iM,oE,h45,fy,hA,Ret]
    exact⟨ah.refl,by simp[js,fP,hA]⟩
def Ycy(hl:s.length<=100000){h:T O}{N:Nat}:Fn A.C 37 [.str s] h N (fun v _ _=>v=.int .i64 (aV s:Nat)):=SO (by omega)
end
end Go.Mx
