/-lensletref01-/
import Derived.Test.YtfeehbdhikiikaaGreatDoorRcC
set_option linter.all false
namespace Go.Mx
variable{A0 x:Int}{HP l:List Int}{a b i k la n2 r:Nat}{h h2:T O}{u u0 v:V}
noncomputable section
open Go Go.Proofs
variable {N:Nat}
set_option maxRecDepth 1000000
def RD{N n2:Nat}(h:N<=n2):∀{w:List Nat},az n2 w=[]->az N w=[]
 |[],_=>rfl
 |i::w,hw=>by
  simp only[az]at hw ⊢
  by_cases h1:i<n2
  ·rw[av h1]at hw
   unfold xh at hw
   split at hw
   ·rename_i hc
    rw[hw]at hc;simp at hc
   ·cases hw
  ·rw[ak h1]at hw
   rw[ak (by omega)]
   exact RD h hw
def Zv1{w:List Nat}(hr:h.get i=some (.cells [] 3 true))(hs:Sl h N v (dI l))(aX:l≠[])(hl:l.length<1099511627776):
  mR ⟨h,N,w⟩ 1 8 3 (.slice i 0 0 (some 0) 1) v=some (.slice N 0 l.length none 1,⟨h.set N (.cells (dI l) 3 true),N+1,w⟩):=by
 have h0:l.length≠0:=fun hc=>aX (tC hc);have kj:=Yvp (w:=w) hs;rw[jo]at kj;have hb:¬(Ae<(2*(0+l.length)+1000)*8):=by unfold Ae;omega
 simp only[mR,kj];rw[ak h0,ak (by rintro(h|h|h)<;>omega)];simp only[St.row,hr];rw[ak (by omega)];simp[aO,St.alloc]
def Yoj(k:Nat):pI k=((1000000000^k:Nat):Int):=by unfold pI;simp
def Zp0(h:(ds b).length=k+1):∃x,(ds b)[k]?=some x/\0<x/\x<1000000000/\pI k*x<=b/\(b:Int)<pI k*(x+1):=by
 have hb:b≠0:=fun hc=>by rw[hc,ve]at h;simp at h
 obtain⟨x,hx,jP⟩:=Yth hb;rw[h,Nat.add_sub_cancel]at hx;have hd:=(iB b).get hx;have hv:=iJ b;rw[RB hx,Df (by omega),vI,Int.mul_zero,Int.add_zero]at hv;have h1:=xD ((iB b).take k);have h2:=xE ((iB b).take k);rw[iV,rP (by omega)]at h2;have h3:pI k*(x+1)=pI k*x+pI k:=by grind
 exact⟨x,hx,jP,hd.2,by omega,by omega⟩
def Yrp(h:(ds b).length=k+1)(hx:(ds b)[k]?=some x):∃f:Nat,(f:Int)=1000000000/(x+1)/\0<f/\f<1000000000/\(ds (b*f)).length=k+1/\∃y,(ds (b*f))[k]?=some y/\500000000<=y:=by
 obtain⟨x',kO,x0,x1,lo,hi⟩:=Zp0 h;obtain rfl:x=x':=px (hx.symm.trans kO);have hd:(x+1)*(1000000000/(x+1))+1000000000%(x+1)=1000000000:=Gy ..;have gI:0<=1000000000%(x+1):=Gu _ (by omega);have Hk:1000000000%(x+1)<x+1:=Gz _ (by omega);have hh:=Ygk (x:=x) (by omega) x1;have f0:0<1000000000/(x+1):=by apply Mk;intro hc;have:=Int.mul_nonpos_of_nonneg_of_nonpos (a:=x) (by omega) hc;omega
 have f1:1000000000/(x+1)<1000000000:=Int.ediv_lt_of_lt_mul (by omega) (by omega);obtain⟨f,hf⟩:=Gx (wx f0);rw[hf]at hd hh f0 f1;have hp:=EK k;have ME:((b*f:Nat):Int)=(b:Int)*f:=by simp
 have up:(b:Int)*f<1000000000*pI k:=by
  have g1:(b:Int)*f<pI k*(x+1)*f:=Int.mul_lt_mul_of_pos_right hi f0;have g2:pI k*(x+1)*f=pI k*((x+1)*f):=by grind
  have g3:pI k*((x+1)*f)<=pI k*1000000000:=tD (by omega) (wx hp);omega
 have low:500000000*pI k<=(b:Int)*f:=by
  have g1:pI k*x*f<=(b:Int)*f:=Gs lo (wx f0);have g2:pI k*x*f=pI k*(x*f):=by grind
  have g3:pI k*500000000<=pI k*(x*f):=tD hh (wx hp);omega
 have zbQ:(ds (b*f)).length<=k+1:=Mz (by
  have:((b*f:Nat):Int)<((1000000000^(k+1):Nat):Int):=by rw[<-Yoj,xC,ME];exact up
  exact_mod_cast this);have zbR:(ds b).length<=(ds (b*f)).length:=wC (TS b (by omega));have len:(ds (b*f)).length=k+1:=by omega
 obtain⟨y,hy,y0,y1,ylo,yhi⟩:=Zp0 len;refine⟨f,hf.symm,by omega,by omega,len,y,hy,?_⟩;apply Gt;intro hc;have:pI k*(y+1)<=pI k*500000000:=tD (by omega) (wx hp);omega
def RE(N:Nat)(h2:T O)(n2 la:Nat)(A0:Int)(m:Nat)(r:T V)(st:St):Prop:=az n2 st.w=[]/\ab h2 n2 st.h st.n/\∃u l,r.get 11=some u/\Own 1 3 n2 st.h st.n u (rF l)/\l.length+m=la+1/\vI l=A0/\Di l
def Yk7{r0:T V}(nL:Sl h2 n2 u0 (dI HP))(hla:HP.length=la)(hl:la<1099511627776)(r0e:r0.get 0=some u0):
  ∀m r st,(∀t,kV [(11,11),(63,71)] t=false->r.get t=r0.get t)->Fx [(11,11),(63,71)] r0 206 ⟨r,206,[]⟩->RE N h2 n2 la A0 m r st->Code A.C none A.ph ⟨r,206,[]⟩ st (Rd [(11,11),(63,71)] r0 206 (RE N h2 n2 la A0) m (fun e r st=>e=.exit 0/\RE N h2 n2 la A0 0 r st)):=by
 rintro m r ⟨H,n1,W⟩ hr hf ⟨hW,hK,u,l,fl,ho,hm,hv,hd⟩;simp only at hW hK ho;have lu:=nL.len;rw[jo,hla]at lu;have lo:=ho.len;rw[ER]at lo;rw[bG];cases m with
 |zero=>
  have:¬(l.length:Int)<(la:Int)+1:=by omega
  simp(disch:=first|(simp;done)|omega|rfl) [A.ph,hr,hf,r0e,fl,lu,lo,this];exact⟨hW,hK,u,l,by simp[fl],ho,hm,hv,hd⟩
 |succ m=>
  have h1:(l.length:Int)<(la:Int)+1:=by omega
  have iy:=hK.le;obtain⟨v',h',w',e1,e2,e3,e4,e5⟩:=Az (x:=[.int .i64 0]) (u:=.slice n1 0 1 (some 1) 1) (bytes:=8) (w:=W) (ho.ad (ab.refl.new (.cells [.int .i64 0] 3 true))) (by omega) (by decide) rfl (by simp[fO,St.row,aO]) (by rw[ER];omega);rw[<-GN]at e5;simp(disch:=first|(simp;done)|omega|rfl) [A.ph,hr,hf,r0e,fl,lu,lo,h1,ae,e1];refine⟨m,by omega,⟨by rw[e2];exact hW,((hK.new _).then e3),v',l++[0],by simp,e5,by simp;omega,by rw[EL,hv];simp,hd.app (Di.one (by omega) (by omega))⟩⟩
def Yo4(h:r<1000000000):tH [(r:Int)]=ds r:=JD (Di.one (by omega) (by omega)) (by simp[vI])
def RF(hu:Dn h N u a)(hv:Dn h N v b)(hb:0<b)(hl:(ds a).length<1000000000000)(iC:(ds b).length<1000000000000):Fn A.C 131 [u,v] h N (fun x h' n'=>∃q r,x=.aU [q,r]/\Dn h' n' q (a/b)/\Dn h' n' r (a%b)):=by
 intro w;have lu:=hu.len;have lv:=hv.len;rw[jo]at lu lv;rw[aP,A.k131 (by simp)];by_cases eF:a<b
 ·have iK:DK a b= -1:=by simp[DK,eF]
  have hc:=fun w=>Zyr (w:=w) hu hv (by omega) (by omega);simp[A.b131,hc,iK,ay];refine⟨ab.refl,.aa,u,⟨rfl,rfl⟩,?_,?_⟩
  ·rw[BN eF];unfold Dn;rw[ve];exact Sl.nil
  rw[Ad eF];exact hu
 have hba:b<=a:=by omega
 have nt:=wC hba;have hc:=fun w=>Zyr (w:=w) hu hv (by omega) (by omega);have Fe:¬DK a b<0:=by unfold DK;rw[ak eF];split<;>omega
 have Ni:1<=(ds b).length:=by
  have:ds b≠[]:=fun hc=>by rw[EN]at hc;omega
  exact List.length_pos_iff.2 this
 by_cases hL:(ds b).length=1
 ·obtain⟨x,hx⟩:=bs (l:=ds b) (k:=0) (by omega);have hbx:ds b=[x]:=by
   cases hq:ds b with
   |nil=>rw[hq]at hL;simp at hL
   |cons y l=> rw[hq]at hL hx;simp at hL hx;rw[hL,hx]
  have Dz:=iJ b;rw[hbx]at Dz;simp[vI]at Dz;have RC:=(iB b).get hx;obtain⟨b1,b2,b3,b4,b5,z1,z2,z3,z4⟩:=Sl.at (show Sl h N v (dI (ds b)) from hv) (jq hx);simp at z4;simp[A.b131,hc,Fe,lv,hL,z1,z3,z4];refine au (Zp1 (show Sl h N u (dI (ds a)) from hu) (iB a) (by omega) (by omega) RC.2) ?_;rintro y h1 n1 k1 ⟨q,rfl,hq⟩;rw[iJ]at hq;simp only[iJ];have e1:(a:Int).toNat=a:=by omega
  have e2:x.toNat=b:=by omega
  rw[e1,e2]at hq;rw[e1,e2];have hRb:=m_ a hb;generalize hQ:a/b=Q at*;generalize hR:a%b=R at*;simp[ae];refine au (J4 (l:=[(R:Int)]) (Sl.row (e:=3) (rw:=true) (cp:=some 1) (xx n1) (by simp[dI]) rfl (fun k hk=>by simp at hk;omega)) (by simp)) ?_;rintro y2 h2 n2 k2 zh;rw[Yo4 (by omega)]at zh;have kk:=(ab.refl (h:=h1) (n:=n1)).new (.cells [.int .i64 (R:Int)] 3 true);simp[ay];exact⟨(k1.trans kk).trans k2,q,y2,⟨rfl,rfl⟩,hq.ad (kk.trans k2),zh⟩
 obtain⟨k,hk⟩:∃k,(ds b).length=k+2:=⟨(ds b).length-2,by omega⟩;obtain⟨x,hx⟩:=bs (l:=ds b) (k:=k+1) (by omega);have RC:=(iB b).get hx;obtain⟨f,hf,f0,f1,hlen,y1,rS,VN⟩:=Yrp (k:=k+1) (by omega) hx;obtain⟨b1,b2,b3,b4,b5,z1,z2,z3,z4⟩:=Sl.at (show Sl h N v (dI (ds b)) from hv) (jq hx);have c1:((k:Int)+2-1)=(k:Int)+1:=by omega
 have c3:¬((k:Int)+2=1):=by omega
 have c4:((k:Int)+1).toNat=k+1:=by omega
 have w1:bn .i64 (x+1)=x+1:=cN (by omega) (by omega);have w2:(1000000000:Int).tdiv (x+1)=f:=by rw[hf];exact Dd (by decide)
 have w3:bn .i64 (f:Int)=f:=cN (by omega) (by omega);have c6:¬x+1=0:=by omega
 rw[hk]at lv;simp(disch:=omega) [A.b131,hc,Fe,lv,c1,c3,c4,z1,z3,z4,w1,w2,w3,ae];have k0:=(ab.refl (h:=h) (n:=N)).new (.cells [.int .i64 (f:Int)] 3 true);have uK:Sl (h.set N (.cells [.int .i64 (f:Int)] 3 true)) (N+1) (.slice N 0 1 (some 1) 1) (dI [(f:Int)]):=Sl.row (e:=3) (rw:=true) (xx N) (by simp[dI]) rfl (fun k hk=>by simp at hk;omega);have dF:Di [(f:Int)]:=Di.one (by omega) (by omega);refine au (Zw2 (a:=b) (b:=f) (Sl.ad hv k0) uK (iB b) dF (iJ b) (by simp[vI]) (by simp;omega)) ?_;rintro vv h1 n1 k1 hvv;have gT:=k1.le;have lvv:=hvv.len;have fZ:(ds (b*f)).length=k+2:=by omega
 rw[jo,fZ]at lvv;simp[lvv];have k1a:=(ab.refl (h:=h1) (n:=n1)).new (.cells [] 3 true);refine au (Zw2 (a:=a) (b:=f) (((Sl.ad hu k0).ad k1).ad k1a) ((uK.ad k1).ad k1a) (iB a) dF (iJ a) (by simp[vI]) (by simp;omega)) ?_;rintro uu h2 n2 k2 huu;have jN:=k2.le;have aX:ds (a*f)≠[]:=fun hc=>by rw[EN]at hc;have:0<a*f:=Au (by omega) f0;omega
 have zbS:(ds (a*f)).length<=(ds a).length+1:=by
  apply Mz;have g1:=xE (iB a);rw[iJ,Yoj]at g1;have g2:a<1000000000^(ds a).length:=by exact_mod_cast g1
  rw[iD];exact Dh g2 f1
 have zaR:=(k2.get n1 (by omega)).trans (show _=some (.cells [] 3 true) by simp);have IZ:=Zv1 (w:=[]) zaR huu aX (by omega);simp[IZ];have xZ:N<=n2:=by omega
 have Rp:=(((k0.trans k1).trans k1a).trans k2);refine cB [(11,11),(63,71)] (fun e r st=>e=.exit 0/\RE N h2 n2 (ds a).length ((a*f:Nat):Int) 0 r st) (RE N h2 n2 (ds a).length ((a*f:Nat):Int)) ((ds a).length+1-(ds (a*f)).length) ?_ ?_ ?_
 ·refine⟨by simp,ab.refl.new _,_,ds (a*f),by simp;rfl,⟨fun q hq=>?_,.inr ⟨n2,by rw[ER],aN _,by show n2<n2+1;omega,by simp[Zmr]⟩⟩,by omega,iJ _,iB _⟩;simp[rF]at hq;obtain⟨q',_,rfl⟩:=hq;rfl
 ·exact Yk7 (((Sl.ad hu k0).ad k1).ad k1a |>.ad k2) rfl (by omega) (by simp)
 rintro _ r ⟨H,n3,W⟩ hr ⟨rfl,hW,hK,u3,l,fl,ho,hm,jj,kM⟩;simp only at hW hK ho;obtain⟨_,⟨h0,_⟩|⟨iu,Ng,i1,i2,i3⟩⟩:=ho
 ·simp[rF]at h0;rw[h0]at hm;simp at hm
 rw[ER]at Ng;rw[Zmr]at i3;subst Ng;have LI:l.length=(ds a).length+1:=by omega
 have hka:k+2<l.length:=by omega
 obtain⟨S,hS⟩:∃S,S=l.length-(k+2):=⟨_,rfl⟩;have cS:((l.length:Int)-((k:Int)+2))=(S:Int):=by omega
 have oN:=RD xZ hW;have kH:=hK.new (.cells (dI (List.replicate S 0)) 3 true);have iy:=hK.le;have mz:(du [.int .i64 0] S:List V)=dI (List.replicate S 0):=Ztn;simp(disch:=first|(simp;done)|omega|rfl) [hr,fl,cS,mz];have hvY:=Dn.ad hvv (k1a.trans k2);have zbo:vI l=(a*f:Nat):=jj;refine cB [(13,21),(82,191)] (fun e r st=>e=.exit 2/\RG N h2 n2 iu n3 (n3+1) l.length (k+2) ((a*f:Nat):Int) (ds (b*f)) 0 r st) (RG N h2 n2 iu n3 (n3+1) l.length (k+2) ((a*f:Nat):Int) (ds (b*f))) S ?_ ?_ ?_
 ·refine⟨l,List.replicate S 0,⟨oN,kH,rfl,?_,by simp⟩,by simp,rfl,by simp[hS],by omega,kM,Di.GM _,fun s h1 h2=>by omega,?_,fun s hs=>by simp[hs],by rw[Zsg,jj];simp⟩
  ·rw[T.ag,ak (by omega)];exact i3
  obtain⟨x',kO,x0,x1,lo,hi⟩:=Zp0 (b:=b) (k:=k+1) (by omega);have g1:=xE (iB a);rw[iJ,show (ds a).length=S+(k+1) by omega,T3]at g1;have g2:=O3 l S (by omega);have g3:=xD (kM.take S);have g4:pI (k+1)*1<=pI (k+1)*x':=tD (by omega) (wx (EK _));have g5:pI S*pI (k+1)<=pI S*b:=tD (by omega) (wx (EK _));have g6:(a:Int)*f<pI S*b*f:=Int.mul_lt_mul_of_pos_right (by omega) (by omega);rw[iJ];apply Mk;intro hc;have g7:pI S*((b*f:Nat):Int)<=pI S*vI (l.drop S):=tD hc (wx (EK _));have g8:pI S*((b*f:Nat):Int)=pI S*b*f:=by push_cast;grind
  have g9:((a*f:Nat):Int)=(a:Int)*f:=by push_cast;rfl
  omega
 ·exact Yla hvY fZ (iB _) rS VN hka (by omega) (by simp[hr]) (by simp[hr]) (by simp[fl]) (by simp[hS]) xZ i1 i2 (xx n3)
 rintro _ r4 ⟨H4,n4,W4⟩ xc ⟨rfl,U,Q,⟨DF,Nj,RH,RI,RJ⟩,wF,hUl,hQl,_,dU,dQ,hz,zq,_,nv⟩;simp only at DF Nj RH RI RJ;subst RH;rw[Bx]at zq;rw[iJ]at zq nv;obtain⟨qn,hqn⟩:=Gx (xD dQ);obtain⟨un,hun⟩:=Gx (xD dU);rw[hqn,hun]at nv;rw[hun]at zq;have CN:un+b*f*qn=a*f:=by exact_mod_cast nv
 have Ak:un<b*f:=by exact_mod_cast zq
 have m1:a/b=qn:=by
  have:a*f/(b*f)=qn:=by rw[<-CN,Nat.add_mul_div_left _ _ (by omega),BN Ak,xd]
  rw[<-this,TX _ _ f0]
 have m2:un/f=a%b:=by
  have:a*f%(b*f)=un:=by rw[<-CN,Nat.add_mul_mod_self_left,Ad Ak]
  rw[<-this,OV,Nat.mul_div_cancel _ f0]
 have hsU:Sl H4 (n3+1) (.slice iu 0 l.length none 1) (dI U):=Sl.row (by omega) RI (by simp[hUl]) (fun k hk=>by cases hk);have hsQ:Sl H4 (n3+1) (.slice n3 0 S (some S) 1) (dI Q):=Sl.row (by omega) RJ (by simp[hQl,hS]) (fun k hk=>by simp at hk;omega);obtain⟨v',e1,e2⟩:=LK (w:=[]) hsU (lo:=0) (hi:=k+2) (by omega) (by rw[jo];omega) none (some (.int .i64 ((k+2:Nat):Int))) (.inr ⟨rfl,rfl⟩) (.inl rfl);have e3:((dI U).take (k+2)).drop 0=dI (U.take (k+2)):=by rw[Bx,dI,<-List.map_take];rfl
 rw[e3]at e2;have ck:((k+2:Nat):Int)=(k:Int)+2:=by omega
 rw[ck]at e1;have zaS:=(Nj.get N (by omega)).trans ((k2.get N (by omega)).trans ((show _=h1.get N by simp;omega).trans ((k1.get N (by omega)).trans (show _=some (.cells [.int .i64 (f:Int)] 3 true) by simp))));have zaT:vI (U.take (k+2))=un:=by rw[<-hun];exact(Zh9 (fun t h1 h2=>hz t (by omega) (by omega))).symm
 simp[hr,xc,fl,Ge,aC,e1];refine au (J4 e2 (by simp;omega)) ?_;rintro y5 h5 n5 k5 RK;rw[JD (dU.take _) zaT]at RK;have KH:=k5.le;have RL:=(k5.get N (by omega)).trans zaS;have lt5:N<n5:=by omega
 have lt4:iu<n3+1:=by omega
 have RM:(ds un).length<1099511627776:=by have:(ds un).length<=(ds (b*f)).length:=wC (by omega);omega
 simp[hr,xc,RL];refine au (Zp1 (d:=(f:Int)) RK (iB un) RM (by omega) (by omega)) ?_;rintro y6 h6 n6 k6 ⟨q6,rfl,Q3⟩;have t1:(vI (ds un)).toNat=un:=by rw[iJ];omega
 have t2:((f:Nat):Int).toNat=f:=by omega
 rw[t1,t2]at Q3;rw[m2]at Q3;generalize ((vI (ds un)).toNat%(f:Int).toNat)=ZZ;simp[xc,lt5];refine au (J4 ((hsQ.ad k5).ad k6) (by omega)) ?_;rintro y7 h7 n7 k7 hy7;rw[JD dQ hqn]at hy7;have oN4:az N W4=[]:=DF;have zaU:=(((Rp.trans Nj).trans k5).trans k6).trans k7;simp[ay,oN4];refine⟨zaU,y7,q6,⟨rfl,rfl⟩,?_,?_⟩
 ·rw[m1];exact hy7
 exact Sl.ad Q3 k7
variable {s:aH}
def A.w91:=A.q Tryz.f91
def A.yh:=A.ql A.w91 0 []
def A.b91:=(fun x0=>A.qb A.w91 [x0]) A.yh
def A.k91:=@A.kk 91 19 [.tmp 4] A.b91 (by kernel_rfl) rfl
def A.RN:=A.q Tryz.f129
def A.mJ:=A.ql A.RN 0 []
def A.b129:=(fun x0=>A.qb A.RN [x0]) A.mJ
def A.k129:=@A.kk 129 40 [.cell 2 (some 2)] A.b129 (by kernel_rfl) rfl
def VO(hu:Dn h N u a)(hv:Dn h N v b)(hl:(ds a).length<1000000000000)(iC:(ds b).length<1000000000000):Fn A.C 91 [u,v] h N (fun x h' n'=>Dn h' n' x (Nat.gcd a b)):=by
 intro w;rw[aP,A.k91 (by simp)];simp[A.b91];refine cB [(0,1),(5,17)] (fun e r st=>e=.exit 0/\az N st.w=[]/\ab h N st.h st.n/\∃x,r.get 0=some x/\Dn st.h st.n x (Nat.gcd a b)) (fun m r st=>az N st.w=[]/\ab h N st.h st.n/\∃x y c,r.get 0=some x/\r.get 1=some y/\Dn st.h st.n x c/\Dn st.h st.n y m/\Nat.gcd c m=Nat.gcd a b/\(ds c).length<1000000000000/\(ds m).length<1000000000000) b ?_ ?_ ?_
 ·exact⟨by simp,ab.refl,u,v,a,by simp,by simp,hu,hv,rfl,hl,iC⟩
 ·rintro m r ⟨H,n1,W⟩ hr hf ⟨hW,hK,x,y,c,h0,h1,hx,hy,hg,l1,l2⟩;simp only at hW hK hx hy;have ly:=hy.len;rw[jo]at ly;rw[bG];by_cases hm:m=0
  ·subst hm;have z0:(ds 0).length=0:=by rw[ve];rfl
   rw[z0]at ly;simp at hg;simp[A.yh,hf,h0,h1,ly,hW,hK];rw[<-hg];exact hx
  have aX:(ds m).length≠0:=fun hc=>hm (EN.1 (tC hc));have p1:(0:Int)<((ds m).length:Int):=by omega
  have p2:0<(ds m).length:=by omega
  have p3:ds m≠[]:=fun hc=>aX (by rw[hc];rfl);simp[A.yh,h0,h1,ly,p2];refine au (RF hx hy (by omega) l1 l2) ?_;rintro z h3 n3 k3 ⟨q,r',rfl,hq,Fh⟩;simp[hf,h1,hW];refine⟨c%m,m_ _ (by omega),hK.trans k3,m,hy.ad k3,Fh,?_,l2,?_⟩
  ·rw[<-hg,Nat.gcd_comm c m,Nat.gcd_rec m c,Nat.gcd_comm]
  have:=wC (a:=c%m) (b:=m) (Nat.le_of_lt (m_ _ (by omega)));omega
 rintro _ r ⟨H,n1,W⟩ hr ⟨rfl,hW,hK,x,h0,hx⟩;simp only at hW hK hx;simp[h0,ay,hW,hK];exact hx
def Zz6(x:aH):∀(y:aH),aE (x++y)=aE x*10^y.length+aE y:=by
 have key:∀(y:aH) (n:Nat),y.foldl (fun n (c:UInt8)=>10*n+(c.toNat-48)) n=n*10^y.length+y.foldl (fun n (c:UInt8)=>10*n+(c.toNat-48)) 0:=by
  intro y;induction y with
  |nil=>simp
  |cons c y ih=> intro n;rw[List.foldl_cons,List.foldl_cons,ih,ih (10*0+(c.toNat-48)),bl,iD];grind
 intro y;unfold aE;rw[List.foldl_append,key]
def Zv2(h:cO s=true)(k:Nat):cO (s.take k)=true:=by unfold cO at*;rw[kJ]at*;exact fun c hc=>h c (AG hc)
def VP(h:cO s=true)(k:Nat):cO (s.drop k)=true:=by unfold cO at*;rw[kJ]at*;exact fun c hc=>h c (OX hc)
def VQ(h0:T O)(N:Nat)(s:aH)(m:Nat)(r:T V)(st:St):Prop:=az N st.w=[]/\ab h0 N st.h st.n/\∃cur w l,r.get 0=some (.str cur)/\cur.length=m/\1<=m/\m<=s.length/\cO cur=true/\r.get 4=some w/\Own 1 3 N st.h st.n w (rF l)/\Di l/\l.length+m<=s.length/\vI l+pI l.length*(aE cur:Nat)=(aE s:Nat)
def VS(hd:cO s=true)(h1:1<=s.length)(h2:s.length<=3000000000):Fn A.C 129 [.str s] h N (fun v h' n'=>Rg h' n' v (aE s:Nat)):=by
 intro w;obtain⟨c,hc⟩:=bs (l:=s) (k:=0) (by omega);have rk:=O6 hd hc;have iK:s.head?=some c:=by cases s with
  |nil=>simp at hc
  |cons=>simpa using hc
 have a1:¬cZ c=45:=by omega
 have a2:(0:Int)<(s.length:Int):=by omega
 have a3:0<s.length:=by omega
 have aX:s≠[]:=fun h=>by rw[h]at h1;simp at h1
 rw[aP,A.k129 (by simp)];simp(disch:=first|(simp;done)|omega|rfl) [-getElem?_pos,A.b129,a1,a3,hc];refine cB [(0,0),(4,4),(16,32)] (fun e r st=>e=.exit 0/\∃m,m<=9/\VQ (h.set N (.cells [.bool false,.aa] 80 true)) (N+1) s m r st) (VQ (h.set N (.cells [.bool false,.aa] 80 true)) (N+1) s) s.length ?_ ?_ ?_
 ·exact⟨by simp,ab.refl,s,.aa,[],by simp,rfl,h1,aN _,hd,by simp,Own.nil,Di.nil,by simp,by simp[vI,pI]⟩
 ·rintro m r ⟨H,n1,W⟩ hr hf ⟨hW,hK,cur,u,l,g0,cy,m1,m2,rk,g4,ho,jL,jX,hv⟩;simp only at hW hK ho;subst cy;rw[bG];by_cases h9:9<cur.length
  ·have KO:(9:Int)<(cur.length:Int):=by omega
   have iy:=hK.le;have KP:=Pa (s:=cur.drop (cur.length-9)) (st:=⟨H,n1,W⟩) (VP rk _) (by simp;omega);have Fe:((cur.length:Int)-9).toNat=cur.length-9:=by omega
   have HS:=Dy (VP rk (cur.length-9));have kM:(cur.drop (cur.length-9)).length=9:=by simp;omega
   rw[kM]at HS;have iw:=Zz6 (cur.take (cur.length-9)) (cur.drop (cur.length-9));rw[Et,kM,show (10:Nat)^9=1000000000 by decide]at iw;generalize hD:aE (cur.drop (cur.length-9))=D at*;obtain⟨v',h',w',e1,e2,e3,e4,e5⟩:=Az (x:=[.int .i64 (D:Int)]) (u:=.slice n1 0 1 (some 1) 1) (bytes:=8) (w:=W) (ho.ad (ab.refl.new (.cells [.int .i64 (D:Int)] 3 true))) (by omega) (by decide) rfl (by simp[fO,St.row,aO]) (by rw[ER];omega);rw[<-GN]at e5;simp(disch:=first|(simp;done)|omega|rfl) [A.mJ,hf,g0,g4,KO,Fe,aC,KP,ae,e1];refine⟨cur.length-9,by omega,⟨by rw[e2];exact hW,(hK.new _).then e3,cur.take (cur.length-9),v',l++[(D:Int)],by simp,by simp,by omega,by omega,Zv2 rk _,by simp,e5,jL.app (Di.one (by omega) (by omega)),by simp;omega,?_⟩⟩;rw[EL,iU,AH,xC,<-hv];have KQ:((aE cur:Nat):Int)=(aE (cur.take (cur.length-9)):Nat)*1000000000+D:=by omega
   rw[KQ];generalize ((aE (cur.take (cur.length-9)):Nat):Int)=X;generalize pI l.length=P;grind
  have KO:¬(9:Int)<(cur.length:Int):=by omega
  simp[A.mJ,hf,g0,KO];exact⟨cur.length,by omega,hW,hK,cur,u,l,by simp[g0],rfl,m1,m2,rk,by simp[g4],ho,jL,jX,hv⟩
 rintro _ r ⟨H,n1,W⟩ hr ⟨rfl,m,m9,hW,hK,cur,u,l,g0,cy,m1,m2,rk,g4,ho,jL,jX,hv⟩;simp only at hW hK ho;subst cy;have iy:=hK.le;have KP:=Pa (s:=cur) (st:=⟨H,n1,W⟩) rk (by omega);have HS:=Dy rk;have hp9:=T5 m9;generalize hD:aE cur=D at*;obtain⟨v',h',w',e1,e2,e3,e4,e5⟩:=Az (x:=[.int .i64 (D:Int)]) (u:=.slice n1 0 1 (some 1) 1) (bytes:=8) (w:=W) (ho.ad (ab.refl.new (.cells [.int .i64 (D:Int)] 3 true))) (by omega) (by decide) rfl (by simp[fO,St.row,aO]) (by rw[ER];omega);rw[<-GN]at e5;simp[hr,g0,g4,KP,ae,e1];have nA:Di (l++[(D:Int)]):=jL.app (Di.one (by omega) (by omega));refine au (zn (n:=aE s) e5.sl nA (by rw[EL];exact hv) (by simp;omega)) ?_;rintro y h5 n5 k5 hy;have kk:=((hK.new (.cells [.int .i64 (D:Int)] 3 true)).then e3).trans k5;have xS:=kk.le;have qE:=kk.get N (by omega);simp at qE;obtain⟨u5,rfl,CD⟩:=hy;have KC:=fun c1 (hc:c1.length=2)=>Sl.setInt (i:=N) (c1:=c1) (e1:=80) (w1:=true) CD qE (by intro x hx k m;simp at hx;rcases hx with rfl|rfl<;>simp) hc;have DR:=Sl.form CD |>.one;unfold V.one at DR;have ow:az N w'=[]:=RD (vY N) (by rw[e2];exact hW);have k0:=(ab.refl (h:=h) (n:=N)).new (.cells [.bool false,.aa] 80 true);simp[hr,qE,ae,bM,DR,aS,aO,ay,ow];exact⟨(k0.trans kk).set (aN N),u5,by simp,by simpa[Dn]using KC _ rfl⟩
variable {s:aH}
def A.b50:=A.q Tryz.f50
def A.k50:=@A.kk 50 25 [.cell 2 (some 2),.cell 3 (some 2)] A.b50 (by kernel_rfl) rfl
def A.b20:=A.q Tryz.f20
def A.k20:=@A.kk 20 96 [.tmp 2] A.b20 (by kernel_rfl) rfl
def Zuf(hk:ah s<s.length)(hp:cO (s.take (ah s))=true)(hd:cO (s.drop (ah s+1))=true)(p1:1<=(s.take (ah s)).length)(d1:1<=(s.drop (ah s+1)).length)(hl:s.length<=100000):Fn A.C 50 [.str s] h N (fun v h' n'=>∃x y,v=.aU [.agg [.bool false,x],.agg [.bool false,y]]/\Dn h' n' x (aE (s.take (ah s)))/\Dn h' n' y (aE (s.drop (ah s+1)))):=by
 intro w;rw[aP,A.k50 (by simp)];have cv:=fun st=>GQ (s:=s) (st:=st) (by omega);have c1:¬((ah s:Int)=(s.length:Int)):=by omega
 have c2:¬(ah s=s.length):=by omega
 have c3:(ah s:Int)<=(s.length:Int):=by omega
 have c4:(ah s:Int)+1<=(s.length:Int):=by omega
 have c5:((ah s:Int)+1).toNat=ah s+1:=by omega
 simp[A.b50,cv,c1,c3,aC];refine au (VS hp p1 (by simp;omega)) ?_;rintro v1 h1 n1 k1 ⟨x,rfl,hx⟩;have nx:¬((aE (s.take (ah s)):Nat):Int)<0:=by omega
 simp(disch:=omega) [c5,aC,nx];refine au (VS hd d1 (by simp;omega)) ?_;rintro v2 h2 n2 k2 ⟨y,rfl,hy⟩;have ny:¬((aE (s.drop (ah s+1)):Nat):Int)<0:=by omega
 have gT:=k1.le;have jN:=k2.le;have hx:=Dn.ad hx k2;have r0:=(k2.get N (by omega)).trans (k1.get N (by omega));have r1:=(k2.get (N+1) (by omega)).trans (k1.get (N+1) (by omega));simp at r0 r1;have kr:∀u∈([.bool false,.aa]:List V),∀k n,u≠V.int k n:=by intro u hu k n;simp at hu;rcases hu with rfl|rfl<;>simp
 have zy:=(Sl.form hx).one;have zz:=(Sl.form hy).one;unfold V.one at zy zz;have LD:N<n1:=by omega
 have Of:N<n2:=by omega
 have VT:N+1<n2:=by omega
 have d4':¬N+1=N:=by omega
 simp[r0,r1,ny,ae,bM,zy,zz,LD,Of,VT,aS,aO,c9.c_,ay];have wK:=Sl.setInt (i:=N) (c1:=[.bool false,x]) (e1:=80) (w1:=true) hx r0 kr rfl;have rS:=Sl.setInt (i:=N) (c1:=[.bool false,x]) (e1:=80) (w1:=true) hy r0 kr rfl;have RO:(h2.set N (.cells [.bool false,x] 80 true)).get (N+1)=some (.cells [.bool false,.aa] 80 true):=by rw[T.ag,ak (by omega)];exact r1
 have zH:=Sl.setInt (i:=N+1) (c1:=[.bool false,y]) (e1:=80) (w1:=true) wK RO kr rfl;have zh:=Sl.setInt (i:=N+1) (c1:=[.bool false,y]) (e1:=80) (w1:=true) rS RO kr rfl;have k0:=((ab.refl (h:=h) (n:=N)).new (.cells [.bool false,.aa] 80 true)).new (.cells [.bool false,.aa] 80 true);exact⟨(((k0.trans k1).trans k2).set (aN N)).set (by omega),x,y,⟨rfl,rfl⟩,zH,zh⟩
def VU(h:jK s=true):cO s=true/\1<=s.length:=by
 cases s with
 |nil=>cases h
 |cons c s=> unfold jK at h;rw[gV]at h;exact⟨h.1,by simp⟩
def VV:ds 1=[1]:=by rw[BT (by decide),ve];rfl
def VW(h:cO s=true)(hl:s.length<=100000):(ds (aE s)).length<1000000000000:=by have h1:=Dy h;have h2:(10:Nat)^s.length<=1000000000^s.length:=Jg (by decide) _;have:=Mz (n:=aE s) (k:=s.length) (by omega);omega
def Zrf(hl:s.length<9223372036854775808):Fn A.C 20 [.str s] h N (fun v _ _=>v=.int .i64 (aR s:Nat)):=by
 intro w;rw[aP,A.k20 (by simp)];cases s with
 |nil=> have cv:=fun st=>GQ (s:=[]) (st:=st) (by simp);have fS:=fun st=>O9 (s:=[]) (st:=st) (by simp);simp(disch:=first|(simp;done)|omega|(simp only[bu,cr,bl];omega)|rfl) [-getElem?_pos,A.b20,cv,ah,aC,fS,jK,ay];exact⟨ab.refl,rfl⟩
 |cons c t=>
  by_cases h45:cZ c=45
  ·have eD:aR (c::t)=mr true (t.take (ah t)) (decide (ah t<t.length)) (t.drop (ah t+1)):=by
    have:c.toNat=45:=by unfold cZ at h45;omega
    simp[aR,J0,cE,bm,this]
   rw[eD];have cJ:(0:Int)<(t.length:Int)+1:=by omega
   have cW:∀st:St,uS st (some (.str (c::t))) (some (some (.int .i64 1))) (some none)=some (.str t,st):=fun st=>by rw[HJ (by omega) (by simp only[bl];omega)];rfl
   have cv:=fun st=>GQ (s:=t) (st:=st) (by simp at hl;omega);have fS:=fun st=>O9 (s:=t.take (ah t)) (st:=st) (by simp at hl ⊢;omega);have gj:(ah t:Int)<=(t.length:Int):=by have:=Ht t;omega
   have gU:ah t<=t.length:=Ht t;have jA:(t.take (ah t)).length=ah t:=by simp;omega
   have kM:(t.drop (ah t+1)).length=t.length-(ah t+1):=by simp
   have dP:=h45;have iK:=h45;have oC:=h45;simp at hl;generalize hp:t.take (ah t)=p at*;generalize nO:t.drop (ah t+1)=d at*;by_cases hA:jK p=true
   ·by_cases hz:p=[48]
    ·have e1:(p==[48])=true:=by simp[hz]
     simp(disch:=first|(simp;done)|omega|(simp only[bu,cr,bl];omega)|rfl) [-getElem?_pos,A.b20,cJ,cW,cv,fS,gj,gU,hp,nO,aC,bz,dP,iK,oC,hA,e1,ay];exact⟨ab.refl,by simp[mr,ij,hz]⟩
    have e1:(p==[48])=false:=by simp[hz]
    by_cases rJ:ah t<t.length
    ·have il:(ah t:Int)<(t.length:Int):=by omega
     have qc:=fun st=>O9 (s:=d) (st:=st) (by omega);by_cases hD:jK d=true
     ·by_cases h48:d=[48]
      ·have e8:(d==[48])=true:=by simp[h48]
       simp(disch:=first|(simp;done)|omega|(simp only[bu,cr,bl];omega)|rfl) [-getElem?_pos,A.b20,cJ,cW,cv,fS,gj,gU,hp,nO,aC,bz,dP,iK,oC,hA,e1,rJ,il,qc,hD,e8,ay];exact⟨ab.refl,by simp[mr,ij,h48]⟩
      have e8:(d==[48])=false:=by simp[h48]
      by_cases A4:d=[49]
      ·have e9:(d==[49])=true:=by simp[A4]
       simp(disch:=first|(simp;done)|omega|(simp only[bu,cr,bl];omega)|rfl) [-getElem?_pos,A.b20,cJ,cW,cv,fS,gj,gU,hp,nO,aC,bz,dP,iK,oC,hA,e1,rJ,il,qc,hD,e8,e9,ay];exact⟨ab.refl,by simp[mr,ij,A4]⟩
      have e9:(d==[49])=false:=by simp[A4]
      have d_:ij true p true d=true:=by simp[ij,hA,hD,h48,A4,hz]
      by_cases b6:600<p.length
      ·have b6':(600:Int)<(ah t:Int):=by omega
       simp(disch:=first|(simp;done)|omega|(simp only[bu,cr,bl];omega)|rfl) [-getElem?_pos,A.b20,cJ,cW,cv,fS,gj,gU,hp,nO,aC,bz,dP,iK,oC,hA,e1,rJ,il,qc,hD,e8,e9,b6',ay];exact⟨ab.refl,by simp[mr,d_,b6]⟩
      have b6':¬(600:Int)<(ah t:Int):=by omega
      by_cases b7:600<d.length
      ·have b7':(600:Int)<(t.length:Int)-(ah t:Int)-1:=by omega
       simp(disch:=first|(simp;done)|omega|(simp only[bu,cr,bl];omega)|rfl) [-getElem?_pos,A.b20,cJ,cW,cv,fS,gj,gU,hp,nO,aC,bz,dP,iK,oC,hA,e1,rJ,il,qc,hD,e8,e9,b6',b7',ay];exact⟨ab.refl,by simp[mr,d_,b6,b7]⟩
      have b7':¬(600:Int)<(t.length:Int)-(ah t:Int)-1:=by omega
      obtain⟨pa,pb⟩:=VU hA;obtain⟨da,db⟩:=VU hD;simp(disch:=first|(simp;done)|omega|(simp only[bu,cr,bl];omega)|rfl) [-getElem?_pos,A.b20,cJ,cW,cv,fS,gj,gU,hp,nO,aC,bz,dP,iK,oC,hA,e1,rJ,il,qc,hD,e8,e9,b6',b7'];refine au (Zuf rJ (by rw[hp];exact pa) (by rw[nO];exact da) (by rw[hp];exact pb) (by rw[nO];exact db) (by omega)) ?_;rintro v1 h1 n1 k1 ⟨x,y,rfl,hx,hy⟩;rw[hp]at hx;rw[nO]at hy;have zy:=(Sl.form hx).one;have zz:=(Sl.form hy).one;unfold V.one at zy zz;have kx:=((((ab.refl (h:=h1) (n:=n1)).new (.cells [.bool false,.aa] 80 true)).new (.cells [.bool false,.aa] 80 true)).set (i:=n1) (o:=.cells [.bool false,x] 80 true) (aN n1)).set (i:=n1+1) (o:=.cells [.bool false,y] 80 true) (by omega);simp(disch:=first|(simp;done)|omega|(simp only[bu,cr,bl];omega)|rfl) [-getElem?_pos,ae,bM,zy,zz];refine au (VO (hx.ad kx) (hy.ad kx) (VW pa (by omega)) (VW da (by omega))) ?_;rintro z h2 n2 k2 er;have kk:=(k1.trans kx).trans k2;have lz:=er.len;rw[jo]at lz;have jC:¬n1<N:=by have:=k1.le;omega
      have nY:¬n1+1<N:=by have:=k1.le;omega
      generalize hG:Nat.gcd (aE p) (aE d)=G at*;by_cases g1:G=1
      ·subst g1;rw[VV]at lz;obtain⟨b1,b2,b3,b4,b5,z1,z2,z3,z4⟩:=Sl.at (show Sl h2 n2 z (dI [1]) from VV▸er) (j:=0) (x:=.int .i64 1) rfl;simp at z4;simp(disch:=first|(simp;done)|omega|(simp only[bu,cr,bl];omega)|rfl) [-getElem?_pos,lz,z1,z3,z4,bz,ay,jC,nY];exact⟨kk,by simp[mr,d_,b6,b7,hG]⟩
      have vF:mr true p true d=1:=by simp[mr,d_,b6,b7,hG,g1]
      by_cases g2:(ds G).length=1
      ·obtain⟨gx,RP⟩:=bs (l:=ds G) (k:=0) (by omega);obtain⟨b1,b2,b3,b4,b5,z1,z2,z3,z4⟩:=Sl.at (show Sl h2 n2 z (dI (ds G)) from er) (jq RP);simp at z4;have gne:¬gx=1:=fun hc=>g1 (by have hv:=iJ G;rw[RB RP,Df (by omega)]at hv;simp[vI,pI]at hv;omega);simp(disch:=first|(simp;done)|omega|(simp only[bu,cr,bl];omega)|rfl) [-getElem?_pos,lz,g2,z1,z3,z4,gne,bz,ay,jC,nY,vF];exact kk
      have zW:¬((ds G).length:Int)=1:=by omega
      simp(disch:=first|(simp;done)|omega|(simp only[bu,cr,bl];omega)|rfl) [-getElem?_pos,lz,g2,zW,bz,ay,jC,nY,vF];exact kk
     have hD:jK d=false:=by simpa using hD
     simp(disch:=first|(simp;done)|omega|(simp only[bu,cr,bl];omega)|rfl) [-getElem?_pos,A.b20,cJ,cW,cv,fS,gj,gU,hp,nO,aC,bz,dP,iK,oC,hA,e1,rJ,il,qc,hD,ay];exact⟨ab.refl,by simp[mr,ij,hD]⟩
    have zaV:ah t=t.length:=by omega
    have il:¬(ah t:Int)<(t.length:Int):=by omega
    have d_:ij true p false d=true:=by simp[ij,hA,hz]
    have dl0:¬600<d.length:=by omega
    have b7':¬(600:Int)<(t.length:Int)-(ah t:Int)-1:=by omega
    by_cases b6:600<p.length
    ·have b6':(600:Int)<(ah t:Int):=by omega
     simp(disch:=first|(simp;done)|omega|(simp only[bu,cr,bl];omega)|rfl) [-getElem?_pos,A.b20,cJ,cW,cv,fS,gj,gU,hp,nO,aC,bz,dP,iK,oC,hA,e1,rJ,il,b6',ay];exact⟨ab.refl,by simp[mr,d_,b6]⟩
    have b6':¬(600:Int)<(ah t:Int):=by omega
    simp(disch:=first|(simp;done)|omega|(simp only[bu,cr,bl];omega)|rfl) [-getElem?_pos,A.b20,cJ,cW,cv,fS,gj,gU,hp,nO,aC,bz,dP,iK,oC,hA,e1,rJ,il,b6',b7',ay];exact⟨ab.refl,by simp[mr,d_,b6,dl0]⟩
   have hA:jK p=false:=by simpa using hA
   simp(disch:=first|(simp;done)|omega|(simp only[bu,cr,bl];omega)|rfl) [-getElem?_pos,A.b20,cJ,cW,cv,fS,gj,gU,hp,nO,aC,bz,dP,iK,oC,hA,ay];exact⟨ab.refl,by simp[mr,ij,hA]⟩
  have C0:cE (c::t)=false:=by simp only[cE,decide_eq_false_iff_not];unfold cZ at h45;omega
  obtain⟨t,ht⟩:∃t',t'=c::t:=⟨c::t,rfl⟩;rw[<-ht]at hl C0 ⊢;have iK:t[0]?=some c:=by rw[ht];rfl
  have dP:t.head?=some c:=by rw[ht];rfl
  have hlen:0<t.length:=by rw[ht];simp
  have oC:t≠[]:=by rw[ht];simp
  have fZ:(0:Int)<(t.length:Int):=by omega
  have cJ:0<t.length:=hlen;have cW:True:=trivial;clear ht;have eD:aR t=mr false (t.take (ah t)) (decide (ah t<t.length)) (t.drop (ah t+1)):=by simp[aR,J0,bm,C0]
  rw[eD];have cv:=fun st=>GQ (s:=t) (st:=st) (by omega);have fS:=fun st=>O9 (s:=t.take (ah t)) (st:=st) (by simp;omega);have gj:(ah t:Int)<=(t.length:Int):=by have:=Ht t;omega
  have gU:ah t<=t.length:=Ht t;have jA:(t.take (ah t)).length=ah t:=by simp;omega
  have kM:(t.drop (ah t+1)).length=t.length-(ah t+1):=by simp
  generalize hp:t.take (ah t)=p at*;generalize nO:t.drop (ah t+1)=d at*;by_cases hA:jK p=true
  ·have e1:True:=trivial;by_cases rJ:ah t<t.length
   ·have il:(ah t:Int)<(t.length:Int):=by omega
    have qc:=fun st=>O9 (s:=d) (st:=st) (by omega);by_cases hD:jK d=true
    ·by_cases h48:d=[48]
     ·have e8:(d==[48])=true:=by simp[h48]
      simp(disch:=first|(simp;done)|omega|(simp only[bu,cr,bl];omega)|rfl) [-getElem?_pos,A.b20,cJ,cW,cv,fS,gj,gU,hp,nO,aC,bz,dP,iK,oC,h45,fZ,hA,e1,rJ,il,qc,hD,e8,ay];exact⟨ab.refl,by simp[mr,ij,h48]⟩
     have e8:(d==[48])=false:=by simp[h48]
     by_cases A4:d=[49]
     ·have e9:(d==[49])=true:=by simp[A4]
      simp(disch:=first|(simp;done)|omega|(simp only[bu,cr,bl];omega)|rfl) [-getElem?_pos,A.b20,cJ,cW,cv,fS,gj,gU,hp,nO,aC,bz,dP,iK,oC,h45,fZ,hA,e1,rJ,il,qc,hD,e8,e9,ay];exact⟨ab.refl,by simp[mr,ij,A4]⟩
     have e9:(d==[49])=false:=by simp[A4]
     have d_:ij false p true d=true:=by simp[ij,hA,hD,h48,A4]
     by_cases b6:600<p.length
     ·have b6':(600:Int)<(ah t:Int):=by omega
      simp(disch:=first|(simp;done)|omega|(simp only[bu,cr,bl];omega)|rfl) [-getElem?_pos,A.b20,cJ,cW,cv,fS,gj,gU,hp,nO,aC,bz,dP,iK,oC,h45,fZ,hA,e1,rJ,il,qc,hD,e8,e9,b6',ay];exact⟨ab.refl,by simp[mr,d_,b6]⟩
     have b6':¬(600:Int)<(ah t:Int):=by omega
     by_cases b7:600<d.length
     ·have b7':(600:Int)<(t.length:Int)-(ah t:Int)-1:=by omega
      simp(disch:=first|(simp;done)|omega|(simp only[bu,cr,bl];omega)|rfl) [-getElem?_pos,A.b20,cJ,cW,cv,fS,gj,gU,hp,nO,aC,bz,dP,iK,oC,h45,fZ,hA,e1,rJ,il,qc,hD,e8,e9,b6',b7',ay];exact⟨ab.refl,by simp[mr,d_,b6,b7]⟩
     have b7':¬(600:Int)<(t.length:Int)-(ah t:Int)-1:=by omega
     obtain⟨pa,pb⟩:=VU hA;obtain⟨da,db⟩:=VU hD;simp(disch:=first|(simp;done)|omega|(simp only[bu,cr,bl];omega)|rfl) [-getElem?_pos,A.b20,cJ,cW,cv,fS,gj,gU,hp,nO,aC,bz,dP,iK,oC,h45,fZ,hA,e1,rJ,il,qc,hD,e8,e9,b6',b7'];refine au (Zuf rJ (by rw[hp];exact pa) (by rw[nO];exact da) (by rw[hp];exact pb) (by rw[nO];exact db) (by omega)) ?_;rintro v1 h1 n1 k1 ⟨x,y,rfl,hx,hy⟩;rw[hp]at hx;rw[nO]at hy;have zy:=(Sl.form hx).one;have zz:=(Sl.form hy).one;unfold V.one at zy zz;have kx:=((((ab.refl (h:=h1) (n:=n1)).new (.cells [.bool false,.aa] 80 true)).new (.cells [.bool false,.aa] 80 true)).set (i:=n1) (o:=.cells [.bool false,x] 80 true) (aN n1)).set (i:=n1+1) (o:=.cells [.bool false,y] 80 true) (by omega);simp(disch:=first|(simp;done)|omega|(simp only[bu,cr,bl];omega)|rfl) [-getElem?_pos,ae,bM,zy,zz];refine au (VO (hx.ad kx) (hy.ad kx) (VW pa (by omega)) (VW da (by omega))) ?_;rintro z h2 n2 k2 er;have kk:=(k1.trans kx).trans k2;have lz:=er.len;rw[jo]at lz;have jC:¬n1<N:=by have:=k1.le;omega
     have nY:¬n1+1<N:=by have:=k1.le;omega
     generalize hG:Nat.gcd (aE p) (aE d)=G at*;by_cases g1:G=1
     ·subst g1;rw[VV]at lz;obtain⟨b1,b2,b3,b4,b5,z1,z2,z3,z4⟩:=Sl.at (show Sl h2 n2 z (dI [1]) from VV▸er) (j:=0) (x:=.int .i64 1) rfl;simp at z4;simp(disch:=first|(simp;done)|omega|(simp only[bu,cr,bl];omega)|rfl) [-getElem?_pos,lz,z1,z3,z4,bz,ay,jC,nY];exact⟨kk,by simp[mr,d_,b6,b7,hG]⟩
     have vF:mr false p true d=1:=by simp[mr,d_,b6,b7,hG,g1]
     by_cases g2:(ds G).length=1
     ·obtain⟨gx,RP⟩:=bs (l:=ds G) (k:=0) (by omega);obtain⟨b1,b2,b3,b4,b5,z1,z2,z3,z4⟩:=Sl.at (show Sl h2 n2 z (dI (ds G)) from er) (jq RP);simp at z4;have gne:¬gx=1:=fun hc=>g1 (by have hv:=iJ G;rw[RB RP,Df (by omega)]at hv;simp[vI,pI]at hv;omega);simp(disch:=first|(simp;done)|omega|(simp only[bu,cr,bl];omega)|rfl) [-getElem?_pos,lz,g2,z1,z3,z4,gne,bz,ay,jC,nY,vF];exact kk
     have zW:¬((ds G).length:Int)=1:=by omega
     simp(disch:=first|(simp;done)|omega|(simp only[bu,cr,bl];omega)|rfl) [-getElem?_pos,lz,g2,zW,bz,ay,jC,nY,vF];exact kk
    have hD:jK d=false:=by simpa using hD
    simp(disch:=first|(simp;done)|omega|(simp only[bu,cr,bl];omega)|rfl) [-getElem?_pos,A.b20,cJ,cW,cv,fS,gj,gU,hp,nO,aC,bz,dP,iK,oC,h45,fZ,hA,e1,rJ,il,qc,hD,ay];exact⟨ab.refl,by simp[mr,ij,hD]⟩
   have zaV:ah t=t.length:=by omega
   have il:¬(ah t:Int)<(t.length:Int):=by omega
   have d_:ij false p false d=true:=by simp[ij,hA]
   have dl0:¬600<d.length:=by omega
   have b7':¬(600:Int)<(t.length:Int)-(ah t:Int)-1:=by omega
   by_cases b6:600<p.length
   ·have b6':(600:Int)<(ah t:Int):=by omega
    simp(disch:=first|(simp;done)|omega|(simp only[bu,cr,bl];omega)|rfl) [-getElem?_pos,A.b20,cJ,cW,cv,fS,gj,gU,hp,nO,aC,bz,dP,iK,oC,h45,fZ,hA,e1,rJ,il,b6',ay];exact⟨ab.refl,by simp[mr,d_,b6]⟩
   have b6':¬(600:Int)<(ah t:Int):=by omega
   simp(disch:=first|(simp;done)|omega|(simp only[bu,cr,bl];omega)|rfl) [-getElem?_pos,A.b20,cJ,cW,cv,fS,gj,gU,hp,nO,aC,bz,dP,iK,oC,h45,fZ,hA,e1,rJ,il,b6',b7',ay];exact⟨ab.refl,by simp[mr,d_,b6,dl0]⟩
  have hA:jK p=false:=by simpa using hA
  simp(disch:=first|(simp;done)|omega|(simp only[bu,cr,bl];omega)|rfl) [-getElem?_pos,A.b20,cJ,cW,cv,fS,gj,gU,hp,nO,aC,bz,dP,iK,oC,h45,fZ,hA,ay];exact⟨ab.refl,by simp[mr,ij,hA]⟩
def Tj(hl:s.length<=100000):Fn A.C 20 [.str s] h N (fun v _ _=>v=.int .i64 (aR s:Nat)):=Zrf (by omega)
end
end Go.Mx
