/-lensletref01-/
import Derived.Test.YtnkdakmfipgidaaGreatDoorRcD
set_option linter.all false
namespace Go.Mx
noncomputable section
open Go Go.Proofs
variable {N:Nat}
set_option maxRecDepth 1000000
def Zip{N n2:Nat}(h:N<=n2):∀{w:List Nat},ay n2 w=[]->ay N w=[]
 |[],_=>rfl
 |i::w,hw=>by
  simp only[ay]at hw ⊢
  by_cases h1:i<n2
  ·rw[ar h1]at hw
   unfold wG at hw
   split at hw
   ·rename_i hc
    rw[hw]at hc;simp at hc
   ·cases hw
  ·rw[ak h1]at hw
   rw[ak (by omega)]
   exact Zip h hw
def Zvp{h:T O}{i:Nat}{w:List Nat}{v:V}{l:List Int}(hr:h.get i=some (.cells [] 3 true))(hs:Sl h N v (dI l))(aW:l≠[])(hl:l.length<1099511627776):
  mm ⟨h,N,w⟩ 1 8 3 (.slice i 0 0 (some 0) 1) v=some (.slice N 0 l.length none 1,⟨h.set N (.cells (dI l) 3 true),N+1,w⟩):=by
 have h0:l.length≠0:=fun hc=>aW (rS hc);have iY:=Zt (w:=w) hs;rw[iJ]at iY;have hb:¬(wu<(2*(0+l.length)+1000)*8):=by unfold wu;omega
 simp only[mm,iY];rw[ak h0,ak (by rintro(h|h|h)<;>omega)];simp only[St.row,hr];rw[ak (by omega)];simp[aL,St.alloc]
def Yn6(k:Nat):pI k=((1000000000^k:Nat):Int):=by unfold pI;simp
def Zps{b k:Nat}(h:(ds b).length=k+1):∃x,(ds b)[k]?=some x/\0<x/\x<1000000000/\pI k*x<=b/\(b:Int)<pI k*(x+1):=by
 have hb:b≠0:=fun hc=>by rw[hc,uJ]at h;simp at h
 obtain⟨x,hx,fK⟩:=Ysn hb;rw[h,Nat.add_sub_cancel]at hx;have hd:=(ig b).get hx;have hv:=iC b;rw[Q4 hx,wP (by omega),vI,Int.mul_zero,Int.add_zero]at hv;have h1:=wY ((ig b).take k);have h2:=wZ ((ig b).take k);rw[iX,rj (by omega)]at h2;have h3:pI k*(x+1)=pI k*x+pI k:=by grind
 exact⟨x,hx,fK,hd.2,by omega,by omega⟩
def Yq0{b k:Nat}(h:(ds b).length=k+1){x:Int}(hx:(ds b)[k]?=some x):∃f:Nat,(f:Int)=1000000000/(x+1)/\0<f/\f<1000000000/\(ds (b*f)).length=k+1/\∃y,(ds (b*f))[k]?=some y/\500000000<=y:=by
 obtain⟨x',mq,x0,x1,lo,hi⟩:=Zps h;obtain rfl:x=x':=mC (hx.symm.trans mq);have hd:(x+1)*(1000000000/(x+1))+1000000000%(x+1)=1000000000:=Gj ..;have fv:0<=1000000000%(x+1):=Gt _ (by omega);have GX:1000000000%(x+1)<x+1:=Gq _ (by omega);have hh:=Yfv (x:=x) (by omega) x1;have f0:0<1000000000/(x+1):=by apply LI;intro hc;have:=Int.mul_nonpos_of_nonneg_of_nonpos (a:=x) (by omega) hc;omega
 have f1:1000000000/(x+1)<1000000000:=Int.ediv_lt_of_lt_mul (by omega) (by omega);obtain⟨f,hf⟩:=Gn (vN f0);rw[hf]at hd hh f0 f1;have hp:=EF k;have Lh:((b*f:Nat):Int)=(b:Int)*f:=by simp
 have up:(b:Int)*f<1000000000*pI k:=by
  have g1:(b:Int)*f<pI k*(x+1)*f:=Int.mul_lt_mul_of_pos_right hi f0;have g2:pI k*(x+1)*f=pI k*((x+1)*f):=by grind
  have g3:pI k*((x+1)*f)<=pI k*1000000000:=sI (by omega) (vN hp);omega
 have low:500000000*pI k<=(b:Int)*f:=by
  have g1:pI k*x*f<=(b:Int)*f:=Gk lo (vN f0);have g2:pI k*x*f=pI k*(x*f):=by grind
  have g3:pI k*500000000<=pI k*(x*f):=sI hh (vN hp);omega
 have zbL:(ds (b*f)).length<=k+1:=LX (by
  have:((b*f:Nat):Int)<((1000000000^(k+1):Nat):Int):=by rw[<-Yn6,wX,Lh];exact up
  exact_mod_cast this);have zbM:(ds b).length<=(ds (b*f)).length:=vQ (Nat.le_mul_of_pos_right b (by omega));have len:(ds (b*f)).length=k+1:=by omega
 obtain⟨y,hy,y0,y1,ylo,yhi⟩:=Zps len;refine⟨f,hf.symm,by omega,by omega,len,y,hy,?_⟩;apply Gs;intro hc;have:pI k*(y+1)<=pI k*500000000:=sI (by omega) (vN hp);omega
def Q6(N:Nat)(h2:T O)(n2 la:Nat)(A0:Int)(m:Nat)(r:T V)(st:St):Prop:=ay n2 st.w=[]/\ab h2 n2 st.h st.n/\∃u l,r.get 11=some u/\Own 1 3 n2 st.h st.n u (qI l)/\l.length+m=la+1/\vI l=A0/\Di l
def Ykn{N:Nat}{h2:T O}{n2 la:Nat}{A0:Int}{u0:V}{r0:T V}{Ht:List Int}(kj:Sl h2 n2 u0 (dI Ht))(MF:Ht.length=la)(hl:la<1099511627776)(r0e:r0.get 0=some u0):
  ∀m r st,(∀t,kX [(11,11),(63,71)] t=false->r.get t=r0.get t)->Fx [(11,11),(63,71)] r0 206 ⟨r,206,[]⟩->Q6 N h2 n2 la A0 m r st->Code A.C none A.oV ⟨r,206,[]⟩ st (Rd [(11,11),(63,71)] r0 206 (Q6 N h2 n2 la A0) m (fun e r st=>e=.exit 0/\Q6 N h2 n2 la A0 0 r st)):=by
 rintro m r ⟨H,n1,W⟩ hr hf ⟨hW,hK,u,l,mB,ho,hm,hv,hd⟩;simp only at hW hK ho;have lu:=kj.len;rw[iJ,MF]at lu;have lo:=ho.len;rw[EL]at lo;rw[bu];cases m with
 |zero=>
  have:¬(l.length:Int)<(la:Int)+1:=by omega
  simp(disch:=first|(simp;done)|omega|rfl) [A.oV,hr,hf,r0e,mB,lu,lo,this];exact⟨hW,hK,u,l,by simp[mB],ho,hm,hv,hd⟩
 |succ m=>
  have h1:(l.length:Int)<(la:Int)+1:=by omega
  have iG:=hK.le;obtain⟨v',h',w',e1,e2,e3,e4,e5⟩:=A7 (x:=[.int .i64 0]) (u:=.slice n1 0 1 (some 1) 1) (bytes:=8) (w:=W) (ho.ad (ab.refl.new (.cells [.int .i64 0] 3 true))) (by omega) (by decide) rfl (by simp[gb,St.row,aL]) (by rw[EL];omega);rw[<-GI]at e5;simp(disch:=first|(simp;done)|omega|rfl) [A.oV,hr,hf,r0e,mB,lu,lo,h1,ag,e1];refine⟨m,by omega,⟨by rw[e2];exact hW,((hK.new _).then e3),v',l++[0],by simp,e5,by simp;omega,by rw[EG,hv];simp,hd.app (Di.one (by omega) (by omega))⟩⟩
def Yor{r:Nat}(h:r<1000000000):sM [(r:Int)]=ds r:=Jq (Di.one (by omega) (by omega)) (by simp[vI])
def Q7{h:T O}{N:Nat}{u v:V}{a b:Nat}(hu:Dn h N u a)(hv:Dn h N v b)(hb:0<b)(hl:(ds a).length<1000000000000)(il:(ds b).length<1000000000000):Fn A.C 144 [u,v] h N (fun x h' n'=>∃q r,x=.aV [q,r]/\Dn h' n' q (a/b)/\Dn h' n' r (a%b)):=by
 intro w;have lu:=hu.len;have lv:=hv.len;rw[iJ]at lu lv;rw[aN,A.k144 (by simp)];by_cases fX:a<b
 ·have im:Du a b= -1:=by simp[Du,fX]
  have hc:=fun w=>Zx3 (w:=w) hu hv (by omega) (by omega);simp[A.b144,hc,im,ax];refine⟨ab.refl,.aa,u,⟨rfl,rfl⟩,?_,?_⟩
  ·rw[Bt fX];unfold Dn;rw[uJ];exact Sl.nil
  rw[zC fX];exact hu
 have hba:b<=a:=by omega
 have nK:=vQ hba;have hc:=fun w=>Zx3 (w:=w) hu hv (by omega) (by omega);have EW:¬Du a b<0:=by unfold Du;rw[ak fX];split<;>omega
 have MS:1<=(ds b).length:=by
  have:ds b≠[]:=fun hc=>by rw[EI]at hc;omega
  exact List.length_pos_iff.2 this
 by_cases hL:(ds b).length=1
 ·obtain⟨x,hx⟩:=bj (l:=ds b) (k:=0) (by omega);have Y3:ds b=[x]:=by
   cases hq:ds b with
   |nil=>rw[hq]at hL;simp at hL
   |cons y l=> rw[hq]at hL hx;simp at hL hx;rw[hL,hx]
  have Dl:=iC b;rw[Y3]at Dl;simp[vI]at Dl;have Q5:=(ig b).get hx;obtain⟨b1,b2,b3,b4,b5,z1,z2,z3,z4⟩:=Sl.at (show Sl h N v (dI (ds b)) from hv) (iP hx);simp at z4;simp[A.b144,hc,EW,lv,hL,z1,z3,z4];refine av (Zpu (show Sl h N u (dI (ds a)) from hu) (ig a) (by omega) (by omega) Q5.2) ?_;rintro y h1 n1 k1 ⟨q,rfl,hq⟩;rw[iC]at hq;simp only[iC];have e1:(a:Int).toNat=a:=by omega
  have e2:x.toNat=b:=by omega
  rw[e1,e2]at hq;rw[e1,e2];have hRb:=mO a hb;generalize hQ:a/b=Q at*;generalize hR:a%b=R at*;simp[ag];refine av (JS (l:=[(R:Int)]) (Sl.row (e:=3) (rw:=true) (cp:=some 1) (wO n1) (by simp[dI]) rfl (fun k hk=>by simp at hk;omega)) (by simp)) ?_;rintro y2 h2 n2 k2 yP;rw[Yor (by omega)]at yP;have kk:=(ab.refl (h:=h1) (n:=n1)).new (.cells [.int .i64 (R:Int)] 3 true);simp[ax];exact⟨(k1.trans kk).trans k2,q,y2,⟨rfl,rfl⟩,hq.ad (kk.trans k2),yP⟩
 obtain⟨k,hk⟩:∃k,(ds b).length=k+2:=⟨(ds b).length-2,by omega⟩;obtain⟨x,hx⟩:=bj (l:=ds b) (k:=k+1) (by omega);have Q5:=(ig b).get hx;obtain⟨f,hf,f0,f1,hlen,y1,uf,Vt⟩:=Yq0 (k:=k+1) (by omega) hx;obtain⟨b1,b2,b3,b4,b5,z1,z2,z3,z4⟩:=Sl.at (show Sl h N v (dI (ds b)) from hv) (iP hx);have c1:((k:Int)+2-1)=(k:Int)+1:=by omega
 have c3:¬((k:Int)+2=1):=by omega
 have c4:((k:Int)+1).toNat=k+1:=by omega
 have w1:bo .i64 (x+1)=x+1:=cP (by omega) (by omega);have w2:(1000000000:Int).tdiv (x+1)=f:=by rw[hf];exact C2 (by decide)
 have w3:bo .i64 (f:Int)=f:=cP (by omega) (by omega);have c6:¬x+1=0:=by omega
 rw[hk]at lv;simp(disch:=omega) [A.b144,hc,EW,lv,c1,c3,c4,z1,z3,z4,w1,w2,w3,ag];have k0:=(ab.refl (h:=h) (n:=N)).new (.cells [.int .i64 (f:Int)] 3 true);have pq:Sl (h.set N (.cells [.int .i64 (f:Int)] 3 true)) (N+1) (.slice N 0 1 (some 1) 1) (dI [(f:Int)]):=Sl.row (e:=3) (rw:=true) (wO N) (by simp[dI]) rfl (fun k hk=>by simp at hk;omega);have dF:Di [(f:Int)]:=Di.one (by omega) (by omega);refine av (Zwh (a:=b) (b:=f) (Sl.ad hv k0) pq (ig b) dF (iC b) (by simp[vI]) (by simp;omega)) ?_;rintro vv h1 n1 k1 hvv;have fL:=k1.le;have lvv:=hvv.len;have fJ:(ds (b*f)).length=k+2:=by omega
 rw[iJ,fJ]at lvv;simp[lvv];have k1a:=(ab.refl (h:=h1) (n:=n1)).new (.cells [] 3 true);refine av (Zwh (a:=a) (b:=f) (((Sl.ad hu k0).ad k1).ad k1a) ((pq.ad k1).ad k1a) (ig a) dF (iC a) (by simp[vI]) (by simp;omega)) ?_;rintro uu h2 n2 k2 huu;have iU:=k2.le;have aW:ds (a*f)≠[]:=fun hc=>by rw[EI]at hc;have:0<a*f:=z_ (by omega) f0;omega
 have zbN:(ds (a*f)).length<=(ds a).length+1:=by
  apply LX;have g1:=wZ (ig a);rw[iC,Yn6]at g1;have g2:a<1000000000^(ds a).length:=by exact_mod_cast g1
  rw[ix];exact CK g2 f1
 have zaF:=(k2.get n1 (by omega)).trans (show _=some (.cells [] 3 true) by simp);have OB:=Zvp (w:=[]) zaF huu aW (by omega);simp[OB];have xE:N<=n2:=by omega
 have QO:=(((k0.trans k1).trans k1a).trans k2);refine cm [(11,11),(63,71)] (fun e r st=>e=.exit 0/\Q6 N h2 n2 (ds a).length ((a*f:Nat):Int) 0 r st) (Q6 N h2 n2 (ds a).length ((a*f:Nat):Int)) ((ds a).length+1-(ds (a*f)).length) ?_ ?_ ?_
 ·refine⟨by simp,ab.refl.new _,_,ds (a*f),by simp;rfl,⟨fun q hq=>?_,.inr ⟨n2,by rw[EL],aO _,by show n2<n2+1;omega,by simp[Zml]⟩⟩,by omega,iC _,ig _⟩;simp[qI]at hq;obtain⟨q',_,rfl⟩:=hq;rfl
 ·exact Ykn (((Sl.ad hu k0).ad k1).ad k1a |>.ad k2) rfl (by omega) (by simp)
 rintro _ r ⟨H,n3,W⟩ hr ⟨rfl,hW,hK,u3,l,mB,ho,hm,iV,ka⟩;simp only at hW hK ho;obtain⟨_,⟨h0,_⟩|⟨iu,MP,i1,i2,i3⟩⟩:=ho
 ·simp[qI]at h0;rw[h0]at hm;simp at hm
 rw[EL]at MP;rw[Zml]at i3;subst MP;have ME:l.length=(ds a).length+1:=by omega
 have hka:k+2<l.length:=by omega
 obtain⟨S,hS⟩:∃S,S=l.length-(k+2):=⟨_,rfl⟩;have cS:((l.length:Int)-((k:Int)+2))=(S:Int):=by omega
 have oN:=Zip xE hW;have kH:=hK.new (.cells (dI (List.replicate S 0)) 3 true);have iG:=hK.le;have mz:(dm [.int .i64 0] S:List V)=dI (List.replicate S 0):=Z9;simp(disch:=first|(simp;done)|omega|rfl) [hr,mB,cS,mz];have hvY:=Dn.ad hvv (k1a.trans k2);have zbh:vI l=(a*f:Nat):=iV;refine cm [(13,21),(82,191)] (fun e r st=>e=.exit 2/\Q8 N h2 n2 iu n3 (n3+1) l.length (k+2) ((a*f:Nat):Int) (ds (b*f)) 0 r st) (Q8 N h2 n2 iu n3 (n3+1) l.length (k+2) ((a*f:Nat):Int) (ds (b*f))) S ?_ ?_ ?_
 ·refine⟨l,List.replicate S 0,⟨oN,kH,rfl,?_,by simp⟩,by simp,rfl,by simp[hS],by omega,ka,Di.GG _,fun s h1 h2=>by omega,?_,fun s hs=>by simp[hs],by rw[Z5,iV];simp⟩
  ·rw[T.ae,ak (by omega)];exact i3
  obtain⟨x',mq,x0,x1,lo,hi⟩:=Zps (b:=b) (k:=k+1) (by omega);have g1:=wZ (ig a);rw[iC,show (ds a).length=S+(k+1) by omega,TJ]at g1;have g2:=Oo l S (by omega);have g3:=wY (ka.take S);have g4:pI (k+1)*1<=pI (k+1)*x':=sI (by omega) (vN (EF _));have g5:pI S*pI (k+1)<=pI S*b:=sI (by omega) (vN (EF _));have g6:(a:Int)*f<pI S*b*f:=Int.mul_lt_mul_of_pos_right (by omega) (by omega);rw[iC];apply LI;intro hc;have g7:pI S*((b*f:Nat):Int)<=pI S*vI (l.drop S):=sI hc (vN (EF _));have g8:pI S*((b*f:Nat):Int)=pI S*b*f:=by push_cast;grind
  have g9:((a*f:Nat):Int)=(a:Int)*f:=by push_cast;rfl
  omega
 ·exact Ykq hvY fJ (ig _) uf Vt hka (by omega) (by simp[hr]) (by simp[hr]) (by simp[mB]) (by simp[hS]) xE i1 i2 (wO n3)
 rintro _ r4 ⟨H4,n4,W4⟩ xG ⟨rfl,U,Q,⟨CO,MT,Q9,Ra,Rb⟩,v_,hUl,hQl,_,dU,dQ,hz,yX,_,pL⟩;simp only at CO MT Q9 Ra Rb;subst Q9;rw[Br]at yX;rw[iC]at yX pL;obtain⟨qn,hqn⟩:=Gn (wY dQ);obtain⟨un,hun⟩:=Gn (wY dU);rw[hqn,hun]at pL;rw[hun]at yX;have CA:un+b*f*qn=a*f:=by exact_mod_cast pL
 have zH:un<b*f:=by exact_mod_cast yX
 have m1:a/b=qn:=by
  have:a*f/(b*f)=qn:=by rw[<-CA,Nat.add_mul_div_left _ _ (by omega),Bt zH,yE]
  rw[<-this,TD _ _ f0]
 have m2:un/f=a%b:=by
  have:a*f%(b*f)=un:=by rw[<-CA,Nat.add_mul_mod_self_left,zC zH]
  rw[<-this,Oj,Nat.mul_div_cancel _ f0]
 have hsU:Sl H4 (n3+1) (.slice iu 0 l.length none 1) (dI U):=Sl.row (by omega) Ra (by simp[hUl]) (fun k hk=>by cases hk);have hsQ:Sl H4 (n3+1) (.slice n3 0 S (some S) 1) (dI Q):=Sl.row (by omega) Rb (by simp[hQl,hS]) (fun k hk=>by simp at hk;omega);obtain⟨v',e1,e2⟩:=MD (w:=[]) hsU (lo:=0) (hi:=k+2) (by omega) (by rw[iJ];omega) none (some (.int .i64 ((k+2:Nat):Int))) (.inr ⟨rfl,rfl⟩) (.inl rfl);have e3:((dI U).take (k+2)).drop 0=dI (U.take (k+2)):=by rw[Br,dI,<-List.map_take];rfl
 rw[e3]at e2;have ck:((k+2:Nat):Int)=(k:Int)+2:=by omega
 rw[ck]at e1;have zaG:=(MT.get N (by omega)).trans ((k2.get N (by omega)).trans ((show _=h1.get N by simp;omega).trans ((k1.get N (by omega)).trans (show _=some (.cells [.int .i64 (f:Int)] 3 true) by simp))));have zaH:vI (U.take (k+2))=un:=by rw[<-hun];exact(Zig (fun t h1 h2=>hz t (by omega) (by omega))).symm
 simp[hr,xG,mB,FZ,aB,e1];refine av (JS e2 (by simp;omega)) ?_;rintro y5 h5 n5 k5 Rc;rw[Jq (dU.take _) zaH]at Rc;have Kv:=k5.le;have Re:=(k5.get N (by omega)).trans zaG;have lt5:N<n5:=by omega
 have lt4:iu<n3+1:=by omega
 have Rf:(ds un).length<1099511627776:=by have:(ds un).length<=(ds (b*f)).length:=vQ (by omega);omega
 simp[hr,xG,Re];refine av (Zpu (d:=(f:Int)) Rc (ig un) Rf (by omega) (by omega)) ?_;rintro y6 h6 n6 k6 ⟨q6,rfl,Qr⟩;have t1:(vI (ds un)).toNat=un:=by rw[iC];omega
 have t2:((f:Nat):Int).toNat=f:=by omega
 rw[t1,t2]at Qr;rw[m2]at Qr;generalize ((vI (ds un)).toNat%(f:Int).toNat)=ZZ;simp[xG,lt5];refine av (JS ((hsQ.ad k5).ad k6) (by omega)) ?_;rintro y7 h7 n7 k7 hy7;rw[Jq dQ hqn]at hy7;have oN4:ay N W4=[]:=CO;have zaI:=(((QO.trans MT).trans k5).trans k6).trans k7;simp[ax,oN4];refine⟨zaI,y7,q6,⟨rfl,rfl⟩,?_,?_⟩
 ·rw[m1];exact hy7
 exact Sl.ad Qr k7
variable {s:aD}
def A.w81:=A.q Tryz.f81
def A.xQ:=A.ql A.w81 0 []
def A.b81:=(fun x0=>A.qb A.w81 [x0]) A.xQ
def A.k81:=@A.kk 81 19 [.tmp 4] A.b81 (by kernel_rfl) rfl
def A.Rh:=A.q Tryz.f142
def A.lO:=A.ql A.Rh 0 []
def A.b142:=(fun x0=>A.qb A.Rh [x0]) A.lO
def A.k142:=@A.kk 142 40 [.cell 2 (some 2)] A.b142 (by kernel_rfl) rfl
def Vu{h:T O}{N:Nat}{u v:V}{a b:Nat}(hu:Dn h N u a)(hv:Dn h N v b)(hl:(ds a).length<1000000000000)(il:(ds b).length<1000000000000):Fn A.C 81 [u,v] h N (fun x h' n'=>Dn h' n' x (Nat.gcd a b)):=by
 intro w;rw[aN,A.k81 (by simp)];simp[A.b81];refine cm [(0,1),(5,17)] (fun e r st=>e=.exit 0/\ay N st.w=[]/\ab h N st.h st.n/\∃x,r.get 0=some x/\Dn st.h st.n x (Nat.gcd a b)) (fun m r st=>ay N st.w=[]/\ab h N st.h st.n/\∃x y c,r.get 0=some x/\r.get 1=some y/\Dn st.h st.n x c/\Dn st.h st.n y m/\Nat.gcd c m=Nat.gcd a b/\(ds c).length<1000000000000/\(ds m).length<1000000000000) b ?_ ?_ ?_
 ·exact⟨by simp,ab.refl,u,v,a,by simp,by simp,hu,hv,rfl,hl,il⟩
 ·rintro m r ⟨H,n1,W⟩ hr hf ⟨hW,hK,x,y,c,h0,h1,hx,hy,hg,l1,l2⟩;simp only at hW hK hx hy;have ly:=hy.len;rw[iJ]at ly;rw[bu];by_cases hm:m=0
  ·subst hm;have z0:(ds 0).length=0:=by rw[uJ];rfl
   rw[z0]at ly;simp at hg;simp[A.xQ,hf,h0,h1,ly,hW,hK];rw[<-hg];exact hx
  have aW:(ds m).length≠0:=fun hc=>hm (EI.1 (rS hc));have p1:(0:Int)<((ds m).length:Int):=by omega
  have p2:0<(ds m).length:=by omega
  have p3:ds m≠[]:=fun hc=>aW (by rw[hc];rfl);simp[A.xQ,h0,h1,ly,p2];refine av (Q7 hx hy (by omega) l1 l2) ?_;rintro z h3 n3 k3 ⟨q,r',rfl,hq,DR⟩;simp[hf,h1,hW];refine⟨c%m,mO _ (by omega),hK.trans k3,m,hy.ad k3,DR,?_,l2,?_⟩
  ·rw[<-hg,Nat.gcd_comm c m,Nat.gcd_rec m c,Nat.gcd_comm]
  have:=vQ (a:=c%m) (b:=m) (Nat.le_of_lt (mO _ (by omega)));omega
 rintro _ r ⟨H,n1,W⟩ hr ⟨rfl,hW,hK,x,h0,hx⟩;simp only at hW hK hx;simp[h0,ax,hW,hK];exact hx
def Zze(x:aD):∀(y:aD),aE (x++y)=aE x*10^y.length+aE y:=by
 have key:∀(y:aD) (n:Nat),y.foldl (fun n (c:UInt8)=>10*n+(c.toNat-48)) n=n*10^y.length+y.foldl (fun n (c:UInt8)=>10*n+(c.toNat-48)) 0:=by
  intro y;induction y with
  |nil=>simp
  |cons c y ih=> intro n;rw[List.foldl_cons,List.foldl_cons,ih,ih (10*0+(c.toNat-48)),bk,ix];grind
 intro y;unfold aE;rw[List.foldl_append,key]
def Zvq(h:cK s=true)(k:Nat):cK (s.take k)=true:=by unfold cK at*;rw[jY]at*;exact fun c hc=>h c (wB hc)
def Vw(h:cK s=true)(k:Nat):cK (s.drop k)=true:=by unfold cK at*;rw[jY]at*;exact fun c hc=>h c (Ol hc)
def Vx(h0:T O)(N:Nat)(s:aD)(m:Nat)(r:T V)(st:St):Prop:=ay N st.w=[]/\ab h0 N st.h st.n/\∃cur w l,r.get 0=some (.str cur)/\cur.length=m/\1<=m/\m<=s.length/\cK cur=true/\r.get 4=some w/\Own 1 3 N st.h st.n w (qI l)/\Di l/\l.length+m<=s.length/\vI l+pI l.length*(aE cur:Nat)=(aE s:Nat)
def Vy(hd:cK s=true)(h1:1<=s.length)(h2:s.length<=3000000000){h:T O}{N:Nat}:Fn A.C 142 [.str s] h N (fun v h' n'=>Rg h' n' v (aE s:Nat)):=by
 intro w;obtain⟨c,hc⟩:=bj (l:=s) (k:=0) (by omega);have qy:=Ou hd hc;have im:s.head?=some c:=by cases s with
  |nil=>simp at hc
  |cons=>simpa using hc
 have a1:¬cW c=45:=by omega
 have a2:(0:Int)<(s.length:Int):=by omega
 have a3:0<s.length:=by omega
 have aW:s≠[]:=fun h=>by rw[h]at h1;simp at h1
 rw[aN,A.k142 (by simp)];simp(disch:=first|(simp;done)|omega|rfl) [-getElem?_pos,A.b142,a1,a3,hc];refine cm [(0,0),(4,4),(16,32)] (fun e r st=>e=.exit 0/\∃m,m<=9/\Vx (h.set N (.cells [.bool false,.aa] 93 true)) (N+1) s m r st) (Vx (h.set N (.cells [.bool false,.aa] 93 true)) (N+1) s) s.length ?_ ?_ ?_
 ·exact⟨by simp,ab.refl,s,.aa,[],by simp,rfl,h1,aO _,hd,by simp,Own.nil,Di.nil,by simp,by simp[vI,pI]⟩
 ·rintro m r ⟨H,n1,W⟩ hr hf ⟨hW,hK,cur,u,l,g0,cX,m1,m2,qy,g4,ho,jt,nW,hv⟩;simp only at hW hK ho;subst cX;rw[bu];by_cases h9:9<cur.length
  ·have KF:(9:Int)<(cur.length:Int):=by omega
   have iG:=hK.le;have KG:=Q0 (s:=cur.drop (cur.length-9)) (st:=⟨H,n1,W⟩) (Vw qy _) (by simp;omega);have EW:((cur.length:Int)-9).toNat=cur.length-9:=by omega
   have HD:=Dk (Vw qy (cur.length-9));have ka:(cur.drop (cur.length-9)).length=9:=by simp;omega
   rw[ka]at HD;have iK:=Zze (cur.take (cur.length-9)) (cur.drop (cur.length-9));rw[En,ka,show (10:Nat)^9=1000000000 by decide]at iK;generalize hD:aE (cur.drop (cur.length-9))=D at*;obtain⟨v',h',w',e1,e2,e3,e4,e5⟩:=A7 (x:=[.int .i64 (D:Int)]) (u:=.slice n1 0 1 (some 1) 1) (bytes:=8) (w:=W) (ho.ad (ab.refl.new (.cells [.int .i64 (D:Int)] 3 true))) (by omega) (by decide) rfl (by simp[gb,St.row,aL]) (by rw[EL];omega);rw[<-GI]at e5;simp(disch:=first|(simp;done)|omega|rfl) [A.lO,hf,g0,g4,KF,EW,aB,KG,ag,e1];refine⟨cur.length-9,by omega,⟨by rw[e2];exact hW,(hK.new _).then e3,cur.take (cur.length-9),v',l++[(D:Int)],by simp,by simp,by omega,by omega,Zvq qy _,by simp,e5,jt.app (Di.one (by omega) (by omega)),by simp;omega,?_⟩⟩;rw[EG,jm,Af,wX,<-hv];have KH:((aE cur:Nat):Int)=(aE (cur.take (cur.length-9)):Nat)*1000000000+D:=by omega
   rw[KH];generalize ((aE (cur.take (cur.length-9)):Nat):Int)=X;generalize pI l.length=P;grind
  have KF:¬(9:Int)<(cur.length:Int):=by omega
  simp[A.lO,hf,g0,KF];exact⟨cur.length,by omega,hW,hK,cur,u,l,by simp[g0],rfl,m1,m2,qy,by simp[g4],ho,jt,nW,hv⟩
 rintro _ r ⟨H,n1,W⟩ hr ⟨rfl,m,m9,hW,hK,cur,u,l,g0,cX,m1,m2,qy,g4,ho,jt,nW,hv⟩;simp only at hW hK ho;subst cX;have iG:=hK.le;have KG:=Q0 (s:=cur) (st:=⟨H,n1,W⟩) qy (by omega);have HD:=Dk qy;have hp9:=TL m9;generalize hD:aE cur=D at*;obtain⟨v',h',w',e1,e2,e3,e4,e5⟩:=A7 (x:=[.int .i64 (D:Int)]) (u:=.slice n1 0 1 (some 1) 1) (bytes:=8) (w:=W) (ho.ad (ab.refl.new (.cells [.int .i64 (D:Int)] 3 true))) (by omega) (by decide) rfl (by simp[gb,St.row,aL]) (by rw[EL];omega);rw[<-GI]at e5;simp[hr,g0,g4,KG,ag,e1];have mU:Di (l++[(D:Int)]):=jt.app (Di.one (by omega) (by omega));refine av (yU (n:=aE s) e5.sl mU (by rw[EG];exact hv) (by simp;omega)) ?_;rintro y h5 n5 k5 hy;have kk:=((hK.new (.cells [.int .i64 (D:Int)] 3 true)).then e3).trans k5;have wE:=kk.le;have pV:=kk.get N (by omega);simp at pV;obtain⟨u5,rfl,Cj⟩:=hy;have Kq:=fun c1 (hc:c1.length=2)=>Sl.setInt (i:=N) (c1:=c1) (e1:=93) (w1:=true) Cj pV (by intro x hx k m;simp at hx;rcases hx with rfl|rfl<;>simp) hc;have DC:=Sl.form Cj |>.one;unfold V.one at DC;have ow:ay N w'=[]:=Zip (wm N) (by rw[e2];exact hW);have k0:=(ab.refl (h:=h) (n:=N)).new (.cells [.bool false,.aa] 93 true);simp[hr,pV,ag,bO,DC,aQ,aL,ax,ow];exact⟨(k0.trans kk).set (aO N),u5,by simp,by simpa[Dn]using Kq _ rfl⟩
variable {s:aD}
def A.b56:=A.q Tryz.f56
def A.k56:=@A.kk 56 25 [.cell 2 (some 2),.cell 3 (some 2)] A.b56 (by kernel_rfl) rfl
def A.b24:=A.q Tryz.f24
def A.k24:=@A.kk 24 96 [.tmp 2] A.b24 (by kernel_rfl) rfl
def Zty(hk:ah s<s.length)(hp:cK (s.take (ah s))=true)(hd:cK (s.drop (ah s+1))=true)(p1:1<=(s.take (ah s)).length)(d1:1<=(s.drop (ah s+1)).length)(hl:s.length<=100000){h:T O}{N:Nat}:Fn A.C 56 [.str s] h N (fun v h' n'=>∃x y,v=.aV [.agg [.bool false,x],.agg [.bool false,y]]/\Dn h' n' x (aE (s.take (ah s)))/\Dn h' n' y (aE (s.drop (ah s+1)))):=by
 intro w;rw[aN,A.k56 (by simp)];have ct:=fun st=>Hq (s:=s) (st:=st) (by omega);have c1:¬((ah s:Int)=(s.length:Int)):=by omega
 have c2:¬(ah s=s.length):=by omega
 have c3:(ah s:Int)<=(s.length:Int):=by omega
 have c4:(ah s:Int)+1<=(s.length:Int):=by omega
 have c5:((ah s:Int)+1).toNat=ah s+1:=by omega
 simp[A.b56,ct,c1,c3,aB];refine av (Vy hp p1 (by simp;omega)) ?_;rintro v1 h1 n1 k1 ⟨x,rfl,hx⟩;have nx:¬((aE (s.take (ah s)):Nat):Int)<0:=by omega
 simp(disch:=omega) [c5,aB,nx];refine av (Vy hd d1 (by simp;omega)) ?_;rintro v2 h2 n2 k2 ⟨y,rfl,hy⟩;have ny:¬((aE (s.drop (ah s+1)):Nat):Int)<0:=by omega
 have fL:=k1.le;have iU:=k2.le;have hx:=Dn.ad hx k2;have r0:=(k2.get N (by omega)).trans (k1.get N (by omega));have r1:=(k2.get (N+1) (by omega)).trans (k1.get (N+1) (by omega));simp at r0 r1;have jS:∀u∈([.bool false,.aa]:List V),∀k n,u≠V.int k n:=by intro u hu k n;simp at hu;rcases hu with rfl|rfl<;>simp
 have zc:=(Sl.form hx).one;have zd:=(Sl.form hy).one;unfold V.one at zc zd;have Vz:N<n1:=by omega
 have VA:N<n2:=by omega
 have VB:N+1<n2:=by omega
 have d4':¬N+1=N:=by omega
 simp[r0,r1,ny,ag,bO,zc,zd,Vz,VA,VB,aQ,aL,cQ.cU,ax];have wD:=Sl.setInt (i:=N) (c1:=[.bool false,x]) (e1:=93) (w1:=true) hx r0 jS rfl;have uf:=Sl.setInt (i:=N) (c1:=[.bool false,x]) (e1:=93) (w1:=true) hy r0 jS rfl;have Ri:(h2.set N (.cells [.bool false,x] 93 true)).get (N+1)=some (.cells [.bool false,.aa] 93 true):=by rw[T.ae,ak (by omega)];exact r1
 have zn:=Sl.setInt (i:=N+1) (c1:=[.bool false,y]) (e1:=93) (w1:=true) wD Ri jS rfl;have yP:=Sl.setInt (i:=N+1) (c1:=[.bool false,y]) (e1:=93) (w1:=true) uf Ri jS rfl;have k0:=((ab.refl (h:=h) (n:=N)).new (.cells [.bool false,.aa] 93 true)).new (.cells [.bool false,.aa] 93 true);exact⟨(((k0.trans k1).trans k2).set (aO N)).set (by omega),x,y,⟨rfl,rfl⟩,zn,yP⟩
def VC{s:aD}(h:jx s=true):cK s=true/\1<=s.length:=by
 cases s with
 |nil=>cases h
 |cons c s=> unfold jx at h;rw[gI]at h;exact⟨h.1,by simp⟩
def VD:ds 1=[1]:=by rw[BA (by decide),uJ];rfl
def VE(h:cK s=true)(hl:s.length<=100000):(ds (aE s)).length<1000000000000:=by have h1:=Dk h;have h2:(10:Nat)^s.length<=1000000000^s.length:=I1 (by decide) _;have:=LX (n:=aE s) (k:=s.length) (by omega);omega
def Zq2{s:aD}(hl:s.length<9223372036854775808){h:T O}{N:Nat}:Fn A.C 24 [.str s] h N (fun v _ _=>v=.int .i64 (aS s:Nat)):=by
 intro w;rw[aN,A.k24 (by simp)];cases s with
 |nil=> have ct:=fun st=>Hq (s:=[]) (st:=st) (by simp);have fE:=fun st=>QZ (s:=[]) (st:=st) (by simp);simp(disch:=first|(simp;done)|omega|(simp only[bq,b_,bk];omega)|rfl) [-getElem?_pos,A.b24,ct,ah,aB,fE,jx,ax];exact⟨ab.refl,rfl⟩
 |cons c t=>
  by_cases h45:cW c=45
  ·have dW:aS (c::t)=kZ true (t.take (ah t)) (decide (ah t<t.length)) (t.drop (ah t+1)):=by
    have:c.toNat=45:=by unfold cW at h45;omega
    simp[aS,JQ,cA,bl,this]
   rw[dW];have cE:(0:Int)<(t.length:Int)+1:=by omega
   have cO:∀st:St,vg st (some (.str (c::t))) (some (some (.int .i64 1))) (some none)=some (.str t,st):=fun st=>by rw[JZ (by omega) (by simp only[bk];omega)];rfl
   have ct:=fun st=>Hq (s:=t) (st:=st) (by simp at hl;omega);have fE:=fun st=>QZ (s:=t.take (ah t)) (st:=st) (by simp at hl ⊢;omega);have fl:(ah t:Int)<=(t.length:Int):=by have:=G9 t;omega
   have gl:ah t<=t.length:=G9 t;have jA:(t.take (ah t)).length=ah t:=by simp;omega
   have ka:(t.drop (ah t+1)).length=t.length-(ah t+1):=by simp
   have dH:=h45;have im:=h45;have n_:=h45;simp at hl;generalize hp:t.take (ah t)=p at*;generalize np:t.drop (ah t+1)=d at*;by_cases hA:jx p=true
   ·by_cases hz:p=[48]
    ·have e1:(p==[48])=true:=by simp[hz]
     simp(disch:=first|(simp;done)|omega|(simp only[bq,b_,bk];omega)|rfl) [-getElem?_pos,A.b24,cE,cO,ct,fE,fl,gl,hp,np,aB,bh,dH,im,n_,hA,e1,ax];exact⟨ab.refl,by simp[kZ,gV,hz]⟩
    have e1:(p==[48])=false:=by simp[hz]
    by_cases qP:ah t<t.length
    ·have gX:(ah t:Int)<(t.length:Int):=by omega
     have pk:=fun st=>QZ (s:=d) (st:=st) (by omega);by_cases hD:jx d=true
     ·by_cases h48:d=[48]
      ·have e8:(d==[48])=true:=by simp[h48]
       simp(disch:=first|(simp;done)|omega|(simp only[bq,b_,bk];omega)|rfl) [-getElem?_pos,A.b24,cE,cO,ct,fE,fl,gl,hp,np,aB,bh,dH,im,n_,hA,e1,qP,gX,pk,hD,e8,ax];exact⟨ab.refl,by simp[kZ,gV,h48]⟩
      have e8:(d==[48])=false:=by simp[h48]
      by_cases Az:d=[49]
      ·have e9:(d==[49])=true:=by simp[Az]
       simp(disch:=first|(simp;done)|omega|(simp only[bq,b_,bk];omega)|rfl) [-getElem?_pos,A.b24,cE,cO,ct,fE,fl,gl,hp,np,aB,bh,dH,im,n_,hA,e1,qP,gX,pk,hD,e8,e9,ax];exact⟨ab.refl,by simp[kZ,gV,Az]⟩
      have e9:(d==[49])=false:=by simp[Az]
      have dS:gV true p true d=true:=by simp[gV,hA,hD,h48,Az,hz]
      by_cases b6:600<p.length
      ·have b6':(600:Int)<(ah t:Int):=by omega
       simp(disch:=first|(simp;done)|omega|(simp only[bq,b_,bk];omega)|rfl) [-getElem?_pos,A.b24,cE,cO,ct,fE,fl,gl,hp,np,aB,bh,dH,im,n_,hA,e1,qP,gX,pk,hD,e8,e9,b6',ax];exact⟨ab.refl,by simp[kZ,dS,b6]⟩
      have b6':¬(600:Int)<(ah t:Int):=by omega
      by_cases b7:600<d.length
      ·have b7':(600:Int)<(t.length:Int)-(ah t:Int)-1:=by omega
       simp(disch:=first|(simp;done)|omega|(simp only[bq,b_,bk];omega)|rfl) [-getElem?_pos,A.b24,cE,cO,ct,fE,fl,gl,hp,np,aB,bh,dH,im,n_,hA,e1,qP,gX,pk,hD,e8,e9,b6',b7',ax];exact⟨ab.refl,by simp[kZ,dS,b6,b7]⟩
      have b7':¬(600:Int)<(t.length:Int)-(ah t:Int)-1:=by omega
      obtain⟨pa,pb⟩:=VC hA;obtain⟨da,db⟩:=VC hD;simp(disch:=first|(simp;done)|omega|(simp only[bq,b_,bk];omega)|rfl) [-getElem?_pos,A.b24,cE,cO,ct,fE,fl,gl,hp,np,aB,bh,dH,im,n_,hA,e1,qP,gX,pk,hD,e8,e9,b6',b7'];refine av (Zty qP (by rw[hp];exact pa) (by rw[np];exact da) (by rw[hp];exact pb) (by rw[np];exact db) (by omega)) ?_;rintro v1 h1 n1 k1 ⟨x,y,rfl,hx,hy⟩;rw[hp]at hx;rw[np]at hy;have zc:=(Sl.form hx).one;have zd:=(Sl.form hy).one;unfold V.one at zc zd;have kx:=((((ab.refl (h:=h1) (n:=n1)).new (.cells [.bool false,.aa] 93 true)).new (.cells [.bool false,.aa] 93 true)).set (i:=n1) (o:=.cells [.bool false,x] 93 true) (aO n1)).set (i:=n1+1) (o:=.cells [.bool false,y] 93 true) (by omega);simp(disch:=first|(simp;done)|omega|(simp only[bq,b_,bk];omega)|rfl) [-getElem?_pos,ag,bO,zc,zd];refine av (Vu (hx.ad kx) (hy.ad kx) (VE pa (by omega)) (VE da (by omega))) ?_;rintro z h2 n2 k2 eW;have kk:=(k1.trans kx).trans k2;have lz:=eW.len;rw[iJ]at lz;have mi:¬n1<N:=by have:=k1.le;omega
      have nN:¬n1+1<N:=by have:=k1.le;omega
      generalize hG:Nat.gcd (aE p) (aE d)=G at*;by_cases g1:G=1
      ·subst g1;rw[VD]at lz;obtain⟨b1,b2,b3,b4,b5,z1,z2,z3,z4⟩:=Sl.at (show Sl h2 n2 z (dI [1]) from VD▸eW) (j:=0) (x:=.int .i64 1) rfl;simp at z4;simp(disch:=first|(simp;done)|omega|(simp only[bq,b_,bk];omega)|rfl) [-getElem?_pos,lz,z1,z3,z4,bh,ax,mi,nN];exact⟨kk,by simp[kZ,dS,b6,b7,hG]⟩
      have uY:kZ true p true d=1:=by simp[kZ,dS,b6,b7,hG,g1]
      by_cases g2:(ds G).length=1
      ·obtain⟨gx,Rj⟩:=bj (l:=ds G) (k:=0) (by omega);obtain⟨b1,b2,b3,b4,b5,z1,z2,z3,z4⟩:=Sl.at (show Sl h2 n2 z (dI (ds G)) from eW) (iP Rj);simp at z4;have gne:¬gx=1:=fun hc=>g1 (by have hv:=iC G;rw[Q4 Rj,wP (by omega)]at hv;simp[vI,pI]at hv;omega);simp(disch:=first|(simp;done)|omega|(simp only[bq,b_,bk];omega)|rfl) [-getElem?_pos,lz,g2,z1,z3,z4,gne,bh,ax,mi,nN,uY];exact kk
      have zP:¬((ds G).length:Int)=1:=by omega
      simp(disch:=first|(simp;done)|omega|(simp only[bq,b_,bk];omega)|rfl) [-getElem?_pos,lz,g2,zP,bh,ax,mi,nN,uY];exact kk
     have hD:jx d=false:=by simpa using hD
     simp(disch:=first|(simp;done)|omega|(simp only[bq,b_,bk];omega)|rfl) [-getElem?_pos,A.b24,cE,cO,ct,fE,fl,gl,hp,np,aB,bh,dH,im,n_,hA,e1,qP,gX,pk,hD,ax];exact⟨ab.refl,by simp[kZ,gV,hD]⟩
    have zaJ:ah t=t.length:=by omega
    have gX:¬(ah t:Int)<(t.length:Int):=by omega
    have dS:gV true p false d=true:=by simp[gV,hA,hz]
    have dl0:¬600<d.length:=by omega
    have b7':¬(600:Int)<(t.length:Int)-(ah t:Int)-1:=by omega
    by_cases b6:600<p.length
    ·have b6':(600:Int)<(ah t:Int):=by omega
     simp(disch:=first|(simp;done)|omega|(simp only[bq,b_,bk];omega)|rfl) [-getElem?_pos,A.b24,cE,cO,ct,fE,fl,gl,hp,np,aB,bh,dH,im,n_,hA,e1,qP,gX,b6',ax];exact⟨ab.refl,by simp[kZ,dS,b6]⟩
    have b6':¬(600:Int)<(ah t:Int):=by omega
    simp(disch:=first|(simp;done)|omega|(simp only[bq,b_,bk];omega)|rfl) [-getElem?_pos,A.b24,cE,cO,ct,fE,fl,gl,hp,np,aB,bh,dH,im,n_,hA,e1,qP,gX,b6',b7',ax];exact⟨ab.refl,by simp[kZ,dS,b6,dl0]⟩
   have hA:jx p=false:=by simpa using hA
   simp(disch:=first|(simp;done)|omega|(simp only[bq,b_,bk];omega)|rfl) [-getElem?_pos,A.b24,cE,cO,ct,fE,fl,gl,hp,np,aB,bh,dH,im,n_,hA,ax];exact⟨ab.refl,by simp[kZ,gV,hA]⟩
  have Ii:cA (c::t)=false:=by simp only[cA,decide_eq_false_iff_not];unfold cW at h45;omega
  obtain⟨t,ht⟩:∃t',t'=c::t:=⟨c::t,rfl⟩;rw[<-ht]at hl Ii ⊢;have im:t[0]?=some c:=by rw[ht];rfl
  have dH:t.head?=some c:=by rw[ht];rfl
  have hlen:0<t.length:=by rw[ht];simp
  have n_:t≠[]:=by rw[ht];simp
  have fJ:(0:Int)<(t.length:Int):=by omega
  have cE:0<t.length:=hlen;have cO:True:=trivial;clear ht;have dW:aS t=kZ false (t.take (ah t)) (decide (ah t<t.length)) (t.drop (ah t+1)):=by simp[aS,JQ,bl,Ii]
  rw[dW];have ct:=fun st=>Hq (s:=t) (st:=st) (by omega);have fE:=fun st=>QZ (s:=t.take (ah t)) (st:=st) (by simp;omega);have fl:(ah t:Int)<=(t.length:Int):=by have:=G9 t;omega
  have gl:ah t<=t.length:=G9 t;have jA:(t.take (ah t)).length=ah t:=by simp;omega
  have ka:(t.drop (ah t+1)).length=t.length-(ah t+1):=by simp
  generalize hp:t.take (ah t)=p at*;generalize np:t.drop (ah t+1)=d at*;by_cases hA:jx p=true
  ·have e1:True:=trivial;by_cases qP:ah t<t.length
   ·have gX:(ah t:Int)<(t.length:Int):=by omega
    have pk:=fun st=>QZ (s:=d) (st:=st) (by omega);by_cases hD:jx d=true
    ·by_cases h48:d=[48]
     ·have e8:(d==[48])=true:=by simp[h48]
      simp(disch:=first|(simp;done)|omega|(simp only[bq,b_,bk];omega)|rfl) [-getElem?_pos,A.b24,cE,cO,ct,fE,fl,gl,hp,np,aB,bh,dH,im,n_,h45,fJ,hA,e1,qP,gX,pk,hD,e8,ax];exact⟨ab.refl,by simp[kZ,gV,h48]⟩
     have e8:(d==[48])=false:=by simp[h48]
     by_cases Az:d=[49]
     ·have e9:(d==[49])=true:=by simp[Az]
      simp(disch:=first|(simp;done)|omega|(simp only[bq,b_,bk];omega)|rfl) [-getElem?_pos,A.b24,cE,cO,ct,fE,fl,gl,hp,np,aB,bh,dH,im,n_,h45,fJ,hA,e1,qP,gX,pk,hD,e8,e9,ax];exact⟨ab.refl,by simp[kZ,gV,Az]⟩
     have e9:(d==[49])=false:=by simp[Az]
     have dS:gV false p true d=true:=by simp[gV,hA,hD,h48,Az]
     by_cases b6:600<p.length
     ·have b6':(600:Int)<(ah t:Int):=by omega
      simp(disch:=first|(simp;done)|omega|(simp only[bq,b_,bk];omega)|rfl) [-getElem?_pos,A.b24,cE,cO,ct,fE,fl,gl,hp,np,aB,bh,dH,im,n_,h45,fJ,hA,e1,qP,gX,pk,hD,e8,e9,b6',ax];exact⟨ab.refl,by simp[kZ,dS,b6]⟩
     have b6':¬(600:Int)<(ah t:Int):=by omega
     by_cases b7:600<d.length
     ·have b7':(600:Int)<(t.length:Int)-(ah t:Int)-1:=by omega
      simp(disch:=first|(simp;done)|omega|(simp only[bq,b_,bk];omega)|rfl) [-getElem?_pos,A.b24,cE,cO,ct,fE,fl,gl,hp,np,aB,bh,dH,im,n_,h45,fJ,hA,e1,qP,gX,pk,hD,e8,e9,b6',b7',ax];exact⟨ab.refl,by simp[kZ,dS,b6,b7]⟩
     have b7':¬(600:Int)<(t.length:Int)-(ah t:Int)-1:=by omega
     obtain⟨pa,pb⟩:=VC hA;obtain⟨da,db⟩:=VC hD;simp(disch:=first|(simp;done)|omega|(simp only[bq,b_,bk];omega)|rfl) [-getElem?_pos,A.b24,cE,cO,ct,fE,fl,gl,hp,np,aB,bh,dH,im,n_,h45,fJ,hA,e1,qP,gX,pk,hD,e8,e9,b6',b7'];refine av (Zty qP (by rw[hp];exact pa) (by rw[np];exact da) (by rw[hp];exact pb) (by rw[np];exact db) (by omega)) ?_;rintro v1 h1 n1 k1 ⟨x,y,rfl,hx,hy⟩;rw[hp]at hx;rw[np]at hy;have zc:=(Sl.form hx).one;have zd:=(Sl.form hy).one;unfold V.one at zc zd;have kx:=((((ab.refl (h:=h1) (n:=n1)).new (.cells [.bool false,.aa] 93 true)).new (.cells [.bool false,.aa] 93 true)).set (i:=n1) (o:=.cells [.bool false,x] 93 true) (aO n1)).set (i:=n1+1) (o:=.cells [.bool false,y] 93 true) (by omega);simp(disch:=first|(simp;done)|omega|(simp only[bq,b_,bk];omega)|rfl) [-getElem?_pos,ag,bO,zc,zd];refine av (Vu (hx.ad kx) (hy.ad kx) (VE pa (by omega)) (VE da (by omega))) ?_;rintro z h2 n2 k2 eW;have kk:=(k1.trans kx).trans k2;have lz:=eW.len;rw[iJ]at lz;have mi:¬n1<N:=by have:=k1.le;omega
     have nN:¬n1+1<N:=by have:=k1.le;omega
     generalize hG:Nat.gcd (aE p) (aE d)=G at*;by_cases g1:G=1
     ·subst g1;rw[VD]at lz;obtain⟨b1,b2,b3,b4,b5,z1,z2,z3,z4⟩:=Sl.at (show Sl h2 n2 z (dI [1]) from VD▸eW) (j:=0) (x:=.int .i64 1) rfl;simp at z4;simp(disch:=first|(simp;done)|omega|(simp only[bq,b_,bk];omega)|rfl) [-getElem?_pos,lz,z1,z3,z4,bh,ax,mi,nN];exact⟨kk,by simp[kZ,dS,b6,b7,hG]⟩
     have uY:kZ false p true d=1:=by simp[kZ,dS,b6,b7,hG,g1]
     by_cases g2:(ds G).length=1
     ·obtain⟨gx,Rj⟩:=bj (l:=ds G) (k:=0) (by omega);obtain⟨b1,b2,b3,b4,b5,z1,z2,z3,z4⟩:=Sl.at (show Sl h2 n2 z (dI (ds G)) from eW) (iP Rj);simp at z4;have gne:¬gx=1:=fun hc=>g1 (by have hv:=iC G;rw[Q4 Rj,wP (by omega)]at hv;simp[vI,pI]at hv;omega);simp(disch:=first|(simp;done)|omega|(simp only[bq,b_,bk];omega)|rfl) [-getElem?_pos,lz,g2,z1,z3,z4,gne,bh,ax,mi,nN,uY];exact kk
     have zP:¬((ds G).length:Int)=1:=by omega
     simp(disch:=first|(simp;done)|omega|(simp only[bq,b_,bk];omega)|rfl) [-getElem?_pos,lz,g2,zP,bh,ax,mi,nN,uY];exact kk
    have hD:jx d=false:=by simpa using hD
    simp(disch:=first|(simp;done)|omega|(simp only[bq,b_,bk];omega)|rfl) [-getElem?_pos,A.b24,cE,cO,ct,fE,fl,gl,hp,np,aB,bh,dH,im,n_,h45,fJ,hA,e1,qP,gX,pk,hD,ax];exact⟨ab.refl,by simp[kZ,gV,hD]⟩
   have zaJ:ah t=t.length:=by omega
   have gX:¬(ah t:Int)<(t.length:Int):=by omega
   have dS:gV false p false d=true:=by simp[gV,hA]
   have dl0:¬600<d.length:=by omega
   have b7':¬(600:Int)<(t.length:Int)-(ah t:Int)-1:=by omega
   by_cases b6:600<p.length
   ·have b6':(600:Int)<(ah t:Int):=by omega
    simp(disch:=first|(simp;done)|omega|(simp only[bq,b_,bk];omega)|rfl) [-getElem?_pos,A.b24,cE,cO,ct,fE,fl,gl,hp,np,aB,bh,dH,im,n_,h45,fJ,hA,e1,qP,gX,b6',ax];exact⟨ab.refl,by simp[kZ,dS,b6]⟩
   have b6':¬(600:Int)<(ah t:Int):=by omega
   simp(disch:=first|(simp;done)|omega|(simp only[bq,b_,bk];omega)|rfl) [-getElem?_pos,A.b24,cE,cO,ct,fE,fl,gl,hp,np,aB,bh,dH,im,n_,h45,fJ,hA,e1,qP,gX,b6',b7',ax];exact⟨ab.refl,by simp[kZ,dS,b6,dl0]⟩
  have hA:jx p=false:=by simpa using hA
  simp(disch:=first|(simp;done)|omega|(simp only[bq,b_,bk];omega)|rfl) [-getElem?_pos,A.b24,cE,cO,ct,fE,fl,gl,hp,np,aB,bh,dH,im,n_,h45,fJ,hA,ax];exact⟨ab.refl,by simp[kZ,gV,hA]⟩
def Zt3(hl:s.length<=100000){h:T O}{N:Nat}:Fn A.C 24 [.str s] h N (fun v _ _=>v=.int .i64 (aS s:Nat)):=Zq2 (by omega)
end
end Go.Mx
