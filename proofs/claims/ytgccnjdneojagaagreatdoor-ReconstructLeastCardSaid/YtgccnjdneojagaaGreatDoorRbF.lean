/-lensletref01-/
import Derived.Test.YtgccnjdneojagaaGreatDoorRcD
set_option linter.all false
namespace Go.Mx
noncomputable section
open Go Go.Proofs
variable {N:Nat}
set_option maxRecDepth 1000000
def Rm{N n2:Nat}(h:N<=n2):∀{w:List Nat},ay n2 w=[]->ay N w=[]
 |[],_=>rfl
 |i::w,hw=>by
  simp only[ay]at hw ⊢
  by_cases h1:i<n2
  ·rw[av h1]at hw
   unfold Ac at hw
   split at hw
   ·rename_i hc
    rw[hw]at hc;simp at hc
   ·cases hw
  ·rw[ak h1]at hw
   rw[ak (by omega)]
   exact Rm h hw
def Zwo{h:T O}{i:Nat}{w:List Nat}{v:V}{l:List Int}(hr:h.get i=some (.cells [] 3 true))(hs:Sl h N v (dI l))(aZ:l≠[])(hl:l.length<1099511627776):
  oc ⟨h,N,w⟩ 1 8 3 (.slice i 0 0 (some 0) 1) v=some (.slice N 0 l.length none 1,⟨h.set N (.cells (dI l) 3 true),N+1,w⟩):=by
 have h0:l.length≠0:=fun hc=>aZ (th hc);have jv:=Ywn (w:=w) hs;rw[h_]at jv;have hb:¬(zR<(2*(0+l.length)+1000)*8):=by unfold zR;omega
 simp only[oc,jv];rw[ak h0,ak (by rintro(h|h|h)<;>omega)];simp only[St.row,hr];rw[ak (by omega)];simp[aP,St.alloc]
def Ypt(k:Nat):pI k=((1000000000^k:Nat):Int):=by unfold pI;simp
def Zqm{b k:Nat}(h:(ds b).length=k+1):∃x,(ds b)[k]?=some x/\0<x/\x<1000000000/\pI k*x<=b/\(b:Int)<pI k*(x+1):=by
 have hb:b≠0:=fun hc=>by rw[hc,vG]at h;simp at h
 obtain⟨x,hx,jK⟩:=Yuu hb;rw[h,Nat.add_sub_cancel]at hx;have hd:=(ig b).get hx;have hv:=iC b;rw[Rk hx,BA (by omega),vI,Int.mul_zero,Int.add_zero]at hv;have h1:=xI ((ig b).take k);have h2:=xJ ((ig b).take k);rw[ik,ry (by omega)]at h2;have h3:pI k*(x+1)=pI k*x+pI k:=by grind
 exact⟨x,hx,jK,hd.2,by omega,by omega⟩
def Ys0{b k:Nat}(h:(ds b).length=k+1){x:Int}(hx:(ds b)[k]?=some x):∃f:Nat,(f:Int)=1000000000/(x+1)/\0<f/\f<1000000000/\(ds (b*f)).length=k+1/\∃y,(ds (b*f))[k]?=some y/\500000000<=y:=by
 obtain⟨x',kL,x0,x1,lo,hi⟩:=Zqm h;obtain rfl:x=x':=pC (hx.symm.trans kL);have hd:(x+1)*(1000000000/(x+1))+1000000000%(x+1)=1000000000:=Gj ..;have ib:0<=1000000000%(x+1):=Gl _ (by omega);have Hn:1000000000%(x+1)<x+1:=Gf _ (by omega);have hh:=Yg9 (x:=x) (by omega) x1;have f0:0<1000000000/(x+1):=by apply LM;intro hc;have:=Int.mul_nonpos_of_nonneg_of_nonpos (a:=x) (by omega) hc;omega
 have f1:1000000000/(x+1)<1000000000:=Int.ediv_lt_of_lt_mul (by omega) (by omega);obtain⟨f,hf⟩:=Gi (wJ f0);rw[hf]at hd hh f0 f1;have hp:=EI k;have MR:((b*f:Nat):Int)=(b:Int)*f:=by simp
 have up:(b:Int)*f<1000000000*pI k:=by
  have g1:(b:Int)*f<pI k*(x+1)*f:=Int.mul_lt_mul_of_pos_right hi f0;have g2:pI k*(x+1)*f=pI k*((x+1)*f):=by grind
  have g3:pI k*((x+1)*f)<=pI k*1000000000:=tB (by omega) (wJ hp);omega
 have low:500000000*pI k<=(b:Int)*f:=by
  have g1:pI k*x*f<=(b:Int)*f:=Ge lo (wJ f0);have g2:pI k*x*f=pI k*(x*f):=by grind
  have g3:pI k*500000000<=pI k*(x*f):=tB hh (wJ hp);omega
 have zb2:(ds (b*f)).length<=k+1:=Mb (by
  have:((b*f:Nat):Int)<((1000000000^(k+1):Nat):Int):=by rw[<-Ypt,xH,MR];exact up
  exact_mod_cast this);have zb3:(ds b).length<=(ds (b*f)).length:=wL (Nat.le_mul_of_pos_right b (by omega));have len:(ds (b*f)).length=k+1:=by omega
 obtain⟨y,hy,y0,y1,ylo,yhi⟩:=Zqm len;refine⟨f,hf.symm,by omega,by omega,len,y,hy,?_⟩;apply Gk;intro hc;have:pI k*(y+1)<=pI k*500000000:=tB (by omega) (wJ hp);omega
def Rn(N:Nat)(h2:T O)(n2 la:Nat)(A0:Int)(m:Nat)(r:T V)(st:St):Prop:=ay n2 st.w=[]/\ab h2 n2 st.h st.n/\∃u l,r.get 11=some u/\Own 1 3 n2 st.h st.n u (rz l)/\l.length+m=la+1/\vI l=A0/\Di l
def Yl7{N:Nat}{h2:T O}{n2 la:Nat}{A0:Int}{u0:V}{r0:T V}{Hu:List Int}(nD:Sl h2 n2 u0 (dI Hu))(hla:Hu.length=la)(hl:la<1099511627776)(r0e:r0.get 0=some u0):
  ∀m r st,(∀t,j_ [(11,11),(63,71)] t=false->r.get t=r0.get t)->Fx [(11,11),(63,71)] r0 206 ⟨r,206,[]⟩->Rn N h2 n2 la A0 m r st->Code A.C none A.pn ⟨r,206,[]⟩ st (Rd [(11,11),(63,71)] r0 206 (Rn N h2 n2 la A0) m (fun e r st=>e=.exit 0/\Rn N h2 n2 la A0 0 r st)):=by
 rintro m r ⟨H,n1,W⟩ hr hf ⟨hW,hK,u,l,mR,ho,hm,hv,hd⟩;simp only at hW hK ho;have lu:=nD.len;rw[h_,hla]at lu;have lo:=ho.len;rw[EO]at lo;rw[bu];cases m with
 |zero=>
  have:¬(l.length:Int)<(la:Int)+1:=by omega
  simp(disch:=first|(simp;done)|omega|rfl) [A.pn,hr,hf,r0e,mR,lu,lo,this];exact⟨hW,hK,u,l,by simp[mR],ho,hm,hv,hd⟩
 |succ m=>
  have h1:(l.length:Int)<(la:Int)+1:=by omega
  have ij:=hK.le;obtain⟨v',h',w',e1,e2,e3,e4,e5⟩:=Ao (x:=[.int .i64 0]) (u:=.slice n1 0 1 (some 1) 1) (bytes:=8) (w:=W) (ho.ad (ab.refl.new (.cells [.int .i64 0] 3 true))) (by omega) (by decide) rfl (by simp[fQ,St.row,aP]) (by rw[EO];omega);rw[<-GC]at e5;simp(disch:=first|(simp;done)|omega|rfl) [A.pn,hr,hf,r0e,mR,lu,lo,h1,ae,e1];refine⟨m,by omega,⟨by rw[e2];exact hW,((hK.new _).then e3),v',l++[0],by simp,e5,by simp;omega,by rw[EJ,hv];simp,hd.app (Di.one (by omega) (by omega))⟩⟩
def Yqc{r:Nat}(h:r<1000000000):tF [(r:Int)]=ds r:=Jr (Di.one (by omega) (by omega)) (by simp[vI])
def Ro{h:T O}{N:Nat}{u v:V}{a b:Nat}(hu:Dn h N u a)(hv:Dn h N v b)(hb:0<b)(hl:(ds a).length<1000000000000)(jq:(ds b).length<1000000000000):Fn A.C 147 [u,v] h N (fun x h' n'=>∃q r,x=.aX [q,r]/\Dn h' n' q (a/b)/\Dn h' n' r (a%b)):=by
 intro w;have lu:=hu.len;have lv:=hv.len;rw[h_]at lu lv;rw[aQ,A.k147 (by simp)];by_cases f_:a<b
 ·have iy:DJ a b= -1:=by simp[DJ,f_]
  have hc:=fun w=>Zy9 (w:=w) hu hv (by omega) (by omega);simp[A.b147,hc,iy,az];refine⟨ab.refl,.aa,u,⟨rfl,rfl⟩,?_,?_⟩
  ·rw[BC f_];unfold Dn;rw[vG];exact Sl.nil
  rw[z_ f_];exact hu
 have hba:b<=a:=by omega
 have nk:=wL hba;have hc:=fun w=>Zy9 (w:=w) hu hv (by omega) (by omega);have xU:¬DJ a b<0:=by unfold DJ;rw[ak f_];split<;>omega
 have MT:1<=(ds b).length:=by
  have:ds b≠[]:=fun hc=>by rw[EL]at hc;omega
  exact List.length_pos_iff.2 this
 by_cases hL:(ds b).length=1
 ·obtain⟨x,hx⟩:=bj (l:=ds b) (k:=0) (by omega);have hbx:ds b=[x]:=by
   cases hq:ds b with
   |nil=>rw[hq]at hL;simp at hL
   |cons y l=> rw[hq]at hL hx;simp at hL hx;rw[hL,hx]
  have DD:=iC b;rw[hbx]at DD;simp[vI]at DD;have Rl:=(ig b).get hx;obtain⟨b1,b2,b3,b4,b5,z1,z2,z3,z4⟩:=Sl.at (show Sl h N v (dI (ds b)) from hv) (iB hx);simp at z4;simp[A.b147,hc,xU,lv,hL,z1,z3,z4];refine ar (Zqn (show Sl h N u (dI (ds a)) from hu) (ig a) (by omega) (by omega) Rl.2) ?_;rintro y h1 n1 k1 ⟨q,rfl,hq⟩;rw[iC]at hq;simp only[iC];have e1:(a:Int).toNat=a:=by omega
  have e2:x.toNat=b:=by omega
  rw[e1,e2]at hq;rw[e1,e2];have hRb:=m8 a hb;generalize hQ:a/b=Q at*;generalize hR:a%b=R at*;simp[ae];refine ar (JP (l:=[(R:Int)]) (Sl.row (e:=3) (rw:=true) (cp:=some 1) (xC n1) (by simp[dI]) rfl (fun k hk=>by simp at hk;omega)) (by simp)) ?_;rintro y2 h2 n2 k2 zj;rw[Yqc (by omega)]at zj;have kk:=(ab.refl (h:=h1) (n:=n1)).new (.cells [.int .i64 (R:Int)] 3 true);simp[az];exact⟨(k1.trans kk).trans k2,q,y2,⟨rfl,rfl⟩,hq.ad (kk.trans k2),zj⟩
 obtain⟨k,hk⟩:∃k,(ds b).length=k+2:=⟨(ds b).length-2,by omega⟩;obtain⟨x,hx⟩:=bj (l:=ds b) (k:=k+1) (by omega);have Rl:=(ig b).get hx;obtain⟨f,hf,f0,f1,hlen,y1,uS,VO⟩:=Ys0 (k:=k+1) (by omega) hx;obtain⟨b1,b2,b3,b4,b5,z1,z2,z3,z4⟩:=Sl.at (show Sl h N v (dI (ds b)) from hv) (iB hx);have c1:((k:Int)+2-1)=(k:Int)+1:=by omega
 have c3:¬((k:Int)+2=1):=by omega
 have c4:((k:Int)+1).toNat=k+1:=by omega
 have w1:bn .i64 (x+1)=x+1:=cL (by omega) (by omega);have w2:(1000000000:Int).tdiv (x+1)=f:=by rw[hf];exact Dh (by decide)
 have w3:bn .i64 (f:Int)=f:=cL (by omega) (by omega);have c6:¬x+1=0:=by omega
 rw[hk]at lv;simp(disch:=omega) [A.b147,hc,xU,lv,c1,c3,c4,z1,z3,z4,w1,w2,w3,ae];have k0:=(ab.refl (h:=h) (n:=N)).new (.cells [.int .i64 (f:Int)] 3 true);have pL:Sl (h.set N (.cells [.int .i64 (f:Int)] 3 true)) (N+1) (.slice N 0 1 (some 1) 1) (dI [(f:Int)]):=Sl.row (e:=3) (rw:=true) (xC N) (by simp[dI]) rfl (fun k hk=>by simp at hk;omega);have dF:Di [(f:Int)]:=Di.one (by omega) (by omega);refine ar (Zxp (a:=b) (b:=f) (Sl.ad hv k0) pL (ig b) dF (iC b) (by simp[vI]) (by simp;omega)) ?_;rintro vv h1 n1 k1 hvv;have fM:=k1.le;have lvv:=hvv.len;have fL:(ds (b*f)).length=k+2:=by omega
 rw[h_,fL]at lvv;simp[lvv];have k1a:=(ab.refl (h:=h1) (n:=n1)).new (.cells [] 3 true);refine ar (Zxp (a:=a) (b:=f) (((Sl.ad hu k0).ad k1).ad k1a) ((pL.ad k1).ad k1a) (ig a) dF (iC a) (by simp[vI]) (by simp;omega)) ?_;rintro uu h2 n2 k2 huu;have iX:=k2.le;have aZ:ds (a*f)≠[]:=fun hc=>by rw[EL]at hc;have:0<a*f:=zN (by omega) f0;omega
 have zb4:(ds (a*f)).length<=(ds a).length+1:=by
  apply Mb;have g1:=xJ (ig a);rw[iC,Ypt]at g1;have g2:a<1000000000^(ds a).length:=by exact_mod_cast g1
  rw[im];exact C2 g2 f1
 have zaO:=(k2.get n1 (by omega)).trans (show _=some (.cells [] 3 true) by simp);have ON:=Zwo (w:=[]) zaO huu aZ (by omega);simp[ON];have yc:N<=n2:=by omega
 have DS:=(((k0.trans k1).trans k1a).trans k2);refine b_ [(11,11),(63,71)] (fun e r st=>e=.exit 0/\Rn N h2 n2 (ds a).length ((a*f:Nat):Int) 0 r st) (Rn N h2 n2 (ds a).length ((a*f:Nat):Int)) ((ds a).length+1-(ds (a*f)).length) ?_ ?_ ?_
 ·refine⟨by simp,ab.refl.new _,_,ds (a*f),by simp;rfl,⟨fun q hq=>?_,.inr ⟨n2,by rw[EO],aM _,by show n2<n2+1;omega,by simp[Zm9]⟩⟩,by omega,iC _,ig _⟩;simp[rz]at hq;obtain⟨q',_,rfl⟩:=hq;rfl
 ·exact Yl7 (((Sl.ad hu k0).ad k1).ad k1a |>.ad k2) rfl (by omega) (by simp)
 rintro _ r ⟨H,n3,W⟩ hr ⟨rfl,hW,hK,u3,l,mR,ho,hm,iY,kK⟩;simp only at hW hK ho;obtain⟨_,⟨h0,_⟩|⟨iu,MP,i1,i2,i3⟩⟩:=ho
 ·simp[rz]at h0;rw[h0]at hm;simp at hm
 rw[EO]at MP;rw[Zm9]at i3;subst MP;have Hh:l.length=(ds a).length+1:=by omega
 have hka:k+2<l.length:=by omega
 obtain⟨S,hS⟩:∃S,S=l.length-(k+2):=⟨_,rfl⟩;have cS:((l.length:Int)-((k:Int)+2))=(S:Int):=by omega
 have oN:=Rm yc hW;have kH:=hK.new (.cells (dI (List.replicate S 0)) 3 true);have ij:=hK.le;have mz:(cW [.int .i64 0] S:List V)=dI (List.replicate S 0):=Zt6;simp(disch:=first|(simp;done)|omega|rfl) [hr,mR,cS,mz];have hvY:=Dn.ad hvv (k1a.trans k2);have zbC:vI l=(a*f:Nat):=iY;refine b_ [(13,21),(82,191)] (fun e r st=>e=.exit 2/\Rp N h2 n2 iu n3 (n3+1) l.length (k+2) ((a*f:Nat):Int) (ds (b*f)) 0 r st) (Rp N h2 n2 iu n3 (n3+1) l.length (k+2) ((a*f:Nat):Int) (ds (b*f))) S ?_ ?_ ?_
 ·refine⟨l,List.replicate S 0,⟨oN,kH,rfl,?_,by simp⟩,by simp,rfl,by simp[hS],by omega,kK,Di.GA _,fun s h1 h2=>by omega,?_,fun s hs=>by simp[hs],by rw[Zst,iY];simp⟩
  ·rw[T.ag,ak (by omega)];exact i3
  obtain⟨x',kL,x0,x1,lo,hi⟩:=Zqm (b:=b) (k:=k+1) (by omega);have g1:=xJ (ig a);rw[iC,show (ds a).length=S+(k+1) by omega,T1]at g1;have g2:=OB l S (by omega);have g3:=xI (kK.take S);have g4:pI (k+1)*1<=pI (k+1)*x':=tB (by omega) (wJ (EI _));have g5:pI S*pI (k+1)<=pI S*b:=tB (by omega) (wJ (EI _));have g6:(a:Int)*f<pI S*b*f:=Int.mul_lt_mul_of_pos_right (by omega) (by omega);rw[iC];apply LM;intro hc;have g7:pI S*((b*f:Nat):Int)<=pI S*vI (l.drop S):=tB hc (wJ (EI _));have g8:pI S*((b*f:Nat):Int)=pI S*b*f:=by push_cast;grind
  have g9:((a*f:Nat):Int)=(a:Int)*f:=by push_cast;rfl
  omega
 ·exact Yma hvY fL (ig _) uS VO hka (by omega) (by simp[hr]) (by simp[hr]) (by simp[mR]) (by simp[hS]) yc i1 i2 (xC n3)
 rintro _ r4 ⟨H4,n4,W4⟩ uX ⟨rfl,U,Q,⟨vu,AA,Rq,Rr,Rt⟩,wP,hUl,hQl,_,dU,dQ,hz,zt,_,qf⟩;simp only at vu AA Rq Rr Rt;subst Rq;rw[BB]at zt;rw[iC]at zt qf;obtain⟨qn,hqn⟩:=Gi (xI dQ);obtain⟨un,hun⟩:=Gi (xI dU);rw[hqn,hun]at qf;rw[hun]at zt;have CJ:un+b*f*qn=a*f:=by exact_mod_cast qf
 have zf:un<b*f:=by exact_mod_cast zt
 have m1:a/b=qn:=by
  have:a*f/(b*f)=qn:=by rw[<-CJ,Nat.add_mul_div_left _ _ (by omega),BC zf,yR]
  rw[<-this,TS _ _ f0]
 have m2:un/f=a%b:=by
  have:a*f%(b*f)=un:=by rw[<-CJ,Nat.add_mul_mod_self_left,z_ zf]
  rw[<-this,Ov,Nat.mul_div_cancel _ f0]
 have hsU:Sl H4 (n3+1) (.slice iu 0 l.length none 1) (dI U):=Sl.row (by omega) Rr (by simp[hUl]) (fun k hk=>by cases hk);have hsQ:Sl H4 (n3+1) (.slice n3 0 S (some S) 1) (dI Q):=Sl.row (by omega) Rt (by simp[hQl,hS]) (fun k hk=>by simp at hk;omega);obtain⟨v',e1,e2⟩:=MF (w:=[]) hsU (lo:=0) (hi:=k+2) (by omega) (by rw[h_];omega) none (some (.int .i64 ((k+2:Nat):Int))) (.inr ⟨rfl,rfl⟩) (.inl rfl);have e3:((dI U).take (k+2)).drop 0=dI (U.take (k+2)):=by rw[BB,dI,<-List.map_take];rfl
 rw[e3]at e2;have ck:((k+2:Nat):Int)=(k:Int)+2:=by omega
 rw[ck]at e1;have zaP:=(AA.get N (by omega)).trans ((k2.get N (by omega)).trans ((show _=h1.get N by simp;omega).trans ((k1.get N (by omega)).trans (show _=some (.cells [.int .i64 (f:Int)] 3 true) by simp))));have zaQ:vI (U.take (k+2))=un:=by rw[<-hun];exact(Zij (fun t h1 h2=>hz t (by omega) (by omega))).symm
 simp[hr,uX,mR,F7,aC,e1];refine ar (JP e2 (by simp;omega)) ?_;rintro y5 h5 n5 k5 Ru;rw[Jr (dU.take _) zaQ]at Ru;have Kw:=k5.le;have Rv:=(k5.get N (by omega)).trans zaP;have lt5:N<n5:=by omega
 have lt4:iu<n3+1:=by omega
 have Rw:(ds un).length<1099511627776:=by have:(ds un).length<=(ds (b*f)).length:=wL (by omega);omega
 simp[hr,uX,Rv];refine ar (Zqn (d:=(f:Int)) Ru (ig un) Rw (by omega) (by omega)) ?_;rintro y6 h6 n6 k6 ⟨q6,rfl,QE⟩;have t1:(vI (ds un)).toNat=un:=by rw[iC];omega
 have t2:((f:Nat):Int).toNat=f:=by omega
 rw[t1,t2]at QE;rw[m2]at QE;generalize ((vI (ds un)).toNat%(f:Int).toNat)=ZZ;simp[uX,lt5];refine ar (JP ((hsQ.ad k5).ad k6) (by omega)) ?_;rintro y7 h7 n7 k7 hy7;rw[Jr dQ hqn]at hy7;have oN4:ay N W4=[]:=vu;have zaR:=(((DS.trans AA).trans k5).trans k6).trans k7;simp[az,oN4];refine⟨zaR,y7,q6,⟨rfl,rfl⟩,?_,?_⟩
 ·rw[m1];exact hy7
 exact Sl.ad QE k7
variable {s:aG}
def A.w76:=A.q Tryz.f76
def A.yo:=A.ql A.w76 0 []
def A.b76:=(fun x0=>A.qb A.w76 [x0]) A.yo
def A.k76:=@A.kk 76 19 [.tmp 4] A.b76 (by kernel_rfl) rfl
def A.Rx:=A.q Tryz.f145
def A.my:=A.ql A.Rx 0 []
def A.b145:=(fun x0=>A.qb A.Rx [x0]) A.my
def A.k145:=@A.kk 145 40 [.cell 2 (some 2)] A.b145 (by kernel_rfl) rfl
def VP{h:T O}{N:Nat}{u v:V}{a b:Nat}(hu:Dn h N u a)(hv:Dn h N v b)(hl:(ds a).length<1000000000000)(jq:(ds b).length<1000000000000):Fn A.C 76 [u,v] h N (fun x h' n'=>Dn h' n' x (Nat.gcd a b)):=by
 intro w;rw[aQ,A.k76 (by simp)];simp[A.b76];refine b_ [(0,1),(5,17)] (fun e r st=>e=.exit 0/\ay N st.w=[]/\ab h N st.h st.n/\∃x,r.get 0=some x/\Dn st.h st.n x (Nat.gcd a b)) (fun m r st=>ay N st.w=[]/\ab h N st.h st.n/\∃x y c,r.get 0=some x/\r.get 1=some y/\Dn st.h st.n x c/\Dn st.h st.n y m/\Nat.gcd c m=Nat.gcd a b/\(ds c).length<1000000000000/\(ds m).length<1000000000000) b ?_ ?_ ?_
 ·exact⟨by simp,ab.refl,u,v,a,by simp,by simp,hu,hv,rfl,hl,jq⟩
 ·rintro m r ⟨H,n1,W⟩ hr hf ⟨hW,hK,x,y,c,h0,h1,hx,hy,hg,l1,l2⟩;simp only at hW hK hx hy;have ly:=hy.len;rw[h_]at ly;rw[bu];by_cases hm:m=0
  ·subst hm;have z0:(ds 0).length=0:=by rw[vG];rfl
   rw[z0]at ly;simp at hg;simp[A.yo,hf,h0,h1,ly,hW,hK];rw[<-hg];exact hx
  have aZ:(ds m).length≠0:=fun hc=>hm (EL.1 (th hc));have p1:(0:Int)<((ds m).length:Int):=by omega
  have p2:0<(ds m).length:=by omega
  have p3:ds m≠[]:=fun hc=>aZ (by rw[hc];rfl);simp[A.yo,h0,h1,ly,p2];refine ar (Ro hx hy (by omega) l1 l2) ?_;rintro z h3 n3 k3 ⟨q,r',rfl,hq,Ef⟩;simp[hf,h1,hW];refine⟨c%m,m8 _ (by omega),hK.trans k3,m,hy.ad k3,Ef,?_,l2,?_⟩
  ·rw[<-hg,Nat.gcd_comm c m,Nat.gcd_rec m c,Nat.gcd_comm]
  have:=wL (a:=c%m) (b:=m) (Nat.le_of_lt (m8 _ (by omega)));omega
 rintro _ r ⟨H,n1,W⟩ hr ⟨rfl,hW,hK,x,h0,hx⟩;simp only at hW hK hx;simp[h0,az,hW,hK];exact hx
def Yan(x:aG):∀(y:aG),aF (x++y)=aF x*10^y.length+aF y:=by
 have key:∀(y:aG) (n:Nat),y.foldl (fun n (c:UInt8)=>10*n+(c.toNat-48)) n=n*10^y.length+y.foldl (fun n (c:UInt8)=>10*n+(c.toNat-48)) 0:=by
  intro y;induction y with
  |nil=>simp
  |cons c y ih=> intro n;rw[List.foldl_cons,List.foldl_cons,ih,ih (10*0+(c.toNat-48)),bl,im];grind
 intro y;unfold aF;rw[List.foldl_append,key]
def Zwq(h:cN s=true)(k:Nat):cN (s.take k)=true:=by unfold cN at*;rw[iK]at*;exact fun c hc=>h c (wy hc)
def VQ(h:cN s=true)(k:Nat):cN (s.drop k)=true:=by unfold cN at*;rw[iK]at*;exact fun c hc=>h c (Ox hc)
def VS(h0:T O)(N:Nat)(s:aG)(m:Nat)(r:T V)(st:St):Prop:=ay N st.w=[]/\ab h0 N st.h st.n/\∃cur w l,r.get 0=some (.str cur)/\cur.length=m/\1<=m/\m<=s.length/\cN cur=true/\r.get 4=some w/\Own 1 3 N st.h st.n w (rz l)/\Di l/\l.length+m<=s.length/\vI l+pI l.length*(aF cur:Nat)=(aF s:Nat)
def VT(hd:cN s=true)(h1:1<=s.length)(h2:s.length<=3000000000){h:T O}{N:Nat}:Fn A.C 145 [.str s] h N (fun v h' n'=>Rg h' n' v (aF s:Nat)):=by
 intro w;obtain⟨c,hc⟩:=bj (l:=s) (k:=0) (by omega);have re:=OE hd hc;have iy:s.head?=some c:=by cases s with
  |nil=>simp at hc
  |cons=>simpa using hc
 have a1:¬cX c=45:=by omega
 have a2:(0:Int)<(s.length:Int):=by omega
 have a3:0<s.length:=by omega
 have aZ:s≠[]:=fun h=>by rw[h]at h1;simp at h1
 rw[aQ,A.k145 (by simp)];simp(disch:=first|(simp;done)|omega|rfl) [-getElem?_pos,A.b145,a1,a3,hc];refine b_ [(0,0),(4,4),(16,32)] (fun e r st=>e=.exit 0/\∃m,m<=9/\VS (h.set N (.cells [.bool false,.aa] 105 true)) (N+1) s m r st) (VS (h.set N (.cells [.bool false,.aa] 105 true)) (N+1) s) s.length ?_ ?_ ?_
 ·exact⟨by simp,ab.refl,s,.aa,[],by simp,rfl,h1,aM _,hd,by simp,Own.nil,Di.nil,by simp,by simp[vI,pI]⟩
 ·rintro m r ⟨H,n1,W⟩ hr hf ⟨hW,hK,cur,u,l,g0,cM,m1,m2,re,g4,ho,jF,jL,hv⟩;simp only at hW hK ho;subst cM;rw[bu];by_cases h9:9<cur.length
  ·have KH:(9:Int)<(cur.length:Int):=by omega
   have ij:=hK.le;have KI:=Rf (s:=cur.drop (cur.length-9)) (st:=⟨H,n1,W⟩) (VQ re _) (by simp;omega);have xU:((cur.length:Int)-9).toNat=cur.length-9:=by omega
   have HD:=DC (VQ re (cur.length-9));have kK:(cur.drop (cur.length-9)).length=9:=by simp;omega
   rw[kK]at HD;have gZ:=Yan (cur.take (cur.length-9)) (cur.drop (cur.length-9));rw[Df,kK,show (10:Nat)^9=1000000000 by decide]at gZ;generalize hD:aF (cur.drop (cur.length-9))=D at*;obtain⟨v',h',w',e1,e2,e3,e4,e5⟩:=Ao (x:=[.int .i64 (D:Int)]) (u:=.slice n1 0 1 (some 1) 1) (bytes:=8) (w:=W) (ho.ad (ab.refl.new (.cells [.int .i64 (D:Int)] 3 true))) (by omega) (by decide) rfl (by simp[fQ,St.row,aP]) (by rw[EO];omega);rw[<-GC]at e5;simp(disch:=first|(simp;done)|omega|rfl) [A.my,hf,g0,g4,KH,xU,aC,KI,ae,e1];refine⟨cur.length-9,by omega,⟨by rw[e2];exact hW,(hK.new _).then e3,cur.take (cur.length-9),v',l++[(D:Int)],by simp,by simp,by omega,by omega,Zwq re _,by simp,e5,jF.app (Di.one (by omega) (by omega)),by simp;omega,?_⟩⟩;rw[EJ,iI,Az,xH,<-hv];have KJ:((aF cur:Nat):Int)=(aF (cur.take (cur.length-9)):Nat)*1000000000+D:=by omega
   rw[KJ];generalize ((aF (cur.take (cur.length-9)):Nat):Int)=X;generalize pI l.length=P;grind
  have KH:¬(9:Int)<(cur.length:Int):=by omega
  simp[A.my,hf,g0,KH];exact⟨cur.length,by omega,hW,hK,cur,u,l,by simp[g0],rfl,m1,m2,re,by simp[g4],ho,jF,jL,hv⟩
 rintro _ r ⟨H,n1,W⟩ hr ⟨rfl,m,m9,hW,hK,cur,u,l,g0,cM,m1,m2,re,g4,ho,jF,jL,hv⟩;simp only at hW hK ho;subst cM;have ij:=hK.le;have KI:=Rf (s:=cur) (st:=⟨H,n1,W⟩) re (by omega);have HD:=DC re;have hp9:=T3 m9;generalize hD:aF cur=D at*;obtain⟨v',h',w',e1,e2,e3,e4,e5⟩:=Ao (x:=[.int .i64 (D:Int)]) (u:=.slice n1 0 1 (some 1) 1) (bytes:=8) (w:=W) (ho.ad (ab.refl.new (.cells [.int .i64 (D:Int)] 3 true))) (by omega) (by decide) rfl (by simp[fQ,St.row,aP]) (by rw[EO];omega);rw[<-GC]at e5;simp[hr,g0,g4,KI,ae,e1];have nw:Di (l++[(D:Int)]):=jF.app (Di.one (by omega) (by omega));refine ar (zp (n:=aF s) e5.sl nw (by rw[EJ];exact hv) (by simp;omega)) ?_;rintro y h5 n5 k5 hy;have kk:=((hK.new (.cells [.int .i64 (D:Int)] 3 true)).then e3).trans k5;have uM:=kk.le;have qC:=kk.get N (by omega);simp at qC;obtain⟨u5,rfl,Cs⟩:=hy;have Kq:=fun c1 (hc:c1.length=2)=>Sl.setInt (i:=N) (c1:=c1) (e1:=105) (w1:=true) Cs qC (by intro x hx k m;simp at hx;rcases hx with rfl|rfl<;>simp) hc;have DT:=Sl.form Cs |>.one;unfold V.one at DT;have ow:ay N w'=[]:=Rm (xf N) (by rw[e2];exact hW);have k0:=(ab.refl (h:=h) (n:=N)).new (.cells [.bool false,.aa] 105 true);simp[hr,qC,ae,bO,DT,aS,aP,az,ow];exact⟨(k0.trans kk).set (aM N),u5,by simp,by simpa[Dn]using Kq _ rfl⟩
variable {s:aG}
def A.b75:=A.q Tryz.f75
def A.k75:=@A.kk 75 25 [.cell 2 (some 2),.cell 3 (some 2)] A.b75 (by kernel_rfl) rfl
def A.b16:=A.q Tryz.f16
def A.k16:=@A.kk 16 96 [.tmp 2] A.b16 (by kernel_rfl) rfl
def Zu0(hk:ah s<s.length)(hp:cN (s.take (ah s))=true)(hd:cN (s.drop (ah s+1))=true)(p1:1<=(s.take (ah s)).length)(d1:1<=(s.drop (ah s+1)).length)(hl:s.length<=100000){h:T O}{N:Nat}:Fn A.C 75 [.str s] h N (fun v h' n'=>∃x y,v=.aX [.agg [.bool false,x],.agg [.bool false,y]]/\Dn h' n' x (aF (s.take (ah s)))/\Dn h' n' y (aF (s.drop (ah s+1)))):=by
 intro w;rw[aQ,A.k75 (by simp)];have cC:=fun st=>Hm (s:=s) (st:=st) (by omega);have c1:¬((ah s:Int)=(s.length:Int)):=by omega
 have c2:¬(ah s=s.length):=by omega
 have c3:(ah s:Int)<=(s.length:Int):=by omega
 have c4:(ah s:Int)+1<=(s.length:Int):=by omega
 have c5:((ah s:Int)+1).toNat=ah s+1:=by omega
 simp[A.b75,cC,c1,c3,aC];refine ar (VT hp p1 (by simp;omega)) ?_;rintro v1 h1 n1 k1 ⟨x,rfl,hx⟩;have nx:¬((aF (s.take (ah s)):Nat):Int)<0:=by omega
 simp(disch:=omega) [c5,aC,nx];refine ar (VT hd d1 (by simp;omega)) ?_;rintro v2 h2 n2 k2 ⟨y,rfl,hy⟩;have ny:¬((aF (s.drop (ah s+1)):Nat):Int)<0:=by omega
 have fM:=k1.le;have iX:=k2.le;have hx:=Dn.ad hx k2;have r0:=(k2.get N (by omega)).trans (k1.get N (by omega));have r1:=(k2.get (N+1) (by omega)).trans (k1.get (N+1) (by omega));simp at r0 r1;have km:∀u∈([.bool false,.aa]:List V),∀k n,u≠V.int k n:=by intro u hu k n;simp at hu;rcases hu with rfl|rfl<;>simp
 have zA:=(Sl.form hx).one;have zB:=(Sl.form hy).one;unfold V.one at zA zB;have VU:N<n1:=by omega
 have VV:N<n2:=by omega
 have VW:N+1<n2:=by omega
 have d4':¬N+1=N:=by omega
 simp[r0,r1,ny,ae,bO,zA,zB,VU,VV,VW,aS,aP,dv.dw,az];have xe:=Sl.setInt (i:=N) (c1:=[.bool false,x]) (e1:=105) (w1:=true) hx r0 km rfl;have uS:=Sl.setInt (i:=N) (c1:=[.bool false,x]) (e1:=105) (w1:=true) hy r0 km rfl;have Ry:(h2.set N (.cells [.bool false,x] 105 true)).get (N+1)=some (.cells [.bool false,.aa] 105 true):=by rw[T.ag,ak (by omega)];exact r1
 have zL:=Sl.setInt (i:=N+1) (c1:=[.bool false,y]) (e1:=105) (w1:=true) xe Ry km rfl;have zj:=Sl.setInt (i:=N+1) (c1:=[.bool false,y]) (e1:=105) (w1:=true) uS Ry km rfl;have k0:=((ab.refl (h:=h) (n:=N)).new (.cells [.bool false,.aa] 105 true)).new (.cells [.bool false,.aa] 105 true);exact⟨(((k0.trans k1).trans k2).set (aM N)).set (by omega),x,y,⟨rfl,rfl⟩,zL,zj⟩
def VX{s:aG}(h:jH s=true):cN s=true/\1<=s.length:=by
 cases s with
 |nil=>cases h
 |cons c s=> unfold jH at h;rw[fW]at h;exact⟨h.1,by simp⟩
def VY:ds 1=[1]:=by rw[BJ (by decide),vG];rfl
def VZ(h:cN s=true)(hl:s.length<=100000):(ds (aF s)).length<1000000000000:=by have h1:=DC h;have h2:(10:Nat)^s.length<=1000000000^s.length:=I1 (by decide) _;have:=Mb (n:=aF s) (k:=s.length) (by omega);omega
def Zrx{s:aG}(hl:s.length<9223372036854775808){h:T O}{N:Nat}:Fn A.C 16 [.str s] h N (fun v _ _=>v=.int .i64 (aV s:Nat)):=by
 intro w;rw[aQ,A.k16 (by simp)];cases s with
 |nil=> have cC:=fun st=>Hm (s:=[]) (st:=st) (by simp);have fH:=fun st=>Re (s:=[]) (st:=st) (by simp);simp(disch:=first|(simp;done)|omega|(simp only[bz,cm,bl];omega)|rfl) [-getElem?_pos,A.b16,cC,ah,aC,fH,jH,az];exact⟨ab.refl,rfl⟩
 |cons c t=>
  by_cases h45:cX c=45
  ·have eg:aV (c::t)=lV true (t.take (ah t)) (decide (ah t<t.length)) (t.drop (ah t+1)):=by
    have:c.toNat=45:=by unfold cX at h45;omega
    simp[aV,JN,cD,bm,this]
   rw[eg];have cJ:(0:Int)<(t.length:Int)+1:=by omega
   have cP:∀st:St,uW st (some (.str (c::t))) (some (some (.int .i64 1))) (some none)=some (.str t,st):=fun st=>by rw[Hg (by omega) (by simp only[bl];omega)];rfl
   have cC:=fun st=>Hm (s:=t) (st:=st) (by simp at hl;omega);have fH:=fun st=>Re (s:=t.take (ah t)) (st:=st) (by simp at hl ⊢;omega);have fO:(ah t:Int)<=(t.length:Int):=by have:=GS t;omega
   have gl:ah t<=t.length:=GS t;have iD:(t.take (ah t)).length=ah t:=by simp;omega
   have kK:(t.drop (ah t+1)).length=t.length-(ah t+1):=by simp
   have dM:=h45;have iy:=h45;have mK:=h45;simp at hl;generalize hp:t.take (ah t)=p at*;generalize nK:t.drop (ah t+1)=d at*;by_cases hA:jH p=true
   ·by_cases hz:p=[48]
    ·have e1:(p==[48])=true:=by simp[hz]
     simp(disch:=first|(simp;done)|omega|(simp only[bz,cm,bl];omega)|rfl) [-getElem?_pos,A.b16,cJ,cP,cC,fH,fO,gl,hp,nK,aC,bA,dM,iy,mK,hA,e1,az];exact⟨ab.refl,by simp[lV,gU,hz]⟩
    have e1:(p==[48])=false:=by simp[hz]
    by_cases rG:ah t<t.length
    ·have gX:(ah t:Int)<(t.length:Int):=by omega
     have pM:=fun st=>Re (s:=d) (st:=st) (by omega);by_cases hD:jH d=true
     ·by_cases h48:d=[48]
      ·have e8:(d==[48])=true:=by simp[h48]
       simp(disch:=first|(simp;done)|omega|(simp only[bz,cm,bl];omega)|rfl) [-getElem?_pos,A.b16,cJ,cP,cC,fH,fO,gl,hp,nK,aC,bA,dM,iy,mK,hA,e1,rG,gX,pM,hD,e8,az];exact⟨ab.refl,by simp[lV,gU,h48]⟩
      have e8:(d==[48])=false:=by simp[h48]
      by_cases AY:d=[49]
      ·have e9:(d==[49])=true:=by simp[AY]
       simp(disch:=first|(simp;done)|omega|(simp only[bz,cm,bl];omega)|rfl) [-getElem?_pos,A.b16,cJ,cP,cC,fH,fO,gl,hp,nK,aC,bA,dM,iy,mK,hA,e1,rG,gX,pM,hD,e8,e9,az];exact⟨ab.refl,by simp[lV,gU,AY]⟩
      have e9:(d==[49])=false:=by simp[AY]
      have dZ:gU true p true d=true:=by simp[gU,hA,hD,h48,AY,hz]
      by_cases b6:600<p.length
      ·have b6':(600:Int)<(ah t:Int):=by omega
       simp(disch:=first|(simp;done)|omega|(simp only[bz,cm,bl];omega)|rfl) [-getElem?_pos,A.b16,cJ,cP,cC,fH,fO,gl,hp,nK,aC,bA,dM,iy,mK,hA,e1,rG,gX,pM,hD,e8,e9,b6',az];exact⟨ab.refl,by simp[lV,dZ,b6]⟩
      have b6':¬(600:Int)<(ah t:Int):=by omega
      by_cases b7:600<d.length
      ·have b7':(600:Int)<(t.length:Int)-(ah t:Int)-1:=by omega
       simp(disch:=first|(simp;done)|omega|(simp only[bz,cm,bl];omega)|rfl) [-getElem?_pos,A.b16,cJ,cP,cC,fH,fO,gl,hp,nK,aC,bA,dM,iy,mK,hA,e1,rG,gX,pM,hD,e8,e9,b6',b7',az];exact⟨ab.refl,by simp[lV,dZ,b6,b7]⟩
      have b7':¬(600:Int)<(t.length:Int)-(ah t:Int)-1:=by omega
      obtain⟨pa,pb⟩:=VX hA;obtain⟨da,db⟩:=VX hD;simp(disch:=first|(simp;done)|omega|(simp only[bz,cm,bl];omega)|rfl) [-getElem?_pos,A.b16,cJ,cP,cC,fH,fO,gl,hp,nK,aC,bA,dM,iy,mK,hA,e1,rG,gX,pM,hD,e8,e9,b6',b7'];refine ar (Zu0 rG (by rw[hp];exact pa) (by rw[nK];exact da) (by rw[hp];exact pb) (by rw[nK];exact db) (by omega)) ?_;rintro v1 h1 n1 k1 ⟨x,y,rfl,hx,hy⟩;rw[hp]at hx;rw[nK]at hy;have zA:=(Sl.form hx).one;have zB:=(Sl.form hy).one;unfold V.one at zA zB;have kx:=((((ab.refl (h:=h1) (n:=n1)).new (.cells [.bool false,.aa] 105 true)).new (.cells [.bool false,.aa] 105 true)).set (i:=n1) (o:=.cells [.bool false,x] 105 true) (aM n1)).set (i:=n1+1) (o:=.cells [.bool false,y] 105 true) (by omega);simp(disch:=first|(simp;done)|omega|(simp only[bz,cm,bl];omega)|rfl) [-getElem?_pos,ae,bO,zA,zB];refine ar (VP (hx.ad kx) (hy.ad kx) (VZ pa (by omega)) (VZ da (by omega))) ?_;rintro z h2 n2 k2 eQ;have kk:=(k1.trans kx).trans k2;have lz:=eQ.len;rw[h_]at lz;have jV:¬n1<N:=by have:=k1.le;omega
      have nX:¬n1+1<N:=by have:=k1.le;omega
      generalize hG:Nat.gcd (aF p) (aF d)=G at*;by_cases g1:G=1
      ·subst g1;rw[VY]at lz;obtain⟨b1,b2,b3,b4,b5,z1,z2,z3,z4⟩:=Sl.at (show Sl h2 n2 z (dI [1]) from VY▸eQ) (j:=0) (x:=.int .i64 1) rfl;simp at z4;simp(disch:=first|(simp;done)|omega|(simp only[bz,cm,bl];omega)|rfl) [-getElem?_pos,lz,z1,z3,z4,bA,az,jV,nX];exact⟨kk,by simp[lV,dZ,b6,b7,hG]⟩
      have vU:lV true p true d=1:=by simp[lV,dZ,b6,b7,hG,g1]
      by_cases g2:(ds G).length=1
      ·obtain⟨gx,Rz⟩:=bj (l:=ds G) (k:=0) (by omega);obtain⟨b1,b2,b3,b4,b5,z1,z2,z3,z4⟩:=Sl.at (show Sl h2 n2 z (dI (ds G)) from eQ) (iB Rz);simp at z4;have gne:¬gx=1:=fun hc=>g1 (by have hv:=iC G;rw[Rk Rz,BA (by omega)]at hv;simp[vI,pI]at hv;omega);simp(disch:=first|(simp;done)|omega|(simp only[bz,cm,bl];omega)|rfl) [-getElem?_pos,lz,g2,z1,z3,z4,gne,bA,az,jV,nX,vU];exact kk
      have Ai:¬((ds G).length:Int)=1:=by omega
      simp(disch:=first|(simp;done)|omega|(simp only[bz,cm,bl];omega)|rfl) [-getElem?_pos,lz,g2,Ai,bA,az,jV,nX,vU];exact kk
     have hD:jH d=false:=by simpa using hD
     simp(disch:=first|(simp;done)|omega|(simp only[bz,cm,bl];omega)|rfl) [-getElem?_pos,A.b16,cJ,cP,cC,fH,fO,gl,hp,nK,aC,bA,dM,iy,mK,hA,e1,rG,gX,pM,hD,az];exact⟨ab.refl,by simp[lV,gU,hD]⟩
    have zaS:ah t=t.length:=by omega
    have gX:¬(ah t:Int)<(t.length:Int):=by omega
    have dZ:gU true p false d=true:=by simp[gU,hA,hz]
    have dl0:¬600<d.length:=by omega
    have b7':¬(600:Int)<(t.length:Int)-(ah t:Int)-1:=by omega
    by_cases b6:600<p.length
    ·have b6':(600:Int)<(ah t:Int):=by omega
     simp(disch:=first|(simp;done)|omega|(simp only[bz,cm,bl];omega)|rfl) [-getElem?_pos,A.b16,cJ,cP,cC,fH,fO,gl,hp,nK,aC,bA,dM,iy,mK,hA,e1,rG,gX,b6',az];exact⟨ab.refl,by simp[lV,dZ,b6]⟩
    have b6':¬(600:Int)<(ah t:Int):=by omega
    simp(disch:=first|(simp;done)|omega|(simp only[bz,cm,bl];omega)|rfl) [-getElem?_pos,A.b16,cJ,cP,cC,fH,fO,gl,hp,nK,aC,bA,dM,iy,mK,hA,e1,rG,gX,b6',b7',az];exact⟨ab.refl,by simp[lV,dZ,b6,dl0]⟩
   have hA:jH p=false:=by simpa using hA
   simp(disch:=first|(simp;done)|omega|(simp only[bz,cm,bl];omega)|rfl) [-getElem?_pos,A.b16,cJ,cP,cC,fH,fO,gl,hp,nK,aC,bA,dM,iy,mK,hA,az];exact⟨ab.refl,by simp[lV,gU,hA]⟩
  have It:cD (c::t)=false:=by simp only[cD,decide_eq_false_iff_not];unfold cX at h45;omega
  obtain⟨t,ht⟩:∃t',t'=c::t:=⟨c::t,rfl⟩;rw[<-ht]at hl It ⊢;have iy:t[0]?=some c:=by rw[ht];rfl
  have dM:t.head?=some c:=by rw[ht];rfl
  have hlen:0<t.length:=by rw[ht];simp
  have mK:t≠[]:=by rw[ht];simp
  have fL:(0:Int)<(t.length:Int):=by omega
  have cJ:0<t.length:=hlen;have cP:True:=trivial;clear ht;have eg:aV t=lV false (t.take (ah t)) (decide (ah t<t.length)) (t.drop (ah t+1)):=by simp[aV,JN,bm,It]
  rw[eg];have cC:=fun st=>Hm (s:=t) (st:=st) (by omega);have fH:=fun st=>Re (s:=t.take (ah t)) (st:=st) (by simp;omega);have fO:(ah t:Int)<=(t.length:Int):=by have:=GS t;omega
  have gl:ah t<=t.length:=GS t;have iD:(t.take (ah t)).length=ah t:=by simp;omega
  have kK:(t.drop (ah t+1)).length=t.length-(ah t+1):=by simp
  generalize hp:t.take (ah t)=p at*;generalize nK:t.drop (ah t+1)=d at*;by_cases hA:jH p=true
  ·have e1:True:=trivial;by_cases rG:ah t<t.length
   ·have gX:(ah t:Int)<(t.length:Int):=by omega
    have pM:=fun st=>Re (s:=d) (st:=st) (by omega);by_cases hD:jH d=true
    ·by_cases h48:d=[48]
     ·have e8:(d==[48])=true:=by simp[h48]
      simp(disch:=first|(simp;done)|omega|(simp only[bz,cm,bl];omega)|rfl) [-getElem?_pos,A.b16,cJ,cP,cC,fH,fO,gl,hp,nK,aC,bA,dM,iy,mK,h45,fL,hA,e1,rG,gX,pM,hD,e8,az];exact⟨ab.refl,by simp[lV,gU,h48]⟩
     have e8:(d==[48])=false:=by simp[h48]
     by_cases AY:d=[49]
     ·have e9:(d==[49])=true:=by simp[AY]
      simp(disch:=first|(simp;done)|omega|(simp only[bz,cm,bl];omega)|rfl) [-getElem?_pos,A.b16,cJ,cP,cC,fH,fO,gl,hp,nK,aC,bA,dM,iy,mK,h45,fL,hA,e1,rG,gX,pM,hD,e8,e9,az];exact⟨ab.refl,by simp[lV,gU,AY]⟩
     have e9:(d==[49])=false:=by simp[AY]
     have dZ:gU false p true d=true:=by simp[gU,hA,hD,h48,AY]
     by_cases b6:600<p.length
     ·have b6':(600:Int)<(ah t:Int):=by omega
      simp(disch:=first|(simp;done)|omega|(simp only[bz,cm,bl];omega)|rfl) [-getElem?_pos,A.b16,cJ,cP,cC,fH,fO,gl,hp,nK,aC,bA,dM,iy,mK,h45,fL,hA,e1,rG,gX,pM,hD,e8,e9,b6',az];exact⟨ab.refl,by simp[lV,dZ,b6]⟩
     have b6':¬(600:Int)<(ah t:Int):=by omega
     by_cases b7:600<d.length
     ·have b7':(600:Int)<(t.length:Int)-(ah t:Int)-1:=by omega
      simp(disch:=first|(simp;done)|omega|(simp only[bz,cm,bl];omega)|rfl) [-getElem?_pos,A.b16,cJ,cP,cC,fH,fO,gl,hp,nK,aC,bA,dM,iy,mK,h45,fL,hA,e1,rG,gX,pM,hD,e8,e9,b6',b7',az];exact⟨ab.refl,by simp[lV,dZ,b6,b7]⟩
     have b7':¬(600:Int)<(t.length:Int)-(ah t:Int)-1:=by omega
     obtain⟨pa,pb⟩:=VX hA;obtain⟨da,db⟩:=VX hD;simp(disch:=first|(simp;done)|omega|(simp only[bz,cm,bl];omega)|rfl) [-getElem?_pos,A.b16,cJ,cP,cC,fH,fO,gl,hp,nK,aC,bA,dM,iy,mK,h45,fL,hA,e1,rG,gX,pM,hD,e8,e9,b6',b7'];refine ar (Zu0 rG (by rw[hp];exact pa) (by rw[nK];exact da) (by rw[hp];exact pb) (by rw[nK];exact db) (by omega)) ?_;rintro v1 h1 n1 k1 ⟨x,y,rfl,hx,hy⟩;rw[hp]at hx;rw[nK]at hy;have zA:=(Sl.form hx).one;have zB:=(Sl.form hy).one;unfold V.one at zA zB;have kx:=((((ab.refl (h:=h1) (n:=n1)).new (.cells [.bool false,.aa] 105 true)).new (.cells [.bool false,.aa] 105 true)).set (i:=n1) (o:=.cells [.bool false,x] 105 true) (aM n1)).set (i:=n1+1) (o:=.cells [.bool false,y] 105 true) (by omega);simp(disch:=first|(simp;done)|omega|(simp only[bz,cm,bl];omega)|rfl) [-getElem?_pos,ae,bO,zA,zB];refine ar (VP (hx.ad kx) (hy.ad kx) (VZ pa (by omega)) (VZ da (by omega))) ?_;rintro z h2 n2 k2 eQ;have kk:=(k1.trans kx).trans k2;have lz:=eQ.len;rw[h_]at lz;have jV:¬n1<N:=by have:=k1.le;omega
     have nX:¬n1+1<N:=by have:=k1.le;omega
     generalize hG:Nat.gcd (aF p) (aF d)=G at*;by_cases g1:G=1
     ·subst g1;rw[VY]at lz;obtain⟨b1,b2,b3,b4,b5,z1,z2,z3,z4⟩:=Sl.at (show Sl h2 n2 z (dI [1]) from VY▸eQ) (j:=0) (x:=.int .i64 1) rfl;simp at z4;simp(disch:=first|(simp;done)|omega|(simp only[bz,cm,bl];omega)|rfl) [-getElem?_pos,lz,z1,z3,z4,bA,az,jV,nX];exact⟨kk,by simp[lV,dZ,b6,b7,hG]⟩
     have vU:lV false p true d=1:=by simp[lV,dZ,b6,b7,hG,g1]
     by_cases g2:(ds G).length=1
     ·obtain⟨gx,Rz⟩:=bj (l:=ds G) (k:=0) (by omega);obtain⟨b1,b2,b3,b4,b5,z1,z2,z3,z4⟩:=Sl.at (show Sl h2 n2 z (dI (ds G)) from eQ) (iB Rz);simp at z4;have gne:¬gx=1:=fun hc=>g1 (by have hv:=iC G;rw[Rk Rz,BA (by omega)]at hv;simp[vI,pI]at hv;omega);simp(disch:=first|(simp;done)|omega|(simp only[bz,cm,bl];omega)|rfl) [-getElem?_pos,lz,g2,z1,z3,z4,gne,bA,az,jV,nX,vU];exact kk
     have Ai:¬((ds G).length:Int)=1:=by omega
     simp(disch:=first|(simp;done)|omega|(simp only[bz,cm,bl];omega)|rfl) [-getElem?_pos,lz,g2,Ai,bA,az,jV,nX,vU];exact kk
    have hD:jH d=false:=by simpa using hD
    simp(disch:=first|(simp;done)|omega|(simp only[bz,cm,bl];omega)|rfl) [-getElem?_pos,A.b16,cJ,cP,cC,fH,fO,gl,hp,nK,aC,bA,dM,iy,mK,h45,fL,hA,e1,rG,gX,pM,hD,az];exact⟨ab.refl,by simp[lV,gU,hD]⟩
   have zaS:ah t=t.length:=by omega
   have gX:¬(ah t:Int)<(t.length:Int):=by omega
   have dZ:gU false p false d=true:=by simp[gU,hA]
   have dl0:¬600<d.length:=by omega
   have b7':¬(600:Int)<(t.length:Int)-(ah t:Int)-1:=by omega
   by_cases b6:600<p.length
   ·have b6':(600:Int)<(ah t:Int):=by omega
    simp(disch:=first|(simp;done)|omega|(simp only[bz,cm,bl];omega)|rfl) [-getElem?_pos,A.b16,cJ,cP,cC,fH,fO,gl,hp,nK,aC,bA,dM,iy,mK,h45,fL,hA,e1,rG,gX,b6',az];exact⟨ab.refl,by simp[lV,dZ,b6]⟩
   have b6':¬(600:Int)<(ah t:Int):=by omega
   simp(disch:=first|(simp;done)|omega|(simp only[bz,cm,bl];omega)|rfl) [-getElem?_pos,A.b16,cJ,cP,cC,fH,fO,gl,hp,nK,aC,bA,dM,iy,mK,h45,fL,hA,e1,rG,gX,b6',b7',az];exact⟨ab.refl,by simp[lV,dZ,b6,dl0]⟩
  have hA:jH p=false:=by simpa using hA
  simp(disch:=first|(simp;done)|omega|(simp only[bz,cm,bl];omega)|rfl) [-getElem?_pos,A.b16,cJ,cP,cC,fH,fO,gl,hp,nK,aC,bA,dM,iy,mK,h45,fL,hA,az];exact⟨ab.refl,by simp[lV,gU,hA]⟩
def TC(hl:s.length<=100000){h:T O}{N:Nat}:Fn A.C 16 [.str s] h N (fun v _ _=>v=.int .i64 (aV s:Nat)):=Zrx (by omega)
end
end Go.Mx
