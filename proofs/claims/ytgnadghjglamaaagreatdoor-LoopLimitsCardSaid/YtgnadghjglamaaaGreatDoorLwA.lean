/-Coefficients of a stable polynomial are -/
import Derived.Test.YtgnadghjglamaaaGreatDoorLpG
set_option linter.all false
set_option maxHeartbeats 8000000
namespace Go.Mx
noncomputable section
open Go Go.Proofs
variable {b:Rat}
set_option maxRecDepth 1000000
def Ny{q:Rat}:0<=iE q:=by unfold iE;split<;>grind
def Zzb{q:Rat}:q<=iE q/\ -q<=iE q:=by unfold iE;split<;>constructor<;>grind
def Yxe{q:Rat}(h1: -b<=q)(h2:q<=b):iE q<=b:=by unfold iE;split<;>grind
def Zps{a:Rat}:iE (a*b)=iE a*iE b:=by
 unfold iE;by_cases ha:a<0
 ·by_cases hb:b<0
  ·have h:=Rat.mul_pos (show (0:Rat)< -a by grind) (show (0:Rat)< -b by grind);rw[aQ ha,aQ hb,aA (by grind)];grind
  have h:=Rat.mul_nonneg (show (0:Rat)<= -a by grind) (show (0:Rat)<=b by grind);rw[aQ ha,aA hb];split<;>grind
 by_cases hb:b<0
 ·have h:=Rat.mul_nonneg (show (0:Rat)<=a by grind) (show (0:Rat)<= -b by grind);rw[aA ha,aQ hb];split<;>grind
 have h:=Rat.mul_nonneg (show (0:Rat)<=a by grind) (show (0:Rat)<=b by grind);rw[aA ha,aA hb,aA (by grind)]
def Yv4{a b:Rat}:iE (a+b)<=iE a+iE b:=by have h1:=@Zzb a;have h2:=@Zzb b;exact Yxe (by grind) (by grind)
def Yma{x y d:Rat}(hd:0<d)(h:x*d<=y*d):x<=y:=by apply Rat.not_lt.1;intro hc;have:=Rat.mul_pos (show (0:Rat)<x-y by grind) hd;grind
def Zu9{x y d:Rat}(hd:0<=d)(h:x<=y):x*d<=y*d:=by have:=Rat.mul_nonneg (show (0:Rat)<=y-x by grind) hd;grind
def chs:Nat->Nat->Nat
 |_,0=>1
 |0,_+1=>0
 |n+1,k+1=>chs n k+chs n (k+1)
def Yny:∀{n k:Nat},n<k->chs n k=0
 |_,0,h=>by omega
 |0,_+1,_=>rfl
 |n+1,k+1,h=>by
  rw[chs,Yny (by omega),Yny (by omega)]
def Zpm:∀{n:Nat},chs n n=1
 |0=>rfl
 |n+1=>by rw[chs,Zpm,Yny (by omega)]
def Yvu{n:Nat}:chs n 0=1:=by cases n<;>rfl
def Yxt:∀{n:Nat},chs n 1=n
 |0=>rfl
 |n+1=>by rw[chs,Yvu,Yxt];omega
def Zy6:∀{n k:Nat},k<=n->chs n (n-k)=chs n k
 |n,0,_=>by rw[Nat.sub_zero,Zpm,Yvu]
 |0,k+1,h=>by omega
 |n+1,k+1,h=>by
  by_cases e:k=n
  ·subst e
   rw[Nat.sub_self,Yvu,Zpm]
  ·have h1:=Zy6 (n:=n) (k:=k+1) (by omega)
   have h2:=Zy6 (n:=n) (k:=k) (by omega)
   rw[show n+1-(k+1)=n-(k+1)+1 by omega,chs,chs,h1,show n-(k+1)+1=n-k by omega,h2]
   omega
def Zzx:∀{n:Nat} {p:List Rat},p.length=n+1->pg p n≠0->zgo (n+1) p=true->∀k,k<=n->iE (pg p k)<=(chs n k:Rat)*iE (pg p n)
 |0,p,hl,h0,hs,k,hk=>by
  obtain rfl:k=0:=by omega
  have:(chs 0 0:Rat)=1:=rfl
  rw[this]
  grind
 |m+1,p,hl,h0,hs,k,hk=>by
  unfold zgo at hs
  rw[aA (by omega)]at hs
  split at hs
  ·cases hs
  ·rename_i hr
   have Nk:iE (ratio p)<1:=Rat.not_le.1 hr
   have hz:pg p (p.length-1)≠0:=by rw[hl];exact h0
   have nl:(jB p).length=m+1:=by rw[Iz,hl];rfl
   have nz:=Yv3 (by omega) hz Nk
   rw[nl,show m+1-1=m from rfl]at nz
   have ih:=Zzx nl nz hs
   have e0:pg p 0=ratio p*pg p (m+1):=by unfold ratio;rw[hl,show m+1+1-1=m+1 from rfl];exact(Rat.div_mul_cancel h0).symm
   have ng:∀j,j<=m->pg (jB p) j=pg p (j+1)-ratio p*pg p (m-j):=fun j hj=>by
    rw[Yv2 (by omega),hl,show m+1+1-1-1-j=m-j by omega]
   have em:pg (jB p) m=pg p (m+1)*(1-ratio p*ratio p):=by
    rw[ng m (aZ _),Nat.sub_self,e0];grind
   generalize ratio p=r at*
   have hR:=@Ny r
   have rr:r*r=iE r*iE r:=by unfold iE;split<;>grind
   have d0:(0:Rat)<1-r*r:=by
    have h1:=Rat.mul_nonneg hR (show (0:Rat)<=1-iE r by grind)
    rw[rr]
    grind
   have hd:iE (1-r*r)=1-r*r:=aA (by grind)
   have hL:=@Ny (pg p (m+1))
   have am:iE (pg (jB p) m)=iE (pg p (m+1))*(1-r*r):=by rw[em,Zps,hd]
   cases k with
   |zero=>
    rw[Yvu,e0,Zps]
    have:=Zu9 hL (show iE r<=1 by grind)
    have c1:((1:Nat):Rat)=1:=rfl
    rw[c1]
    exact this
   |succ j=>
    by_cases hj:j=m
    ·subst hj
     rw[Zpm]
     have c1:((1:Nat):Rat)=1:=rfl
     rw[c1]
     grind
    ·have a1:=ih j (by omega)
     have a2:=ih (m-1-j) (by omega)
     have s1:chs m (m-1-j)=chs m (j+1):=by
      rw[show m-1-j=m-(j+1) by omega];exact Zy6 (by omega)
     rw[s1]at a2
     rw[am]at a1 a2
     have q1:=ng j (by omega)
     have q2:=ng (m-1-j) (by omega)
     rw[show m-1-j+1=m-j by omega,show m-(m-1-j)=j+1 by omega]at q2
     have ex:pg p (j+1)*(1-r*r)=pg (jB p) j+r*pg (jB p) (m-1-j):=by rw[q1,q2];grind
     apply Yma d0
     have t1:iE (pg p (j+1))*(1-r*r)=iE (pg (jB p) j+r*pg (jB p) (m-1-j)):=by rw[<-ex,Zps,hd]
     have t2:=@Yv4 (pg (jB p) j) (r*pg (jB p) (m-1-j))
     rw[Zps]at t2
     have t3:=Zu9 (@Ny (pg (jB p) (m-1-j))) (show iE r<=1 by grind)
     have cc:((chs (m+1) (j+1):Nat):Rat)=(chs m j:Rat)+(chs m (j+1):Rat):=by
      rw[chs];exact Rat.natCast_add _ _
     rw[t1,cc]
     grind
def Ywx{g l p:Rat}{D:Nat}(hl:l<=1)(hp:0<=p)(hs:Dj g l p D=true):g<=(D:Rat)+3:=by
 have cl:=@Zi1 g l p D;have h:=Zzx (n:=D+2) cl.1 (by rw[cl.2];decide) hs 1 (by omega);rw[cl.2,Yxt]at h;have a1:iE (1:Rat)=1:=by decide+kernel
 have e1:=Ynm (g:=g) (l:=l) (p:=p) (D:=D) (k:=D+1) (by omega);rw[show D+2-(D+1)=1 by omega,aA (show ¬D+1=0 by omega),aQ (show D+1=D+1 from rfl),aA (show ¬D+1=D+2 by omega)]at e1;have c2:((D+2:Nat):Rat)=(D:Rat)+2:=Rat.natCast_add _ _;rw[a1,c2]at h;have h2:=(@Zzb (pg (zgn g l p D) 1)).1;rw[e1]at h h2;by_cases hD:D+1=1
 ·rw[aQ hD]at h h2;grind
 rw[aA hD]at h h2;grind
def Zo1(f:Nat->Bool)(n:Nat):Prop:=1<=n/\f n=false/\∀i,1<=i->i<n->f i=true
def Zo1.uniq{f:Nat->Bool}{a b:Nat}(ha:Zo1 f a)(hb:Zo1 f b):a=b:=by
 apply Nat.le_antisymm
 ·apply yl;intro hc;have:=ha.2.2 b hb.1 hc;rw[hb.2.1]at this;cases this
 apply yl;intro hc;have:=hb.2.2 a ha.1 hc;rw[ha.2.1]at this;cases this
def stU(l p:Rat)(D u:Nat)(i:Nat):Bool:=Dj ((i:Rat)/(u:Rat)) l p D
def Yv6{l p:Rat}{D u i:Nat}(hl:l<=1)(hp:0<=p)(hu:0<u)(h:stU l p D u i=true):i<=(D+3)*u:=by
 have h1:=Ywx hl hp h;have u0:(0:Rat)<(u:Rat):=by exact_mod_cast hu
 have h2:=Zu9 (Rat.le_of_lt u0) h1;rw[Rat.div_mul_cancel (by grind)]at h2;have h3:(((D+3)*u:Nat):Rat)=((D:Rat)+3)*(u:Rat):=by rw[Rat.natCast_mul,Rat.natCast_add];rfl
 rw[<-h3]at h2;exact_mod_cast h2
variable {a:Nat}
def A.b123:=A.q Tryz.f123
def A.k123:=@A.kk 123 14 [.cell 4 (some 4)] A.b123 (by kernel_rfl) rfl
def A.w88:=A.q Tryz.f88
def A.zgC:=A.ql A.w88 0 []
def A.b88:=(fun x0=>A.qb A.w88 [x0]) A.zgC
def A.k88:=@A.kk 88 23 [.cell 4 (some 4)] A.b88 (by kernel_rfl) rfl
def Ze5:((a:Nat):Rat).num=(a:Int)/\((a:Nat):Rat).den=1:=⟨Rat.num_natCast _,Rat.den_natCast _⟩
def Zg7{k:Nat}(h:a<2^k)(hk:1<=k):Qb k ((a:Nat):Rat):=⟨by rw[Ze5.1];simpa using h,by
 rw[Ze5.2]
 have:=pc (show 0<2 by decide) hk
 omega⟩
def Ywz{h:T O}{N k:Nat}{x:V}(hx:Fc h N x ((a:Nat):Rat))(ha:1<=a)(hk:k<1000)(la:wl a<1000)(hM:wl ((a^k:Nat):Int)<1000):Fn A.C 123 [x,.int .i64 k] h N (fun v h' n'=>Fc h' n' v ((a^k:Nat):Rat)):=by
 intro w;obtain⟨n1,u1,n2,u2,rfl,s1,s2⟩:=hx;rw[Ze5.1]at s1;rw[Ze5.2]at s2;have o1:=de s1;have o2:=de s2;unfold V.one at o1 o2;have kB:ae h N ((h.set N (.cells [.int .i64 n1,u1,.int .i64 n2,u2] 110 true)).set (N+1) (.cells [.int .i64 0,.aa,.int .i64 0,.aa] 110 true)) (N+1+1):=(ae.refl.new _).new _;have b0:((h.set N (.cells [.int .i64 n1,u1,.int .i64 n2,u2] 110 true)).set (N+1) (.cells [.int .i64 0,.aa,.int .i64 0,.aa] 110 true)).get N=some (.cells [.int .i64 n1,u1,.int .i64 n2,u2] 110 true):=by simp
 have b1:((h.set N (.cells [.int .i64 n1,u1,.int .i64 n2,u2] 110 true)).set (N+1) (.cells [.int .i64 0,.aa,.int .i64 0,.aa] 110 true)).get (N+1)=some (.cells [.int .i64 0,.aa,.int .i64 0,.aa] 110 true):=by simp
 have l2:wl (((1:Nat):Int))<10000000000:=by have:=(Zg7 (a:=1) (k:=2) (by decide) (by decide)).iC.1;rw[Ze5.1]at this;omega
 have l1:wl (((1:Nat)^k:Nat):Int)<10000000000:=by rw[Nat.one_pow];exact l2
 generalize hM':a^k=M at*;rw[aV,A.k123 (by simp)];simp(disch:=first|(simp;done)|omega|rfl) [-getElem?_pos,A.b123,o1,o2,aJ,aE];generalize (h.set N (.cells [.int .i64 n1,u1,.int .i64 n2,u2] 110 true)).set (N+1) (.cells [.int .i64 0,.aa,.int .i64 0,.aa] 110 true)=HB at*;refine az (Ymd (k:=k) (s1.ah kB) ha (by omega) (by omega) (by rw[hM'];omega)) ?_;rintro v1 h1 m1 k1 t1;rw[hM']at t1;obtain⟨a1,x1,rfl,q1⟩:=t1.cells;have b01:=(k1.get N (by omega)).trans b0;have b11:=(k1.get (N+1) (by omega)).trans b1;have uw:=k1.le;have e0:N<m1:=by omega
 have e1:N+1<m1:=by omega
 simp(disch:=first|(simp;done)|omega|rfl) [-getElem?_pos,b01,e0,aJ,aE];refine az (Ymd (a:=1) (k:=k) ((s2.ah kB).ah k1) (by decide) (by omega) l2 l1) ?_;rintro v2 h2 m2 k2 t2;obtain⟨a2,x2,rfl,q2⟩:=t2.cells;have b12:=(k2.get (N+1) e1).trans b11;have oP:=k2.le;have e2:N+1<m2:=by omega
 unfold V.one at q1 q2;rw[Nat.one_pow]at t2;simp(disch:=first|(simp;done)|omega|rfl) [-getElem?_pos,b12,e2,q1,q2,aJ,aE,ag,bE,bU.bZ,aF];refine⟨((kB.trans k1).trans k2).set (by omega),a1,x1,a2,x2,rfl,?_,?_⟩
 ·rw[Ze5.1];exact(t1.ah k2).aG b12 lZ rfl
 rw[Ze5.2];exact t2.aG b12 lZ rfl
def Nt{dec:Nat}(h:dec<=3):10^dec<=1000/\1<=10^dec:=⟨sF (pc (by omega) h) (by decide),vU (by decide)⟩
def Zrt{i u:Nat}(hi:i<1048576)(hu:u<1048576)(h0:1<=u):Qb 40 ((i:Rat)/(u:Rat)):=by
 have a:=Zg7 (a:=i) (k:=20) hi (by decide);have b:=Zg7 (a:=u) (k:=20) hu (by decide);have u0:((u:Nat):Rat)≠0:=by intro hc;have:=congrArg Rat.num hc;rw[Ze5.1]at this;simp at this;omega
 rw[Rat.div_def];exact a.mul (b.inv u0)
def Yi8{h:T O}{N D dec:Nat}{g:aU}{l p:Rat}(ql:Qb 40 l)(qp:Qb 40 p)(hl:l<=1)(hp:0<=p)(fv:dec<=3)(hD:D<=6):Fn A.C 88 [.agg [.str g,.str (ax l),.str (ax p),.int .i64 D],.int .i64 dec] h N (fun x h' n'=>∃n,Zo1 (stU l p D (10^dec)) n/\n<=10001/\Fc h' n' x ((n:Rat)/((10^dec:Nat):Rat))):=by
 intro w;have lY:∀c:List V,(V.agg c).cells=c:=fun _=>rfl;have e0:zF=[V.int .i64 0,.aa,.int .i64 0,.aa]:=rfl;obtain⟨u1,u2⟩:=Nt fv;have wp:wl ((10^dec:Nat):Int)<1000:=by have:=(Zg7 (a:=10^dec) (k:=20) (by omega) (by decide)).iC.1;rw[Ze5.1]at this;omega
 have wt:wl ((10:Nat):Int)<1000:=by have:=(Zg7 (a:=10) (k:=20) (by omega) (by decide)).iC.1;rw[Ze5.1]at this;omega
 have fp:∀{h':T O} {n':Nat} {x:V},Fc h' n' x ((10:Nat):Rat)->Fn A.C 123 [x,.int .i64 dec] h' n' (fun v h'' n''=>Fc h'' n'' v ((10^dec:Nat):Rat)):=fun f=>Ywz f (by decide) (by omega) wt wp;have hT0:=jf (show D+3<=9 by omega) u1;generalize hgu:10^dec=U at*;have kB:ae h N ((h.set N (.cells [.str g,.str (ax l),.str (ax p),.int .i64 D] 24 true)).set (N+1) (.cells [.int .i64 0,.aa,.int .i64 0,.aa] 110 true)) (N+1+1):=(ae.refl.new _).new _;have b0:((h.set N (.cells [.str g,.str (ax l),.str (ax p),.int .i64 D] 24 true)).set (N+1) (.cells [.int .i64 0,.aa,.int .i64 0,.aa] 110 true)).get N=some (.cells [.str g,.str (ax l),.str (ax p),.int .i64 D] 24 true):=by simp
 have b1:((h.set N (.cells [.str g,.str (ax l),.str (ax p),.int .i64 D] 24 true)).set (N+1) (.cells [.int .i64 0,.aa,.int .i64 0,.aa] 110 true)).get (N+1)=some (.cells [.int .i64 0,.aa,.int .i64 0,.aa] 110 true):=by simp
 rw[aV,A.k88 (by simp)];simp(disch:=first|(simp;done)|omega|rfl) [-getElem?_pos,A.b88,aJ,aE];generalize (h.set N (.cells [.str g,.str (ax l),.str (ax p),.int .i64 D] 24 true)).set (N+1) (.cells [.int .i64 0,.aa,.int .i64 0,.aa] 110 true)=HB at*;refine az (xj (z:=10) (by decide) (by decide)) ?_;rintro v1 h1 n1 k1 f1;have Su:Fc h1 n1 v1 ((10:Nat):Rat):=f1;simp(disch:=first|(simp;done)|omega|rfl) [-getElem?_pos,];refine az (fp Su) ?_;rintro _ h2 n2 k2 f2;obtain⟨cu,rfl,fu⟩:=f2.c;obtain⟨g1,g2⟩:=fu.len;have e4:=rT (d:=zF) g1 rfl;rw[e0]at e4;have oP:=(k1.trans k2).le;have b02:=((k1.trans k2).get N (by omega)).trans b0;have b12:=((k1.trans k2).get (N+1) (by omega)).trans b1;have kU:ae h2 n2 ((h2.set n2 (.cells [.int .i64 0,.aa,.int .i64 0,.aa] 110 true)).set n2 (.cells cu 110 true)) (n2+1):=(ae.refl.new _).set (aZ _);have gU:((h2.set n2 (.cells [.int .i64 0,.aa,.int .i64 0,.aa] 110 true)).set n2 (.cells cu 110 true)).get n2=some (.cells cu 110 true):=by simp
 have b03:=(kU.get N (by omega)).trans b02;have b13:=(kU.get (N+1) (by omega)).trans b12;have fu3:=fu.ah kU;simp(disch:=first|(simp;done)|omega|rfl) [-getElem?_pos, -V.cells, -V.one,lY,g1,g2,bE,e4];generalize (h2.set n2 (.cells [.int .i64 0,.aa,.int .i64 0,.aa] 110 true)).set n2 (.cells cu 110 true)=H3 at*;have K3:=(kB.trans (k1.trans k2)).trans kU;have hT:(D+3)*U+1<=10001:=by omega
 have qu:=Zg7 (a:=U) (k:=20) (by omega) (by decide);have u0:((U:Nat):Rat)≠0:=by intro hc;have:=congrArg Rat.num hc;rw[Ze5.1]at this;simp at this;omega
 have wu:=qu.iC;have wv:=(qu.inv u0).iC;have su:=tI g1;refine c_ [(6,6),(10,18)] (fun e r st=>e=.exit 0/\aD N st.w=[]/\ae H3 (n2+1) st.h st.n/\∃i:Nat,r.get 6=some (.int .i64 i)/\Zo1 (stU l p D U) i/\i<=10001) (fun m r st=>aD N st.w=[]/\ae H3 (n2+1) st.h st.n/\∃i:Nat,i+m=(D+3)*U+2/\1<=i/\r.get 6=some (.int .i64 i)/\∀j,1<=j->j<i->stU l p D U j=true) ((D+3)*U+1) ?_ ?_ ?_
 ·exact⟨Dr fun i hi=>by simp at hi;omega,ae.refl,1,by omega,by omega,by simp,fun j h1 h2=>by omega⟩
 ·rintro m r ⟨H,n,W⟩ hr hf ⟨hW,hK,i,hi,i1,h6,fk⟩;simp only at hW hK;rw[dk];have Nj:=hK.le;have hm:1<=m:=by apply yl;intro hc;have:=Yv6 hl hp (by omega) (fk ((D+3)*U+1) (by omega) (by omega));omega
  obtain⟨m,rfl⟩:∃m',m=m'+1:=⟨m-1,by omega⟩;have b04:=(hK.get N (by omega)).trans b03;have gU4:=(hK.get n2 (by omega)).trans gU;have l04:N<n:=by omega
  have lU4:n2<n:=by omega
  have qi:=Zg7 (a:=i) (k:=20) (by omega) (by decide);have wi:=qi.iC;have qg:=Zrt (i:=i) (u:=U) (by omega) (by omega) u2;simp(disch:=first|(simp;done)|omega|rfl) [-getElem?_pos, -V.cells, -V.one,A.zgC,hr,hf,h6,b04,l04,aJ,aE];refine az (xj (z:=(i:Int)) (by omega) (by omega)) ?_;rintro v5 h5 n5 k5 f5;have f5':Fc h5 n5 v5 ((i:Nat):Rat):=f5;have gU5:=(k5.get n2 lU4).trans gU4;have lU5:n2<n5:=by have:=k5.le;omega
  simp(disch:=first|(simp;done)|omega|rfl) [-getElem?_pos, -V.cells, -V.one,hr,gU5,lU5,su,aJ];refine az (Yw7 f5' ((fu3.ah hK).ah k5).up u0 (by omega) (by omega) (by omega) (by omega) (by omega) (by omega)) ?_;rintro v6 h6' n6 k6 f6;simp(disch:=first|(simp;done)|omega|rfl) [-getElem?_pos, -V.cells, -V.one];refine az (Ydf (gs:=g) f6 qg ql qp (by decide) hD) ?_;rintro v7 h7 n7 k7 t7;have xn:=@Zi1 ((i:Rat)/(U:Rat)) l p D;have qc:=Dv (d:=D) qg ql qp (by decide);simp(disch:=first|(simp;done)|omega|rfl) [-getElem?_pos, -V.cells, -V.one];refine az (Ywb (k:=3*40+2) t7 (by rw[xn.1];omega) (by rw[xn.1];omega) (by rw[xn.1];show pg _ (D+2)≠0;rw[xn.2];decide) qc (by omega) (by rw[xn.1];exact Yxp (by omega) hD)) ?_;rintro _ h8 n8 k8 rfl;have zh:zgo (zgn ((i:Rat)/(U:Rat)) l p D).length (zgn ((i:Rat)/(U:Rat)) l p D)=stU l p D U i:=by rw[xn.1];rfl
  have K8:=(((hK.trans k5).trans k6).trans k7).trans k8;rw[zh];cases hc:stU l p D U i with
  |true=>
   simp(disch:=first|(simp;done)|omega|rfl) [-getElem?_pos,hr,hf,h6];exact⟨m,by omega,hW,K8,i+1,by omega,by omega,by simp,fun j j1 j2=>by
    by_cases e:j=i
    ·rw[e];exact hc
    ·exact fk j j1 (by omega)⟩
  |false=> simp(disch:=first|(simp;done)|omega|rfl) [-getElem?_pos,hr,hf,h6];exact⟨hW,K8,⟨i1,hc,fk⟩,by omega⟩
 rintro _ r ⟨H,n,W⟩ hr ⟨rfl,hW,hK,i,h6,zgD,hi⟩;simp only at hW hK;have Nj:=hK.le;have gU4:=(hK.get n2 (by omega)).trans gU;have b14:=(hK.get (N+1) (by omega)).trans b13;have lU4:n2<n:=by omega
 have l14:N+1<n:=by omega
 have qi:=Zg7 (a:=i) (k:=20) (by omega) (by decide);have wi:=qi.iC;simp(disch:=first|(simp;done)|omega|rfl) [-getElem?_pos, -V.cells, -V.one,hr,h6];refine az (xj (z:=(i:Int)) (by omega) (by omega)) ?_;rintro v5 h5 n5 k5 f5;have f5':Fc h5 n5 v5 ((i:Nat):Rat):=f5;have gU5:=(k5.get n2 lU4).trans gU4;have lU5:n2<n5:=by have:=k5.le;omega
 simp(disch:=first|(simp;done)|omega|rfl) [-getElem?_pos, -V.cells, -V.one,hr,gU5,lU5,su,aJ];refine az (Yw7 f5' ((fu3.ah hK).ah k5).up u0 (by omega) (by omega) (by omega) (by omega) (by omega) (by omega)) ?_;rintro _ h6' n6 k6 f6;obtain⟨c6,rfl,fc6⟩:=f6.c;obtain⟨p1,p2⟩:=fc6.len;have e6:=rT (d:=zF) p1 rfl;rw[e0]at e6;have s6:=tI p1;have k56:=k5.trans k6;have b16:=(k56.get (N+1) l14).trans b14;have l16:N+1<n6:=by have:=k56.le;omega
 simp(disch:=first|(simp;done)|omega|rfl) [-getElem?_pos, -V.cells, -V.one,hr,lY,p1,p2,bE,b16,l16,e6,s6,aJ,aF];exact⟨by simpa using hW,((K3.trans hK).trans k56).set (by omega),i,zgD,hi,(fc6.aG b16 lZ (by simp[p1])).up⟩
def A.b44:=A.q Tryz.f44
def A.k44:=@A.kk 44 13 [.cell 4 (some 4)] A.b44 (by kernel_rfl) rfl
def Ywy{g l p:aU}{D:Int}{x:aU}{h:T O}{N:Nat}:Fn A.C 44 [.agg [.str g,.str l,.str p,.int .i64 D],.str x] h N (fun u _ _=>u=.agg [.str x,.str l,.str p,.int .i64 D]):=by intro w;rw[aV,A.k44 (by simp)];simp(disch:=first|(simp;done)|omega|rfl) [-getElem?_pos,A.b44,aJ,aE,ag,bE,aF];exact((aI ae.refl _).trans (aI ae.refl _)).set (by omega)
variable {N dec:Nat} {h:T O}
def A.b106:=A.q Tryz.f106
def A.k106:=@A.kk 106 6 [.tmp 2] A.b106 (by kernel_rfl) rfl
def A.zgc:=A.q Tryz.f179
def A.zgp:=A.ql A.zgc 0 []
def A.b179:=(fun x0=>A.qb A.zgc [x0]) A.zgp
def A.k179:=@A.kk 179 27 [.tmp 4] A.b179 (by kernel_rfl) rfl
def A.b107:=A.q Tryz.f107
def A.k107:=@A.kk 107 5 [.tmp 2] A.b107 (by kernel_rfl) rfl
def A.w37:=A.q Tryz.f37
def A.zf_:=A.ql A.w37 0 []
def A.b37:=(fun x0=>A.qb A.w37 [x0]) A.zf_
def A.k37:=@A.kk 37 22 [.tmp 4] A.b37 (by kernel_rfl) rfl
def Ywa{n:Nat}:ax ((n:Nat):Rat)=aR (n:Int):=by unfold ax;rw[Ze5.1,Ze5.2];simp
def Xav{n:Nat}(hn:n<1000000000):Fn A.C 106 [.int .i64 (n:Nat)] h N (fun v _ _=>v=.str (ax ((n:Nat):Rat))):=by
 intro w;have qn:=Zg7 (a:=n) (k:=30) (by omega) (by decide);have tn:=jt qn;rw[aV,A.k106 (by simp)];simp(disch:=first|(simp;done)|omega|rfl) [-getElem?_pos,A.b106];refine az (Zz5 (by omega) (by omega)) ?_;rintro v1 h1 n1 k1 t1;simp(disch:=first|(simp;done)|omega|rfl) [-getElem?_pos,];refine az (MK t1 ?_) ?_
 ·have:=uc (n:=(n:Int).natAbs) (k:=30) (by omega);omega
 rintro _ h2 n2 k2 rfl;rw[Ywa];simp(disch:=first|(simp;done)|omega|rfl) [-getElem?_pos,aF];exact k1.trans k2
def Xa3(fv:dec<=3):Fn A.C 179 [.str [49,48],.int .i64 dec] h N (fun v _ _=>v=.str (ax ((10^dec:Nat):Rat))):=by
 intro w;obtain⟨u1,u2⟩:=Nt fv;have Nw:ax ((10:Nat):Rat)=[49,48]:=by decide+kernel
 have e1:ax ((1:Nat):Rat)=[49]:=by decide+kernel
 have c0:¬(dec:Int)<0:=by omega
 generalize hT:10^dec=T at*;rw[aV,A.k179 (by simp)];simp(disch:=first|(simp;done)|omega|rfl) [-getElem?_pos,A.b179,c0];refine c_ [(0,1),(5,5),(13,25)] (fun e r st=>e=.exit 0/\aD N st.w=[]/\ae h N st.h st.n/\r.get 5=some (.str (ax ((T:Nat):Rat)))) (fun m r st=>aD N st.w=[]/\ae h N st.h st.n/\m<=3/\r.get 1=some (.int .i64 m)/\∃a x:Nat,r.get 5=some (.str (ax ((a:Nat):Rat)))/\r.get 0=some (.str (ax ((x:Nat):Rat)))/\1<=a/\1<=x/\a*x^m=T) dec ?_ ?_ ?_
 ·exact⟨by simp,ae.refl,fv,by simp,1,10,by rw[e1];simp,by rw[Nw];simp,by decide,by decide,by rw[Nat.one_mul];exact hT⟩
 ·rintro m r ⟨H,n,W⟩ hr hf ⟨hW,hK,hm,h1,a,x,h5,h0,a1,x1,hax⟩;simp only at hW hK;rw[dk];have xm:1<=x^m:=vU (by omega);have ba:a<=1000:=by have:=je a xm;omega
  have qa:=Zg7 (a:=a) (k:=20) (by omega) (by decide);have mm:∀y z:Nat,((y:Nat):Rat)*((z:Nat):Rat)=((y*z:Nat):Rat):=fun y z=>(Rat.natCast_mul _ _).symm;match m,hm with
  |0,_=>
   rw[AH,tE]at hax
   simp(disch:=first|(simp;done)|omega|rfl) [-getElem?_pos,A.zgp,hr,hf,h1,h5,hW,hK,hax]
  |1,_=>
   rw[Nat.pow_one]at hax
   have bx:x<=1000:=by have:=ky x a1;omega
   have qx:=Zg7 (a:=x) (k:=20) (by omega) (by decide)
   simp(disch:=first|(simp;done)|omega|rfl) [-getElem?_pos,A.zgp,hr,hf,h1,h5,h0,aL]
   refine az (uM qa qx (by decide) (by decide)) ?_
   rintro _ h3 n3 k3 rfl
   simp(disch:=first|(simp;done)|omega|rfl) [-getElem?_pos,hr,hf,h1,h5,h0]
   refine az (uM qx qx (by decide) (by decide)) ?_
   rintro _ h4 n4 k4 rfl
   simp(disch:=first|(simp;done)|omega|rfl) [-getElem?_pos,hr,hf,h1]
   rw[mm,mm]
   exact⟨hW,(hK.trans k3).trans k4,a*x,rfl,x*x,rfl,tH a1 x1,tH x1 x1,by simpa using hax⟩
  |2,_=>
   have x2:x^2=x*x:=by rw[fO,Nat.pow_one]
   rw[x2]at hax
   have bx:x<=1000:=by
    have h1:=ky (x*x) a1
    have h2:=ky x x1
    omega
   have qx:=Zg7 (a:=x) (k:=20) (by omega) (by decide)
   simp(disch:=first|(simp;done)|omega|rfl) [-getElem?_pos,A.zgp,hr,hf,h1,h5,h0,aL]
   refine az (uM qx qx (by decide) (by decide)) ?_
   rintro _ h4 n4 k4 rfl
   simp(disch:=first|(simp;done)|omega|rfl) [-getElem?_pos,hr,hf,h1,h5]
   exact⟨1,by omega,hW,hK.trans k4,by omega,by simp,a,rfl,x*x,by rw[mm],a1,tH x1 x1,by rw[Nat.pow_one];exact hax⟩
  |3,_=>
   have x3:x^3=x*(x*x):=by rw[fO,fO,Nat.pow_one,uA]
   rw[x3]at hax
   have bx:x<=1000:=by
    have h1:=ky (x*(x*x)) a1
    have h2:=je x (tH x1 x1)
    omega
   have qx:=Zg7 (a:=x) (k:=20) (by omega) (by decide)
   simp(disch:=first|(simp;done)|omega|rfl) [-getElem?_pos,A.zgp,hr,hf,h1,h5,h0,aL]
   refine az (uM qa qx (by decide) (by decide)) ?_
   rintro _ h3 n3 k3 rfl
   simp(disch:=first|(simp;done)|omega|rfl) [-getElem?_pos,hr,hf,h1,h5,h0]
   refine az (uM qx qx (by decide) (by decide)) ?_
   rintro _ h4 n4 k4 rfl
   simp(disch:=first|(simp;done)|omega|rfl) [-getElem?_pos,hr,hf,h1]
   exact⟨1,by omega,hW,(hK.trans k3).trans k4,by omega,by simp,a*x,by rw[mm],x*x,by rw[mm],tH a1 x1,tH x1 x1,by rw[Nat.pow_one,uA];exact hax⟩
 rintro _ r ⟨H,n,W⟩ hr ⟨rfl,hW,hK,h5⟩;simp only at hW hK;simp(disch:=first|(simp;done)|omega|rfl) [-getElem?_pos,hr,h5,hW,hK,aF]
def Xbn(fv:dec<=3):Fn A.C 107 [.int .i64 dec] h N (fun v _ _=>v=.str (ax ((10^dec:Nat):Rat))):=by intro w;have f:=fun (h':T O) (n':Nat)=>Xa3 (h:=h') (N:=n') fv;generalize 10^dec=U at*;rw[aV,A.k107 (by simp)];simp(disch:=first|(simp;done)|omega|rfl) [-getElem?_pos,A.b107];refine az (f _ _) ?_;rintro _ h1 n1 k1 rfl;simp(disch:=first|(simp;done)|omega|rfl) [-getElem?_pos,aF];exact k1
def Xbf{D:Nat}{g:aU}{l p:Rat}(ql:Qb 40 l)(qp:Qb 40 p)(hl:l<=1)(hp:0<=p)(fv:dec<=3)(hD:D<=6):Fn A.C 37 [.agg [.str g,.str (ax l),.str (ax p),.int .i64 D],.int .i64 dec] h N (fun x _ _=>∃n,Zo1 (stU l p D (10^dec)) n/\n<=10001/\x=.str (ax ((n:Rat)/((10^dec:Nat):Rat)))):=by
 intro w;obtain⟨u1,u2⟩:=Nt fv;have tf:∀(h':T O) (n':Nat),Fn A.C 107 [.int .i64 dec] h' n' (fun v _ _=>v=.str (ax ((10^dec:Nat):Rat))):=fun h' n'=>Xbn fv;have hT0:=jf (show D+3<=9 by omega) u1;generalize hgu:10^dec=U at*;have kB:ae h N (h.set N (.cells [.str g,.str (ax l),.str (ax p),.int .i64 D] 26 true)) (N+1):=ae.refl.new _;have b0:(h.set N (.cells [.str g,.str (ax l),.str (ax p),.int .i64 D] 26 true)).get N=some (.cells [.str g,.str (ax l),.str (ax p),.int .i64 D] 26 true):=by simp
 rw[aV,A.k37 (by simp)];simp(disch:=first|(simp;done)|omega|rfl) [-getElem?_pos,A.b37];generalize h.set N (.cells [.str g,.str (ax l),.str (ax p),.int .i64 D] 26 true)=HB at*;have hT:(D+3)*U+1<=10001:=by omega
 have qu:=Zg7 (a:=U) (k:=20) (by omega) (by decide);have u0:((U:Nat):Rat)≠0:=by intro hc;have:=congrArg Rat.num hc;rw[Ze5.1]at this;simp at this;omega
 refine c_ [(5,16)] (fun e r st=>e=.exit 0/\aD N st.w=[]/\ae HB (N+1) st.h st.n/\∃i:Nat,r.get 5=some (.int .i64 i)/\Zo1 (stU l p D U) i/\i<=10001) (fun m r st=>aD N st.w=[]/\ae HB (N+1) st.h st.n/\∃i:Nat,i+m=(D+3)*U+2/\1<=i/\r.get 5=some (.int .i64 i)/\∀j,1<=j->j<i->stU l p D U j=true) ((D+3)*U+1) ?_ ?_ ?_
 ·exact⟨by simp,ae.refl,1,by omega,by omega,by simp,fun j h1 h2=>by omega⟩
 ·rintro m r ⟨H,n,W⟩ hr hf ⟨hW,hK,i,hi,i1,h5,fk⟩;simp only at hW hK;rw[dk];have Nj:=hK.le;have hm:1<=m:=by apply yl;intro hc;have:=Yv6 hl hp (by omega) (fk ((D+3)*U+1) (by omega) (by omega));omega
  obtain⟨m,rfl⟩:∃m',m=m'+1:=⟨m-1,by omega⟩;have b04:=(hK.get N (by omega)).trans b0;have l04:N<n:=by omega
  have qi:=Zg7 (a:=i) (k:=20) (by omega) (by decide);have qg:=Zrt (i:=i) (u:=U) (by omega) (by omega) u2;simp(disch:=first|(simp;done)|omega|rfl) [-getElem?_pos,A.zf_,hr,hf,h5,b04,l04,aJ,aE];refine az (Xav (n:=i) (by omega)) ?_;rintro _ h3 n3 k3 rfl;simp(disch:=first|(simp;done)|omega|rfl) [-getElem?_pos,hr];refine az (tf _ _) ?_;rintro _ h4 n4 k4 rfl;simp(disch:=first|(simp;done)|omega|rfl) [-getElem?_pos,];refine az (Yzv qi qu u0 (by decide) (by decide)) ?_;rintro _ h6 n6 k6 rfl;simp(disch:=first|(simp;done)|omega|rfl) [-getElem?_pos,];refine az (Ywy (g:=g) (l:=ax l) (p:=ax p) (D:=(D:Int))) ?_;rintro _ h7 n7 k7 rfl;simp(disch:=first|(simp;done)|omega|rfl) [-getElem?_pos,];refine az (Ywu qg ql qp (by decide) (by decide) hD) ?_;rintro v8 h8 n8 k8 t8;have xn:=@Zi1 ((i:Rat)/(U:Rat)) l p D;have qc:=Dv (d:=D) qg ql qp (by decide);simp(disch:=first|(simp;done)|omega|rfl) [-getElem?_pos,];refine az (Ywr (k:=3*40+2) t8.1 (by rw[xn.1];omega) (by rw[xn.1];omega) (by rw[xn.1];show pg _ (D+2)≠0;rw[xn.2];decide) qc (by omega) (by rw[xn.1];exact Xap (by omega) hD)) ?_;rintro _ h9 n9 k9 rfl;have zh:zgo (zgn ((i:Rat)/(U:Rat)) l p D).length (zgn ((i:Rat)/(U:Rat)) l p D)=stU l p D U i:=by rw[xn.1];rfl
  have K9:=(((((hK.trans k3).trans k4).trans k6).trans k7).trans k8).trans k9;rw[zh];cases hc:stU l p D U i with
  |true=>
   simp(disch:=first|(simp;done)|omega|rfl) [-getElem?_pos,hr,hf,h5];exact⟨m,by omega,hW,K9,i+1,by omega,by omega,by simp,fun j j1 j2=>by
    by_cases e:j=i
    ·rw[e];exact hc
    ·exact fk j j1 (by omega)⟩
  |false=> simp(disch:=first|(simp;done)|omega|rfl) [-getElem?_pos,hr,hf,h5];exact⟨hW,K9,⟨i1,hc,fk⟩,by omega⟩
 rintro _ r ⟨H,n,W⟩ hr ⟨rfl,hW,hK,i,h5,zgD,hi⟩;simp only at hW hK;have qi:=Zg7 (a:=i) (k:=20) (by omega) (by decide);simp(disch:=first|(simp;done)|omega|rfl) [-getElem?_pos,hr,h5];refine az (Xav (n:=i) (by omega)) ?_;rintro _ h3 n3 k3 rfl;simp(disch:=first|(simp;done)|omega|rfl) [-getElem?_pos,hr];refine az (tf _ _) ?_;rintro _ h4 n4 k4 rfl;simp(disch:=first|(simp;done)|omega|rfl) [-getElem?_pos,];refine az (Yzv qi qu u0 (by decide) (by decide)) ?_;rintro _ h6 n6 k6 rfl;simp(disch:=first|(simp;done)|omega|rfl) [-getElem?_pos,aF];exact⟨by simpa using hW,(((kB.trans hK).trans k3).trans k4).trans k6,i,zgD,hi,rfl⟩
variable {D z:Int} {g l:aU}
def A.b30:=A.q Tryz.f30
def A.k30:=@A.kk 30 22 [.tmp 4,.tmp 5] A.b30 (by kernel_rfl) rfl
def A.b31:=A.q Tryz.f31
def A.k31:=@A.kk 31 30 [.tmp 4,.tmp 5] A.b31 (by kernel_rfl) rfl
def VV(z:Int):Int:=if z<1\/2<z then 3 else 0
def Zk9(g l p:aU)(D z:Int):Int:=cY [ki g l p D,VV z]
def stE(g l p:aU)(D z:Int):Int:=if Zk9 g l p D z=0 then (if Dj (bJ g) (bJ l) (bJ p) D.toNat=true then 0 else 15) else Zk9 g l p D z
def Xay(g l p:aU)(D z:Int):Int:=cY [stE g l p D z,if g=[48] then 6 else 0]
structure Ns (g l p:aU) (D:Int):Prop where
 lg:g.length<=40
 ll:l.length<=40
 lp:p.length<=40
 q:ki g l p D=0->Qb 40 (bJ g)/\Qb 40 (bJ l)/\Qb 40 (bJ p)
def Ns.go{p:aU}(H:Ns g l p D)(c:Zk9 g l p D z=0):∃(qg ql qp:Rat) (n m:Nat),g=ax qg/\l=ax ql/\p=ax qp/\D=(n:Int)/\z=(m:Int)/\n<=6/\1<=m/\m<=2/\bJ g=qg/\bJ l=ql/\bJ p=qp/\Qb 40 qg/\Qb 40 ql/\Qb 40 qp/\ql<=1/\0<=qp:=by
 obtain⟨c1,c2⟩:=R4 c;have hz:1<=z/\z<=2:=by
  unfold VV at c2;split at c2
  ·omega
  rename_i hc;omega
 obtain⟨m,rfl⟩:∃n:Nat,z=(n:Int):=⟨z.toNat,by omega⟩;obtain⟨cg,cl,cp,dn,rfl,dl,_,_,x1,x2⟩:=Ypj c1;obtain⟨bg,bl,bp⟩:=H.q c1;exact⟨bJ g,bJ l,bJ p,dn,m,(BN cg).1.symm,(BN cl).1.symm,(BN cp).1.symm,rfl,rfl,dl,by omega,by omega,rfl,rfl,rfl,bg,bl,bp,Rat.not_lt.1 x1,Rat.not_lt.1 x2⟩
def Yi5{h:T O}{N:Nat}{p:aU}(hP:mC h N)(H:Ns g l p D):Fn A.C 30 [.agg [.str g,.str l,.str p,.int .i64 D],.int .i64 z] h N (fun x _ _=>∃n:Nat,(Zk9 g l p D z=0->Zo1 (stU (bJ l) (bJ p) D.toNat (10^z.toNat)) n/\n<=10001)/\Yv5 x (Zk9 g l p D z) ((n:Rat)/((10^z.toNat:Nat):Rat))):=by
 intro w;have kB:ae h N (h.set N (.cells [.str g,.str l,.str p,.int .i64 D] 24 true)) (N+1):=ae.refl.new _;have b0:(h.set N (.cells [.str g,.str l,.str p,.int .i64 D] 24 true)).get N=some (.cells [.str g,.str l,.str p,.int .i64 D] 24 true):=by simp
 rw[aV,A.k30 (by simp)];obtain⟨U,hU⟩:∃U,10^z.toNat=U:=⟨_,rfl⟩;rw[hU];simp(disch:=first|(simp;done)|omega|rfl) [-getElem?_pos,A.b30,aJ,aE];generalize h.set N (.cells [.str g,.str l,.str p,.int .i64 D] 24 true)=HB at*;refine az (Ydh H.lg H.ll H.lp (by omega)) ?_;rintro _ h2 n2 k2 rfl;have hi:n2<n2+1:=by omega
 have kS:ae HB (N+1) (h2.set n2 (.cells [.int .i64 (ki g l p D),.int .i64 (VV z)] 31 true)) (n2+1):=k2.trans (aI ae.refl _);have kD:=kB.trans kS;have oP:=k2.le;have b1:=(kS.get N (by omega)).trans b0;have lN:N<n2+1:=by omega
 have we:∀st,A.C.call (.func 74 [] []) [.int .i64 z,.int .i64 1,.int .i64 2] st=some (.int .i64 (VV z),st):=fun st=>Zl6;simp(disch:=first|(simp;done)|omega|rfl) [-getElem?_pos,we,ag,bU.bZ,Lk hi];generalize h2.set n2 (.cells [.int .i64 (ki g l p D),.int .i64 (VV z)] 31 true)=H2 at*;rw[show cY [ki g l p D,VV z]=Zk9 g l p D z from rfl];by_cases c:Zk9 g l p D z=0
 ·obtain⟨qg,ql,qp,dn,m,rfl,rfl,rfl,rfl,rfl,hn,m1,m2,eg,el,ep,bg,bl,bp,l1,p0⟩:=H.go c;rw[c,el,ep,Int.toNat_natCast];rw[Int.toNat_natCast]at hU;have pf:=fun (h':T O) (n':Nat)=>Yi8 (h:=h') (N:=n') (D:=dn) (dec:=m) (g:=ax qg) bl bp l1 p0 (by omega) hn;rw[hU]at pf;simp(disch:=first|(simp;done)|omega|rfl) [-getElem?_pos,c,aL,b1,lN,aJ,aE];refine az (pf _ _) ?_;rintro v3 h3 n3 k3 ⟨n,hl,mF,f3⟩;have K3:=kD.trans k3;have u1:=(Nt (dec:=m) (by omega));rw[hU]at u1;have qn:=Zrt (i:=n) (u:=U) (by omega) (by omega) u1.2;simp(disch:=first|(simp;done)|omega|rfl) [-getElem?_pos,];refine az (Ywf f3 (hP.ah K3) qn (by decide)) ?_;rintro _ h4 n4 k4 rfl;have K4:=K3.trans k4;by_cases cb:BJ ((n:Rat)/(U:Rat))=true
  ·simp(disch:=first|(simp;done)|omega|rfl) [-getElem?_pos,cb,aF];exact⟨K4,n,⟨hl,mF⟩,.inr ⟨rfl,by rw[aQ cb]⟩⟩
  simp(disch:=first|(simp;done)|omega|rfl) [-getElem?_pos,cb,aF];exact⟨K4,n,⟨hl,mF⟩,.inr ⟨rfl,by rw[aA cb]⟩⟩
 simp(disch:=first|(simp;done)|omega|rfl) [-getElem?_pos,c,aL,aF];exact⟨kD,0,.inl ⟨c,rfl⟩⟩
def Xa1{h:T O}{N:Nat}{p:aU}(hP:mC h N)(H:Ns g l p D):Fn A.C 31 [.agg [.str g,.str l,.str p,.int .i64 D],.int .i64 z] h N (fun x _ _=>∃n:Nat,(Xay g l p D z=0->Zo1 (stU (bJ l) (bJ p) D.toNat (10^z.toNat)) n/\n<=10001)/\Yv5 x (Xay g l p D z) ((n:Rat)/((10^z.toNat:Nat):Rat)/bJ g)):=by
 intro w;have kB:ae h N (h.set N (.cells [.str g,.str l,.str p,.int .i64 D] 24 true)) (N+1):=ae.refl.new _;have b0:(h.set N (.cells [.str g,.str l,.str p,.int .i64 D] 24 true)).get N=some (.cells [.str g,.str l,.str p,.int .i64 D] 24 true):=by simp
 rw[aV,A.k31 (by simp)];obtain⟨U,hU⟩:∃U,10^z.toNat=U:=⟨_,rfl⟩;rw[hU];have we:∀st,A.C.call (.func 74 [] []) [.int .i64 z,.int .i64 1,.int .i64 2] st=some (.int .i64 (VV z),st):=fun st=>Zl6;simp(disch:=first|(simp;done)|omega|rfl) [-getElem?_pos,A.b31,we,aJ,aE];generalize h.set N (.cells [.str g,.str l,.str p,.int .i64 D] 24 true)=HB at*;refine az (Xbl (e:=VV z) H.lg H.ll H.lp) ?_;rintro _ h2 n2 k2 rfl;have hi:n2<n2+1:=by omega
 rw[show cY [ki g l p D,VV z]=Zk9 g l p D z from rfl];rw[show (if Zk9 g l p D z=0 then (if Dj (bJ g) (bJ l) (bJ p) D.toNat=true then (0:Int) else 15) else Zk9 g l p D z)=stE g l p D z from rfl];have oP:=k2.le;have b02:=(k2.get N (by omega)).trans b0;have l02:N<n2:=by omega
 have kS:ae HB (N+1) (h2.set n2 (.cells [.int .i64 (stE g l p D z),.int .i64 (if g=[48] then 6 else 0)] 31 true)) (n2+1):=k2.trans (aI ae.refl _);have kD:=kB.trans kS;have b1:=(kS.get N (by omega)).trans b0;have lN:N<n2+1:=by omega
 have wg:(if decide (g=[48])=true then (6:Int) else 0)=if g=[48] then 6 else 0:=by by_cases e:g=[48]<;>simp[e]
 simp(disch:=first|(simp;done)|omega|rfl) [-getElem?_pos,b02,l02,aL,zd,wg,ag,bU.bZ,Lk hi];generalize h2.set n2 (.cells [.int .i64 (stE g l p D z),.int .i64 (if g=[48] then 6 else 0)] 31 true)=H2 at*;rw[show cY [stE g l p D z,if g=[48] then 6 else 0]=Xay g l p D z from rfl];by_cases c:Xay g l p D z=0
 ·obtain⟨c1,c2⟩:=R4 c;have cg0:g≠[48]:=fun hc=>by rw[aQ hc]at c2;omega
  have c3:Zk9 g l p D z=0:=by
   by_cases e:Zk9 g l p D z=0
   ·exact e
   rw[stE,aA e]at c1;exact c1
  obtain⟨qg,ql,qp,dn,m,rfl,rfl,rfl,rfl,rfl,hn,m1,m2,eg,el,ep,bg,bl,bp,l1,p0⟩:=H.go c3;have g0:qg≠0:=fun hc=>cg0 (by rw[hc];exact Ij);rw[c,eg,el,ep,Int.toNat_natCast];rw[Int.toNat_natCast]at hU;have pf:=fun (h':T O) (n':Nat)=>Yi8 (h:=h') (N:=n') (D:=dn) (dec:=m) (g:=ax qg) bl bp l1 p0 (by omega) hn;rw[hU]at pf;simp(disch:=first|(simp;done)|omega|rfl) [-getElem?_pos,c,aL,b1,lN,aJ,aE];refine az (pf _ _) ?_;rintro v3 h3 n3 k3 ⟨n,hl,mF,f3⟩;have b3:=(k3.get N lN).trans b1;have l3:N<n3:=by have:=k3.le;omega
  have u1:=(Nt (dec:=m) (by omega));rw[hU]at u1;have qn:=Zrt (i:=n) (u:=U) (by omega) (by omega) u1.2;simp(disch:=first|(simp;done)|omega|rfl) [-getElem?_pos,b3,l3];refine az (Df bg (by decide)) ?_;rintro v4 h4 n4 k4 f4;have wn:=qn.iC;have wg':=bg.iC;have wi:=(bg.inv g0).iC;have qd:Qb (40+40) ((n:Rat)/(U:Rat)/qg):=by rw[Rat.div_def (a:=(n:Rat)/(U:Rat))];exact qn.mul (bg.inv g0)
  simp(disch:=first|(simp;done)|omega|rfl) [-getElem?_pos,];refine az (Yw7 (f3.ah k4) f4 g0 (by omega) (by omega) (by omega) (by omega) (by omega) (by omega)) ?_;rintro v5 h5 n5 k5 f5;have K5:=((kD.trans k3).trans k4).trans k5;simp(disch:=first|(simp;done)|omega|rfl) [-getElem?_pos,];refine az (Ywf f5 (hP.ah K5) qd (by decide)) ?_;rintro _ h6 n6 k6 rfl;have K6:=K5.trans k6;by_cases cb:BJ ((n:Rat)/(U:Rat)/qg)=true
  ·simp(disch:=first|(simp;done)|omega|rfl) [-getElem?_pos,cb,aF];exact⟨K6,n,⟨hl,mF⟩,.inr ⟨rfl,by rw[aQ cb]⟩⟩
  simp(disch:=first|(simp;done)|omega|rfl) [-getElem?_pos,cb,aF];exact⟨K6,n,⟨hl,mF⟩,.inr ⟨rfl,by rw[aA cb]⟩⟩
 simp(disch:=first|(simp;done)|omega|rfl) [-getElem?_pos,c,aL,aF];exact⟨kD,0,.inl ⟨c,rfl⟩⟩
end
end Go.Mx
