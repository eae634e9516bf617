/-bits-/
import Derived.Test.YtgccnjdneojagaaGreatDoorNaP
set_option linter.all false
namespace Go.Mx
noncomputable section
open Go Go.Proofs
variable {b u y:Nat}
set_option maxHeartbeats 8000000
set_option maxRecDepth 1000000
def A.Ka:=A.q Tryz.f240
def A.jh:=A.ql A.Ka 1 []
def A.ji:=A.ql A.Ka 0 []
def A.b240:=(fun x0 x1=>A.qb A.Ka [x0,x1]) A.ji A.jh
def A.k240:=@A.kk 240 135 [.tmp 6,.tmp 7] A.b240 (by kernel_rfl) rfl
structure DvI (h:T O) (N:Nat) (k1 u cI D m:Nat) (r:T V) (st:St):Prop where
 st:st=⟨h,N,[]⟩
 ex:∃rh:Nat,r.get k1=some (.int .u64 m)/\r.get 16=some (.int .u64 rh)/\u=m*cI+rh/\D<=m/\m<=4294967297/\rh<4294967296
def Ypz(h0:¬y=0)(h:y<18446744073709551616):9223372036854775808<=y*2^(64-ba y)/\y*2^(64-ba y)<18446744073709551616/\64-ba y<64:=by
 have h1:=Ve y;have h2:=MJ h0;have hp:0<ba y:=by unfold ba;rw[ak h0];omega
 have hl:ba y<=64:=by apply AG;intro hc;have:2^64<=2^(ba y-1):=rO (by decide) (by omega);omega
 refine⟨?_,?_,by omega⟩
 ·have:=jz (2^(64-ba y)) h2;rw[<-mJ,show ba y-1+(64-ba y)=63 by omega]at this;exact this
 have:=Ll h1 (s_ (64-ba y));rw[<-mJ,show ba y+(64-ba y)=64 by omega]at this;exact this
def Zm4{a:Nat}(h:a<18446744073709551616):bn .u64 ((a:Int)/(b:Int))=(nV a b:Nat):=by have e:((a:Int)/(b:Int))=((a/b:Nat):Int):=rfl;have:=xD a b;rw[e,G8 (Int.natCast_nonneg _) (Int.ofNat_lt.2 (show a/b<18446744073709551616 by omega))];rfl
def Zuu{a c:Nat}(h:c<=a)(hr:a-c<18446744073709551616):gV (a%18446744073709551616) (c%18446744073709551616)=a-c:=by unfold gV;split<;>omega
def Yed{c u1 u0 z Y:Nat}(hc:c=b*b)(hY:0<Y):(u1*c+u0*b+z)/Y=(u1*b+u0)/Y*b+((u1*b+u0)%Y*b+z)/Y/\(u1*c+u0*b+z)%Y=((u1*b+u0)%Y*b+z)%Y:=by
 subst hc;have h:=wI (u1*b+u0) Y;have e:u1*(b*b)+u0*b+z=Y*((u1*b+u0)/Y*b)+((u1*b+u0)%Y*b+z):=by
  generalize (u1*b+u0)/Y=D at*;generalize (u1*b+u0)%Y=R at*;have:(Y*D+R)*b=(u1*b+u0)*b:=by rw[h]
  grind
 rw[e,Nat.mul_add_div hY,Nat.mul_add_mod];exact⟨rfl,rfl⟩
def Zv1:u=u/y*y+u%y:=by have:=wI u y;rw[kg]at this;exact this.symm
def Ybd(h:0<y)(hb:y<=b):u%y<b:=fg (m8 _ h) hb
def Ybf{un cI nv:Nat}(h:0<cI)(hn:un<4294967296):(u*4294967296+un)/(cI*4294967296+nv)<=u/cI:=by
 have h1:(u*4294967296+un)/(cI*4294967296+nv)<=(u*4294967296+un)/(cI*4294967296):=Nat.div_le_div_left (by omega) (by omega);have h2:(u*4294967296+un)/(cI*4294967296)=u/cI:=by rw[kg cI,<-IY,show (u*4294967296+un)/4294967296=u by omega]
 rw[h2]at h1;exact h1
def Ybe{cI nv:Nat}(h0:nv<4294967296)(h:2147483648<=cI)(hu:u<cI*4294967296+nv):u/cI<=4294967297:=by apply Nat.le_of_lt_succ;apply (su (by omega)).2;omega
def Ybl{h:T O}{N:Nat}{hi lo:Nat}(hy:hi<y)(JZ:y<18446744073709551616)(gT:lo<18446744073709551616):Fn A.C 240 [.int .u64 hi,.int .u64 lo,.int .u64 y] h N (fun v h' N'=>h'=h/\N'=N/\v=.aX [.int .u64 ((hi*18446744073709551616+lo)/y:Nat),.int .u64 ((hi*18446744073709551616+lo)%y:Nat)]):=by
 intro w;have yD:¬y=0:=by omega
 have hle:¬y<=hi:=by omega
 rw[aQ,A.k240 (by simp)];by_cases h0:hi=0
 ·subst h0;have hq:=Zm4 (b:=y) gT;simp[A.b240,yD,dv.dw,az,hq,PT,nV];exact ab.refl
 simp[A.b240,yD,hle,h0];refine ar (Yhx JZ) ?_;rintro _ h N hk ⟨rfl,rfl,rfl⟩;obtain⟨n1,n2,n3⟩:=Ypz yD JZ;generalize 64-ba y=s at*;have hw:bn .u64 (s:Int)=(s:Int):=G8 (by omega) (by omega);have OV:bn .u64 (64-(s:Int))=((64-s:Nat):Int):=by rw[G8 (by omega) (by omega)];omega
 obtain⟨Y,hY⟩:∃Y,bR y s=Y:=⟨_,rfl⟩;have hYe:Y=y*2^s:=by rw[<-hY];unfold bR;omega
 obtain⟨cI,Qm⟩:∃x,ax Y 32=x:=⟨_,rfl⟩;obtain⟨nv,Qn⟩:∃x,fv Y=x:=⟨_,rfl⟩;obtain⟨U,hU⟩:∃x,ko (bR hi s) (ax lo (64-s))=x:=⟨_,rfl⟩;obtain⟨L,hL⟩:∃x,bR lo s=x:=⟨_,rfl⟩;obtain⟨zv,Qo⟩:∃x,ax L 32=x:=⟨_,rfl⟩;obtain⟨yd,Qp⟩:∃x,fv L=x:=⟨_,rfl⟩;have hYB:Y<18446744073709551616:=by omega
 have hLB:L<18446744073709551616:=by rw[<-hL];exact Zs2
 have Vh:Y=cI*4294967296+nv/\nv<4294967296:=by rw[<-Qm,<-Qn];unfold ax fv;omega
 have hLd:L=zv*4294967296+yd/\yd<4294967296:=by rw[<-Qo,<-Qp];unfold ax fv;omega
 have hA:U*18446744073709551616+L=(hi*18446744073709551616+lo)*2^s:=by
  have e1:=UT (x:=hi) n3 (Yph (x:=lo) (s:=s) gT (by omega));have e2:=Yfs (x:=lo) (s:=s) (by omega);have e3:bR hi s=hi*2^s:=by unfold bR;have:=Ll hy (s_ s);omega
  have e4:U=ax lo (64-s)+hi*2^s:=by rw[<-hU,<-e3,<-e1];unfold ko;exact Nat.or_comm _ _
  rw[hL]at e2;unfold B at e2;rw[e4,js (hi*18446744073709551616),<-e2];have:hi*18446744073709551616*2^s=hi*2^s*18446744073709551616:=by grind
  omega
 have hUY:U<Y:=by
  have h1:hi*18446744073709551616+lo<y*18446744073709551616:=by omega
  have h2:=Ll h1 (s_ s);have h3:y*18446744073709551616*2^s=y*2^s*18446744073709551616:=by grind
  omega
 have hsr:ax lo (64-s)<18446744073709551616:=Zz1 gT;have hyp:0<cI:=by omega
 have hyb:cI<=4294967296:=by omega
 have DO:0<cI*4294967296+nv:=by omega
 have hq:=Zm4 (b:=cI) (show U<18446744073709551616 by omega);have hr:gV U (c_ (nV U cI) cI)=U%cI:=by
  have h1:=wI U cI;rw[kg]at h1;have h2:c_ (nV U cI) cI=U/cI*cI:=by unfold c_ nV;omega
  rw[h2,G9 (by omega) (by omega)];omega
 simp(disch:=first|(simp;done)|omega|(simp only[bz,cm,bl];omega)|rfl) [hq,hr,hw,OV,hY,Qm,Qn,hU,hL,Qo,Qp];obtain⟨D1,Ci⟩:∃D,(U*4294967296+zv)/(cI*4294967296+nv)=D:=⟨_,rfl⟩;refine b_ [(15,16),(67,85)] (fun e r st=>e=.exit 0/\st=⟨h,N,[]⟩/\r.get 15=some (.int .u64 D1)) (DvI h N 15 U cI D1) (U/cI) ?_ ?_ ?_
 ·exact⟨rfl,U%cI,by simp[nV],by simp,Zv1,Ci▸Ybf hyp (by omega),Ybe Vh.2 (by omega) (by omega),Ybd hyp hyb⟩
 ·rintro q r _ hr hf ⟨rfl,rh,hq,Cj,hu,hD,mG,Kb⟩;rw[bu];obtain⟨P,hP⟩:∃P,P=q*nv:=⟨_,rfl⟩;obtain⟨R2,hR2⟩:∃P,P=4294967296*rh:=⟨_,rfl⟩;obtain⟨R3,hR3⟩:∃P,P=4294967296*rh+zv:=⟨_,rfl⟩;have m2:c_ 4294967296 rh=R2:=by unfold c_;omega
  have m3:cQ R2 zv=R3:=by unfold cQ;omega
  have vT:(4294967296<=q\/R3<P)->0<q/\D1<=q-1:=by
   intro hc;have:D1<q:=by
    rcases hc with hc|hc
    ·have:D1<4294967296:=by rw[<-Ci];exact(su DO).2 (by omega)
     omega
    rw[<-Ci];exact Zv9 (Ybn (b:=4294967296) hu (by omega))
   omega
  have tO:0<q->U=(q-1)*cI+(rh+cI):=by intro hc;obtain⟨s,rfl⟩:∃s,q=s+1:=⟨q-1,by omega⟩;rw[hu,js];simp;omega
  have fm:∀Kc,U=(q-1)*cI+Kc->4294967296<=Kc->(q-1)*(cI*4294967296+nv)<=U*4294967296+zv:=by intro Kc h1 h2;refine Vg h1 ?_;have:=mI (show q-1<=4294967296 by omega) (show nv<=4294967296 by omega);omega
  by_cases c1:4294967296<=q
  ·have c1':(4294967296:Int)<=(q:Int):=by omega
   obtain⟨g1,g2⟩:=vT (.inl c1);have s1:gV q 1=q-1:=G9 g1 (by omega);have s2:cQ rh cI=rh+cI:=by unfold cQ;omega
   by_cases c3:4294967296<=rh+cI
   ·have c3':(4294967296:Int)<=(rh:Int)+(cI:Int):=by omega
    simp[A.ji,hr,hq,Cj,c1',c3',s1,s2,hf];have hd:=MM DO (fm _ (tO g1) c3);rw[Ci]at hd;omega
   have c3':¬(4294967296:Int)<=(rh:Int)+(cI:Int):=by omega
   simp[A.ji,hr,hq,Cj,c1',c3',s1,s2,hf];exact⟨q-1,by omega,rfl,rh+cI,by simp,by simp,tO g1,g2,by omega,by omega⟩
  have c1':¬(4294967296:Int)<=(q:Int):=by omega
  have m1:c_ q nv=P:=by have:=mI (show q<=4294967296 by omega) (show nv<=4294967295 by omega);unfold c_;omega
  by_cases c2:R3<P
  ·obtain⟨g1,g2⟩:=vT (.inr c2);have s1:gV q 1=q-1:=G9 g1 (by omega);have s2:cQ rh cI=rh+cI:=by unfold cQ;omega
   by_cases c3:4294967296<=rh+cI
   ·have c3':(4294967296:Int)<=(rh:Int)+(cI:Int):=by omega
    simp[A.ji,hr,hq,Cj,c1',c2,c3',m1,m2,m3,s1,s2,hf];have hd:=MM DO (fm _ (tO g1) c3);rw[Ci]at hd;omega
   have c3':¬(4294967296:Int)<=(rh:Int)+(cI:Int):=by omega
   simp[A.ji,hr,hq,Cj,c1',c2,c3',m1,m2,m3,s1,s2,hf];exact⟨q-1,by omega,rfl,rh+cI,by simp,by simp,tO g1,g2,by omega,by omega⟩
  simp[A.ji,hr,hq,Cj,c1',c2,m1,m2,m3,hf];have hd:=MM DO (Vg (b:=4294967296) (un:=zv) hu (by omega));rw[Ci]at hd;omega
 rintro _ r _ ib ⟨rfl,rfl,Ft⟩;obtain⟨R1,Vi⟩:∃R,(U*4294967296+zv)%Y=R:=⟨_,rfl⟩;rw[<-Vh.1]at Ci;have AQ:gV (cQ (c_ U 4294967296) zv) (c_ D1 Y)=R1:=by
  have h1:=wI (U*4294967296+zv) Y;rw[Ci,Vi,kg Y]at h1;have h2:cQ (c_ U 4294967296) zv=(U*4294967296+zv)%18446744073709551616:=by unfold cQ c_;omega
  rw[h2];have h3:=m8 (U*4294967296+zv) (show 0<Y by omega);unfold c_;rw[Zuu (by omega) (by omega)];omega
 have zbT:R1<Y:=by rw[<-Vi];exact m8 _ (by omega)
 have jS:=Zm4 (b:=cI) (show R1<18446744073709551616 by omega);have dJ:gV R1 (c_ (nV R1 cI) cI)=R1%cI:=by
  have h1:=wI R1 cI;rw[kg]at h1;have h2:c_ (nV R1 cI) cI=R1/cI*cI:=by unfold c_ nV;omega
  rw[h2,G9 (by omega) (by omega)];omega
 simp(disch:=first|(simp;done)|omega|(simp only[bz,cm,bl];omega)|rfl) [ib,Ft,AQ,jS,dJ];obtain⟨D0,AV⟩:∃D,(R1*4294967296+yd)/(cI*4294967296+nv)=D:=⟨_,rfl⟩;refine b_ [(16,16),(18,18),(102,120)] (fun e r st=>e=.exit 2/\st=⟨h,N,[]⟩/\r.get 18=some (.int .u64 D0)) (DvI h N 18 R1 cI D0) (R1/cI) ?_ ?_ ?_
 ·exact⟨rfl,R1%cI,by simp[nV],by simp,Zv1,AV▸Ybf hyp (by omega),Ybe Vh.2 (by omega) (by omega),Ybd hyp hyb⟩
 ·rintro q r _ hr hf ⟨rfl,rh,hq,Cj,hu,hD,mG,Kb⟩;rw[bu];obtain⟨P,hP⟩:∃P,P=q*nv:=⟨_,rfl⟩;obtain⟨R2,hR2⟩:∃P,P=4294967296*rh:=⟨_,rfl⟩;obtain⟨R3,hR3⟩:∃P,P=4294967296*rh+yd:=⟨_,rfl⟩;have m2:c_ 4294967296 rh=R2:=by unfold c_;omega
  have m3:cQ R2 yd=R3:=by unfold cQ;omega
  have vT:(4294967296<=q\/R3<P)->0<q/\D0<=q-1:=by
   intro hc;have:D0<q:=by
    rcases hc with hc|hc
    ·have:D0<4294967296:=by rw[<-AV];exact(su DO).2 (by omega)
     omega
    rw[<-AV];exact Zv9 (Ybn (b:=4294967296) hu (by omega))
   omega
  have tO:0<q->R1=(q-1)*cI+(rh+cI):=by intro hc;obtain⟨s,rfl⟩:∃s,q=s+1:=⟨q-1,by omega⟩;rw[hu,js];simp;omega
  have fm:∀Kc,R1=(q-1)*cI+Kc->4294967296<=Kc->(q-1)*(cI*4294967296+nv)<=R1*4294967296+yd:=by intro Kc h1 h2;refine Vg h1 ?_;have:=mI (show q-1<=4294967296 by omega) (show nv<=4294967296 by omega);omega
  by_cases c1:4294967296<=q
  ·have c1':(4294967296:Int)<=(q:Int):=by omega
   obtain⟨g1,g2⟩:=vT (.inl c1);have s1:gV q 1=q-1:=G9 g1 (by omega);have s2:cQ rh cI=rh+cI:=by unfold cQ;omega
   by_cases c3:4294967296<=rh+cI
   ·have c3':(4294967296:Int)<=(rh:Int)+(cI:Int):=by omega
    simp[A.jh,hr,ib,hq,Cj,c1',c3',s1,s2,hf];have hd:=MM DO (fm _ (tO g1) c3);rw[AV]at hd;omega
   have c3':¬(4294967296:Int)<=(rh:Int)+(cI:Int):=by omega
   simp[A.jh,hr,ib,hq,Cj,c1',c3',s1,s2,hf];exact⟨q-1,by omega,rfl,rh+cI,by simp,by simp,tO g1,g2,by omega,by omega⟩
  have c1':¬(4294967296:Int)<=(q:Int):=by omega
  have m1:c_ q nv=P:=by have:=mI (show q<=4294967296 by omega) (show nv<=4294967295 by omega);unfold c_;omega
  by_cases c2:R3<P
  ·obtain⟨g1,g2⟩:=vT (.inr c2);have s1:gV q 1=q-1:=G9 g1 (by omega);have s2:cQ rh cI=rh+cI:=by unfold cQ;omega
   by_cases c3:4294967296<=rh+cI
   ·have c3':(4294967296:Int)<=(rh:Int)+(cI:Int):=by omega
    simp[A.jh,hr,ib,hq,Cj,c1',c2,c3',m1,m2,m3,s1,s2,hf];have hd:=MM DO (fm _ (tO g1) c3);rw[AV]at hd;omega
   have c3':¬(4294967296:Int)<=(rh:Int)+(cI:Int):=by omega
   simp[A.jh,hr,ib,hq,Cj,c1',c2,c3',m1,m2,m3,s1,s2,hf];exact⟨q-1,by omega,rfl,rh+cI,by simp,by simp,tO g1,g2,by omega,by omega⟩
  simp[A.jh,hr,ib,hq,Cj,c1',c2,m1,m2,m3,hf];have hd:=MM DO (Vg (b:=4294967296) (un:=yd) hu (by omega));rw[AV]at hd;omega
 rintro _ r2 _ uX ⟨rfl,rfl,h18⟩;obtain⟨R0,Ck⟩:∃R,(R1*4294967296+yd)%Y=R:=⟨_,rfl⟩;rw[<-Vh.1]at AV;have nR:gV (cQ (c_ R1 4294967296) yd) (c_ D0 Y)=R0:=by
  have h1:=wI (R1*4294967296+yd) Y;rw[AV,Ck,kg Y]at h1;have h2:cQ (c_ R1 4294967296) yd=(R1*4294967296+yd)%18446744073709551616:=by unfold cQ c_;omega
  rw[h2];have h3:=m8 (R1*4294967296+yd) (show 0<Y by omega);unfold c_;rw[Zuu (by omega) (by omega)];omega
 have vN:D1<4294967296:=by rw[<-Ci];exact(su (by omega)).2 (by omega)
 have qN:D0<4294967296:=by rw[<-AV];exact(su (by omega)).2 (by omega)
 have ha:cQ (c_ D1 4294967296) D0=D1*4294967296+D0:=by unfold cQ c_;omega
 obtain⟨e1,e2⟩:=Yed (b:=4294967296) (c:=18446744073709551616) (by decide) (u1:=U) (u0:=zv) (z:=yd) (show 0<Y by omega);rw[Vi,Ci,AV]at e1;rw[Vi,Ck]at e2;have e3:U*18446744073709551616+zv*4294967296+yd=(hi*18446744073709551616+lo)*2^s:=by rw[<-hA,hLd.1,qP]
 rw[e3,hYe,TS _ _ (s_ s)]at e1;rw[e3,hYe,Ov]at e2;have DQ:ax R0 s=(hi*18446744073709551616+lo)%y:=by unfold ax;rw[<-e2,Nat.mul_div_cancel _ (s_ s)]
 simp(disch:=first|(simp;done)|omega|(simp only[bz,cm,bl];omega)|rfl) [ib,uX,Ft,h18,nR,ha,az];have e5:(hi:Int)*18446744073709551616+lo=((hi*18446744073709551616+lo:Nat):Int):=by omega
 refine⟨ab.refl,?_,?_⟩
 ·rw[e5,<-Int.natCast_ediv,e1];omega
 rw[e5,<-Int.natCast_emod,DQ]
open Go
variable {P Y a b d k u v1:Nat} {l:List Nat}
def DM(h:l[k]?=some d):val b (l.drop k)=d+b*val b (l.drop (k+1)):=by
 have hk:k<l.length:=by apply vC;intro hc;rw[fy hc]at h;cases h
 rw[IZ hk];rw[ct hk]at h;simp only[au]at h;rw[h];rfl
def Hj(b:Nat)(l:List Nat)(k:Nat)(hk:k<=l.length):val b l=val b (l.take k)+b^k*val b (l.drop k):=by have:=UQ b (l.take k) (l.drop k);rw[Df,ik,ry hk]at this;exact this
def Zzs{b:Nat}:∀{l:List Nat},(∀(t:Nat),t<l.length->l[t]?=some 0)->val b l=0
 |[],_=>rfl
 |d::l,h=>by
  have h0:=h 0 (by simp)
  simp at h0
  have:=Zzs (b:=b) (l:=l) fun t ht=>by simpa using h (t+1) (by simp;omega)
  simp[val,h0,this]
def Yx2{α:Type}{l:List α}{d:α}(h:l[k]?=some d):k<l.length:=by apply vC;intro hc;rw[fy hc]at h;cases h
def Zhm(hz:∀t,k<=t->t<l.length->l[t]?=some 0):val b (l.drop k)=0:=by apply Zzs;intro t ht;rw[fJ];rw[yO]at ht;exact hz _ (by omega) (by omega)
def Ykx{w:List Nat}{c:Nat}(ha:w[k]?=some a)(hc:w[k+1]?=some c)(hd:w[k+2]?=some d)(hz:∀t,k+3<=t->t<w.length->w[t]?=some 0):
  val b w=val b (w.take k)+b^k*(a+b*(d*b+c)):=by have:=Yx2 ha;rw[Hj b w k (by omega),DM ha,DM hc,DM hd,Zhm hz];generalize b^k=p;grind
def Yky{w:List Nat}{c:Nat}(ha:w[k]?=some a)(hc:w[k+1]?=some c)(hl:w.length=k+2):
  val b w=val b (w.take k)+b^k*(a+b*c):=by rw[Hj b w k (by omega),DM ha,DM hc,BA (by omega)];simp[val]
def Zo3(g:∀d∈l,d<b)(hk:k<=l.length):val b (l.take k)<b^k:=by have:=Hf (b:=b) (l:=l.take k) fun d hd=>g d (wy hd);rwa [ik,ry hk]at this
def Yx4{c U' v2 V':Nat}(hP:0<P)(EN:V'<P)(jQ:v2<b)(hd:v1<=d)(hW:U'+P*(a+b*(d*b+c))<b*(V'+P*(v2+b*v1))):d=v1:=by
 apply Nat.le_antisymm _ hd;apply AG;intro aE;have h1:b*(P*(b*(v1+1)))<=b*(P*(b*d)):=lF _ (lF _ (lF _ aE));have h2:V'+P*(v2+b*v1)<P*(b*(v1+1)):=by have:P*(v2+1)<=P*b:=lF _ jQ;grind
 have h3:b*(V'+P*(v2+b*v1))<=b*(P*(b*(v1+1))):=lF _ (Nat.le_of_lt h2);have h4:b*(P*(b*d))<=U'+P*(a+b*(d*b+c)):=by
  have:P*(b*(d*b))=b*(P*(b*d)):=by grind
  have:P*(b*(d*b))<=P*(a+b*(d*b+c)):=lF _ (by rw[vF];omega);omega
 omega
def Yx5{U' u2 u1 v2 V' q r:Nat}(hU:U'<P)(fX:u2<b)(hinv:u1=q*v1+r)(hr:r<v1):U'+P*(u2+b*u1)<(q+1)*(V'+P*(v2+b*v1)):=by
 have h1:u1+1<=(q+1)*v1:=by rw[hinv,js];omega
 have h2:P*(b*(u1+1))<=P*(b*((q+1)*v1)):=lF _ (lF _ h1);have h3:P*(u2+1)<=P*b:=lF _ fX;have h4:P*(b*((q+1)*v1))<=(q+1)*(V'+P*(v2+b*v1)):=by
  have:(q+1)*(V'+P*(v2+b*v1))=(q+1)*V'+P*((q+1)*v2)+P*(b*((q+1)*v1)):=by grind
  omega
 have h5:U'+P*(u2+b*u1)+P<=U'+P*(b*(u1+1)):=by grind
 omega
def yb(q v c:Nat):Nat:=bC (bC (q*v)+c)
def qk(q v c:Nat):Nat:=cQ (cE (q*v)) (cE (bC (q*v)+c))
def Ys7{q v c w:Nat}(hq:q<B)(hv:v<B)(hc:c<B)(hu:u<B)(hw:w<=1):
  e_ u (yb q v c) w+q*v+c+w=u+B*(qk q v c+gk u (yb q v c) w)/\e_ u (yb q v c) w<B/\qk q v c<B/\gk u (yb q v c) w<=1/\yb q v c<B:=by
 have:q*v<=18446744073709551615*18446744073709551615:=mI (by unfold B at*;omega) (by unfold B at*;omega);unfold qk yb;have h1:bC (bC (q*v)+c)+B*cQ (cE (q*v)) (cE (bC (q*v)+c))=q*v+c/\cQ (cE (q*v)) (cE (bC (q*v)+c))<B/\bC (bC (q*v)+c)<B:=by unfold bC cE cQ;unfold B at*;generalize q*v=p at*;omega
 obtain⟨h1,h2,h3⟩:=h1;generalize bC (bC (q*v)+c)=l at*;generalize cQ (cE (q*v)) (cE (bC (q*v)+c))=k at*;have h4:e_ u l w+l+w=u+B*gk u l w/\e_ u l w<B/\gk u l w<=1:=by unfold e_ gk;unfold B at*;split<;>omega
 obtain⟨h4,h5,h6⟩:=h4;refine⟨?_,h5,h2,h6,h3⟩;rw[vF];omega
def Yrz{l w:Nat}(hl:l<B)(hu:u<B)(hw:w<=1):e_ u l w+l+w=u+B*gk u l w/\e_ u l w<B/\gk u l w<=1:=by unfold e_ gk;unfold B at*;split<;>omega
def Ykj{v c:Nat}(hv:v<B)(hu:u<B)(hc:c<=1):bC (u+v+c)+B*cE (u+v+c)=u+v+c/\bC (u+v+c)<B/\cE (u+v+c)<=1:=by unfold bC cE;unfold B at*;omega
def Qc{b:Nat}:∀{l:List Nat} {k old v:Nat},l[k]?=some old->val b (l.set k v)+b^k*old=val b l+b^k*v
 |[],k,old,v,h=>by simp at h
 |d::l,0,old,v,h=>by simp at h;subst h;simp[val];omega
 |d::l,k+1,old,v,h=>by
  have ih:=Qc (b:=b) (l:=l) (k:=k) (old:=old) (v:=v) (by simpa using h)
  simp only[List.set_cons_succ,val,im]
  generalize val b (l.set k v)=p at*
  generalize val b l=q at*
  generalize b^k=z at*
  have:b*(p+z*old)=b*(q+z*v):=by rw[ih]
  grind
def Dg.v_(h:Dg l){k v:Nat}(hv:v<B):Dg (l.set k v):=by
 intro d hd;rcases FU hd with hd|hd
 ·exact h d hd
 subst hd;exact hv
def Yxt{W q U t c t' e:Nat}(hb:1<b)(hP:0<P)(hY:Y<P)(hU:U<P)(ht:t'<b)(he:e<=1)(h1:U+q*Y=W+P*c)(h2:t'+c=t+b*e)(gT:(q-1)*Y<=W+P*t)(iW:W+P*t<(q+1)*Y):
  (e=0->U+P*t'+q*Y=W+P*t/\U+P*t'<Y/\t'=0)/\(e=1->0<q/\U+P*t'+q*Y=W+P*t+P*b/\W+P*t<q*Y):=by
 have h3:P*t'+P*c=P*t+P*(b*e):=by rw[<-vF,h2,vF]
 constructor
 ·rintro rfl;simp only[Nat.mul_zero,gE]at h3;have h4:U+P*t'+q*Y=W+P*t:=by omega
  have h5:U+P*t'<Y:=by rw[js]at iW;omega
  refine⟨h4,h5,?_⟩;rcases Gb t' with h|h
  ·exact h
  have:=lF P h;omega
 rintro rfl;simp only[AH]at h3;have h4:U+P*t'+q*Y=W+P*t+P*b:=by omega
 have h5:P*(t'+1)<=P*b:=lF _ ht;rw[vF]at h5;have h6:W+P*t<q*Y:=by omega
 refine⟨?_,h4,h6⟩;rcases Gb q with h|h
 ·subst h;omega
 exact h
def Ytx{q U t' T A c:Nat}(hP:0<P)(hY:Y<P)(hA:A<P)(hc:c<=1)(ht:t'<b)(hq:0<q)(h1:U+P*t'+q*Y=T+P*b)(h2:T<q*Y)(gT:(q-1)*Y<=T)(h3:A+P*c=U+Y):
  A+(q-1)*Y=T/\A<Y/\(t'+c)%b=0:=by
 obtain⟨s,rfl⟩:∃s,q=s+1:=⟨q-1,by omega⟩;simp only[Nat.add_sub_cancel]at*;rw[js]at h1 h2;have h4:A+P*(t'+c)+s*Y=T+P*b:=by rw[vF];omega
 have h5:t'+c=b:=by
  rcases Nat.lt_trichotomy (t'+c) b with h|h|h
  ·have:=lF P (show t'+c+1<=b from h);rw[vF P (t'+c)]at this;omega
  ·exact h
  omega
 rw[h5]at h4;refine⟨by omega,by omega,?_⟩;rw[h5,Nat.mod_self]
def P3:∀{k n:Nat},B^k<=n->n<B^(k+1)->(aJ n).length=k+1/\(aJ n)[k]?=some (n/B^k)
 |0,n,h1,h2=>by
  have h0:n≠0:=by
   rw[Gn]at h1;omega
  rw[oM h0]
  have h3:n/B=0:=BC (by simpa using h2)
  rw[h3,tJ]
  simp
  exact z_ (by simpa using h2)
 |k+1,n,h1,h2=>by
  have hB:0<B:=by decide
  have hp:0<B^(k+1):=BD hB
  have h0:n≠0:=by omega
  have h3:B^k<=n/B:=(LK hB).2 (by rw[<-im];exact h1)
  have h4:n/B<B^(k+1):=(su hB).2 (by rw[<-im];exact h2)
  obtain⟨e1,e2⟩:=P3 h3 h4
  rw[oM h0]
  refine⟨by simp[e1],?_⟩
  rw[Gh,e2,IY,im,kg (B^k)]
def Yo8{n:Nat}(h:(aJ n).length≠0):n≠0:=by rintro rfl;exact h (by rw[tJ];rfl)
def J0:∀{k n:Nat},(aJ n).length=k+1->B^k<=n/\n<B^(k+1)
 |0,n,h=>by
  have h0:=Yo8 (n:=n) (by omega)
  rw[oM h0]at h
  have h1:(aJ (n/B)).length=0:=by simpa using h
  have h2:n/B=0:=by
   by_cases hc:n/B=0
   ·exact hc
   ·rw[oM hc]at h1;simp at h1
  have:=(Nat.div_eq_zero_iff).1 h2
  rcases this with hb|hb
  ·exact absurd hb (by decide)
  ·simp;omega
 |k+1,n,h=>by
  have h0:=Yo8 (n:=n) (by omega)
  rw[oM h0]at h
  obtain⟨h1,h2⟩:=J0 (k:=k) (n:=n/B) (by simpa using h)
  have hB:0<B:=by decide
  exact⟨by rw[im];exact(LK hB).1 h1,by rw[im];exact(su hB).1 h2⟩
def Ykv{t s:Nat}(hl:(aJ b).length=k+1)(ht:(aJ b)[k]?=some t)(h1:9223372036854775808<=t*2^s)(h2:t*2^s<18446744073709551616)(hs:s<=64):
  (aJ (b*2^s)).length=k+1/\∃v1,(aJ (b*2^s))[k]?=some v1/\9223372036854775808<=v1:=by
 obtain⟨b1,b2⟩:=J0 hl;have hp:0<B^k:=BD (by decide);have pP:=s_ s;have htd:t=b/B^k:=by have:=(P3 b1 b2).2;rw[ht]at this;exact pC this
 have b3:t*B^k<=b:=by rw[htd];exact Nat.div_mul_le_self _ _
 have b4:b<(t+1)*B^k:=by rw[htd];exact(su hp).1 (xC _)
 have c1:9223372036854775808*B^k<=b*2^s:=by
  have e1:=jz (B^k) h1;have e2:=jz (2^s) b3;have e3:t*2^s*B^k=t*B^k*2^s:=by grind
  omega
 have c2:b*2^s<B^(k+1):=by
  have e0:t+1<=2^(64-s):=by
   have:t<2^(64-s):=by apply Nat.lt_of_mul_lt_mul_right (a:=2^s);rw[<-mJ,show 64-s+s=64 by omega];exact h2
   omega
  have e1:=jz (2^s) e0;rw[<-mJ,show 64-s+s=64 by omega]at e1;have e2:=Ll b4 pP;have e3:=jz (B^k) e1;have e4:(t+1)*2^s*B^k=(t+1)*B^k*2^s:=by grind
  rw[im,kg];have e5:(2^64:Nat)*B^k=B^k*B:=by unfold B;rw[kg]
  rw[kg b]at e2;omega
 have c0:B^k<=b*2^s:=by omega
 obtain⟨d1,d2⟩:=P3 c0 c2;exact⟨d1,_,d2,(LK hp).2 c1⟩
def Yfc{U:List Nat}{la m s:Nat}(hU:val B U=a*2^s)(hl:U.length=la+1)(hm:m+k+1=la+1)(rP:m<=U.length)(ha:a<B^la)(hs:s<64)(hv:9223372036854775808<=v1)(hY:v1*B^k<=Y):val B (U.drop m)<Y:=by
 have h1:=Hj B U m rP;have h2:B^m*val B (U.drop m)<B^la*2^s:=by have:=Ll ha (s_ s);omega
 have h3:(2:Nat)^s<=9223372036854775808:=(rO (by decide) (show s<=63 by omega):(2:Nat)^s<=2^63);have h4:B^la=B^m*B^k:=by rw[<-mJ];congr 1;omega
 rw[h4,Gm]at h2;have h5:=Nat.lt_of_mul_lt_mul_left h2;have h6:=lF (B^k) h3;have h7:=lF (B^k) hv;rw[kg v1]at hY;omega
end
end Go.Mx
