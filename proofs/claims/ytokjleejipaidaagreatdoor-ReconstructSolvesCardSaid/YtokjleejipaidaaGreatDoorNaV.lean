/-bits-/
import Derived.Test.YtokjleejipaidaaGreatDoorNaP
set_option linter.all false
namespace Go.Mx
noncomputable section
open Go Go.Proofs
variable {b u y:Nat}
set_option maxHeartbeats 8000000
set_option maxRecDepth 1000000
def A.It:=A.q Tryz.f249
def A.iB:=A.ql A.It 1 []
def A.iC:=A.ql A.It 0 []
def A.b249:=(fun x0 x1=>A.qb A.It [x0,x1]) A.iC A.iB
def A.k249:=@A.kk 249 135 [.tmp 6,.tmp 7] A.b249 (by kernel_rfl) rfl
structure DvI (h:T O) (N:Nat) (k1 u cA D m:Nat) (r:T V) (st:St):Prop where
 st:st=⟨h,N,[]⟩
 ex:∃rh:Nat,r.get k1=some (.int .u64 m)/\r.get 16=some (.int .u64 rh)/\u=m*cA+rh/\D<=m/\m<=4294967297/\rh<4294967296
def Ymb(h0:¬y=0)(h:y<18446744073709551616):9223372036854775808<=y*2^(64-aX y)/\y*2^(64-aX y)<18446744073709551616/\64-aX y<64:=by
 have h1:=Sf y
 have h2:=KE h0
 have hp:0<aX y:=by unfold aX;rw[ak h0];omega
 have hl:aX y<=64:=by
  apply zB
  intro hc
  have:2^64<=2^(aX y-1):=rJ (by decide) (by omega)
  omega
 refine⟨?_,?_,by omega⟩
 ·have:=ki (2^(64-aX y)) h2
  rw[<-kj,show aX y-1+(64-aX y)=63 by omega]at this
  exact this
 ·have:=JL h1 (rL (64-aX y))
  rw[<-kj,show aX y+(64-aX y)=64 by omega]at this
  exact this
def Zf{a:Nat}(h:a<18446744073709551616):bh .u64 ((a:Int)/(b:Int))=(mD a b:Nat):=by
 have e:((a:Int)/(b:Int))=((a/b:Nat):Int):=rfl
 have:=vT a b
 rw[e,FK (Int.natCast_nonneg _) (Int.ofNat_lt.2 (show a/b<18446744073709551616 by omega))]
 rfl
def Zs4{a c:Nat}(h:c<=a)(hr:a-c<18446744073709551616):fT (a%18446744073709551616) (c%18446744073709551616)=a-c:=by
 unfold fT
 split<;>omega
def Ybs{c u1 u0 z Y:Nat}(hc:c=b*b)(hY:0<Y):(u1*c+u0*b+z)/Y=(u1*b+u0)/Y*b+((u1*b+u0)%Y*b+z)/Y/\(u1*c+u0*b+z)%Y=((u1*b+u0)%Y*b+z)%Y:=by
 subst hc
 have h:=uZ (u1*b+u0) Y
 have e:u1*(b*b)+u0*b+z=Y*((u1*b+u0)/Y*b)+((u1*b+u0)%Y*b+z):=by
  generalize (u1*b+u0)/Y=D at*
  generalize (u1*b+u0)%Y=R at*
  have:(Y*D+R)*b=(u1*b+u0)*b:=by rw[h]
  grind
 rw[e,Nat.mul_add_div hY,Nat.mul_add_mod]
 exact⟨rfl,rfl⟩
def Zud:u=u/y*y+u%y:=by
 have:=uZ u y
 rw[jg]at this
 exact this.symm
def Zyo(h:0<y)(hb:y<=b):u%y<b:=e_ (kQ _ h) hb
def Zyq{un cA kX:Nat}(h:0<cA)(hn:un<4294967296):(u*4294967296+un)/(cA*4294967296+kX)<=u/cA:=by
 have h1:(u*4294967296+un)/(cA*4294967296+kX)<=(u*4294967296+un)/(cA*4294967296):=Nat.div_le_div_left (by omega) (by omega)
 have h2:(u*4294967296+un)/(cA*4294967296)=u/cA:=by
  rw[jg cA,<-GY,show (u*4294967296+un)/4294967296=u by omega]
 rw[h2]at h1
 exact h1
def Zyp{cA kX:Nat}(h0:kX<4294967296)(h:2147483648<=cA)(hu:u<cA*4294967296+kX):u/cA<=4294967297:=by
 apply Nat.le_of_lt_succ
 apply (qs (by omega)).2
 omega
def Zyv{h:T O}{N:Nat}{hi lo:Nat}(hy:hi<y)(Ig:y<18446744073709551616)(fS:lo<18446744073709551616):Fn A.C 249 [.int .u64 hi,.int .u64 lo,.int .u64 y] h N (fun v h' N'=>h'=h/\N'=N/\v=.aV [.int .u64 ((hi*18446744073709551616+lo)/y:Nat),.int .u64 ((hi*18446744073709551616+lo)%y:Nat)]):=by
 intro w
 have yk:¬y=0:=by omega
 have hle:¬y<=hi:=by omega
 rw[aM,A.k249 (by simp)]
 by_cases h0:hi=0
 ·subst h0
  have hq:=Zf (b:=y) fS
  simp[A.b249,yk,cn.cr,az,hq,Nj,mD]
  exact ab.refl
 ·simp[A.b249,yk,hle,h0]
  refine ay (Ye0 Ig) ?_
  rintro _ h N hk ⟨rfl,rfl,rfl⟩
  obtain⟨n1,n2,n3⟩:=Ymb yk Ig
  generalize 64-aX y=s at*
  have hw:bh .u64 (s:Int)=(s:Int):=FK (by omega) (by omega)
  have Ez:bh .u64 (64-(s:Int))=((64-s:Nat):Int):=by rw[FK (by omega) (by omega)];omega
  obtain⟨Y,hY⟩:∃Y,bL y s=Y:=⟨_,rfl⟩
  have hYe:Y=y*2^s:=by rw[<-hY];unfold bL;omega
  obtain⟨cA,NK⟩:∃x,av Y 32=x:=⟨_,rfl⟩
  obtain⟨kX,NL⟩:∃x,eP Y=x:=⟨_,rfl⟩
  obtain⟨U,hU⟩:∃x,jm (bL hi s) (av lo (64-s))=x:=⟨_,rfl⟩
  obtain⟨L,hL⟩:∃x,bL lo s=x:=⟨_,rfl⟩
  obtain⟨yl,NM⟩:∃x,av L 32=x:=⟨_,rfl⟩
  obtain⟨wJ,NN⟩:∃x,eP L=x:=⟨_,rfl⟩
  have hYB:Y<18446744073709551616:=by omega
  have hLB:L<18446744073709551616:=by rw[<-hL];exact YG
  have Sh:Y=cA*4294967296+kX/\kX<4294967296:=by
   rw[<-NK,<-NL];unfold av eP;omega
  have hLd:L=yl*4294967296+wJ/\wJ<4294967296:=by
   rw[<-NM,<-NN];unfold av eP;omega
  have hA:U*18446744073709551616+L=(hi*18446744073709551616+lo)*2^s:=by
   have e1:=RZ (x:=hi) n3 (Ylw (x:=lo) (s:=s) fS (by omega))
   have e2:=Yc3 (x:=lo) (s:=s) (by omega)
   have e3:bL hi s=hi*2^s:=by
    unfold bL
    have:=JL hy (rL s)
    omega
   have e4:U=av lo (64-s)+hi*2^s:=by
    rw[<-hU,<-e3,<-e1];unfold jm;exact Nat.or_comm _ _
   rw[hL]at e2
   unfold B at e2
   rw[e4,iY (hi*18446744073709551616),<-e2]
   have:hi*18446744073709551616*2^s=hi*2^s*18446744073709551616:=by grind
   omega
  have hUY:U<Y:=by
   have h1:hi*18446744073709551616+lo<y*18446744073709551616:=by omega
   have h2:=JL h1 (rL s)
   have h3:y*18446744073709551616*2^s=y*2^s*18446744073709551616:=by grind
   omega
  have hsr:av lo (64-s)<18446744073709551616:=Zxo fS
  have hyp:0<cA:=by omega
  have hyb:cA<=4294967296:=by omega
  have Cm:0<cA*4294967296+kX:=by omega
  have hq:=Zf (b:=cA) (show U<18446744073709551616 by omega)
  have hr:fT U (cN (mD U cA) cA)=U%cA:=by
   have h1:=uZ U cA
   rw[jg]at h1
   have h2:cN (mD U cA) cA=U/cA*cA:=by unfold cN mD;omega
   rw[h2,FL (by omega) (by omega)];omega
  simp(disch:=first|(simp;done)|omega|(simp only[bB,cC,bo];omega)|rfl) [hq,hr,hw,Ez,hY,NK,NL,hU,hL,NM,NN]
  obtain⟨D1,A9⟩:∃D,(U*4294967296+yl)/(cA*4294967296+kX)=D:=⟨_,rfl⟩
  refine bA [(15,16),(67,85)] (fun e r st=>e=.exit 0/\st=⟨h,N,[]⟩/\r.get 15=some (.int .u64 D1)) (DvI h N 15 U cA D1) (U/cA) ?_ ?_ ?_
  ·exact⟨rfl,U%cA,by simp[mD],by simp,Zud,A9▸Zyq hyp (by omega),Zyp Sh.2 (by omega) (by omega),Zyo hyp hyb⟩
  ·rintro q r _ hr hf ⟨rfl,rh,hq,Ba,hu,hD,iU,yC⟩
   rw[bb]
   obtain⟨P,hP⟩:∃P,P=q*kX:=⟨_,rfl⟩
   obtain⟨R2,Zg⟩:∃P,P=4294967296*rh:=⟨_,rfl⟩
   obtain⟨R3,hR3⟩:∃P,P=4294967296*rh+yl:=⟨_,rfl⟩
   have m2:cN 4294967296 rh=R2:=by unfold cN;omega
   have m3:cJ R2 yl=R3:=by unfold cJ;omega
   have uv:(4294967296<=q\/R3<P)->0<q/\D1<=q-1:=by
    intro hc
    have:D1<q:=by
     rcases hc with hc|hc
     ·have:D1<4294967296:=by rw[<-A9];exact(qs Cm).2 (by omega)
      omega
     ·rw[<-A9];exact Zum (Zyz (b:=4294967296) hu (by omega))
    omega
   have rZ:0<q->U=(q-1)*cA+(rh+cA):=by
    intro hc
    obtain⟨s,rfl⟩:∃s,q=s+1:=⟨q-1,by omega⟩
    rw[hu,iY];simp;omega
   have eM:∀Iu,U=(q-1)*cA+Iu->4294967296<=Iu->(q-1)*(cA*4294967296+kX)<=U*4294967296+yl:=by
    intro Iu h1 h2
    refine Sg h1 ?_
    have:=oL (show q-1<=4294967296 by omega) (show kX<=4294967296 by omega)
    omega
   by_cases c1:4294967296<=q
   ·have c1':(4294967296:Int)<=(q:Int):=by omega
    obtain⟨g1,g2⟩:=uv (.inl c1)
    have s1:fT q 1=q-1:=FL g1 (by omega)
    have s2:cJ rh cA=rh+cA:=by unfold cJ;omega
    by_cases c3:4294967296<=rh+cA
    ·have c3':(4294967296:Int)<=(rh:Int)+(cA:Int):=by omega
     simp[A.iC,hr,hq,Ba,c1',c3',s1,s2,hf]
     have hd:=KH Cm (eM _ (rZ g1) c3)
     rw[A9]at hd;omega
    ·have c3':¬(4294967296:Int)<=(rh:Int)+(cA:Int):=by omega
     simp[A.iC,hr,hq,Ba,c1',c3',s1,s2,hf]
     exact⟨q-1,by omega,rfl,rh+cA,by simp,by simp,rZ g1,g2,by omega,by omega⟩
   ·have c1':¬(4294967296:Int)<=(q:Int):=by omega
    have m1:cN q kX=P:=by
     have:=oL (show q<=4294967296 by omega) (show kX<=4294967295 by omega)
     unfold cN;omega
    by_cases c2:R3<P
    ·obtain⟨g1,g2⟩:=uv (.inr c2)
     have s1:fT q 1=q-1:=FL g1 (by omega)
     have s2:cJ rh cA=rh+cA:=by unfold cJ;omega
     by_cases c3:4294967296<=rh+cA
     ·have c3':(4294967296:Int)<=(rh:Int)+(cA:Int):=by omega
      simp[A.iC,hr,hq,Ba,c1',c2,c3',m1,m2,m3,s1,s2,hf]
      have hd:=KH Cm (eM _ (rZ g1) c3)
      rw[A9]at hd;omega
     ·have c3':¬(4294967296:Int)<=(rh:Int)+(cA:Int):=by omega
      simp[A.iC,hr,hq,Ba,c1',c2,c3',m1,m2,m3,s1,s2,hf]
      exact⟨q-1,by omega,rfl,rh+cA,by simp,by simp,rZ g1,g2,by omega,by omega⟩
    ·simp[A.iC,hr,hq,Ba,c1',c2,m1,m2,m3,hf]
     have hd:=KH Cm (Sg (b:=4294967296) (un:=yl) hu (by omega))
     rw[A9]at hd;omega
  rintro _ r _ d_ ⟨rfl,rfl,DO⟩
  obtain⟨R1,Si⟩:∃R,(U*4294967296+yl)%Y=R:=⟨_,rfl⟩
  rw[<-Sh.1]at A9
  have AV:fT (cJ (cN U 4294967296) yl) (cN D1 Y)=R1:=by
   have h1:=uZ (U*4294967296+yl) Y
   rw[A9,Si,jg Y]at h1
   have h2:cJ (cN U 4294967296) yl=(U*4294967296+yl)%18446744073709551616:=by unfold cJ cN;omega
   rw[h2]
   have h3:=kQ (U*4294967296+yl) (show 0<Y by omega)
   unfold cN
   rw[Zs4 (by omega) (by omega)];omega
  have zaY:R1<Y:=by rw[<-Si];exact kQ _ (by omega)
  have km:=Zf (b:=cA) (show R1<18446744073709551616 by omega)
  have dt:fT R1 (cN (mD R1 cA) cA)=R1%cA:=by
   have h1:=uZ R1 cA
   rw[jg]at h1
   have h2:cN (mD R1 cA) cA=R1/cA*cA:=by unfold cN mD;omega
   rw[h2,FL (by omega) (by omega)];omega
  simp(disch:=first|(simp;done)|omega|(simp only[bB,cC,bo];omega)|rfl) [d_,DO,AV,km,dt]
  obtain⟨D0,zU⟩:∃D,(R1*4294967296+wJ)/(cA*4294967296+kX)=D:=⟨_,rfl⟩
  refine bA [(16,16),(18,18),(102,120)] (fun e r st=>e=.exit 2/\st=⟨h,N,[]⟩/\r.get 18=some (.int .u64 D0)) (DvI h N 18 R1 cA D0) (R1/cA) ?_ ?_ ?_
  ·exact⟨rfl,R1%cA,by simp[mD],by simp,Zud,zU▸Zyq hyp (by omega),Zyp Sh.2 (by omega) (by omega),Zyo hyp hyb⟩
  ·rintro q r _ hr hf ⟨rfl,rh,hq,Ba,hu,hD,iU,yC⟩
   rw[bb]
   obtain⟨P,hP⟩:∃P,P=q*kX:=⟨_,rfl⟩
   obtain⟨R2,Zg⟩:∃P,P=4294967296*rh:=⟨_,rfl⟩
   obtain⟨R3,hR3⟩:∃P,P=4294967296*rh+wJ:=⟨_,rfl⟩
   have m2:cN 4294967296 rh=R2:=by unfold cN;omega
   have m3:cJ R2 wJ=R3:=by unfold cJ;omega
   have uv:(4294967296<=q\/R3<P)->0<q/\D0<=q-1:=by
    intro hc
    have:D0<q:=by
     rcases hc with hc|hc
     ·have:D0<4294967296:=by rw[<-zU];exact(qs Cm).2 (by omega)
      omega
     ·rw[<-zU];exact Zum (Zyz (b:=4294967296) hu (by omega))
    omega
   have rZ:0<q->R1=(q-1)*cA+(rh+cA):=by
    intro hc
    obtain⟨s,rfl⟩:∃s,q=s+1:=⟨q-1,by omega⟩
    rw[hu,iY];simp;omega
   have eM:∀Iu,R1=(q-1)*cA+Iu->4294967296<=Iu->(q-1)*(cA*4294967296+kX)<=R1*4294967296+wJ:=by
    intro Iu h1 h2
    refine Sg h1 ?_
    have:=oL (show q-1<=4294967296 by omega) (show kX<=4294967296 by omega)
    omega
   by_cases c1:4294967296<=q
   ·have c1':(4294967296:Int)<=(q:Int):=by omega
    obtain⟨g1,g2⟩:=uv (.inl c1)
    have s1:fT q 1=q-1:=FL g1 (by omega)
    have s2:cJ rh cA=rh+cA:=by unfold cJ;omega
    by_cases c3:4294967296<=rh+cA
    ·have c3':(4294967296:Int)<=(rh:Int)+(cA:Int):=by omega
     simp[A.iB,hr,d_,hq,Ba,c1',c3',s1,s2,hf]
     have hd:=KH Cm (eM _ (rZ g1) c3)
     rw[zU]at hd;omega
    ·have c3':¬(4294967296:Int)<=(rh:Int)+(cA:Int):=by omega
     simp[A.iB,hr,d_,hq,Ba,c1',c3',s1,s2,hf]
     exact⟨q-1,by omega,rfl,rh+cA,by simp,by simp,rZ g1,g2,by omega,by omega⟩
   ·have c1':¬(4294967296:Int)<=(q:Int):=by omega
    have m1:cN q kX=P:=by
     have:=oL (show q<=4294967296 by omega) (show kX<=4294967295 by omega)
     unfold cN;omega
    by_cases c2:R3<P
    ·obtain⟨g1,g2⟩:=uv (.inr c2)
     have s1:fT q 1=q-1:=FL g1 (by omega)
     have s2:cJ rh cA=rh+cA:=by unfold cJ;omega
     by_cases c3:4294967296<=rh+cA
     ·have c3':(4294967296:Int)<=(rh:Int)+(cA:Int):=by omega
      simp[A.iB,hr,d_,hq,Ba,c1',c2,c3',m1,m2,m3,s1,s2,hf]
      have hd:=KH Cm (eM _ (rZ g1) c3)
      rw[zU]at hd;omega
     ·have c3':¬(4294967296:Int)<=(rh:Int)+(cA:Int):=by omega
      simp[A.iB,hr,d_,hq,Ba,c1',c2,c3',m1,m2,m3,s1,s2,hf]
      exact⟨q-1,by omega,rfl,rh+cA,by simp,by simp,rZ g1,g2,by omega,by omega⟩
    ·simp[A.iB,hr,d_,hq,Ba,c1',c2,m1,m2,m3,hf]
     have hd:=KH Cm (Sg (b:=4294967296) (un:=wJ) hu (by omega))
     rw[zU]at hd;omega
  rintro _ r2 _ pU ⟨rfl,rfl,h18⟩
  obtain⟨R0,Ae⟩:∃R,(R1*4294967296+wJ)%Y=R:=⟨_,rfl⟩
  rw[<-Sh.1]at zU
  have oV:fT (cJ (cN R1 4294967296) wJ) (cN D0 Y)=R0:=by
   have h1:=uZ (R1*4294967296+wJ) Y
   rw[zU,Ae,jg Y]at h1
   have h2:cJ (cN R1 4294967296) wJ=(R1*4294967296+wJ)%18446744073709551616:=by unfold cJ cN;omega
   rw[h2]
   have h3:=kQ (R1*4294967296+wJ) (show 0<Y by omega)
   unfold cN
   rw[Zs4 (by omega) (by omega)];omega
  have uf:D1<4294967296:=by rw[<-A9];exact(qs (by omega)).2 (by omega)
  have oO:D0<4294967296:=by rw[<-zU];exact(qs (by omega)).2 (by omega)
  have ha:cJ (cN D1 4294967296) D0=D1*4294967296+D0:=by unfold cJ cN;omega
  obtain⟨e1,e2⟩:=Ybs (b:=4294967296) (c:=18446744073709551616) (by decide) (u1:=U) (u0:=yl) (z:=wJ) (show 0<Y by omega)
  rw[Si,A9,zU]at e1
  rw[Si,Ae]at e2
  have e3:U*18446744073709551616+yl*4294967296+wJ=(hi*18446744073709551616+lo)*2^s:=by
   rw[<-hA,hLd.1,pF]
  rw[e3,hYe,QY _ _ (rL s)]at e1
  rw[e3,hYe,LQ]at e2
  have Sj:av R0 s=(hi*18446744073709551616+lo)%y:=by
   unfold av
   rw[<-e2,Nat.mul_div_cancel _ (rL s)]
  simp(disch:=first|(simp;done)|omega|(simp only[bB,cC,bo];omega)|rfl) [d_,pU,DO,h18,oV,ha,az]
  have e5:(hi:Int)*18446744073709551616+lo=((hi*18446744073709551616+lo:Nat):Int):=by omega
  refine⟨ab.refl,?_,?_⟩
  ·rw[e5,<-Int.natCast_ediv,e1];omega
  ·rw[e5,<-Int.natCast_emod,Sj]
open Go
variable {P Y a b d k u v1:Nat} {l:List Nat}
def Cj(h:l[k]?=some d):val b (l.drop k)=d+b*val b (l.drop (k+1)):=by
 have hk:k<l.length:=by
  apply tW;intro hc;rw[fv hc]at h;cases h
 rw[GZ hk]
 rw[cF hk]at h
 simp only[an]at h
 rw[h];rfl
def FQ(b:Nat)(l:List Nat)(k:Nat)(hk:k<=l.length):val b l=val b (l.take k)+b^k*val b (l.drop k):=by
 have:=RW b (l.take k) (l.drop k)
 rw[CT,gO,qt hk]at this
 exact this
def Zxi{b:Nat}:∀{l:List Nat},(∀(t:Nat),t<l.length->l[t]?=some 0)->val b l=0
 |[],_=>rfl
 |d::l,h=>by
  have h0:=h 0 (by simp)
  simp at h0
  have:=Zxi (b:=b) (l:=l) fun t ht=>by simpa using h (t+1) (by simp;omega)
  simp[val,h0,this]
def Ytj{α:Type}{l:List α}{d:α}(h:l[k]?=some d):k<l.length:=by
 apply tW;intro hc;rw[fv hc]at h;cases h
def YU(hz:∀t,k<=t->t<l.length->l[t]?=some 0):val b (l.drop k)=0:=by
 apply Zxi
 intro t ht
 rw[ff]
 rw[xF]at ht
 exact hz _ (by omega) (by omega)
def Yho{w:List Nat}{c:Nat}(ha:w[k]?=some a)(hc:w[k+1]?=some c)(hd:w[k+2]?=some d)(hz:∀t,k+3<=t->t<w.length->w[t]?=some 0):
  val b w=val b (w.take k)+b^k*(a+b*(d*b+c)):=by
 have:=Ytj ha
 rw[FQ b w k (by omega),Cj ha,Cj hc,Cj hd,YU hz]
 generalize b^k=p
 grind
def Yhp{w:List Nat}{c:Nat}(ha:w[k]?=some a)(hc:w[k+1]?=some c)(hl:w.length=k+2):
  val b w=val b (w.take k)+b^k*(a+b*c):=by
 rw[FQ b w k (by omega),Cj ha,Cj hc,qh (by omega)]
 simp[val]
def Znr(g:∀d∈l,d<b)(hk:k<=l.length):val b (l.take k)<b^k:=by
 have:=FN (b:=b) (l:=l.take k) fun d hd=>g d (yJ hd)
 rwa [gO,qt hk]at this
def Ytl{c U' v2 V':Nat}(hP:0<P)(Dc:V'<P)(jL:v2<b)(hd:v1<=d)(hW:U'+P*(a+b*(d*b+c))<b*(V'+P*(v2+b*v1))):d=v1:=by
 apply Nat.le_antisymm _ hd
 apply zB
 intro au
 have h1:b*(P*(b*(v1+1)))<=b*(P*(b*d)):=kO _ (kO _ (kO _ au))
 have h2:V'+P*(v2+b*v1)<P*(b*(v1+1)):=by
  have:P*(v2+1)<=P*b:=kO _ jL
  grind
 have h3:b*(V'+P*(v2+b*v1))<=b*(P*(b*(v1+1))):=kO _ (Nat.le_of_lt h2)
 have h4:b*(P*(b*d))<=U'+P*(a+b*(d*b+c)):=by
  have:P*(b*(d*b))=b*(P*(b*d)):=by grind
  have:P*(b*(d*b))<=P*(a+b*(d*b+c)):=kO _ (by rw[tV];omega)
  omega
 omega
def Ytm{U' u2 u1 v2 V' q r:Nat}(hU:U'<P)(fy:u2<b)(hinv:u1=q*v1+r)(hr:r<v1):U'+P*(u2+b*u1)<(q+1)*(V'+P*(v2+b*v1)):=by
 have h1:u1+1<=(q+1)*v1:=by rw[hinv,iY];omega
 have h2:P*(b*(u1+1))<=P*(b*((q+1)*v1)):=kO _ (kO _ h1)
 have h3:P*(u2+1)<=P*b:=kO _ fy
 have h4:P*(b*((q+1)*v1))<=(q+1)*(V'+P*(v2+b*v1)):=by
  have:(q+1)*(V'+P*(v2+b*v1))=(q+1)*V'+P*((q+1)*v2)+P*(b*((q+1)*v1)):=by grind
  omega
 have h5:U'+P*(u2+b*u1)+P<=U'+P*(b*(u1+1)):=by grind
 omega
def wG(q v c:Nat):Nat:=bu (bu (q*v)+c)
def pe(q v c:Nat):Nat:=cJ (cm (q*v)) (cm (bu (q*v)+c))
def Yo6{q v c w:Nat}(hq:q<B)(hv:v<B)(hc:c<B)(hu:u<B)(hw:w<=1):
  eA u (wG q v c) w+q*v+c+w=u+B*(pe q v c+fH u (wG q v c) w)/\eA u (wG q v c) w<B/\pe q v c<B/\fH u (wG q v c) w<=1/\wG q v c<B:=by
 have:q*v<=18446744073709551615*18446744073709551615:=oL (by unfold B at*;omega) (by unfold B at*;omega)
 unfold pe wG
 have h1:bu (bu (q*v)+c)+B*cJ (cm (q*v)) (cm (bu (q*v)+c))=q*v+c/\cJ (cm (q*v)) (cm (bu (q*v)+c))<B/\bu (bu (q*v)+c)<B:=by
  unfold bu cm cJ
  unfold B at*
  generalize q*v=p at*
  omega
 obtain⟨h1,h2,h3⟩:=h1
 generalize bu (bu (q*v)+c)=l at*
 generalize cJ (cm (q*v)) (cm (bu (q*v)+c))=k at*
 have h4:eA u l w+l+w=u+B*fH u l w/\eA u l w<B/\fH u l w<=1:=by
  unfold eA fH
  unfold B at*
  split<;>omega
 obtain⟨h4,h5,h6⟩:=h4
 refine⟨?_,h5,h2,h6,h3⟩
 rw[tV]
 omega
def Yn0{l w:Nat}(hl:l<B)(hu:u<B)(hw:w<=1):eA u l w+l+w=u+B*fH u l w/\eA u l w<B/\fH u l w<=1:=by
 unfold eA fH
 unfold B at*
 split<;>omega
def Yha{v c:Nat}(hv:v<B)(hu:u<B)(hc:c<=1):bu (u+v+c)+B*cm (u+v+c)=u+v+c/\bu (u+v+c)<B/\cm (u+v+c)<=1:=by
 unfold bu cm
 unfold B at*
 omega
def NA{b:Nat}:∀{l:List Nat} {k old v:Nat},l[k]?=some old->val b (l.set k v)+b^k*old=val b l+b^k*v
 |[],k,old,v,h=>by simp at h
 |d::l,0,old,v,h=>by simp at h;subst h;simp[val];omega
 |d::l,k+1,old,v,h=>by
  have ih:=NA (b:=b) (l:=l) (k:=k) (old:=old) (v:=v) (by simpa using h)
  simp only[List.set_cons_succ,val,gw]
  generalize val b (l.set k v)=p at*
  generalize val b l=q at*
  generalize b^k=z at*
  have:b*(p+z*old)=b*(q+z*v):=by rw[ih]
  grind
def Dg.uD(h:Dg l){k v:Nat}(hv:v<B):Dg (l.set k v):=by
 intro d hd
 rcases Gx hd with hd|hd
 ·exact h d hd
 ·subst hd;exact hv
def Ytb{W q U t c t' e:Nat}(hb:1<b)(hP:0<P)(hY:Y<P)(hU:U<P)(ht:t'<b)(he:e<=1)(h1:U+q*Y=W+P*c)(h2:t'+c=t+b*e)(fS:(q-1)*Y<=W+P*t)(g_:W+P*t<(q+1)*Y):
  (e=0->U+P*t'+q*Y=W+P*t/\U+P*t'<Y/\t'=0)/\(e=1->0<q/\U+P*t'+q*Y=W+P*t+P*b/\W+P*t<q*Y):=by
 have h3:P*t'+P*c=P*t+P*(b*e):=by rw[<-tV,h2,tV]
 constructor
 ·rintro rfl
  simp only[Nat.mul_zero,iX]at h3
  have h4:U+P*t'+q*Y=W+P*t:=by omega
  have h5:U+P*t'<Y:=by rw[iY]at g_;omega
  refine⟨h4,h5,?_⟩
  rcases G6 t' with h|h
  ·exact h
  ·have:=kO P h
   omega
 ·rintro rfl
  simp only[zp]at h3
  have h4:U+P*t'+q*Y=W+P*t+P*b:=by omega
  have h5:P*(t'+1)<=P*b:=kO _ ht
  rw[tV]at h5
  have h6:W+P*t<q*Y:=by omega
  refine⟨?_,h4,h6⟩
  rcases G6 q with h|h
  ·subst h;omega
  ·exact h
def Ypu{q U t' T A c:Nat}(hP:0<P)(hY:Y<P)(hA:A<P)(hc:c<=1)(ht:t'<b)(hq:0<q)(h1:U+P*t'+q*Y=T+P*b)(h2:T<q*Y)(fS:(q-1)*Y<=T)(h3:A+P*c=U+Y):
  A+(q-1)*Y=T/\A<Y/\(t'+c)%b=0:=by
 obtain⟨s,rfl⟩:∃s,q=s+1:=⟨q-1,by omega⟩
 simp only[Nat.add_sub_cancel]at*
 rw[iY]at h1 h2
 have h4:A+P*(t'+c)+s*Y=T+P*b:=by rw[tV];omega
 have h5:t'+c=b:=by
  rcases Nat.lt_trichotomy (t'+c) b with h|h|h
  ·have:=kO P (show t'+c+1<=b from h)
   rw[tV P (t'+c)]at this
   omega
  ·exact h
  ·omega
 rw[h5]at h4
 refine⟨by omega,by omega,?_⟩
 rw[h5,Nat.mod_self]
def Nt:∀{k n:Nat},B^k<=n->n<B^(k+1)->(aG n).length=k+1/\(aG n)[k]?=some (n/B^k)
 |0,n,h1,h2=>by
  have h0:n≠0:=by
   rw[EP]at h1;omega
  rw[mZ h0]
  have h3:n/B=0:=Ax (by simpa using h2)
  rw[h3,rV]
  simp
  exact yQ (by simpa using h2)
 |k+1,n,h1,h2=>by
  have hB:0<B:=by decide
  have hp:0<B^(k+1):=Ay hB
  have h0:n≠0:=by omega
  have h3:B^k<=n/B:=(JO hB).2 (by rw[<-gw];exact h1)
  have h4:n/B<B^(k+1):=(qs hB).2 (by rw[<-gw];exact h2)
  obtain⟨e1,e2⟩:=Nt h3 h4
  rw[mZ h0]
  refine⟨by simp[e1],?_⟩
  rw[EJ,e2,GY,gw,jg (B^k)]
def Ylq{n:Nat}(h:(aG n).length≠0):n≠0:=by
 rintro rfl
 exact h (by rw[rV];rfl)
def Ih:∀{k n:Nat},(aG n).length=k+1->B^k<=n/\n<B^(k+1)
 |0,n,h=>by
  have h0:=Ylq (n:=n) (by omega)
  rw[mZ h0]at h
  have h1:(aG (n/B)).length=0:=by simpa using h
  have h2:n/B=0:=by
   by_cases hc:n/B=0
   ·exact hc
   ·rw[mZ hc]at h1;simp at h1
  have:=(Nat.div_eq_zero_iff).1 h2
  rcases this with hb|hb
  ·exact absurd hb (by decide)
  ·simp;omega
 |k+1,n,h=>by
  have h0:=Ylq (n:=n) (by omega)
  rw[mZ h0]at h
  obtain⟨h1,h2⟩:=Ih (k:=k) (n:=n/B) (by simpa using h)
  have hB:0<B:=by decide
  exact⟨by rw[gw];exact(JO hB).1 h1,by rw[gw];exact(qs hB).1 h2⟩
def Yhm{t s:Nat}(hl:(aG b).length=k+1)(ht:(aG b)[k]?=some t)(h1:9223372036854775808<=t*2^s)(h2:t*2^s<18446744073709551616)(hs:s<=64):
  (aG (b*2^s)).length=k+1/\∃v1,(aG (b*2^s))[k]?=some v1/\9223372036854775808<=v1:=by
 obtain⟨b1,b2⟩:=Ih hl
 have hp:0<B^k:=Ay (by decide)
 have rk:=rL s
 have htd:t=b/B^k:=by
  have:=(Nt b1 b2).2
  rw[ht]at this
  exact mJ this
 have b3:t*B^k<=b:=by rw[htd];exact Nat.div_mul_le_self _ _
 have b4:b<(t+1)*B^k:=by
  rw[htd]
  exact(qs hp).1 (vS _)
 have c1:9223372036854775808*B^k<=b*2^s:=by
  have e1:=ki (B^k) h1
  have e2:=ki (2^s) b3
  have e3:t*2^s*B^k=t*B^k*2^s:=by grind
  omega
 have c2:b*2^s<B^(k+1):=by
  have e0:t+1<=2^(64-s):=by
   have:t<2^(64-s):=by
    apply Nat.lt_of_mul_lt_mul_right (a:=2^s)
    rw[<-kj,show 64-s+s=64 by omega];exact h2
   omega
  have e1:=ki (2^s) e0
  rw[<-kj,show 64-s+s=64 by omega]at e1
  have e2:=JL b4 rk
  have e3:=ki (B^k) e1
  have e4:(t+1)*2^s*B^k=(t+1)*B^k*2^s:=by grind
  rw[gw,jg]
  have e5:(2^64:Nat)*B^k=B^k*B:=by unfold B;rw[jg]
  rw[jg b]at e2
  omega
 have c0:B^k<=b*2^s:=by omega
 obtain⟨d1,d2⟩:=Nt c0 c2
 exact⟨d1,_,d2,(JO hp).2 c1⟩
def Ycp{U:List Nat}{la m s:Nat}(hU:val B U=a*2^s)(hl:U.length=la+1)(hm:m+k+1=la+1)(zP:m<=U.length)(ha:a<B^la)(hs:s<64)(hv:9223372036854775808<=v1)(hY:v1*B^k<=Y):val B (U.drop m)<Y:=by
 have h1:=FQ B U m zP
 have h2:B^m*val B (U.drop m)<B^la*2^s:=by
  have:=JL ha (rL s)
  omega
 have h3:(2:Nat)^s<=9223372036854775808:=(rJ (by decide) (show s<=63 by omega):(2:Nat)^s<=2^63)
 have h4:B^la=B^m*B^k:=by rw[<-kj];congr 1;omega
 rw[h4,EO]at h2
 have h5:=Nat.lt_of_mul_lt_mul_left h2
 have h6:=kO (B^k) h3
 have h7:=kO (B^k) hv
 rw[jg v1]at hY
 omega
end
end Go.Mx
