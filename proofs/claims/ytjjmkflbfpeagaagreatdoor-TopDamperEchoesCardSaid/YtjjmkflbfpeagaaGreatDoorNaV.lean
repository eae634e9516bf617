/-bits-/
import Derived.Test.YtjjmkflbfpeagaaGreatDoorNaP
set_option linter.all false
namespace Go.Mx
noncomputable section
open Go Go.Proofs
variable {b u y:Nat}
set_option maxHeartbeats 8000000
set_option maxRecDepth 1000000
def A.EW:=A.q Tryz.f258
def A.gT:=A.ql A.EW 1 []
def A.gU:=A.ql A.EW 0 []
def A.b258:=(fun x0 x1=>A.qb A.EW [x0,x1]) A.gU A.gT
def A.k258:=@A.kk 258 135 [.tmp 6,.tmp 7] A.b258 (by kernel_rfl) rfl
structure DvI (h:T O) (N:Nat) (k1 u cB D m:Nat) (r:T V) (st:St):Prop where
 st:st=⟨h,N,[]⟩
 ex:∃rh:Nat,r.get k1=some (.int .u64 m)/\r.get 16=some (.int .u64 rh)/\u=m*cB+rh/\D<=m/\m<=4294967297/\rh<4294967296
def Yh0(h0:¬y=0)(h:y<18446744073709551616):9223372036854775808<=y*2^(64-aV y)/\y*2^(64-aV y)<18446744073709551616/\64-aV y<64:=by
 have h1:=OC y
 have h2:=Hj h0
 have hp:0<aV y:=by unfold aV;rw[aq h0];omega
 have hl:aV y<=64:=by
  apply wB
  intro hc
  have:2^64<=2^(aV y-1):=nY (by decide) (by omega)
  omega
 refine⟨?_,?_,by omega⟩
 ·have:=kp (2^(64-aV y)) h2
  rw[<-gL,show aV y-1+(64-aV y)=63 by omega]at this
  exact this
 ·have:=IF h1 (qA (64-aV y))
  rw[<-gL,show aV y+(64-aV y)=64 by omega]at this
  exact this
def UJ{a:Nat}(h:a<18446744073709551616):bb .u64 ((a:Int)/(b:Int))=(kI a b:Nat):=by
 have e:((a:Int)/(b:Int))=((a/b:Nat):Int):=rfl
 have:=sM a b
 rw[e,Co (Int.natCast_nonneg _) (Int.ofNat_lt.2 (show a/b<18446744073709551616 by omega))]
 rfl
def Zqq{a c:Nat}(h:c<=a)(hr:a-c<18446744073709551616):fE (a%18446744073709551616) (c%18446744073709551616)=a-c:=by
 unfold fE
 split<;>omega
def Zzb{c u1 u0 z Y:Nat}(hc:c=b*b)(hY:0<Y):(u1*c+u0*b+z)/Y=(u1*b+u0)/Y*b+((u1*b+u0)%Y*b+z)/Y/\(u1*c+u0*b+z)%Y=((u1*b+u0)%Y*b+z)%Y:=by
 subst hc
 have h:=rz (u1*b+u0) Y
 have e:u1*(b*b)+u0*b+z=Y*((u1*b+u0)/Y*b)+((u1*b+u0)%Y*b+z):=by
  generalize (u1*b+u0)/Y=D at*
  generalize (u1*b+u0)%Y=R at*
  have:(Y*D+R)*b=(u1*b+u0)*b:=by rw[h]
  grind
 rw[e,Nat.mul_add_div hY,Nat.mul_add_mod]
 exact⟨rfl,rfl⟩
def Zrw:u=u/y*y+u%y:=by
 have:=rz u y
 rw[fR]at this
 exact this.symm
def Zv9(h:0<y)(hb:y<=b):u%y<b:=ic (jO _ h) hb
def Zwb{un cB jS:Nat}(h:0<cB)(hn:un<4294967296):(u*4294967296+un)/(cB*4294967296+jS)<=u/cB:=by
 have h1:(u*4294967296+un)/(cB*4294967296+jS)<=(u*4294967296+un)/(cB*4294967296):=Nat.div_le_div_left (by omega) (by omega)
 have h2:(u*4294967296+un)/(cB*4294967296)=u/cB:=by
  rw[fR cB,<-Dq,show (u*4294967296+un)/4294967296=u by omega]
 rw[h2]at h1
 exact h1
def Zwa{cB jS:Nat}(h0:jS<4294967296)(h:2147483648<=cB)(hu:u<cB*4294967296+jS):u/cB<=4294967297:=by
 apply Nat.le_of_lt_succ
 apply (oh (by omega)).2
 omega
def Zwi{h:T O}{N:Nat}{hi lo:Nat}(hy:hi<y)(EI:y<18446744073709551616)(fA:lo<18446744073709551616):Fn A.C 258 [.int .u64 hi,.int .u64 lo,.int .u64 y] h N (fun v h' N'=>h'=h/\N'=N/\v=.aY [.int .u64 ((hi*18446744073709551616+lo)/y:Nat),.int .u64 ((hi*18446744073709551616+lo)%y:Nat)]):=by
 intro w
 have tR:¬y=0:=by omega
 have hle:¬y<=hi:=by omega
 rw[aQ,A.k258 (by simp)]
 by_cases h0:hi=0
 ·subst h0
  have hq:=UJ (b:=y) fA
  simp[A.b258,tR,cD.cG,aA,hq,J0,kI]
  exact ad.refl
 ·simp[A.b258,tR,hle,h0]
  refine au (Yb5 EI) ?_
  rintro _ h N hk ⟨rfl,rfl,rfl⟩
  obtain⟨n1,n2,n3⟩:=Yh0 tR EI
  generalize 64-aV y=s at*
  have hw:bb .u64 (s:Int)=(s:Int):=Co (by omega) (by omega)
  have SF:bb .u64 (64-(s:Int))=((64-s:Nat):Int):=by rw[Co (by omega) (by omega)];omega
  obtain⟨Y,hY⟩:∃Y,bJ y s=Y:=⟨_,rfl⟩
  have hYe:Y=y*2^s:=by rw[<-hY];unfold bJ;omega
  obtain⟨cB,Kt⟩:∃x,al Y 32=x:=⟨_,rfl⟩
  obtain⟨jS,Ku⟩:∃x,eG Y=x:=⟨_,rfl⟩
  obtain⟨U,hU⟩:∃x,iK (bJ hi s) (al lo (64-s))=x:=⟨_,rfl⟩
  obtain⟨L,hL⟩:∃x,bJ lo s=x:=⟨_,rfl⟩
  obtain⟨uR,Kv⟩:∃x,al L 32=x:=⟨_,rfl⟩
  obtain⟨tn,Kw⟩:∃x,eG L=x:=⟨_,rfl⟩
  have hYB:Y<18446744073709551616:=by omega
  have hLB:L<18446744073709551616:=by rw[<-hL];exact T1
  have OE:Y=cB*4294967296+jS/\jS<4294967296:=by
   rw[<-Kt,<-Ku];unfold al eG;omega
  have hLd:L=uR*4294967296+tn/\tn<4294967296:=by
   rw[<-Kv,<-Kw];unfold al eG;omega
  have hA:U*18446744073709551616+L=(hi*18446744073709551616+lo)*2^s:=by
   have e1:=Oq (x:=hi) n3 (Yhp (x:=lo) (s:=s) fA (by omega))
   have e2:=Yad (x:=lo) (s:=s) (by omega)
   have e3:bJ hi s=hi*2^s:=by
    unfold bJ
    have:=IF hy (qA s)
    omega
   have e4:U=al lo (64-s)+hi*2^s:=by
    rw[<-hU,<-e3,<-e1];unfold iK;exact Nat.or_comm _ _
   rw[hL]at e2
   unfold B at e2
   rw[e4,jF (hi*18446744073709551616),<-e2]
   have:hi*18446744073709551616*2^s=hi*2^s*18446744073709551616:=by grind
   omega
  have hUY:U<Y:=by
   have h1:hi*18446744073709551616+lo<y*18446744073709551616:=by omega
   have h2:=IF h1 (qA s)
   have h3:y*18446744073709551616*2^s=y*2^s*18446744073709551616:=by grind
   omega
  have hsr:al lo (64-s)<18446744073709551616:=Zu8 fA
  have hyp:0<cB:=by omega
  have hyb:cB<=4294967296:=by omega
  have zT:0<cB*4294967296+jS:=by omega
  have hq:=UJ (b:=cB) (show U<18446744073709551616 by omega)
  have hr:fE U (cM (kI U cB) cB)=U%cB:=by
   have h1:=rz U cB
   rw[fR]at h1
   have h2:cM (kI U cB) cB=U/cB*cB:=by unfold cM kI;omega
   rw[h2,Cp (by omega) (by omega)];omega
  simp(disch:=first|(simp;done)|omega|(simp only[bn,bW,bf];omega)|rfl) [hq,hr,hw,SF,hY,Kt,Ku,hU,hL,Kv,Kw]
  obtain⟨D1,yt⟩:∃D,(U*4294967296+uR)/(cB*4294967296+jS)=D:=⟨_,rfl⟩
  refine cX [(15,16),(67,85)] (fun e r st=>e=.exit 0/\st=⟨h,N,[]⟩/\r.get 15=some (.int .u64 D1)) (DvI h N 15 U cB D1) (U/cB) ?_ ?_ ?_
  ·exact⟨rfl,U%cB,by simp[kI],by simp,Zrw,yt▸Zwb hyp (by omega),Zwa OE.2 (by omega) (by omega),Zv9 hyp hyb⟩
  ·rintro q r _ hr hf ⟨rfl,rh,hq,yu,hu,hD,C5,hrb⟩
   rw[cm]
   obtain⟨P,hP⟩:∃P,P=q*jS:=⟨_,rfl⟩
   obtain⟨R2,OF⟩:∃P,P=4294967296*rh:=⟨_,rfl⟩
   obtain⟨R3,hR3⟩:∃P,P=4294967296*rh+uR:=⟨_,rfl⟩
   have m2:cM 4294967296 rh=R2:=by unfold cM;omega
   have m3:cI R2 uR=R3:=by unfold cI;omega
   have nM:(4294967296<=q\/R3<P)->0<q/\D1<=q-1:=by
    intro hc
    have:D1<q:=by
     rcases hc with hc|hc
     ·have:D1<4294967296:=by rw[<-yt];exact(oh zT).2 (by omega)
      omega
     ·rw[<-yt];exact Zr6 (Zwl (b:=4294967296) hu (by omega))
    omega
   have pG:0<q->U=(q-1)*cB+(rh+cB):=by
    intro hc
    obtain⟨s,rfl⟩:∃s,q=s+1:=⟨q-1,by omega⟩
    rw[hu,jF];simp;omega
   have eF:∀EX,U=(q-1)*cB+EX->4294967296<=EX->(q-1)*(cB*4294967296+jS)<=U*4294967296+uR:=by
    intro EX h1 h2
    refine OD h1 ?_
    have:=jL (show q-1<=4294967296 by omega) (show jS<=4294967296 by omega)
    omega
   by_cases c1:4294967296<=q
   ·have c1':(4294967296:Int)<=(q:Int):=by omega
    obtain⟨g1,g2⟩:=nM (.inl c1)
    have s1:fE q 1=q-1:=Cp g1 (by omega)
    have s2:cI rh cB=rh+cB:=by unfold cI;omega
    by_cases c3:4294967296<=rh+cB
    ·have c3':(4294967296:Int)<=(rh:Int)+(cB:Int):=by omega
     simp[A.gU,hr,hq,yu,c1',c3',s1,s2,hf]
     have hd:=Hm zT (eF _ (pG g1) c3)
     rw[yt]at hd;omega
    ·have c3':¬(4294967296:Int)<=(rh:Int)+(cB:Int):=by omega
     simp[A.gU,hr,hq,yu,c1',c3',s1,s2,hf]
     exact⟨q-1,by omega,rfl,rh+cB,by simp,by simp,pG g1,g2,by omega,by omega⟩
   ·have c1':¬(4294967296:Int)<=(q:Int):=by omega
    have m1:cM q jS=P:=by
     have:=jL (show q<=4294967296 by omega) (show jS<=4294967295 by omega)
     unfold cM;omega
    by_cases c2:R3<P
    ·obtain⟨g1,g2⟩:=nM (.inr c2)
     have s1:fE q 1=q-1:=Cp g1 (by omega)
     have s2:cI rh cB=rh+cB:=by unfold cI;omega
     by_cases c3:4294967296<=rh+cB
     ·have c3':(4294967296:Int)<=(rh:Int)+(cB:Int):=by omega
      simp[A.gU,hr,hq,yu,c1',c2,c3',m1,m2,m3,s1,s2,hf]
      have hd:=Hm zT (eF _ (pG g1) c3)
      rw[yt]at hd;omega
     ·have c3':¬(4294967296:Int)<=(rh:Int)+(cB:Int):=by omega
      simp[A.gU,hr,hq,yu,c1',c2,c3',m1,m2,m3,s1,s2,hf]
      exact⟨q-1,by omega,rfl,rh+cB,by simp,by simp,pG g1,g2,by omega,by omega⟩
    ·simp[A.gU,hr,hq,yu,c1',c2,m1,m2,m3,hf]
     have hd:=Hm zT (OD (b:=4294967296) (un:=uR) hu (by omega))
     rw[yt]at hd;omega
  rintro _ r _ jI ⟨rfl,rfl,ue⟩
  obtain⟨R1,EY⟩:∃R,(U*4294967296+uR)%Y=R:=⟨_,rfl⟩
  rw[<-OE.1]at yt
  have sY:fE (cI (cM U 4294967296) uR) (cM D1 Y)=R1:=by
   have h1:=rz (U*4294967296+uR) Y
   rw[yt,EY,fR Y]at h1
   have h2:cI (cM U 4294967296) uR=(U*4294967296+uR)%18446744073709551616:=by unfold cI cM;omega
   rw[h2]
   have h3:=jO (U*4294967296+uR) (show 0<Y by omega)
   unfold cM
   rw[Zqq (by omega) (by omega)];omega
  have zaw:R1<Y:=by rw[<-EY];exact jO _ (by omega)
  have jZ:=UJ (b:=cB) (show R1<18446744073709551616 by omega)
  have dW:fE R1 (cM (kI R1 cB) cB)=R1%cB:=by
   have h1:=rz R1 cB
   rw[fR]at h1
   have h2:cM (kI R1 cB) cB=R1/cB*cB:=by unfold cM kI;omega
   rw[h2,Cp (by omega) (by omega)];omega
  simp(disch:=first|(simp;done)|omega|(simp only[bn,bW,bf];omega)|rfl) [jI,ue,sY,jZ,dW]
  obtain⟨D0,wV⟩:∃D,(R1*4294967296+tn)/(cB*4294967296+jS)=D:=⟨_,rfl⟩
  refine cX [(16,16),(18,18),(102,120)] (fun e r st=>e=.exit 2/\st=⟨h,N,[]⟩/\r.get 18=some (.int .u64 D0)) (DvI h N 18 R1 cB D0) (R1/cB) ?_ ?_ ?_
  ·exact⟨rfl,R1%cB,by simp[kI],by simp,Zrw,wV▸Zwb hyp (by omega),Zwa OE.2 (by omega) (by omega),Zv9 hyp hyb⟩
  ·rintro q r _ hr hf ⟨rfl,rh,hq,yu,hu,hD,C5,hrb⟩
   rw[cm]
   obtain⟨P,hP⟩:∃P,P=q*jS:=⟨_,rfl⟩
   obtain⟨R2,OF⟩:∃P,P=4294967296*rh:=⟨_,rfl⟩
   obtain⟨R3,hR3⟩:∃P,P=4294967296*rh+tn:=⟨_,rfl⟩
   have m2:cM 4294967296 rh=R2:=by unfold cM;omega
   have m3:cI R2 tn=R3:=by unfold cI;omega
   have nM:(4294967296<=q\/R3<P)->0<q/\D0<=q-1:=by
    intro hc
    have:D0<q:=by
     rcases hc with hc|hc
     ·have:D0<4294967296:=by rw[<-wV];exact(oh zT).2 (by omega)
      omega
     ·rw[<-wV];exact Zr6 (Zwl (b:=4294967296) hu (by omega))
    omega
   have pG:0<q->R1=(q-1)*cB+(rh+cB):=by
    intro hc
    obtain⟨s,rfl⟩:∃s,q=s+1:=⟨q-1,by omega⟩
    rw[hu,jF];simp;omega
   have eF:∀EX,R1=(q-1)*cB+EX->4294967296<=EX->(q-1)*(cB*4294967296+jS)<=R1*4294967296+tn:=by
    intro EX h1 h2
    refine OD h1 ?_
    have:=jL (show q-1<=4294967296 by omega) (show jS<=4294967296 by omega)
    omega
   by_cases c1:4294967296<=q
   ·have c1':(4294967296:Int)<=(q:Int):=by omega
    obtain⟨g1,g2⟩:=nM (.inl c1)
    have s1:fE q 1=q-1:=Cp g1 (by omega)
    have s2:cI rh cB=rh+cB:=by unfold cI;omega
    by_cases c3:4294967296<=rh+cB
    ·have c3':(4294967296:Int)<=(rh:Int)+(cB:Int):=by omega
     simp[A.gT,hr,jI,hq,yu,c1',c3',s1,s2,hf]
     have hd:=Hm zT (eF _ (pG g1) c3)
     rw[wV]at hd;omega
    ·have c3':¬(4294967296:Int)<=(rh:Int)+(cB:Int):=by omega
     simp[A.gT,hr,jI,hq,yu,c1',c3',s1,s2,hf]
     exact⟨q-1,by omega,rfl,rh+cB,by simp,by simp,pG g1,g2,by omega,by omega⟩
   ·have c1':¬(4294967296:Int)<=(q:Int):=by omega
    have m1:cM q jS=P:=by
     have:=jL (show q<=4294967296 by omega) (show jS<=4294967295 by omega)
     unfold cM;omega
    by_cases c2:R3<P
    ·obtain⟨g1,g2⟩:=nM (.inr c2)
     have s1:fE q 1=q-1:=Cp g1 (by omega)
     have s2:cI rh cB=rh+cB:=by unfold cI;omega
     by_cases c3:4294967296<=rh+cB
     ·have c3':(4294967296:Int)<=(rh:Int)+(cB:Int):=by omega
      simp[A.gT,hr,jI,hq,yu,c1',c2,c3',m1,m2,m3,s1,s2,hf]
      have hd:=Hm zT (eF _ (pG g1) c3)
      rw[wV]at hd;omega
     ·have c3':¬(4294967296:Int)<=(rh:Int)+(cB:Int):=by omega
      simp[A.gT,hr,jI,hq,yu,c1',c2,c3',m1,m2,m3,s1,s2,hf]
      exact⟨q-1,by omega,rfl,rh+cB,by simp,by simp,pG g1,g2,by omega,by omega⟩
    ·simp[A.gT,hr,jI,hq,yu,c1',c2,m1,m2,m3,hf]
     have hd:=Hm zT (OD (b:=4294967296) (un:=tn) hu (by omega))
     rw[wV]at hd;omega
  rintro _ r2 _ y_ ⟨rfl,rfl,Aj⟩
  obtain⟨R0,EZ⟩:∃R,(R1*4294967296+tn)%Y=R:=⟨_,rfl⟩
  rw[<-OE.1]at wV
  have mi:fE (cI (cM R1 4294967296) tn) (cM D0 Y)=R0:=by
   have h1:=rz (R1*4294967296+tn) Y
   rw[wV,EZ,fR Y]at h1
   have h2:cI (cM R1 4294967296) tn=(R1*4294967296+tn)%18446744073709551616:=by unfold cI cM;omega
   rw[h2]
   have h3:=jO (R1*4294967296+tn) (show 0<Y by omega)
   unfold cM
   rw[Zqq (by omega) (by omega)];omega
  have qo:D1<4294967296:=by rw[<-yt];exact(oh (by omega)).2 (by omega)
  have kM:D0<4294967296:=by rw[<-wV];exact(oh (by omega)).2 (by omega)
  have ha:cI (cM D1 4294967296) D0=D1*4294967296+D0:=by unfold cI cM;omega
  obtain⟨e1,e2⟩:=Zzb (b:=4294967296) (c:=18446744073709551616) (by decide) (u1:=U) (u0:=uR) (z:=tn) (show 0<Y by omega)
  rw[EY,yt,wV]at e1
  rw[EY,EZ]at e2
  have e3:U*18446744073709551616+uR*4294967296+tn=(hi*18446744073709551616+lo)*2^s:=by
   rw[<-hA,hLd.1,pk]
  rw[e3,hYe,Nd _ _ (qA s)]at e1
  rw[e3,hYe,IG]at e2
  have OG:al R0 s=(hi*18446744073709551616+lo)%y:=by
   unfold al
   rw[<-e2,Nat.mul_div_cancel _ (qA s)]
  simp(disch:=first|(simp;done)|omega|(simp only[bn,bW,bf];omega)|rfl) [jI,y_,ue,Aj,mi,ha,aA]
  have e5:(hi:Int)*18446744073709551616+lo=((hi*18446744073709551616+lo:Nat):Int):=by omega
  refine⟨ad.refl,?_,?_⟩
  ·rw[e5,<-Int.natCast_ediv,e1];omega
  ·rw[e5,<-Int.natCast_emod,OG]
open Go
variable {P Y a b d k u v1:Nat} {l:List Nat}
def zQ(h:l[k]?=some d):val b (l.drop k)=d+b*val b (l.drop (k+1)):=by
 have hk:k<l.length:=by
  apply qZ;intro hc;rw[jC hc]at h;cases h
 rw[Ds hk]
 rw[dT hk]at h
 simp only[ak]at h
 rw[h];rfl
def Cu(b:Nat)(l:List Nat)(k:Nat)(hk:k<=l.length):val b l=val b (l.take k)+b^k*val b (l.drop k):=by
 have:=Ol b (l.take k) (l.drop k)
 rw[yW,jH,nU hk]at this
 exact this
def Zuy{b:Nat}:∀{l:List Nat},(∀(t:Nat),t<l.length->l[t]?=some 0)->val b l=0
 |[],_=>rfl
 |d::l,h=>by
  have h0:=h 0 (by simp)
  simp at h0
  have:=Zuy (b:=b) (l:=l) fun t ht=>by simpa using h (t+1) (by simp;omega)
  simp[val,h0,this]
def Ynr{α:Type}{l:List α}{d:α}(h:l[k]?=some d):k<l.length:=by
 apply qZ;intro hc;rw[jC hc]at h;cases h
def Um(hz:∀t,k<=t->t<l.length->l[t]?=some 0):val b (l.drop k)=0:=by
 apply Zuy
 intro t ht
 rw[gk]
 rw[zp]at ht
 exact hz _ (by omega) (by omega)
def Yej{w:List Nat}{c:Nat}(ha:w[k]?=some a)(hc:w[k+1]?=some c)(hd:w[k+2]?=some d)(hz:∀t,k+3<=t->t<w.length->w[t]?=some 0):
  val b w=val b (w.take k)+b^k*(a+b*(d*b+c)):=by
 have:=Ynr ha
 rw[Cu b w k (by omega),zQ ha,zQ hc,zQ hd,Um hz]
 generalize b^k=p
 grind
def Yek{w:List Nat}{c:Nat}(ha:w[k]?=some a)(hc:w[k+1]?=some c)(hl:w.length=k+2):
  val b w=val b (w.take k)+b^k*(a+b*c):=by
 rw[Cu b w k (by omega),zQ ha,zQ hc,w_ (by omega)]
 simp[val]
def Zmh(g:∀d∈l,d<b)(hk:k<=l.length):val b (l.take k)<b^k:=by
 have:=Cr (b:=b) (l:=l.take k) fun d hd=>g d (Ae hd)
 rwa [jH,nU hk]at this
def Ynv{c U' v2 V':Nat}(hP:0<P)(A2:V'<P)(iY:v2<b)(hd:v1<=d)(hW:U'+P*(a+b*(d*b+c))<b*(V'+P*(v2+b*v1))):d=v1:=by
 apply Nat.le_antisymm _ hd
 apply wB
 intro aO
 have h1:b*(P*(b*(v1+1)))<=b*(P*(b*d)):=iT _ (iT _ (iT _ aO))
 have h2:V'+P*(v2+b*v1)<P*(b*(v1+1)):=by
  have:P*(v2+1)<=P*b:=iT _ iY
  grind
 have h3:b*(V'+P*(v2+b*v1))<=b*(P*(b*(v1+1))):=iT _ (Nat.le_of_lt h2)
 have h4:b*(P*(b*d))<=U'+P*(a+b*(d*b+c)):=by
  have:P*(b*(d*b))=b*(P*(b*d)):=by grind
  have:P*(b*(d*b))<=P*(a+b*(d*b+c)):=iT _ (by rw[my];omega)
  omega
 omega
def Ynw{U' u2 u1 v2 V' q r:Nat}(hU:U'<P)(eX:u2<b)(hinv:u1=q*v1+r)(hr:r<v1):U'+P*(u2+b*u1)<(q+1)*(V'+P*(v2+b*v1)):=by
 have h1:u1+1<=(q+1)*v1:=by rw[hinv,jF];omega
 have h2:P*(b*(u1+1))<=P*(b*((q+1)*v1)):=iT _ (iT _ h1)
 have h3:P*(u2+1)<=P*b:=iT _ eX
 have h4:P*(b*((q+1)*v1))<=(q+1)*(V'+P*(v2+b*v1)):=by
  have:(q+1)*(V'+P*(v2+b*v1))=(q+1)*V'+P*((q+1)*v2)+P*(b*((q+1)*v1)):=by grind
  omega
 have h5:U'+P*(u2+b*u1)+P<=U'+P*(b*(u1+1)):=by grind
 omega
def tk(q v c:Nat):Nat:=bs (bs (q*v)+c)
def m8(q v c:Nat):Nat:=cI (bZ (q*v)) (bZ (bs (q*v)+c))
def Ykg{q v c w:Nat}(hq:q<B)(hv:v<B)(hc:c<B)(hu:u<B)(hw:w<=1):
  d_ u (tk q v c) w+q*v+c+w=u+B*(m8 q v c+fj u (tk q v c) w)/\d_ u (tk q v c) w<B/\m8 q v c<B/\fj u (tk q v c) w<=1/\tk q v c<B:=by
 have:q*v<=18446744073709551615*18446744073709551615:=jL (by unfold B at*;omega) (by unfold B at*;omega)
 unfold m8 tk
 have h1:bs (bs (q*v)+c)+B*cI (bZ (q*v)) (bZ (bs (q*v)+c))=q*v+c/\cI (bZ (q*v)) (bZ (bs (q*v)+c))<B/\bs (bs (q*v)+c)<B:=by
  unfold bs bZ cI
  unfold B at*
  generalize q*v=p at*
  omega
 obtain⟨h1,h2,h3⟩:=h1
 generalize bs (bs (q*v)+c)=l at*
 generalize cI (bZ (q*v)) (bZ (bs (q*v)+c))=k at*
 have h4:d_ u l w+l+w=u+B*fj u l w/\d_ u l w<B/\fj u l w<=1:=by
  unfold d_ fj
  unfold B at*
  split<;>omega
 obtain⟨h4,h5,h6⟩:=h4
 refine⟨?_,h5,h2,h6,h3⟩
 rw[my]
 omega
def Yjf{l w:Nat}(hl:l<B)(hu:u<B)(hw:w<=1):d_ u l w+l+w=u+B*fj u l w/\d_ u l w<B/\fj u l w<=1:=by
 unfold d_ fj
 unfold B at*
 split<;>omega
def Yd6{v c:Nat}(hv:v<B)(hu:u<B)(hc:c<=1):bs (u+v+c)+B*bZ (u+v+c)=u+v+c/\bs (u+v+c)<B/\bZ (u+v+c)<=1:=by
 unfold bs bZ
 unfold B at*
 omega
def Ki{b:Nat}:∀{l:List Nat} {k old v:Nat},l[k]?=some old->val b (l.set k v)+b^k*old=val b l+b^k*v
 |[],k,old,v,h=>by simp at h
 |d::l,0,old,v,h=>by simp at h;subst h;simp[val];omega
 |d::l,k+1,old,v,h=>by
  have ih:=Ki (b:=b) (l:=l) (k:=k) (old:=old) (v:=v) (by simpa using h)
  simp only[List.set_cons_succ,val,fv]
  generalize val b (l.set k v)=p at*
  generalize val b l=q at*
  generalize b^k=z at*
  have:b*(p+z*old)=b*(q+z*v):=by rw[ih]
  grind
def Dg.qT(h:Dg l){k v:Nat}(hv:v<B):Dg (l.set k v):=by
 intro d hd
 rcases BE hd with hd|hd
 ·exact h d hd
 ·subst hd;exact hv
def Ynn{W q U t c t' e:Nat}(hb:1<b)(hP:0<P)(hY:Y<P)(hU:U<P)(ht:t'<b)(he:e<=1)(h1:U+q*Y=W+P*c)(h2:t'+c=t+b*e)(fA:(q-1)*Y<=W+P*t)(il:W+P*t<(q+1)*Y):
  (e=0->U+P*t'+q*Y=W+P*t/\U+P*t'<Y/\t'=0)/\(e=1->0<q/\U+P*t'+q*Y=W+P*t+P*b/\W+P*t<q*Y):=by
 have h3:P*t'+P*c=P*t+P*(b*e):=by rw[<-my,h2,my]
 constructor
 ·rintro rfl
  simp only[Nat.mul_zero,ri]at h3
  have h4:U+P*t'+q*Y=W+P*t:=by omega
  have h5:U+P*t'<Y:=by rw[jF]at il;omega
  refine⟨h4,h5,?_⟩
  rcases IE t' with h|h
  ·exact h
  ·have:=iT P h
   omega
 ·rintro rfl
  simp only[se]at h3
  have h4:U+P*t'+q*Y=W+P*t+P*b:=by omega
  have h5:P*(t'+1)<=P*b:=iT _ ht
  rw[my]at h5
  have h6:W+P*t<q*Y:=by omega
  refine⟨?_,h4,h6⟩
  rcases IE q with h|h
  ·subst h;omega
  ·exact h
def Yky{q U t' T A c:Nat}(hP:0<P)(hY:Y<P)(hA:A<P)(hc:c<=1)(ht:t'<b)(hq:0<q)(h1:U+P*t'+q*Y=T+P*b)(h2:T<q*Y)(fA:(q-1)*Y<=T)(h3:A+P*c=U+Y):
  A+(q-1)*Y=T/\A<Y/\(t'+c)%b=0:=by
 obtain⟨s,rfl⟩:∃s,q=s+1:=⟨q-1,by omega⟩
 simp only[Nat.add_sub_cancel]at*
 rw[jF]at h1 h2
 have h4:A+P*(t'+c)+s*Y=T+P*b:=by rw[my];omega
 have h5:t'+c=b:=by
  rcases Nat.lt_trichotomy (t'+c) b with h|h|h
  ·have:=iT P (show t'+c+1<=b from h)
   rw[my P (t'+c)]at this
   omega
  ·exact h
  ·omega
 rw[h5]at h4
 refine⟨by omega,by omega,?_⟩
 rw[h5,Nat.mod_self]
def Ka:∀{k n:Nat},B^k<=n->n<B^(k+1)->(aH n).length=k+1/\(aH n)[k]?=some (n/B^k)
 |0,n,h1,h2=>by
  have h0:n≠0:=by
   rw[Ag]at h1;omega
  rw[lD h0]
  have h3:n/B=0:=xC (by simpa using h2)
  rw[h3,pB]
  simp
  exact vw (by simpa using h2)
 |k+1,n,h1,h2=>by
  have hB:0<B:=by decide
  have hp:0<B^(k+1):=vf hB
  have h0:n≠0:=by omega
  have h3:B^k<=n/B:=(GC hB).2 (by rw[<-fv];exact h1)
  have h4:n/B<B^(k+1):=(oh hB).2 (by rw[<-fv];exact h2)
  obtain⟨e1,e2⟩:=Ka h3 h4
  rw[lD h0]
  refine⟨by simp[e1],?_⟩
  rw[BP,e2,Dq,fv,fR (B^k)]
def Yhl{n:Nat}(h:(aH n).length≠0):n≠0:=by
 rintro rfl
 exact h (by rw[pB];rfl)
def EJ:∀{k n:Nat},(aH n).length=k+1->B^k<=n/\n<B^(k+1)
 |0,n,h=>by
  have h0:=Yhl (n:=n) (by omega)
  rw[lD h0]at h
  have h1:(aH (n/B)).length=0:=by simpa using h
  have h2:n/B=0:=by
   by_cases hc:n/B=0
   ·exact hc
   ·rw[lD hc]at h1;simp at h1
  have:=(Nat.div_eq_zero_iff).1 h2
  rcases this with hb|hb
  ·exact absurd hb (by decide)
  ·simp;omega
 |k+1,n,h=>by
  have h0:=Yhl (n:=n) (by omega)
  rw[lD h0]at h
  obtain⟨h1,h2⟩:=EJ (k:=k) (n:=n/B) (by simpa using h)
  have hB:0<B:=by decide
  exact⟨by rw[fv];exact(GC hB).1 h1,by rw[fv];exact(oh hB).1 h2⟩
def Yei{t s:Nat}(hl:(aH b).length=k+1)(ht:(aH b)[k]?=some t)(h1:9223372036854775808<=t*2^s)(h2:t*2^s<18446744073709551616)(hs:s<=64):
  (aH (b*2^s)).length=k+1/\∃v1,(aH (b*2^s))[k]?=some v1/\9223372036854775808<=v1:=by
 obtain⟨b1,b2⟩:=EJ hl
 have hp:0<B^k:=vf (by decide)
 have yb:=qA s
 have htd:t=b/B^k:=by
  have:=(Ka b1 b2).2
  rw[ht]at this
  exact uz this
 have b3:t*B^k<=b:=by rw[htd];exact Nat.div_mul_le_self _ _
 have b4:b<(t+1)*B^k:=by
  rw[htd]
  exact(oh hp).1 (q9 _)
 have c1:9223372036854775808*B^k<=b*2^s:=by
  have e1:=kp (B^k) h1
  have e2:=kp (2^s) b3
  have e3:t*2^s*B^k=t*B^k*2^s:=by grind
  omega
 have c2:b*2^s<B^(k+1):=by
  have e0:t+1<=2^(64-s):=by
   have:t<2^(64-s):=by
    apply Nat.lt_of_mul_lt_mul_right (a:=2^s)
    rw[<-gL,show 64-s+s=64 by omega];exact h2
   omega
  have e1:=kp (2^s) e0
  rw[<-gL,show 64-s+s=64 by omega]at e1
  have e2:=IF b4 yb
  have e3:=kp (B^k) e1
  have e4:(t+1)*2^s*B^k=(t+1)*B^k*2^s:=by grind
  rw[fv,fR]
  have e5:(2^64:Nat)*B^k=B^k*B:=by unfold B;rw[fR]
  rw[fR b]at e2
  omega
 have c0:B^k<=b*2^s:=by omega
 obtain⟨d1,d2⟩:=Ka c0 c2
 exact⟨d1,_,d2,(GC hp).2 c1⟩
def Zz3{U:List Nat}{la m s:Nat}(hU:val B U=a*2^s)(hl:U.length=la+1)(hm:m+k+1=la+1)(vM:m<=U.length)(ha:a<B^la)(hs:s<64)(hv:9223372036854775808<=v1)(hY:v1*B^k<=Y):val B (U.drop m)<Y:=by
 have h1:=Cu B U m vM
 have h2:B^m*val B (U.drop m)<B^la*2^s:=by
  have:=IF ha (qA s)
  omega
 have h3:(2:Nat)^s<=9223372036854775808:=(nY (by decide) (show s<=63 by omega):(2:Nat)^s<=2^63)
 have h4:B^la=B^m*B^k:=by rw[<-gL];congr 1;omega
 rw[h4,tZ]at h2
 have h5:=Nat.lt_of_mul_lt_mul_left h2
 have h6:=iT (B^k) h3
 have h7:=iT (B^k) hv
 rw[fR v1]at hY
 omega
end
end Go.Mx
