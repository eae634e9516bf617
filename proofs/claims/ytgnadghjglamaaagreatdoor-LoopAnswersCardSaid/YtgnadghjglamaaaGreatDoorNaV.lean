/-bits-/
import Derived.Test.YtgnadghjglamaaaGreatDoorNaP
set_option linter.all false
namespace Go.Mx
noncomputable section
open Go Go.Proofs
variable {b u y:Nat}
set_option maxHeartbeats 8000000
set_option maxRecDepth 1000000
def A.w250:=A.q Tryz.f250
def A.lb250_0:=A.ql A.w250 1 []
def A.lb250_1:=A.ql A.w250 0 []
def A.b250:=(fun x0 x1=>A.qb A.w250 [x0,x1]) A.lb250_1 A.lb250_0
def A.k250:=@A.kk 250 135 [.tmp 6,.tmp 7] A.b250 (by kernel_rfl) rfl
structure DvI (h:T O) (N:Nat) (k1 u yn1 D m:Nat) (r:T V) (st:St):Prop where
 st:st=⟨h,N,[]⟩
 ex:∃rh:Nat,r.get k1=some (.int .u64 m)∧r.get 16=some (.int .u64 rh)∧u=m*yn1+rh∧D≤m∧m≤4294967297∧rh<4294967296
def Yho(h0:¬y=0)(h:y<18446744073709551616):9223372036854775808≤y*2^(64-blen y)∧y*2^(64-blen y)<18446744073709551616∧64-blen y<64:=by
 have h1:=Zp6 y
 have h2:=Zk1 h0
 have hp:0<blen y:=by unfold blen;rw[Yrt h0];omega
 have hl:blen y≤64:=by
  apply Ytr
  intro hc
  have:2^64≤2^(blen y-1):=Ysu (by decide) (by omega)
  omega
 refine⟨?_,?_,by omega⟩
 ·have:=Ysb (2^(64-blen y)) h2
  rw[←Ysr,show blen y-1+(64-blen y)=63 by omega]at this
  exact this
 ·have:=Yut h1 (Ys7 (64-blen y))
  rw[←Ysr,show blen y+(64-blen y)=64 by omega]at this
  exact this
def Zkp{a:Nat}(h:a<18446744073709551616):Zap .u64 ((a:Int)/(b:Int))=(quou a b:Nat):=by
 have e:((a:Int)/(b:Int))=((a/b:Nat):Int):=rfl
 have:=Yti a b
 rw[e,Zeb (Int.natCast_nonneg _) (Int.ofNat_lt.2 (show a/b<18446744073709551616 by omega))]
 rfl
def Zqm{a c:Nat}(h:c≤a)(hr:a-c<18446744073709551616):subu (a%18446744073709551616) (c%18446744073709551616)=a-c:=by
 unfold subu
 split<;>omega
def Zy0{c u1 u0 z Y:Nat}(hc:c=b*b)(hY:0<Y):(u1*c+u0*b+z)/Y=(u1*b+u0)/Y*b+((u1*b+u0)%Y*b+z)/Y∧(u1*c+u0*b+z)%Y=((u1*b+u0)%Y*b+z)%Y:=by
 subst hc
 have h:=Ytc (u1*b+u0) Y
 have e:u1*(b*b)+u0*b+z=Y*((u1*b+u0)/Y*b)+((u1*b+u0)%Y*b+z):=by
  generalize (u1*b+u0)/Y=D at*
  generalize (u1*b+u0)%Y=R at*
  have:(Y*D+R)*b=(u1*b+u0)*b:=by rw[h]
  grind
 rw[e,Nat.mul_add_div hY,Nat.mul_add_mod]
 exact⟨rfl,rfl⟩
def Zro:u=u/y*y+u%y:=by
 have:=Ytc u y
 rw[Ysk]at this
 exact this.symm
def Zv1(h:0<y)(hb:y≤b):u%y<b:=Yr5 (Ys2 _ h) hb
def Zv3{un yn1 yn0:Nat}(h:0<yn1)(hn:un<4294967296):(u*4294967296+un)/(yn1*4294967296+yn0)≤u/yn1:=by
 have h1:(u*4294967296+un)/(yn1*4294967296+yn0)≤(u*4294967296+un)/(yn1*4294967296):=Nat.div_le_div_left (by omega) (by omega)
 have h2:(u*4294967296+un)/(yn1*4294967296)=u/yn1:=by
  rw[Ysk yn1,←Yud,show (u*4294967296+un)/4294967296=u by omega]
 rw[h2]at h1
 exact h1
def Zv2{yn1 yn0:Nat}(h0:yn0<4294967296)(h:2147483648≤yn1)(hu:u<yn1*4294967296+yn0):u/yn1≤4294967297:=by
 apply Nat.le_of_lt_succ
 apply (Ysm (by omega)).2
 omega
def Zv9{h:T O}{N:Nat}{hi lo:Nat}(hy:hi<y)(hy64:y<18446744073709551616)(hlo:lo<18446744073709551616):Fn A.C 250 [.int .u64 hi,.int .u64 lo,.int .u64 y] h N (fun v h' N'=>h'=h∧N'=N∧v=.tup [.int .u64 ((hi*18446744073709551616+lo)/y:Nat),.int .u64 ((hi*18446744073709551616+lo)%y:Nat)]):=by
 intro w
 have hy0:¬y=0:=by omega
 have hle:¬y≤hi:=by omega
 rw[Zaf,A.k250 (by simp)]
 by_cases h0:hi=0
 ·subst h0
  have hq:=Zkp (b:=y) hlo
  simp(disch:=first|(simp;done)|omega|(simp only[Zab,Zaa,Yrr];omega)|rfl) [-getElem?_pos,A.b250,hy0,hle,Zag,Zal.chk,Ret,hq,remu,quou]
  exact Keeps.refl
 ·simp(disch:=first|(simp;done)|omega|(simp only[Zab,Zaa,Yrr];omega)|rfl) [-getElem?_pos,A.b250,hy0,hle,h0,Zag]
  refine Zac (Ybv hy64) ?_
  rintro _ h N hk ⟨rfl,rfl,rfl⟩
  obtain⟨n1,n2,n3⟩:=Yho hy0 hy64
  generalize 64-blen y=s at*
  have hw:Zap .u64 (s:Int)=(s:Int):=Zeb (by omega) (by omega)
  have hw2:Zap .u64 (64-(s:Int))=((64-s:Nat):Int):=by rw[Zeb (by omega) (by omega)];omega
  obtain⟨Y,hY⟩:∃Y,shl64 y s=Y:=⟨_,rfl⟩
  have hYe:Y=y*2^s:=by rw[←hY];unfold shl64;omega
  obtain⟨yn1,hyn1⟩:∃x,shr64 Y 32=x:=⟨_,rfl⟩
  obtain⟨yn0,hyn0⟩:∃x,and32 Y=x:=⟨_,rfl⟩
  obtain⟨U,hU⟩:∃x,or64 (shl64 hi s) (shr64 lo (64-s))=x:=⟨_,rfl⟩
  obtain⟨L,hL⟩:∃x,shl64 lo s=x:=⟨_,rfl⟩
  obtain⟨un1,hun1⟩:∃x,shr64 L 32=x:=⟨_,rfl⟩
  obtain⟨un0,hun0⟩:∃x,and32 L=x:=⟨_,rfl⟩
  have hYB:Y<18446744073709551616:=by omega
  have hLB:L<18446744073709551616:=by rw[←hL];exact Zpg
  have hYd:Y=yn1*4294967296+yn0∧yn0<4294967296:=by
   rw[←hyn1,←hyn0];unfold shr64 and32;omega
  have hLd:L=un1*4294967296+un0∧un0<4294967296:=by
   rw[←hun1,←hun0];unfold shr64 and32;omega
  have hA:U*18446744073709551616+L=(hi*18446744073709551616+lo)*2^s:=by
   have e1:=Zvh (x:=hi) n3 (Yhg (x:=lo) (s:=s) hlo (by omega))
   have e2:=Zzz (x:=lo) (s:=s) (by omega)
   have e3:shl64 hi s=hi*2^s:=by
    unfold shl64
    have:=Yut hy (Ys7 s)
    omega
   have e4:U=shr64 lo (64-s)+hi*2^s:=by
    rw[←hU,←e3,←e1];unfold or64;exact Nat.or_comm _ _
   rw[hL]at e2
   unfold B at e2
   rw[e4,Ysv (hi*18446744073709551616),←e2]
   have:hi*18446744073709551616*2^s=hi*2^s*18446744073709551616:=by grind
   omega
  have hUY:U<Y:=by
   have h1:hi*18446744073709551616+lo<y*18446744073709551616:=by omega
   have h2:=Yut h1 (Ys7 s)
   have h3:y*18446744073709551616*2^s=y*2^s*18446744073709551616:=by grind
   omega
  have hsr:shr64 lo (64-s)<18446744073709551616:=Zu2 hlo
  have hyp:0<yn1:=by omega
  have hyb:yn1≤4294967296:=by omega
  have hY0:0<yn1*4294967296+yn0:=by omega
  have hq:=Zkp (b:=yn1) (show U<18446744073709551616 by omega)
  have hr:subu U (mulu (quou U yn1) yn1)=U%yn1:=by
   have h1:=Ytc U yn1
   rw[Ysk]at h1
   have h2:mulu (quou U yn1) yn1=U/yn1*yn1:=by unfold mulu quou;omega
   rw[h2,Zgx (by omega) (by omega)];omega
  simp(disch:=first|(simp;done)|omega|(simp only[Zab,Zaa,Yrr];omega)|rfl) [-getElem?_pos,hq,hr,hw,hw2,hY,hyn1,hyn0,hU,hL,hun1,hun0]
  obtain⟨D1,hD1⟩:∃D,(U*4294967296+un1)/(yn1*4294967296+yn0)=D:=⟨_,rfl⟩
  refine Zak [(15,16),(67,85)] (fun e r st=>e=.exit 0∧st=⟨h,N,[]⟩∧r.get 15=some (.int .u64 D1)) (DvI h N 15 U yn1 D1) (U/yn1) ?_ ?_ ?_
  ·exact⟨rfl,U%yn1,by simp[quou],by simp,Zro,hD1▸Zv3 hyp (by omega),Zv2 hYd.2 (by omega) (by omega),Zv1 hyp hyb⟩
  ·rintro q r _ hr hf ⟨rfl,rh,hq,hrh,hu,hD,hqb,hrb⟩
   rw[Zai]
   obtain⟨P,hP⟩:∃P,P=q*yn0:=⟨_,rfl⟩
   obtain⟨R2,hR2⟩:∃P,P=4294967296*rh:=⟨_,rfl⟩
   obtain⟨R3,hR3⟩:∃P,P=4294967296*rh+un1:=⟨_,rfl⟩
   have m2:mulu 4294967296 rh=R2:=by unfold mulu;omega
   have m3:addu R2 un1=R3:=by unfold addu;omega
   have hgo:(4294967296≤q∨R3<P)→0<q∧D1≤q-1:=by
    intro hc
    have:D1<q:=by
     rcases hc with hc|hc
     ·have:D1<4294967296:=by rw[←hD1];exact(Ysm hY0).2 (by omega)
      omega
     ·rw[←hD1];exact Zrw (Zwc (b:=4294967296) hu (by omega))
    omega
   have hgo2:0<q→U=(q-1)*yn1+(rh+yn1):=by
    intro hc
    obtain⟨s,rfl⟩:∃s,q=s+1:=⟨q-1,by omega⟩
    rw[hu,Ysv];simp;omega
   have hend:∀rh',U=(q-1)*yn1+rh'→4294967296≤rh'→(q-1)*(yn1*4294967296+yn0)≤U*4294967296+un1:=by
    intro rh' h1 h2
    refine Zl1 h1 ?_
    have:=Ysp (show q-1≤4294967296 by omega) (show yn0≤4294967296 by omega)
    omega
   by_cases c1:4294967296≤q
   ·have c1':(4294967296:Int)≤(q:Int):=by omega
    obtain⟨g1,g2⟩:=hgo (.inl c1)
    have s1:subu q 1=q-1:=Zgx g1 (by omega)
    have s2:addu rh yn1=rh+yn1:=by unfold addu;omega
    by_cases c3:4294967296≤rh+yn1
    ·have c3':(4294967296:Int)≤(rh:Int)+(yn1:Int):=by omega
     simp(disch:=first|(simp;done)|omega|(simp only[Zab,Zaa,Yrr];omega)|rfl) [-getElem?_pos,A.lb250_1,hr,hq,hrh,c1',c3',s1,s2,hf]
     have hd:=Zfo hY0 (hend _ (hgo2 g1) c3)
     rw[hD1]at hd;omega
    ·have c3':¬(4294967296:Int)≤(rh:Int)+(yn1:Int):=by omega
     simp(disch:=first|(simp;done)|omega|(simp only[Zab,Zaa,Yrr];omega)|rfl) [-getElem?_pos,A.lb250_1,hr,hq,hrh,c1',c3',s1,s2,hf]
     exact⟨q-1,by omega,rfl,rh+yn1,by simp,by simp,hgo2 g1,g2,by omega,by omega⟩
   ·have c1':¬(4294967296:Int)≤(q:Int):=by omega
    have m1:mulu q yn0=P:=by
     have:=Ysp (show q≤4294967296 by omega) (show yn0≤4294967295 by omega)
     unfold mulu;omega
    by_cases c2:R3<P
    ·obtain⟨g1,g2⟩:=hgo (.inr c2)
     have s1:subu q 1=q-1:=Zgx g1 (by omega)
     have s2:addu rh yn1=rh+yn1:=by unfold addu;omega
     by_cases c3:4294967296≤rh+yn1
     ·have c3':(4294967296:Int)≤(rh:Int)+(yn1:Int):=by omega
      simp(disch:=first|(simp;done)|omega|(simp only[Zab,Zaa,Yrr];omega)|rfl) [-getElem?_pos,A.lb250_1,hr,hq,hrh,c1',c2,c3',m1,m2,m3,s1,s2,hf]
      have hd:=Zfo hY0 (hend _ (hgo2 g1) c3)
      rw[hD1]at hd;omega
     ·have c3':¬(4294967296:Int)≤(rh:Int)+(yn1:Int):=by omega
      simp(disch:=first|(simp;done)|omega|(simp only[Zab,Zaa,Yrr];omega)|rfl) [-getElem?_pos,A.lb250_1,hr,hq,hrh,c1',c2,c3',m1,m2,m3,s1,s2,hf]
      exact⟨q-1,by omega,rfl,rh+yn1,by simp,by simp,hgo2 g1,g2,by omega,by omega⟩
    ·simp(disch:=first|(simp;done)|omega|(simp only[Zab,Zaa,Yrr];omega)|rfl) [-getElem?_pos,A.lb250_1,hr,hq,hrh,c1',c2,m1,m2,m3,hf]
     have hd:=Zfo hY0 (Zl1 (b:=4294967296) (un:=un1) hu (by omega))
     rw[hD1]at hd;omega
  rintro _ r _ hr0 ⟨rfl,rfl,h15⟩
  obtain⟨R1,hR1⟩:∃R,(U*4294967296+un1)%Y=R:=⟨_,rfl⟩
  rw[←hYd.1]at hD1
  have hs1:subu (addu (mulu U 4294967296) un1) (mulu D1 Y)=R1:=by
   have h1:=Ytc (U*4294967296+un1) Y
   rw[hD1,hR1,Ysk Y]at h1
   have h2:addu (mulu U 4294967296) un1=(U*4294967296+un1)%18446744073709551616:=by unfold addu mulu;omega
   rw[h2]
   have h3:=Ys2 (U*4294967296+un1) (show 0<Y by omega)
   unfold mulu
   rw[Zqm (by omega) (by omega)];omega
  have hR1Y:R1<Y:=by rw[←hR1];exact Ys2 _ (by omega)
  have hq2:=Zkp (b:=yn1) (show R1<18446744073709551616 by omega)
  have hr2:subu R1 (mulu (quou R1 yn1) yn1)=R1%yn1:=by
   have h1:=Ytc R1 yn1
   rw[Ysk]at h1
   have h2:mulu (quou R1 yn1) yn1=R1/yn1*yn1:=by unfold mulu quou;omega
   rw[h2,Zgx (by omega) (by omega)];omega
  simp(disch:=first|(simp;done)|omega|(simp only[Zab,Zaa,Yrr];omega)|rfl) [-getElem?_pos,hr0,h15,hs1,hq2,hr2]
  obtain⟨D0,hD0⟩:∃D,(R1*4294967296+un0)/(yn1*4294967296+yn0)=D:=⟨_,rfl⟩
  refine Zak [(16,16),(18,18),(102,120)] (fun e r st=>e=.exit 2∧st=⟨h,N,[]⟩∧r.get 18=some (.int .u64 D0)) (DvI h N 18 R1 yn1 D0) (R1/yn1) ?_ ?_ ?_
  ·exact⟨rfl,R1%yn1,by simp[quou],by simp,Zro,hD0▸Zv3 hyp (by omega),Zv2 hYd.2 (by omega) (by omega),Zv1 hyp hyb⟩
  ·rintro q r _ hr hf ⟨rfl,rh,hq,hrh,hu,hD,hqb,hrb⟩
   rw[Zai]
   obtain⟨P,hP⟩:∃P,P=q*yn0:=⟨_,rfl⟩
   obtain⟨R2,hR2⟩:∃P,P=4294967296*rh:=⟨_,rfl⟩
   obtain⟨R3,hR3⟩:∃P,P=4294967296*rh+un0:=⟨_,rfl⟩
   have m2:mulu 4294967296 rh=R2:=by unfold mulu;omega
   have m3:addu R2 un0=R3:=by unfold addu;omega
   have hgo:(4294967296≤q∨R3<P)→0<q∧D0≤q-1:=by
    intro hc
    have:D0<q:=by
     rcases hc with hc|hc
     ·have:D0<4294967296:=by rw[←hD0];exact(Ysm hY0).2 (by omega)
      omega
     ·rw[←hD0];exact Zrw (Zwc (b:=4294967296) hu (by omega))
    omega
   have hgo2:0<q→R1=(q-1)*yn1+(rh+yn1):=by
    intro hc
    obtain⟨s,rfl⟩:∃s,q=s+1:=⟨q-1,by omega⟩
    rw[hu,Ysv];simp;omega
   have hend:∀rh',R1=(q-1)*yn1+rh'→4294967296≤rh'→(q-1)*(yn1*4294967296+yn0)≤R1*4294967296+un0:=by
    intro rh' h1 h2
    refine Zl1 h1 ?_
    have:=Ysp (show q-1≤4294967296 by omega) (show yn0≤4294967296 by omega)
    omega
   by_cases c1:4294967296≤q
   ·have c1':(4294967296:Int)≤(q:Int):=by omega
    obtain⟨g1,g2⟩:=hgo (.inl c1)
    have s1:subu q 1=q-1:=Zgx g1 (by omega)
    have s2:addu rh yn1=rh+yn1:=by unfold addu;omega
    by_cases c3:4294967296≤rh+yn1
    ·have c3':(4294967296:Int)≤(rh:Int)+(yn1:Int):=by omega
     simp(disch:=first|(simp;done)|omega|(simp only[Zab,Zaa,Yrr];omega)|rfl) [-getElem?_pos,A.lb250_0,hr,hr0,hq,hrh,c1',c3',s1,s2,hf]
     have hd:=Zfo hY0 (hend _ (hgo2 g1) c3)
     rw[hD0]at hd;omega
    ·have c3':¬(4294967296:Int)≤(rh:Int)+(yn1:Int):=by omega
     simp(disch:=first|(simp;done)|omega|(simp only[Zab,Zaa,Yrr];omega)|rfl) [-getElem?_pos,A.lb250_0,hr,hr0,hq,hrh,c1',c3',s1,s2,hf]
     exact⟨q-1,by omega,rfl,rh+yn1,by simp,by simp,hgo2 g1,g2,by omega,by omega⟩
   ·have c1':¬(4294967296:Int)≤(q:Int):=by omega
    have m1:mulu q yn0=P:=by
     have:=Ysp (show q≤4294967296 by omega) (show yn0≤4294967295 by omega)
     unfold mulu;omega
    by_cases c2:R3<P
    ·obtain⟨g1,g2⟩:=hgo (.inr c2)
     have s1:subu q 1=q-1:=Zgx g1 (by omega)
     have s2:addu rh yn1=rh+yn1:=by unfold addu;omega
     by_cases c3:4294967296≤rh+yn1
     ·have c3':(4294967296:Int)≤(rh:Int)+(yn1:Int):=by omega
      simp(disch:=first|(simp;done)|omega|(simp only[Zab,Zaa,Yrr];omega)|rfl) [-getElem?_pos,A.lb250_0,hr,hr0,hq,hrh,c1',c2,c3',m1,m2,m3,s1,s2,hf]
      have hd:=Zfo hY0 (hend _ (hgo2 g1) c3)
      rw[hD0]at hd;omega
     ·have c3':¬(4294967296:Int)≤(rh:Int)+(yn1:Int):=by omega
      simp(disch:=first|(simp;done)|omega|(simp only[Zab,Zaa,Yrr];omega)|rfl) [-getElem?_pos,A.lb250_0,hr,hr0,hq,hrh,c1',c2,c3',m1,m2,m3,s1,s2,hf]
      exact⟨q-1,by omega,rfl,rh+yn1,by simp,by simp,hgo2 g1,g2,by omega,by omega⟩
    ·simp(disch:=first|(simp;done)|omega|(simp only[Zab,Zaa,Yrr];omega)|rfl) [-getElem?_pos,A.lb250_0,hr,hr0,hq,hrh,c1',c2,m1,m2,m3,hf]
     have hd:=Zfo hY0 (Zl1 (b:=4294967296) (un:=un0) hu (by omega))
     rw[hD0]at hd;omega
  rintro _ r2 _ hr4 ⟨rfl,rfl,h18⟩
  obtain⟨R0,hR0⟩:∃R,(R1*4294967296+un0)%Y=R:=⟨_,rfl⟩
  rw[←hYd.1]at hD0
  have hs2:subu (addu (mulu R1 4294967296) un0) (mulu D0 Y)=R0:=by
   have h1:=Ytc (R1*4294967296+un0) Y
   rw[hD0,hR0,Ysk Y]at h1
   have h2:addu (mulu R1 4294967296) un0=(R1*4294967296+un0)%18446744073709551616:=by unfold addu mulu;omega
   rw[h2]
   have h3:=Ys2 (R1*4294967296+un0) (show 0<Y by omega)
   unfold mulu
   rw[Zqm (by omega) (by omega)];omega
  have hd1:D1<4294967296:=by rw[←hD1];exact(Ysm (by omega)).2 (by omega)
  have hd0:D0<4294967296:=by rw[←hD0];exact(Ysm (by omega)).2 (by omega)
  have ha:addu (mulu D1 4294967296) D0=D1*4294967296+D0:=by unfold addu mulu;omega
  obtain⟨e1,e2⟩:=Zy0 (b:=4294967296) (c:=18446744073709551616) (by decide) (u1:=U) (u0:=un1) (z:=un0) (show 0<Y by omega)
  rw[hR1,hD1,hD0]at e1
  rw[hR1,hR0]at e2
  have e3:U*18446744073709551616+un1*4294967296+un0=(hi*18446744073709551616+lo)*2^s:=by
   rw[←hA,hLd.1,Yta]
  rw[e3,hYe,Yvm _ _ (Ys7 s)]at e1
  rw[e3,hYe,Yu7]at e2
  have hsh:shr64 R0 s=(hi*18446744073709551616+lo)%y:=by
   unfold shr64
   rw[←e2,Nat.mul_div_cancel _ (Ys7 s)]
  simp(disch:=first|(simp;done)|omega|(simp only[Zab,Zaa,Yrr];omega)|rfl) [-getElem?_pos,hr0,hr4,h15,h18,hs2,ha,Ret]
  have e5:(hi:Int)*18446744073709551616+lo=((hi*18446744073709551616+lo:Nat):Int):=by omega
  refine⟨Keeps.refl,?_,?_⟩
  ·rw[e5,←Int.natCast_ediv,e1];omega
  ·rw[e5,←Int.natCast_emod,hsh]
open Go
variable {P Y a b d k u v1:Nat} {l:List Nat}
def Zcv(h:l[k]?=some d):val b (l.drop k)=d+b*val b (l.drop (k+1)):=by
 have hk:k<l.length:=by
  apply Ys6;intro hc;rw[Yr6 hc]at h;cases h
 rw[Yt2 hk]
 rw[Yrx hk]at h
 simp only[Yrs]at h
 rw[h];rfl
def Zda(b:Nat)(l:List Nat)(k:Nat)(hk:k≤l.length):val b l=val b (l.take k)+b^k*val b (l.drop k):=by
 have:=Zhq b (l.take k) (l.drop k)
 rw[Ytj,Ysi,Ysz hk]at this
 exact this
def Zuv{b:Nat}:∀{l:List Nat},(∀(t:Nat),t<l.length→l[t]?=some 0)→val b l=0
 |[],_=>rfl
 |d::l,h=>by
  have h0:=h 0 (by simp)
  simp at h0
  have:=Zuv (b:=b) (l:=l) fun t ht=>by simpa using h (t+1) (by simp;omega)
  simp[val,h0,this]
def Ym0{α:Type}{l:List α}{d:α}(h:l[k]?=some d):k<l.length:=by
 apply Ys6;intro hc;rw[Yr6 hc]at h;cases h
def Zfw(hz:∀t,k≤t→t<l.length→l[t]?=some 0):val b (l.drop k)=0:=by
 apply Zuv
 intro t ht
 rw[Yr4]
 rw[Yt8]at ht
 exact hz _ (by omega) (by omega)
def Yea{w:List Nat}{c:Nat}(ha:w[k]?=some a)(hc:w[k+1]?=some c)(hd:w[k+2]?=some d)(hz:∀t,k+3≤t→t<w.length→w[t]?=some 0):
  val b w=val b (w.take k)+b^k*(a+b*(d*b+c)):=by
 have:=Ym0 ha
 rw[Zda b w k (by omega),Zcv ha,Zcv hc,Zcv hd,Zfw hz]
 generalize b^k=p
 grind
def Yeb{w:List Nat}{c:Nat}(ha:w[k]?=some a)(hc:w[k+1]?=some c)(hl:w.length=k+2):
  val b w=val b (w.take k)+b^k*(a+b*c):=by
 rw[Zda b w k (by omega),Zcv ha,Zcv hc,Ytb (by omega)]
 simp[val]
def Zl9(g:∀d∈l,d<b)(hk:k≤l.length):val b (l.take k)<b^k:=by
 have:=Zk4 (b:=b) (l:=l.take k) fun d hd=>g d (Ytx hd)
 rwa [Ysi,Ysz hk]at this
def Ym2{c U' v2 V':Nat}(hP:0<P)(hV':V'<P)(hv2:v2<b)(hd:v1≤d)(hW:U'+P*(a+b*(d*b+c))<b*(V'+P*(v2+b*v1))):d=v1:=by
 apply Nat.le_antisymm _ hd
 apply Ytr
 intro hlt
 have h1:b*(P*(b*(v1+1)))≤b*(P*(b*d)):=Yr9 _ (Yr9 _ (Yr9 _ hlt))
 have h2:V'+P*(v2+b*v1)<P*(b*(v1+1)):=by
  have:P*(v2+1)≤P*b:=Yr9 _ hv2
  grind
 have h3:b*(V'+P*(v2+b*v1))≤b*(P*(b*(v1+1))):=Yr9 _ (Nat.le_of_lt h2)
 have h4:b*(P*(b*d))≤U'+P*(a+b*(d*b+c)):=by
  have:P*(b*(d*b))=b*(P*(b*d)):=by grind
  have:P*(b*(d*b))≤P*(a+b*(d*b+c)):=Yr9 _ (by rw[Ys8];omega)
  omega
 omega
def Ym3{U' u2 u1 v2 V' q r:Nat}(hU:U'<P)(hu2:u2<b)(hinv:u1=q*v1+r)(hr:r<v1):U'+P*(u2+b*u1)<(q+1)*(V'+P*(v2+b*v1)):=by
 have h1:u1+1≤(q+1)*v1:=by rw[hinv,Ysv];omega
 have h2:P*(b*(u1+1))≤P*(b*((q+1)*v1)):=Yr9 _ (Yr9 _ h1)
 have h3:P*(u2+1)≤P*b:=Yr9 _ hu2
 have h4:P*(b*((q+1)*v1))≤(q+1)*(V'+P*(v2+b*v1)):=by
  have:(q+1)*(V'+P*(v2+b*v1))=(q+1)*V'+P*((q+1)*v2)+P*(b*((q+1)*v1)):=by grind
  omega
 have h5:U'+P*(u2+b*u1)+P≤U'+P*(b*(u1+1)):=by grind
 omega
def Ztp(q v c:Nat):Nat:=lo64 (lo64 (q*v)+c)
def msCar(q v c:Nat):Nat:=addu (hi64 (q*v)) (hi64 (lo64 (q*v)+c))
def Yjv{q v c w:Nat}(hq:q<B)(hv:v<B)(hc:c<B)(hu:u<B)(hw:w≤1):
  sb64 u (Ztp q v c) w+q*v+c+w=u+B*(msCar q v c+bw64 u (Ztp q v c) w)∧sb64 u (Ztp q v c) w<B∧msCar q v c<B∧bw64 u (Ztp q v c) w≤1∧Ztp q v c<B:=by
 have:q*v≤18446744073709551615*18446744073709551615:=Ysp (by unfold B at*;omega) (by unfold B at*;omega)
 unfold msCar Ztp
 have h1:lo64 (lo64 (q*v)+c)+B*addu (hi64 (q*v)) (hi64 (lo64 (q*v)+c))=q*v+c∧addu (hi64 (q*v)) (hi64 (lo64 (q*v)+c))<B∧lo64 (lo64 (q*v)+c)<B:=by
  unfold lo64 hi64 addu
  unfold B at*
  generalize q*v=p at*
  omega
 obtain⟨h1,h2,h3⟩:=h1
 generalize lo64 (lo64 (q*v)+c)=l at*
 generalize addu (hi64 (q*v)) (hi64 (lo64 (q*v)+c))=k at*
 have h4:sb64 u l w+l+w=u+B*bw64 u l w∧sb64 u l w<B∧bw64 u l w≤1:=by
  unfold sb64 bw64
  unfold B at*
  split<;>omega
 obtain⟨h4,h5,h6⟩:=h4
 refine⟨?_,h5,h2,h6,h3⟩
 rw[Ys8]
 omega
def Yiz{l w:Nat}(hl:l<B)(hu:u<B)(hw:w≤1):sb64 u l w+l+w=u+B*bw64 u l w∧sb64 u l w<B∧bw64 u l w≤1:=by
 unfold sb64 bw64
 unfold B at*
 split<;>omega
def Ydu{v c:Nat}(hv:v<B)(hu:u<B)(hc:c≤1):lo64 (u+v+c)+B*hi64 (u+v+c)=u+v+c∧lo64 (u+v+c)<B∧hi64 (u+v+c)≤1:=by
 unfold lo64 hi64
 unfold B at*
 omega
def Zja{b:Nat}:∀{l:List Nat} {k old v:Nat},l[k]?=some old→val b (l.set k v)+b^k*old=val b l+b^k*v
 |[],k,old,v,h=>by simp at h
 |d::l,0,old,v,h=>by simp at h;subst h;simp[val];omega
 |d::l,k+1,old,v,h=>by
  have ih:=Zja (b:=b) (l:=l) (k:=k) (old:=old) (v:=v) (by simpa using h)
  simp only[List.set_cons_succ,val,Ysg]
  generalize val b (l.set k v)=p at*
  generalize val b l=q at*
  generalize b^k=z at*
  have:b*(p+z*old)=b*(q+z*v):=by rw[ih]
  grind
def Dg.set'(h:Dg l){k v:Nat}(hv:v<B):Dg (l.set k v):=by
 intro d hd
 rcases Ytn hd with hd|hd
 ·exact h d hd
 ·subst hd;exact hv
def Ymw{W q U t c t' e:Nat}(hb:1<b)(hP:0<P)(hY:Y<P)(hU:U<P)(ht:t'<b)(he:e≤1)(h1:U+q*Y=W+P*c)(h2:t'+c=t+b*e)(hlo:(q-1)*Y≤W+P*t)(hhi:W+P*t<(q+1)*Y):
  (e=0→U+P*t'+q*Y=W+P*t∧U+P*t'<Y∧t'=0)∧(e=1→0<q∧U+P*t'+q*Y=W+P*t+P*b∧W+P*t<q*Y):=by
 have h3:P*t'+P*c=P*t+P*(b*e):=by rw[←Ys8,h2,Ys8]
 constructor
 ·rintro rfl
  simp only[Nat.mul_zero,Yty]at h3
  have h4:U+P*t'+q*Y=W+P*t:=by omega
  have h5:U+P*t'<Y:=by rw[Ysv]at hhi;omega
  refine⟨h4,h5,?_⟩
  rcases Yu4 t' with h|h
  ·exact h
  ·have:=Yr9 P h
   omega
 ·rintro rfl
  simp only[Yub]at h3
  have h4:U+P*t'+q*Y=W+P*t+P*b:=by omega
  have h5:P*(t'+1)≤P*b:=Yr9 _ ht
  rw[Ys8]at h5
  have h6:W+P*t<q*Y:=by omega
  refine⟨?_,h4,h6⟩
  rcases Yu4 q with h|h
  ·subst h;omega
  ·exact h
def Yke{q U t' T A c:Nat}(hP:0<P)(hY:Y<P)(hA:A<P)(hc:c≤1)(ht:t'<b)(hq:0<q)(h1:U+P*t'+q*Y=T+P*b)(h2:T<q*Y)(hlo:(q-1)*Y≤T)(h3:A+P*c=U+Y):
  A+(q-1)*Y=T∧A<Y∧(t'+c)%b=0:=by
 obtain⟨s,rfl⟩:∃s,q=s+1:=⟨q-1,by omega⟩
 simp only[Nat.add_sub_cancel]at*
 rw[Ysv]at h1 h2
 have h4:A+P*(t'+c)+s*Y=T+P*b:=by rw[Ys8];omega
 have h5:t'+c=b:=by
  rcases Nat.lt_trichotomy (t'+c) b with h|h|h
  ·have:=Yr9 P (show t'+c+1≤b from h)
   rw[Ys8 P (t'+c)]at this
   omega
  ·exact h
  ·omega
 rw[h5]at h4
 refine⟨by omega,by omega,?_⟩
 rw[h5,Nat.mod_self]
def Zl8:∀{k n:Nat},B^k≤n→n<B^(k+1)→(wds n).length=k+1∧(wds n)[k]?=some (n/B^k)
 |0,n,h1,h2=>by
  have h0:n≠0:=by
   rw[Yvc]at h1;omega
  rw[Zbr h0]
  have h3:n/B=0:=Yt0 (by simpa using h2)
  rw[h3,Zbp]
  simp
  exact Ytl (by simpa using h2)
 |k+1,n,h1,h2=>by
  have hB:0<B:=by decide
  have hp:0<B^(k+1):=Yuv hB
  have h0:n≠0:=by omega
  have h3:B^k≤n/B:=(Yuz hB).2 (by rw[←Ysg];exact h1)
  have h4:n/B<B^(k+1):=(Ysm hB).2 (by rw[←Ysg];exact h2)
  obtain⟨e1,e2⟩:=Zl8 h3 h4
  rw[Zbr h0]
  refine⟨by simp[e1],?_⟩
  rw[Ytv,e2,Yud,Ysg,Ysk (B^k)]
def Yhb{n:Nat}(h:(wds n).length≠0):n≠0:=by
 rintro rfl
 exact h (by rw[Zbp];rfl)
def Zdv:∀{k n:Nat},(wds n).length=k+1→B^k≤n∧n<B^(k+1)
 |0,n,h=>by
  have h0:=Yhb (n:=n) (by omega)
  rw[Zbr h0]at h
  have h1:(wds (n/B)).length=0:=by simpa using h
  have h2:n/B=0:=by
   by_cases hc:n/B=0
   ·exact hc
   ·rw[Zbr hc]at h1;simp at h1
  have:=(Nat.div_eq_zero_iff).1 h2
  rcases this with hb|hb
  ·exact absurd hb (by decide)
  ·simp;omega
 |k+1,n,h=>by
  have h0:=Yhb (n:=n) (by omega)
  rw[Zbr h0]at h
  obtain⟨h1,h2⟩:=Zdv (k:=k) (n:=n/B) (by simpa using h)
  have hB:0<B:=by decide
  exact⟨by rw[Ysg];exact(Yuz hB).1 h1,by rw[Ysg];exact(Ysm hB).1 h2⟩
def Yd9{t s:Nat}(hl:(wds b).length=k+1)(ht:(wds b)[k]?=some t)(h1:9223372036854775808≤t*2^s)(h2:t*2^s<18446744073709551616)(hs:s≤64):
  (wds (b*2^s)).length=k+1∧∃v1,(wds (b*2^s))[k]?=some v1∧9223372036854775808≤v1:=by
 obtain⟨b1,b2⟩:=Zdv hl
 have hp:0<B^k:=Yuv (by decide)
 have hps:=Ys7 s
 have htd:t=b/B^k:=by
  have:=(Zl8 b1 b2).2
  rw[ht]at this
  exact Ys0 this
 have b3:t*B^k≤b:=by rw[htd];exact Nat.div_mul_le_self _ _
 have b4:b<(t+1)*B^k:=by
  rw[htd]
  exact(Ysm hp).1 (Ys4 _)
 have c1:9223372036854775808*B^k≤b*2^s:=by
  have e1:=Ysb (B^k) h1
  have e2:=Ysb (2^s) b3
  have e3:t*2^s*B^k=t*B^k*2^s:=by grind
  omega
 have c2:b*2^s<B^(k+1):=by
  have e0:t+1≤2^(64-s):=by
   have:t<2^(64-s):=by
    apply Nat.lt_of_mul_lt_mul_right (a:=2^s)
    rw[←Ysr,show 64-s+s=64 by omega];exact h2
   omega
  have e1:=Ysb (2^s) e0
  rw[←Ysr,show 64-s+s=64 by omega]at e1
  have e2:=Yut b4 hps
  have e3:=Ysb (B^k) e1
  have e4:(t+1)*2^s*B^k=(t+1)*B^k*2^s:=by grind
  rw[Ysg,Ysk]
  have e5:(2^64:Nat)*B^k=B^k*B:=by unfold B;rw[Ysk]
  rw[Ysk b]at e2
  omega
 have c0:B^k≤b*2^s:=by omega
 obtain⟨d1,d2⟩:=Zl8 c0 c2
 exact⟨d1,_,d2,(Yuz hp).2 c1⟩
def Zzq{U:List Nat}{la m s:Nat}(hU:val B U=a*2^s)(hl:U.length=la+1)(hm:m+k+1=la+1)(hkl:m≤U.length)(ha:a<B^la)(hs:s<64)(hv:9223372036854775808≤v1)(hY:v1*B^k≤Y):val B (U.drop m)<Y:=by
 have h1:=Zda B U m hkl
 have h2:B^m*val B (U.drop m)<B^la*2^s:=by
  have:=Yut ha (Ys7 s)
  omega
 have h3:(2:Nat)^s≤9223372036854775808:=(Ysu (by decide) (show s≤63 by omega):(2:Nat)^s≤2^63)
 have h4:B^la=B^m*B^k:=by rw[←Ysr];congr 1;omega
 rw[h4,Yt3]at h2
 have h5:=Nat.lt_of_mul_lt_mul_left h2
 have h6:=Yr9 (B^k) h3
 have h7:=Yr9 (B^k) hv
 rw[Ysk v1]at hY
 omega
end
end Go.Mx
