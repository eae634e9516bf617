/-bits-/
import Derived.Test.YtfeehbdhikiikaaGreatDoorRcK
set_option linter.all false
set_option maxHeartbeats 8000000
namespace Go.Mx
variable{U w:List Nat}{N U' V' cI hi la lo m nw t' u1 u2 v v2:Nat}{h:T O}
noncomputable section
open Go Go.Proofs
variable {n:Nat}
set_option maxRecDepth 1000000
def Ywu:List UInt8:=[0,1,2,2,3,3,3,3,4,4,4,4,4,4,4,4,5,5,5,5,5,5,5,5,5,5,5,5,5,5,5,5,6,6,6,6,6,6,6,6,6,6,6,6,6,6,6,6,6,6,6,6,6,6,6,6,6,6,6,6,6,6,6,6,7,7,7,7,7,7,7,7,7,7,7,7,7,7,7,7,7,7,7,7,7,7,7,7,7,7,7,7,7,7,7,7,7,7,7,7,7,7,7,7,7,7,7,7,7,7,7,7,7,7,7,7,7,7,7,7,7,7,7,7,7,7,7,7,8,8,8,8,8,8,8,8,8,8,8,8,8,8,8,8,8,8,8,8,8,8,8,8,8,8,8,8,8,8,8,8,8,8,8,8,8,8,8,8,8,8,8,8,8,8,8,8,8,8,8,8,8,8,8,8,8,8,8,8,8,8,8,8,8,8,8,8,8,8,8,8,8,8,8,8,8,8,8,8,8,8,8,8,8,8,8,8,8,8,8,8,8,8,8,8,8,8,8,8,8,8,8,8,8,8,8,8,8,8,8,8,8,8,8,8,8,8,8,8,8,8,8,8,8,8,8,8]
def A.b238:ct:=sr [mc 2 0] (.seq (sr [mv 3 0,ge 4 (.bin .geq (.node []) false (tq 3) (.const (.int .u64 4294967296)))] (cd 4 (sr [mv 5 0,ge 6 (.bin .shr (.node []) false (tq 5) (.const (.int .u64 32))),mv 0 6] (.fV [mc 2 32])) (.skip))) (.seq (sr [mv 7 0,ge 8 (.bin .geq (.node []) false (tq 7) (.const (.int .u64 65536)))] (cd 8 (sr [mv 9 0,ge 10 (.bin .shr (.node []) false (tq 9) (.const (.int .u64 16))),mv 0 10] (.fV [mv 11 2,bc 12 .add 11 16,mv 2 12])) (.skip))) (.seq (sr [mv 13 0,ge 14 (.bin .geq (.node []) false (tq 13) (.const (.int .u64 256)))] (cd 14 (sr [mv 15 0,ge 16 (.bin .shr (.node []) false (tq 15) (.const (.int .u64 8))),mv 0 16] (.fV [mv 17 2,bc 18 .add 17 8,mv 2 18])) (.skip))) (sr [mv 19 2,mv 20 0,ge 21 (.dG .u8 (tq 20)),ge 22 (.bQ (.const (.str Ywu)) (tq 21)),ge 23 (.dG .i64 (tq 22)),bi 24 .add 19 23,mv 2 24] (.ret)))))
def A.k238:=@A.kk 238 25 [.tmp 2] A.b238 (by kernel_rfl) rfl
def A.b241:=A.q Tryz.f241
def A.k241:=@A.kk 241 6 [.tmp 2] A.b241 (by kernel_rfl) rfl
def aY(n:Nat):Nat:=if n=0 then 0 else Nat.log2 n+1
def Vd(n:Nat):n<2^aY n:=by
 unfold aY;split
 ·simp[*]
 exact Nat.lt_log2_self
def M8(h:n≠0):2^(aY n-1)<=n:=by unfold aY;rw[ak h];exact Nat.log2_self_le h
def Yue{k:Nat}(h1:2^k<=n)(h2:n<2^(k+1)):aY n=k+1:=by
 have hn:n≠0:=by have:=sK k;omega
 unfold aY;rw[ak hn];congr 1;have h3:Nat.log2 n<k+1:=(Nat.log2_lt hn).2 h2;have h4:k<=Nat.log2 n:=(Nat.le_log2 hn).2 h1;omega
def A1{k:Nat}(h:2^k<=n):aY (ax n k)+k=aY n:=by
 unfold ax;have h0:n/2^k≠0:=by have:=Nat.div_pos h (sK k);omega
 have h1:=Vd (n/2^k);have h2:=M8 h0;have hp:0<aY (n/2^k):=by unfold aY;rw[ak h0];omega
 have e:aY (n/2^k)+k=(aY (n/2^k)-1+k)+1:=by omega
 rw[e];symm;apply Yue
 ·rw[mT];exact nI (kg _ h2) (Nat.div_mul_le_self n _)
 rw[show aY (n/2^k)-1+k+1=aY (n/2^k)+k by omega,mT];exact(rV (sK k)).1 h1
def HN:∀{n:Nat},n<256->Ywu[n]?=some (UInt8.ofNat (aY n)):=by decide+kernel
def Fy:∀{n:Nat},n<256->aY n<9:=by decide+kernel
def HO(h:n<256):cZ (UInt8.ofNat (aY n))=(aY n:Int):=by have:=Fy h;unfold cZ;simp;omega
def Zs5{x:Nat}(hx:x<18446744073709551616):Fn A.C 238 [.int .u64 x] h N (fun v' h' N'=>h'=h/\N'=N/\v'=.int .i64 (aY x:Nat)):=by
 intro w;rw[aP,A.k238 (by simp)];by_cases h0:4294967296<=x
 ·have jD:(4294967296:Int)<=((x:Nat):Int):=by omega
  by_cases h1:65536<=ax (x) 32
  ·have iz:(65536:Int)<=((ax (x) 32:Nat):Int):=by omega
   by_cases h2:256<=ax (ax (x) 32) 16
   ·have mX:(256:Int)<=((ax (ax (x) 32) 16:Nat):Int):=by omega
    have hb:ax (ax (ax (x) 32) 16) 8<256:=by (try simp only[ax]at*);omega
    have ht:=HN hb;have hv:cZ (UInt8.ofNat (aY (ax (ax (ax (x) 32) 16) 8)))=(aY (ax (ax (ax (x) 32) 16) 8):Int):=HO hb;have hl:=Fy hb;simp(disch:=omega) [A.b238,jD,iz,mX,Dx,ht,hv,ay];have:=A1 (k:=32) (n:=x) h0;have:=A1 (k:=16) (n:=ax (x) 32) h1;have:=A1 (k:=8) (n:=ax (ax (x) 32) 16) h2;first|exact ab.refl|exact And.intro ab.refl (by omega)
   have mX:¬(256:Int)<=((ax (ax (x) 32) 16:Nat):Int):=by omega
   have hb:ax (ax (x) 32) 16<256:=by (try simp only[ax]at*);omega
   have ht:=HN hb;have hv:cZ (UInt8.ofNat (aY (ax (ax (x) 32) 16)))=(aY (ax (ax (x) 32) 16):Int):=HO hb;have hl:=Fy hb;simp(disch:=omega) [A.b238,jD,iz,mX,Dx,ht,hv,ay];have:=A1 (k:=32) (n:=x) h0;have:=A1 (k:=16) (n:=ax (x) 32) h1;first|exact ab.refl|exact And.intro ab.refl (by omega)
  have iz:¬(65536:Int)<=((ax (x) 32:Nat):Int):=by omega
  by_cases h2:256<=ax (x) 32
  ·have mX:(256:Int)<=((ax (x) 32:Nat):Int):=by omega
   have hb:ax (ax (x) 32) 8<256:=by (try simp only[ax]at*);omega
   have ht:=HN hb;have hv:cZ (UInt8.ofNat (aY (ax (ax (x) 32) 8)))=(aY (ax (ax (x) 32) 8):Int):=HO hb;have hl:=Fy hb;simp(disch:=omega) [A.b238,jD,iz,mX,Dx,ht,hv,ay];have:=A1 (k:=32) (n:=x) h0;have:=A1 (k:=8) (n:=ax (x) 32) h2;first|exact ab.refl|exact And.intro ab.refl (by omega)
  have mX:¬(256:Int)<=((ax (x) 32:Nat):Int):=by omega
  have hb:ax (x) 32<256:=by (try simp only[ax]at*);omega
  have ht:=HN hb;have hv:cZ (UInt8.ofNat (aY (ax (x) 32)))=(aY (ax (x) 32):Int):=HO hb;have hl:=Fy hb;simp(disch:=omega) [A.b238,jD,iz,mX,Dx,ht,hv,ay];have:=A1 (k:=32) (n:=x) h0;first|exact ab.refl|exact And.intro ab.refl (by omega)
 have jD:¬(4294967296:Int)<=((x:Nat):Int):=by omega
 by_cases h1:65536<=x
 ·have iz:(65536:Int)<=((x:Nat):Int):=by omega
  by_cases h2:256<=ax (x) 16
  ·have mX:(256:Int)<=((ax (x) 16:Nat):Int):=by omega
   have hb:ax (ax (x) 16) 8<256:=by (try simp only[ax]at*);omega
   have ht:=HN hb;have hv:cZ (UInt8.ofNat (aY (ax (ax (x) 16) 8)))=(aY (ax (ax (x) 16) 8):Int):=HO hb;have hl:=Fy hb;simp(disch:=omega) [A.b238,jD,iz,mX,Dx,ht,hv,ay];have:=A1 (k:=16) (n:=x) h1;have:=A1 (k:=8) (n:=ax (x) 16) h2;first|exact ab.refl|exact And.intro ab.refl (by omega)
  have mX:¬(256:Int)<=((ax (x) 16:Nat):Int):=by omega
  have hb:ax (x) 16<256:=by (try simp only[ax]at*);omega
  have ht:=HN hb;have hv:cZ (UInt8.ofNat (aY (ax (x) 16)))=(aY (ax (x) 16):Int):=HO hb;have hl:=Fy hb;simp(disch:=omega) [A.b238,jD,iz,mX,Dx,ht,hv,ay];have:=A1 (k:=16) (n:=x) h1;first|exact ab.refl|exact And.intro ab.refl (by omega)
 have iz:¬(65536:Int)<=((x:Nat):Int):=by omega
 by_cases h2:256<=x
 ·have mX:(256:Int)<=((x:Nat):Int):=by omega
  have hb:ax (x) 8<256:=by (try simp only[ax]at*);omega
  have ht:=HN hb;have hv:cZ (UInt8.ofNat (aY (ax (x) 8)))=(aY (ax (x) 8):Int):=HO hb;have hl:=Fy hb;simp(disch:=omega) [A.b238,jD,iz,mX,Dx,ht,hv,ay];have:=A1 (k:=8) (n:=x) h2;first|exact ab.refl|exact And.intro ab.refl (by omega)
 have mX:¬(256:Int)<=((x:Nat):Int):=by omega
 have hb:x<256:=by (try simp only[ax]at*);omega
 have ht:=HN hb;have hv:cZ (UInt8.ofNat (aY (x)))=(aY (x):Int):=HO hb;have hl:=Fy hb;simp(disch:=omega) [A.b238,jD,iz,mX,Dx,ht,hv,ay];first|exact ab.refl|exact And.intro ab.refl (by omega)
def Yg7{x:Nat}(hx:x<18446744073709551616):Fn A.C 241 [.int .u64 x] h N (fun v' h' N'=>h'=h/\N'=N/\v'=.int .i64 ((64-aY x:Nat))):=by
 intro w;have hl:aY x<=64:=by
  by_cases h0:x=0
  ·subst h0;decide
  apply AK;intro hc;have:=M8 h0;have:2^64<=2^(aY x-1):=rL (by decide) (by omega);omega
 rw[aP,A.k241 (by simp)];simp[A.b241];refine au (Zs5 hx) ?_;rintro _ _ _ hk ⟨rfl,rfl,rfl⟩;simp(disch:=omega) [ay];exact⟨hk,by omega⟩
variable {s x:Nat}
def A.QL:=A.q Tryz.f242
def A.oQ:=A.ql A.QL 0 []
def A.b242:=(fun x0=>A.qb A.QL [x0]) A.oQ
def A.k242:=@A.kk 242 40 [.tmp 4] A.b242 (by kernel_rfl) rfl
def U8{c:Nat}(hs:s<64)(hc:c<2^s):ks c (bU x s)=c+bU x s:=by
 unfold ks bU;have e:x*2^s%18446744073709551616=(x%2^(64-s))<<<s:=by
  rw[Nat.shiftLeft_eq];have:(18446744073709551616:Nat)=2^(64-s)*2^s:=by rw[<-mT,show 64-s+s=64 by omega]
  rw[this,OV]
 rw[e,Nat.or_comm,Nat.add_comm,Nat.shiftLeft_add_eq_or_of_lt hc]
def Yff(hs:s<=64):bU x s+B*ax x (64-s)=x*2^s:=by
 unfold bU ax;have e:x/2^(64-s)=x*2^s/18446744073709551616:=by
  have:(18446744073709551616:Nat)=2^(64-s)*2^s:=by rw[<-mT,show 64-s+s=64 by omega]
  rw[this,TX _ _ (sK s)]
 rw[e];have:=wy (x*2^s) 18446744073709551616;unfold B;omega
def Yn8(hx:x<B)(hs:s<=64):ax x (64-s)<2^s:=by unfold ax;apply (rV (sK _)).2;rw[<-mT,show s+(64-s)=64 by omega];exact hx
def Zq9{c:Nat}(hs:s<64)(hc:c<2^s):c+bU x s<B:=by
 rw[<-U8 hs hc];unfold ks;apply Nat.or_lt_two_pow (n:=64)
 ·exact Nat.lt_trans hc (Nat.pow_lt_pow_right (by decide) hs)
 exact Zsn
structure ShJ (h:T O) (N:Nat) (l:List Nat) (s k:Nat) (o:List Nat) (c:Nat) (r:T V) (st:St):Prop where
 hk:k<=l.length
 M9:r.get 14=some (.int .i64 k)
 n:st.n=N+1
 w:az N st.w=[]
 ad:ab h N st.h (N+1)
 row:st.h.get N=some (.cells (dg o) 205 true)
 len:o.length=l.length+1
 dg:Dg o
 zero:∀t,k<t->t<o.length->o[t]?=some 0
 top:o[k]?=some c
 lc:c<2^s
 ex:val B o=val B (l.take k)*2^s
def ShI(h:T O)(N:Nat)(l:List Nat)(s m:Nat)(r:T V)(st:St):Prop:=∃k o c,m=l.length-k/\ShJ h N l s k o c r st
def ShE(h:T O)(N:Nat)(l:List Nat)(s:Nat)(r:T V)(st:St):Prop:=∃o c,ShJ h N l s l.length o c r st
def Zrb{v:V}{l:List Nat}(hv:Sl h N v (Go.Mx.dg l))(hd:Dg l)(hs:s<64)(hl:l.length<1099511627776):Fn A.C 242 [v,.int .i64 s] h N (fun v' h' N'=>∃i o,N<=i/\i<N'/\v'=.slice i 0 (l.length+1) (some (l.length+1)) 1/\h'.get i=some (.cells (dg o) 205 true)/\o.length=l.length+1/\Dg o/\val B o=val B l*2^s):=by
 intro w;have lx:=hv.len;rw[bu]at lx;rw[aP,A.k242 (by simp)];simp(disch:=first|(simp;done)|omega|(simp only[bu,cr,bl];omega)|rfl) [A.b242,lx];refine cB [(6,7),(14,38)] (fun e r st=>e=.exit 0/\ShE h N l s r st) (ShI h N l s) l.length ?_ ?_ ?_
 ·refine⟨0,List.replicate (l.length+1) 0,0,by omega,⟨by omega,by simp,by simp,by simp,ab.refl.set (aN _) |>.up (by omega),by simp[J9],by simp,?_,?_,by simp,sK s,by simp[val,Zt1]⟩⟩
  ·intro d hd;rw[Jc]at hd;rw[hd.2];decide
  intro t _ ht;simp at ht;simp[ht]
 ·rintro m r ⟨H,n1,W⟩ hr hf ⟨k,o,c,rfl,hk,ri,hn,hW,hK,hN,ho,Na,hz,hc,AY,he⟩;simp only at hn hW hK hN;subst hn;rw[bG];by_cases aD:k<l.length
  ·obtain⟨i1,o1,c1,e1,w1,p1,p2,p3,p4⟩:=hv.at (gw (cj aD));have p3:=(hK.get _ p2).trans p3;have gx:=cj aD;generalize l[k]=x at*;have hx:x<B:=hd.get gx;have hcB:c<18446744073709551616:=Na.get hc;have wH:=U8 (x:=x) hs AY;have fi:=Zq9 (x:=x) hs AY;obtain⟨z,hzz⟩:∃z,c+bU x s=z:=⟨_,rfl⟩;rw[hzz]at wH fi;have zbl:(o.set k z).length=l.length+1:=by simp[ho]
   have Ho:=Yff (x:=x) (s:=s) (by omega);have cv:=Yn8 hx (s:=s) (by omega);have v1:=QJ (b:=B) (v:=z) hc;have Cr:(o.set k z)[k+1]?=some 0:=by rw[fk (by omega)];exact hz _ (by omega) (by omega)
   have v2:=QJ (b:=B) (v:=ax x (64-s)) Cr;by_cases h0:0<s
   ·have jD:(0:Int)<(s:Int):=by omega
    simp(disch:=first|(simp;done)|omega|(simp only[bu,cr,bl];omega)|rfl) [-getElem?_pos,A.oQ,hr,ri,aD,lx,p1,p3,p4,hN,gw hc,wH,rH,h0,hf];refine⟨_,by omega,k+1,(o.set k z).set (k+1) (ax x (64-s)),ax x (64-s),rfl,⟨by omega,by simp,rfl,by simp[hW],(hK.set (aN _)).set (aN _),by simp,by simp[ho],(Na.set fi).set (fH cv (rL (by decide) (by omega):2^s<=2^64)),?_,mQ (by omega),cv,?_⟩⟩
    ·intro t t1 t2;rw[fk (by omega),fk (by omega)];exact hz t (by omega) (by simpa using t2)
    rw[Hi gx,iR,<-he];rw[<-hzz]at v1 v2 ⊢;have e3:B^k*(bU x s+B*ax x (64-s))=B^k*(x*2^s):=by rw[Ho]
    rw[iD]at v2;generalize val B ((o.set k (c+bU x s)).set (k+1) (ax x (64-s)))=z1 at*;generalize val B (o.set k (c+bU x s))=z2 at*;generalize val B o=z3 at*;generalize bU x s=z4 at*;generalize ax x (64-s)=z5 at*;generalize B^k=z6 at*;grind
   have jD:¬(0:Int)<(s:Int):=by omega
   simp(disch:=first|(simp;done)|omega|(simp only[bu,cr,bl];omega)|rfl) [-getElem?_pos,A.oQ,hr,ri,aD,lx,p1,p3,p4,hN,gw hc,wH,rH,h0,hf];have iW:s=0:=by omega
   subst iW;have iK:c=0:=by simpa using AY
   subst iK;have e0:bU x 0=x:=by unfold bU;unfold B at hx;simp;omega
   have sE:z=x:=by rw[<-hzz,e0];omega
   subst sE;refine⟨_,by omega,k+1,o.set k z,0,rfl,⟨by omega,by simp,rfl,by simp[hW],hK.set (aN _),by simp,by simp[ho],Na.set hx,?_,?_,by decide,?_⟩⟩
   ·intro t t1 t2;rw[fk (by omega)];exact hz t (by omega) (by simpa using t2)
   ·rw[fk (by omega)];exact hz _ (by omega) (by omega)
   rw[Hi gx,iR,<-he];simpa using v1
  have:k=l.length:=by omega
  subst this;simp[A.oQ,hr,ri,hf];exact⟨o,c,⟨by omega,by simp[ri],rfl,hW,hK,hN,ho,Na,hz,hc,AY,he⟩⟩
 rintro _ r ⟨H,n1,W⟩ hr ⟨rfl,o,c,hk,ri,hn,hW,hK,hN,ho,Na,hz,hc,AY,he⟩;simp only at hn hW hK hN;subst hn;simp[hr,ay];rw[gm (aN _)]at he;exact⟨hW,hK,N,aN _,by omega,rfl,o,hN,ho,Na,he⟩
open Go
variable {b r:Nat}
def Ve{u un q:Nat}(hi:u=q*cI+r)(hc:q*nw<=b*r+un):q*(cI*b+nw)<=u*b+un:=by subst hi;rw[vc,iR,<-GA,ki r b];omega
def Ya8{u un q:Nat}(hi:u=q*cI+r)(hc:b*r+un<q*nw):u*b+un<q*(cI*b+nw):=by subst hi;rw[vc,iR,<-GA,ki r b];omega
def Zvo{a y q:Nat}(h:a<q*y):a/y<q:=by
 rcases Jb y with rfl|hy
 ·simp at h
 exact(rV hy).2 h
def Nb{a y q:Nat}(hy:0<y)(h:q*y<=a):q<=a/y:=(Mg hy).2 h
def Ysu{P v1:Nat}(pW:0<v1)(EP:V'<P)(ht:s<=b)(hinv:u1=(s+1)*v1+r)(hc:(s+1)*v2<=r*b+u2):
  s*(V'+P*(v2+b*v1))<=U'+P*(u2+b*u1):=by
 have h1:s*V'<=b*P:=oc ht (by omega);have h2:b*P*1<=b*P*v1:=mZ _ pW;have h3:P*((s+1)*v2)<=P*(r*b+u2):=mZ _ hc;have h4:P*((s+1)*v2)=P*(s*v2)+P*v2:=by grind
 have h5:s*(V'+P*(v2+b*v1))=s*V'+P*(s*v2)+b*(P*(s*v1)):=by grind
 have h6:U'+P*(u2+b*u1)=U'+P*(r*b+u2)+b*(P*(s*v1))+b*P*v1:=by subst hinv;grind
 omega
def Yst{P v1 t:Nat}(EO:U'<P)(hinv:u1=t*v1+r)(hc:r*b+u2<t*v2):
  U'+P*(u2+b*u1)<t*(V'+P*(v2+b*v1)):=by
 have h3:P*(r*b+u2+1)<=P*(t*v2):=mZ _ hc;have h5:t*(V'+P*(v2+b*v1))=t*V'+P*(t*v2)+b*(P*(t*v1)):=by grind
 have h6:U'+P*(u2+b*u1)+P=U'+P*(r*b+u2+1)+b*(P*(t*v1)):=by subst hinv;grind
 omega
variable {b u y:Nat}
def A.Km:=A.q Tryz.f240
def A.jt:=A.ql A.Km 1 []
def A.jv:=A.ql A.Km 0 []
def A.b240:=(fun x0 x1=>A.qb A.Km [x0,x1]) A.jv A.jt
def A.k240:=@A.kk 240 135 [.tmp 6,.tmp 7] A.b240 (by kernel_rfl) rfl
structure DvI (h:T O) (N:Nat) (k1 u cI D m:Nat) (r:T V) (st:St):Prop where
 st:st=⟨h,N,[]⟩
 ex:∃rh:Nat,r.get k1=some (.int .u64 m)/\r.get 16=some (.int .u64 rh)/\u=m*cI+rh/\D<=m/\m<=4294967297/\rh<4294967296
def Yoq(h0:¬y=0)(h:y<18446744073709551616):9223372036854775808<=y*2^(64-aY y)/\y*2^(64-aY y)<18446744073709551616/\64-aY y<64:=by
 have h1:=Vd y;have h2:=M8 h0;have hp:0<aY y:=by unfold aY;rw[ak h0];omega
 have hl:aY y<=64:=by apply AK;intro hc;have:2^64<=2^(aY y-1):=rL (by decide) (by omega);omega
 refine⟨?_,?_,by omega⟩
 ·have:=kg (2^(64-aY y)) h2;rw[<-mT,show aY y-1+(64-aY y)=63 by omega]at this;exact this
 have:=Mi h1 (sK (64-aY y));rw[<-mT,show aY y+(64-aY y)=64 by omega]at this;exact this
def Zmm{a:Nat}(h:a<18446744073709551616):bn .u64 ((a:Int)/(b:Int))=(nX a b:Nat):=by have e:((a:Int)/(b:Int))=((a/b:Nat):Int):=rfl;have:=xy a b;rw[e,HG (Int.natCast_nonneg _) (Int.ofNat_lt.2 (show a/b<18446744073709551616 by omega))];rfl
def Zt8{a c:Nat}(h:c<=a)(hr:a-c<18446744073709551616):ig (a%18446744073709551616) (c%18446744073709551616)=a-c:=by unfold ig;split<;>omega
def Yd7{c u0 z Y:Nat}(hc:c=b*b)(hY:0<Y):(u1*c+u0*b+z)/Y=(u1*b+u0)/Y*b+((u1*b+u0)%Y*b+z)/Y/\(u1*c+u0*b+z)%Y=((u1*b+u0)%Y*b+z)%Y:=by
 subst hc;have h:=wy (u1*b+u0) Y;have e:u1*(b*b)+u0*b+z=Y*((u1*b+u0)/Y*b)+((u1*b+u0)%Y*b+z):=by
  generalize (u1*b+u0)/Y=D at*;generalize (u1*b+u0)%Y=R at*;have:(Y*D+R)*b=(u1*b+u0)*b:=by rw[h]
  grind
 rw[e,Nat.mul_add_div hY,Nat.mul_add_mod];exact⟨rfl,rfl⟩
def Zvf:u=u/y*y+u%y:=by have:=wy u y;rw[ki]at this;exact this.symm
def Yav(h:0<y)(hb:y<=b):u%y<b:=fH (m_ _ h) hb
def Yax{un:Nat}(h:0<cI)(hn:un<4294967296):(u*4294967296+un)/(cI*4294967296+nw)<=u/cI:=by
 have h1:(u*4294967296+un)/(cI*4294967296+nw)<=(u*4294967296+un)/(cI*4294967296):=Nat.div_le_div_left (by omega) (by omega);have h2:(u*4294967296+un)/(cI*4294967296)=u/cI:=by rw[ki cI,<-Jf,show (u*4294967296+un)/4294967296=u by omega]
 rw[h2]at h1;exact h1
def Yaw(h0:nw<4294967296)(h:2147483648<=cI)(hu:u<cI*4294967296+nw):u/cI<=4294967297:=by apply Nat.le_of_lt_succ;apply (rV (by omega)).2;omega
def Ya6(hy:hi<y)(Kd:y<18446744073709551616)(h_:lo<18446744073709551616):Fn A.C 240 [.int .u64 hi,.int .u64 lo,.int .u64 y] h N (fun v h' N'=>h'=h/\N'=N/\v=.aU [.int .u64 ((hi*18446744073709551616+lo)/y:Nat),.int .u64 ((hi*18446744073709551616+lo)%y:Nat)]):=by
 intro w;have zr:¬y=0:=by omega
 have hle:¬y<=hi:=by omega
 rw[aP,A.k240 (by simp)];by_cases h0:hi=0
 ·subst h0;have hq:=Zmm (b:=y) h_;simp[A.b240,zr,c9.c_,ay,hq,Qx,nX];exact ab.refl
 simp[A.b240,zr,hle,h0];refine au (Yg7 Kd) ?_;rintro _ h N hk ⟨rfl,rfl,rfl⟩;obtain⟨n1,n2,n3⟩:=Yoq zr Kd;generalize 64-aY y=s at*;have hw:bn .u64 (s:Int)=(s:Int):=HG (by omega) (by omega);have Pr:bn .u64 (64-(s:Int))=((64-s:Nat):Int):=by rw[HG (by omega) (by omega)];omega
 obtain⟨Y,hY⟩:∃Y,bU y s=Y:=⟨_,rfl⟩;have hYe:Y=y*2^s:=by rw[<-hY];unfold bU;omega
 obtain⟨cI,QM⟩:∃x,ax Y 32=x:=⟨_,rfl⟩;obtain⟨nw,QN⟩:∃x,fM Y=x:=⟨_,rfl⟩;obtain⟨U,hU⟩:∃x,ks (bU hi s) (ax lo (64-s))=x:=⟨_,rfl⟩;obtain⟨L,hL⟩:∃x,bU lo s=x:=⟨_,rfl⟩;obtain⟨zt,QO⟩:∃x,ax L 32=x:=⟨_,rfl⟩;obtain⟨x_,QP⟩:∃x,fM L=x:=⟨_,rfl⟩;have hYB:Y<18446744073709551616:=by omega
 have hLB:L<18446744073709551616:=by rw[<-hL];exact Zsn
 have Vg:Y=cI*4294967296+nw/\nw<4294967296:=by rw[<-QM,<-QN];unfold ax fM;omega
 have hLd:L=zt*4294967296+x_/\x_<4294967296:=by rw[<-QO,<-QP];unfold ax fM;omega
 have hA:U*18446744073709551616+L=(hi*18446744073709551616+lo)*2^s:=by
  have e1:=U8 (x:=hi) n3 (Yn8 (x:=lo) (s:=s) h_ (by omega));have e2:=Yff (x:=lo) (s:=s) (by omega);have e3:bU hi s=hi*2^s:=by unfold bU;have:=Mi hy (sK s);omega
  have e4:U=ax lo (64-s)+hi*2^s:=by rw[<-hU,<-e3,<-e1];unfold ks;exact Nat.or_comm _ _
  rw[hL]at e2;unfold B at e2;rw[e4,iR (hi*18446744073709551616),<-e2];have:hi*18446744073709551616*2^s=hi*2^s*18446744073709551616:=by grind
  omega
 have hUY:U<Y:=by
  have h1:hi*18446744073709551616+lo<y*18446744073709551616:=by omega
  have h2:=Mi h1 (sK s);have h3:y*18446744073709551616*2^s=y*2^s*18446744073709551616:=by grind
  omega
 have hsr:ax lo (64-s)<18446744073709551616:=Zzg h_;have hyp:0<cI:=by omega
 have hyb:cI<=4294967296:=by omega
 have DO:0<cI*4294967296+nw:=by omega
 have hq:=Zmm (b:=cI) (show U<18446744073709551616 by omega);have hr:ig U (dh (nX U cI) cI)=U%cI:=by
  have h1:=wy U cI;rw[ki]at h1;have h2:dh (nX U cI) cI=U/cI*cI:=by unfold dh nX;omega
  rw[h2,Hj (by omega) (by omega)];omega
 simp(disch:=first|(simp;done)|omega|(simp only[bu,cr,bl];omega)|rfl) [hq,hr,hw,Pr,hY,QM,QN,hU,hL,QO,QP];obtain⟨D1,Cw⟩:∃D,(U*4294967296+zt)/(cI*4294967296+nw)=D:=⟨_,rfl⟩;refine cB [(15,16),(67,85)] (fun e r st=>e=.exit 0/\st=⟨h,N,[]⟩/\r.get 15=some (.int .u64 D1)) (DvI h N 15 U cI D1) (U/cI) ?_ ?_ ?_
 ·exact⟨rfl,U%cI,by simp[nX],by simp,Zvf,Cw▸Yax hyp (by omega),Yaw Vg.2 (by omega) (by omega),Yav hyp hyb⟩
 ·rintro q r _ hr hf ⟨rfl,rh,hq,Cy,hu,hD,j_,IM⟩;rw[bG];obtain⟨P,hP⟩:∃P,P=q*nw:=⟨_,rfl⟩;obtain⟨R2,hR2⟩:∃P,P=4294967296*rh:=⟨_,rfl⟩;obtain⟨R3,hR3⟩:∃P,P=4294967296*rh+zt:=⟨_,rfl⟩;have m2:dh 4294967296 rh=R2:=by unfold dh;omega
  have m3:cU R2 zt=R3:=by unfold cU;omega
  have vE:(4294967296<=q\/R3<P)->0<q/\D1<=q-1:=by
   intro hc;have:D1<q:=by
    rcases hc with hc|hc
    ·have:D1<4294967296:=by rw[<-Cw];exact(rV DO).2 (by omega)
     omega
    rw[<-Cw];exact Zvo (Ya8 (b:=4294967296) hu (by omega))
   omega
  have tW:0<q->U=(q-1)*cI+(rh+cI):=by intro hc;obtain⟨s,rfl⟩:∃s,q=s+1:=⟨q-1,by omega⟩;rw[hu,iR];simp;omega
  have fK:∀Kn,U=(q-1)*cI+Kn->4294967296<=Kn->(q-1)*(cI*4294967296+nw)<=U*4294967296+zt:=by intro Kn h1 h2;refine Ve h1 ?_;have:=oc (show q-1<=4294967296 by omega) (show nw<=4294967296 by omega);omega
  by_cases c1:4294967296<=q
  ·have c1':(4294967296:Int)<=(q:Int):=by omega
   obtain⟨g1,g2⟩:=vE (.inl c1);have s1:ig q 1=q-1:=Hj g1 (by omega);have s2:cU rh cI=rh+cI:=by unfold cU;omega
   by_cases c3:4294967296<=rh+cI
   ·have c3':(4294967296:Int)<=(rh:Int)+(cI:Int):=by omega
    simp[A.jv,hr,hq,Cy,c1',c3',s1,s2,hf];have hd:=Nb DO (fK _ (tW g1) c3);rw[Cw]at hd;omega
   have c3':¬(4294967296:Int)<=(rh:Int)+(cI:Int):=by omega
   simp[A.jv,hr,hq,Cy,c1',c3',s1,s2,hf];exact⟨q-1,by omega,rfl,rh+cI,by simp,by simp,tW g1,g2,by omega,by omega⟩
  have c1':¬(4294967296:Int)<=(q:Int):=by omega
  have m1:dh q nw=P:=by have:=oc (show q<=4294967296 by omega) (show nw<=4294967295 by omega);unfold dh;omega
  by_cases c2:R3<P
  ·obtain⟨g1,g2⟩:=vE (.inr c2);have s1:ig q 1=q-1:=Hj g1 (by omega);have s2:cU rh cI=rh+cI:=by unfold cU;omega
   by_cases c3:4294967296<=rh+cI
   ·have c3':(4294967296:Int)<=(rh:Int)+(cI:Int):=by omega
    simp[A.jv,hr,hq,Cy,c1',c2,c3',m1,m2,m3,s1,s2,hf];have hd:=Nb DO (fK _ (tW g1) c3);rw[Cw]at hd;omega
   have c3':¬(4294967296:Int)<=(rh:Int)+(cI:Int):=by omega
   simp[A.jv,hr,hq,Cy,c1',c2,c3',m1,m2,m3,s1,s2,hf];exact⟨q-1,by omega,rfl,rh+cI,by simp,by simp,tW g1,g2,by omega,by omega⟩
  simp[A.jv,hr,hq,Cy,c1',c2,m1,m2,m3,hf];have hd:=Nb DO (Ve (b:=4294967296) (un:=zt) hu (by omega));rw[Cw]at hd;omega
 rintro _ r _ gI ⟨rfl,rfl,Fz⟩;obtain⟨R1,Vh⟩:∃R,(U*4294967296+zt)%Y=R:=⟨_,rfl⟩;rw[<-Vg.1]at Cw;have zT:ig (cU (dh U 4294967296) zt) (dh D1 Y)=R1:=by
  have h1:=wy (U*4294967296+zt) Y;rw[Cw,Vh,ki Y]at h1;have h2:cU (dh U 4294967296) zt=(U*4294967296+zt)%18446744073709551616:=by unfold cU dh;omega
  rw[h2];have h3:=m_ (U*4294967296+zt) (show 0<Y by omega);unfold dh;rw[Zt8 (by omega) (by omega)];omega
 have zbH:R1<Y:=by rw[<-Vh];exact m_ _ (by omega)
 have mV:=Zmm (b:=cI) (show R1<18446744073709551616 by omega);have fL:ig R1 (dh (nX R1 cI) cI)=R1%cI:=by
  have h1:=wy R1 cI;rw[ki]at h1;have h2:dh (nX R1 cI) cI=R1/cI*cI:=by unfold dh nX;omega
  rw[h2,Hj (by omega) (by omega)];omega
 simp(disch:=first|(simp;done)|omega|(simp only[bu,cr,bl];omega)|rfl) [gI,Fz,zT,mV,fL];obtain⟨D0,A2⟩:∃D,(R1*4294967296+x_)/(cI*4294967296+nw)=D:=⟨_,rfl⟩;refine cB [(16,16),(18,18),(102,120)] (fun e r st=>e=.exit 2/\st=⟨h,N,[]⟩/\r.get 18=some (.int .u64 D0)) (DvI h N 18 R1 cI D0) (R1/cI) ?_ ?_ ?_
 ·exact⟨rfl,R1%cI,by simp[nX],by simp,Zvf,A2▸Yax hyp (by omega),Yaw Vg.2 (by omega) (by omega),Yav hyp hyb⟩
 ·rintro q r _ hr hf ⟨rfl,rh,hq,Cy,hu,hD,j_,IM⟩;rw[bG];obtain⟨P,hP⟩:∃P,P=q*nw:=⟨_,rfl⟩;obtain⟨R2,hR2⟩:∃P,P=4294967296*rh:=⟨_,rfl⟩;obtain⟨R3,hR3⟩:∃P,P=4294967296*rh+x_:=⟨_,rfl⟩;have m2:dh 4294967296 rh=R2:=by unfold dh;omega
  have m3:cU R2 x_=R3:=by unfold cU;omega
  have vE:(4294967296<=q\/R3<P)->0<q/\D0<=q-1:=by
   intro hc;have:D0<q:=by
    rcases hc with hc|hc
    ·have:D0<4294967296:=by rw[<-A2];exact(rV DO).2 (by omega)
     omega
    rw[<-A2];exact Zvo (Ya8 (b:=4294967296) hu (by omega))
   omega
  have tW:0<q->R1=(q-1)*cI+(rh+cI):=by intro hc;obtain⟨s,rfl⟩:∃s,q=s+1:=⟨q-1,by omega⟩;rw[hu,iR];simp;omega
  have fK:∀Kn,R1=(q-1)*cI+Kn->4294967296<=Kn->(q-1)*(cI*4294967296+nw)<=R1*4294967296+x_:=by intro Kn h1 h2;refine Ve h1 ?_;have:=oc (show q-1<=4294967296 by omega) (show nw<=4294967296 by omega);omega
  by_cases c1:4294967296<=q
  ·have c1':(4294967296:Int)<=(q:Int):=by omega
   obtain⟨g1,g2⟩:=vE (.inl c1);have s1:ig q 1=q-1:=Hj g1 (by omega);have s2:cU rh cI=rh+cI:=by unfold cU;omega
   by_cases c3:4294967296<=rh+cI
   ·have c3':(4294967296:Int)<=(rh:Int)+(cI:Int):=by omega
    simp[A.jt,hr,gI,hq,Cy,c1',c3',s1,s2,hf];have hd:=Nb DO (fK _ (tW g1) c3);rw[A2]at hd;omega
   have c3':¬(4294967296:Int)<=(rh:Int)+(cI:Int):=by omega
   simp[A.jt,hr,gI,hq,Cy,c1',c3',s1,s2,hf];exact⟨q-1,by omega,rfl,rh+cI,by simp,by simp,tW g1,g2,by omega,by omega⟩
  have c1':¬(4294967296:Int)<=(q:Int):=by omega
  have m1:dh q nw=P:=by have:=oc (show q<=4294967296 by omega) (show nw<=4294967295 by omega);unfold dh;omega
  by_cases c2:R3<P
  ·obtain⟨g1,g2⟩:=vE (.inr c2);have s1:ig q 1=q-1:=Hj g1 (by omega);have s2:cU rh cI=rh+cI:=by unfold cU;omega
   by_cases c3:4294967296<=rh+cI
   ·have c3':(4294967296:Int)<=(rh:Int)+(cI:Int):=by omega
    simp[A.jt,hr,gI,hq,Cy,c1',c2,c3',m1,m2,m3,s1,s2,hf];have hd:=Nb DO (fK _ (tW g1) c3);rw[A2]at hd;omega
   have c3':¬(4294967296:Int)<=(rh:Int)+(cI:Int):=by omega
   simp[A.jt,hr,gI,hq,Cy,c1',c2,c3',m1,m2,m3,s1,s2,hf];exact⟨q-1,by omega,rfl,rh+cI,by simp,by simp,tW g1,g2,by omega,by omega⟩
  simp[A.jt,hr,gI,hq,Cy,c1',c2,m1,m2,m3,hf];have hd:=Nb DO (Ve (b:=4294967296) (un:=x_) hu (by omega));rw[A2]at hd;omega
 rintro _ r2 _ xc ⟨rfl,rfl,h18⟩;obtain⟨R0,Bq⟩:∃R,(R1*4294967296+x_)%Y=R:=⟨_,rfl⟩;rw[<-Vg.1]at A2;have p_:ig (cU (dh R1 4294967296) x_) (dh D0 Y)=R0:=by
  have h1:=wy (R1*4294967296+x_) Y;rw[A2,Bq,ki Y]at h1;have h2:cU (dh R1 4294967296) x_=(R1*4294967296+x_)%18446744073709551616:=by unfold cU dh;omega
  rw[h2];have h3:=m_ (R1*4294967296+x_) (show 0<Y by omega);unfold dh;rw[Zt8 (by omega) (by omega)];omega
 have vf:D1<4294967296:=by rw[<-Cw];exact(rV (by omega)).2 (by omega)
 have qG:D0<4294967296:=by rw[<-A2];exact(rV (by omega)).2 (by omega)
 have ha:cU (dh D1 4294967296) D0=D1*4294967296+D0:=by unfold cU dh;omega
 obtain⟨e1,e2⟩:=Yd7 (b:=4294967296) (c:=18446744073709551616) (by decide) (u1:=U) (u0:=zt) (z:=x_) (show 0<Y by omega);rw[Vh,Cw,A2]at e1;rw[Vh,Bq]at e2;have e3:U*18446744073709551616+zt*4294967296+x_=(hi*18446744073709551616+lo)*2^s:=by rw[<-hA,hLd.1,pE]
 rw[e3,hYe,TX _ _ (sK s)]at e1;rw[e3,hYe,OV]at e2;have C7:ax R0 s=(hi*18446744073709551616+lo)%y:=by unfold ax;rw[<-e2,Nat.mul_div_cancel _ (sK s)]
 simp(disch:=first|(simp;done)|omega|(simp only[bu,cr,bl];omega)|rfl) [gI,xc,Fz,h18,p_,ha,ay];have e5:(hi:Int)*18446744073709551616+lo=((hi*18446744073709551616+lo:Nat):Int):=by omega
 refine⟨ab.refl,?_,?_⟩
 ·rw[e5,<-Int.natCast_ediv,e1];omega
 rw[e5,<-Int.natCast_emod,C7]
variable {P Y a b d k u v1:Nat} {l:List Nat}
def DD(h:l[k]?=some d):val b (l.drop k)=d+b*val b (l.drop (k+1)):=by
 have hk:k<l.length:=by apply u_;intro hc;rw[gl hc]at h;cases h
 rw[Je hk];rw[cj hk]at h;simp only[ar]at h;rw[h];rfl
def Hg(b:Nat)(l:List Nat)(k:Nat)(hk:k<=l.length):val b l=val b (l.take k)+b^k*val b (l.drop k):=by have:=Um b (l.take k) (l.drop k);rw[Et,iV,rP hk]at this;exact this
def Zy7{b:Nat}:∀{l:List Nat},(∀(t:Nat),t<l.length->l[t]?=some 0)->val b l=0
 |[],_=>rfl
 |d::l,h=>by
  have h0:=h 0 (by simp)
  simp at h0
  have:=Zy7 (b:=b) (l:=l) fun t ht=>by simpa using h (t+1) (by simp;omega)
  simp[val,h0,this]
def Yw5{α:Type}{l:List α}{d:α}(h:l[k]?=some d):k<l.length:=by apply u_;intro hc;rw[gl hc]at h;cases h
def Zg9(hz:∀t,k<=t->t<l.length->l[t]?=some 0):val b (l.drop k)=0:=by apply Zy7;intro t ht;rw[fU];rw[zX]at ht;exact hz _ (by omega) (by omega)
def Yjz{c:Nat}(ha:w[k]?=some a)(hc:w[k+1]?=some c)(hd:w[k+2]?=some d)(hz:∀t,k+3<=t->t<w.length->w[t]?=some 0):
  val b w=val b (w.take k)+b^k*(a+b*(d*b+c)):=by have:=Yw5 ha;rw[Hg b w k (by omega),DD ha,DD hc,DD hd,Zg9 hz];generalize b^k=p;grind
def Yj0{c:Nat}(ha:w[k]?=some a)(hc:w[k+1]?=some c)(hl:w.length=k+2):
  val b w=val b (w.take k)+b^k*(a+b*c):=by rw[Hg b w k (by omega),DD ha,DD hc,Df (by omega)];simp[val]
def Zoj(g:∀d∈l,d<b)(hk:k<=l.length):val b (l.take k)<b^k:=by have:=Hh (b:=b) (l:=l.take k) fun d hd=>g d (AG hd);rwa [iV,rP hk]at this
def Yw7{c:Nat}(hP:0<P)(EP:V'<P)(l8:v2<b)(hd:v1<=d)(hW:U'+P*(a+b*(d*b+c))<b*(V'+P*(v2+b*v1))):d=v1:=by
 apply Nat.le_antisymm _ hd;apply AK;intro aD;have h1:b*(P*(b*(v1+1)))<=b*(P*(b*d)):=mZ _ (mZ _ (mZ _ aD));have h2:V'+P*(v2+b*v1)<P*(b*(v1+1)):=by have:P*(v2+1)<=P*b:=mZ _ l8;grind
 have h3:b*(V'+P*(v2+b*v1))<=b*(P*(b*(v1+1))):=mZ _ (Nat.le_of_lt h2);have h4:b*(P*(b*d))<=U'+P*(a+b*(d*b+c)):=by
  have:P*(b*(d*b))=b*(P*(b*d)):=by grind
  have:P*(b*(d*b))<=P*(a+b*(d*b+c)):=mZ _ (by rw[vc];omega);omega
 omega
def Yw8{q:Nat}(hU:U'<P)(gp:u2<b)(hinv:u1=q*v1+r)(hr:r<v1):U'+P*(u2+b*u1)<(q+1)*(V'+P*(v2+b*v1)):=by
 have h1:u1+1<=(q+1)*v1:=by rw[hinv,iR];omega
 have h2:P*(b*(u1+1))<=P*(b*((q+1)*v1)):=mZ _ (mZ _ h1);have h3:P*(u2+1)<=P*b:=mZ _ gp;have h4:P*(b*((q+1)*v1))<=(q+1)*(V'+P*(v2+b*v1)):=by
  have:(q+1)*(V'+P*(v2+b*v1))=(q+1)*V'+P*((q+1)*v2)+P*(b*((q+1)*v1)):=by grind
  omega
 have h5:U'+P*(u2+b*u1)+P<=U'+P*(b*(u1+1)):=by grind
 omega
def xO(q v c:Nat):Nat:=bC (bC (q*v)+c)
def qe(q v c:Nat):Nat:=cU (cC (q*v)) (cC (bC (q*v)+c))
def Yr0{q c w:Nat}(hq:q<B)(hv:v<B)(hc:c<B)(hu:u<B)(hw:w<=1):
  fh u (xO q v c) w+q*v+c+w=u+B*(qe q v c+gK u (xO q v c) w)/\fh u (xO q v c) w<B/\qe q v c<B/\gK u (xO q v c) w<=1/\xO q v c<B:=by
 have:q*v<=18446744073709551615*18446744073709551615:=oc (by unfold B at*;omega) (by unfold B at*;omega);unfold qe xO;have h1:bC (bC (q*v)+c)+B*cU (cC (q*v)) (cC (bC (q*v)+c))=q*v+c/\cU (cC (q*v)) (cC (bC (q*v)+c))<B/\bC (bC (q*v)+c)<B:=by unfold bC cC cU;unfold B at*;generalize q*v=p at*;omega
 obtain⟨h1,h2,h3⟩:=h1;generalize bC (bC (q*v)+c)=l at*;generalize cU (cC (q*v)) (cC (bC (q*v)+c))=k at*;have h4:fh u l w+l+w=u+B*gK u l w/\fh u l w<B/\gK u l w<=1:=by unfold fh gK;unfold B at*;split<;>omega
 obtain⟨h4,h5,h6⟩:=h4;refine⟨?_,h5,h2,h6,h3⟩;rw[vc];omega
def Yqs{l w:Nat}(hl:l<B)(hu:u<B)(hw:w<=1):fh u l w+l+w=u+B*gK u l w/\fh u l w<B/\gK u l w<=1:=by unfold fh gK;unfold B at*;split<;>omega
def Yjl{c:Nat}(hv:v<B)(hu:u<B)(hc:c<=1):bC (u+v+c)+B*cC (u+v+c)=u+v+c/\bC (u+v+c)<B/\cC (u+v+c)<=1:=by unfold bC cC;unfold B at*;omega
def Px{b:Nat}:∀{l:List Nat} {k old v:Nat},l[k]?=some old->val b (l.set k v)+b^k*old=val b l+b^k*v
 |[],k,old,v,h=>by simp at h
 |d::l,0,old,v,h=>by simp at h;subst h;simp[val];omega
 |d::l,k+1,old,v,h=>by
  have ih:=Px (b:=b) (l:=l) (k:=k) (old:=old) (v:=v) (by simpa using h)
  simp only[List.set_cons_succ,val,iD]
  generalize val b (l.set k v)=p at*
  generalize val b l=q at*
  generalize b^k=z at*
  have:b*(p+z*old)=b*(q+z*v):=by rw[ih]
  grind
def Dg.vt(h:Dg l)(hv:v<B):Dg (l.set k v):=by
 intro d hd;rcases CV hd with hd|hd
 ·exact h d hd
 subst hd;exact hv
def Yww{W q U t c e:Nat}(hb:1<b)(hP:0<P)(hY:Y<P)(hU:U<P)(ht:t'<b)(he:e<=1)(h1:U+q*Y=W+P*c)(h2:t'+c=t+b*e)(h_:(q-1)*Y<=W+P*t)(iY:W+P*t<(q+1)*Y):
  (e=0->U+P*t'+q*Y=W+P*t/\U+P*t'<Y/\t'=0)/\(e=1->0<q/\U+P*t'+q*Y=W+P*t+P*b/\W+P*t<q*Y):=by
 have h3:P*t'+P*c=P*t+P*(b*e):=by rw[<-vc,h2,vc]
 constructor
 ·rintro rfl;simp only[Nat.mul_zero,iX]at h3;have h4:U+P*t'+q*Y=W+P*t:=by omega
  have h5:U+P*t'<Y:=by rw[iR]at iY;omega
  refine⟨h4,h5,?_⟩;rcases Jb t' with h|h
  ·exact h
  have:=mZ P h;omega
 rintro rfl;simp only[AL]at h3;have h4:U+P*t'+q*Y=W+P*t+P*b:=by omega
 have h5:P*(t'+1)<=P*b:=mZ _ ht;rw[vc]at h5;have h6:W+P*t<q*Y:=by omega
 refine⟨?_,h4,h6⟩;rcases Jb q with h|h
 ·subst h;omega
 exact h
def Ysn{q U T A c:Nat}(hP:0<P)(hY:Y<P)(hA:A<P)(hc:c<=1)(ht:t'<b)(hq:0<q)(h1:U+P*t'+q*Y=T+P*b)(h2:T<q*Y)(h_:(q-1)*Y<=T)(h3:A+P*c=U+Y):
  A+(q-1)*Y=T/\A<Y/\(t'+c)%b=0:=by
 obtain⟨s,rfl⟩:∃s,q=s+1:=⟨q-1,by omega⟩;simp only[Nat.add_sub_cancel]at*;rw[iR]at h1 h2;have h4:A+P*(t'+c)+s*Y=T+P*b:=by rw[vc];omega
 have h5:t'+c=b:=by
  rcases Nat.lt_trichotomy (t'+c) b with h|h|h
  ·have:=mZ P (show t'+c+1<=b from h);rw[vc P (t'+c)]at this;omega
  ·exact h
  omega
 rw[h5]at h4;refine⟨by omega,by omega,?_⟩;rw[h5,Nat.mod_self]
def Py:∀{k n:Nat},B^k<=n->n<B^(k+1)->(aJ n).length=k+1/\(aJ n)[k]?=some (n/B^k)
 |0,n,h1,h2=>by
  have h0:n≠0:=by
   rw[GB]at h1;omega
  rw[oJ h0]
  have h3:n/B=0:=BN (by simpa using h2)
  rw[h3,tP]
  simp
  exact Ad (by simpa using h2)
 |k+1,n,h1,h2=>by
  have hB:0<B:=by decide
  have hp:0<B^(k+1):=BM hB
  have h0:n≠0:=by omega
  have h3:B^k<=n/B:=(Mg hB).2 (by rw[<-iD];exact h1)
  have h4:n/B<B^(k+1):=(rV hB).2 (by rw[<-iD];exact h2)
  obtain⟨e1,e2⟩:=Py h3 h4
  rw[oJ h0]
  refine⟨by simp[e1],?_⟩
  rw[Gw,e2,Jf,iD,ki (B^k)]
def Yn1(h:(aJ n).length≠0):n≠0:=by rintro rfl;exact h (by rw[tP];rfl)
def JU:∀{k n:Nat},(aJ n).length=k+1->B^k<=n/\n<B^(k+1)
 |0,n,h=>by
  have h0:=Yn1 (n:=n) (by omega)
  rw[oJ h0]at h
  have h1:(aJ (n/B)).length=0:=by simpa using h
  have h2:n/B=0:=by
   by_cases hc:n/B=0
   ·exact hc
   ·rw[oJ hc]at h1;simp at h1
  have:=(Nat.div_eq_zero_iff).1 h2
  rcases this with hb|hb
  ·exact absurd hb (by decide)
  ·simp;omega
 |k+1,n,h=>by
  have h0:=Yn1 (n:=n) (by omega)
  rw[oJ h0]at h
  obtain⟨h1,h2⟩:=JU (k:=k) (n:=n/B) (by simpa using h)
  have hB:0<B:=by decide
  exact⟨by rw[iD];exact(Mg hB).1 h1,by rw[iD];exact(rV hB).1 h2⟩
def Yjx{t:Nat}(hl:(aJ b).length=k+1)(ht:(aJ b)[k]?=some t)(h1:9223372036854775808<=t*2^s)(h2:t*2^s<18446744073709551616)(hs:s<=64):
  (aJ (b*2^s)).length=k+1/\∃v1,(aJ (b*2^s))[k]?=some v1/\9223372036854775808<=v1:=by
 obtain⟨b1,b2⟩:=JU hl;have hp:0<B^k:=BM (by decide);have th:=sK s;have htd:t=b/B^k:=by have:=(Py b1 b2).2;rw[ht]at this;exact px this
 have b3:t*B^k<=b:=by rw[htd];exact Nat.div_mul_le_self _ _
 have b4:b<(t+1)*B^k:=by rw[htd];exact(rV hp).1 (xx _)
 have c1:9223372036854775808*B^k<=b*2^s:=by
  have e1:=kg (B^k) h1;have e2:=kg (2^s) b3;have e3:t*2^s*B^k=t*B^k*2^s:=by grind
  omega
 have c2:b*2^s<B^(k+1):=by
  have e0:t+1<=2^(64-s):=by
   have:t<2^(64-s):=by apply Nat.lt_of_mul_lt_mul_right (a:=2^s);rw[<-mT,show 64-s+s=64 by omega];exact h2
   omega
  have e1:=kg (2^s) e0;rw[<-mT,show 64-s+s=64 by omega]at e1;have e2:=Mi b4 th;have e3:=kg (B^k) e1;have e4:(t+1)*2^s*B^k=(t+1)*B^k*2^s:=by grind
  rw[iD,ki];have e5:(2^64:Nat)*B^k=B^k*B:=by unfold B;rw[ki]
  rw[ki b]at e2;omega
 have c0:B^k<=b*2^s:=by omega
 obtain⟨d1,d2⟩:=Py c0 c2;exact⟨d1,_,d2,(Mg hp).2 c1⟩
def Ye3(hU:val B U=a*2^s)(hl:U.length=la+1)(hm:m+k+1=la+1)(yO:m<=U.length)(ha:a<B^la)(hs:s<64)(hv:9223372036854775808<=v1)(hY:v1*B^k<=Y):val B (U.drop m)<Y:=by
 have h1:=Hg B U m yO;have h2:B^m*val B (U.drop m)<B^la*2^s:=by have:=Mi ha (sK s);omega
 have h3:(2:Nat)^s<=9223372036854775808:=(rL (by decide) (show s<=63 by omega):(2:Nat)^s<=2^63);have h4:B^la=B^m*B^k:=by rw[<-mT];congr 1;omega
 rw[h4,GA]at h2;have h5:=Nat.lt_of_mul_lt_mul_left h2;have h6:=mZ (B^k) h3;have h7:=mZ (B^k) hv;rw[ki v1]at hY;omega
end
end Go.Mx
