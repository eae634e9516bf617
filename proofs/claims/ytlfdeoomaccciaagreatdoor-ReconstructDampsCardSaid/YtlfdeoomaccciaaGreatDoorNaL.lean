/-bits-/
import Derived.Test.YtlfdeoomaccciaaGreatDoorRcL
set_option linter.all false
namespace Go.Mx
noncomputable section
open Go Go.Proofs
variable {n:Nat}
set_option maxHeartbeats 2000000
set_option maxRecDepth 1000000
def Yrn:List UInt8:=[0,1,2,2,3,3,3,3,4,4,4,4,4,4,4,4,5,5,5,5,5,5,5,5,5,5,5,5,5,5,5,5,6,6,6,6,6,6,6,6,6,6,6,6,6,6,6,6,6,6,6,6,6,6,6,6,6,6,6,6,6,6,6,6,7,7,7,7,7,7,7,7,7,7,7,7,7,7,7,7,7,7,7,7,7,7,7,7,7,7,7,7,7,7,7,7,7,7,7,7,7,7,7,7,7,7,7,7,7,7,7,7,7,7,7,7,7,7,7,7,7,7,7,7,7,7,7,7,8,8,8,8,8,8,8,8,8,8,8,8,8,8,8,8,8,8,8,8,8,8,8,8,8,8,8,8,8,8,8,8,8,8,8,8,8,8,8,8,8,8,8,8,8,8,8,8,8,8,8,8,8,8,8,8,8,8,8,8,8,8,8,8,8,8,8,8,8,8,8,8,8,8,8,8,8,8,8,8,8,8,8,8,8,8,8,8,8,8,8,8,8,8,8,8,8,8,8,8,8,8,8,8,8,8,8,8,8,8,8,8,8,8,8,8,8,8,8,8,8,8,8,8,8,8,8,8]
def A.b249:bO:=sr [mc 2 0]
 (.seq (sr [mv 3 0,ge 4 (.bin .geq (.node []) false (tq 3) (.const (.int .u64 4294967296)))]
 (cd 4
 (sr [mv 5 0,ge 6 (.bin .shr (.node []) false (tq 5) (.const (.int .u64 32))),mv 0 6]
 (.dP [mc 2 32]))
 (.skip)))
 (.seq (sr [mv 7 0,ge 8 (.bin .geq (.node []) false (tq 7) (.const (.int .u64 65536)))]
 (cd 8
 (sr [mv 9 0,ge 10 (.bin .shr (.node []) false (tq 9) (.const (.int .u64 16))),mv 0 10]
 (.dP [mv 11 2,bc 12 .add 11 16,mv 2 12]))
 (.skip)))
 (.seq (sr [mv 13 0,ge 14 (.bin .geq (.node []) false (tq 13) (.const (.int .u64 256)))]
 (cd 14
 (sr [mv 15 0,ge 16 (.bin .shr (.node []) false (tq 15) (.const (.int .u64 8))),mv 0 16]
 (.dP [mv 17 2,bc 18 .add 17 8,mv 2 18]))
 (.skip)))
 (sr [mv 19 2,mv 20 0,ge 21 (.cP .u8 (tq 20)),ge 22 (.bI (.const (.str Yrn)) (tq 21)),ge 23 (.cP .i64 (tq 22)),bi 24 .add 19 23,mv 2 24]
 (.ret)))))
def A.k249:=@A.kk 249 25 [.tmp 2] A.b249 (by kernel_rfl) rfl
def A.b252:=A.q Tryz.f252
def A.k252:=@A.kk 252 6 [.tmp 2] A.b252 (by kernel_rfl) rfl
def aX(n:Nat):Nat:=if n=0 then 0 else Nat.log2 n+1
def Rm(n:Nat):n<2^aX n:=by
 unfold aX
 split
 ·simp[*]
 ·exact Nat.lt_log2_self
def J1(h:n≠0):2^(aX n-1)<=n:=by
 unfold aX
 rw[ak h]
 exact Nat.log2_self_le h
def Yps{k:Nat}(h1:2^k<=n)(h2:n<2^(k+1)):aX n=k+1:=by
 have hn:n≠0:=by have:=qy k;omega
 unfold aX
 rw[ak hn]
 congr 1
 have h3:Nat.log2 n<k+1:=(Nat.log2_lt hn).2 h2
 have h4:k<=Nat.log2 n:=(Nat.le_log2 hn).2 h1
 omega
def zk{k:Nat}(h:2^k<=n):aX (au n k)+k=aX n:=by
 unfold au
 have h0:n/2^k≠0:=by
  have:=Nat.div_pos h (qy k);omega
 have h1:=Rm (n/2^k)
 have h2:=J1 h0
 have hp:0<aX (n/2^k):=by unfold aX;rw[ak h0];omega
 have e:aX (n/2^k)+k=(aX (n/2^k)-1+k)+1:=by omega
 rw[e]
 symm
 apply Yps
 ·rw[kf]
  exact tk (mr _ h2) (Nat.div_mul_le_self n _)
 ·rw[show aX (n/2^k)-1+k+1=aX (n/2^k)+k by omega,kf]
  exact(qc (qy k)).1 h1
def Fb:∀{n:Nat},n<256->Yrn[n]?=some (UInt8.ofNat (aX n)):=by decide+kernel
def Dd:∀{n:Nat},n<256->aX n<9:=by decide+kernel
def Fe(h:n<256):cI (UInt8.ofNat (aX n))=(aX n:Int):=by
 have:=Dd h
 unfold cI
 simp;omega
def YD{h:T O}{N:Nat}{x:Nat}(hx:x<18446744073709551616):Fn A.C 249 [.int .u64 x] h N (fun v' h' N'=>h'=h/\N'=N/\v'=.int .i64 (aX x:Nat)):=by
 intro w
 rw[aN,A.k249 (by simp)]
 by_cases h0:4294967296<=x
 ·have jU:(4294967296:Int)<=((x:Nat):Int):=by omega
  by_cases h1:65536<=au (x) 32
  ·have fL:(65536:Int)<=((au (x) 32:Nat):Int):=by omega
   by_cases h2:256<=au (au (x) 32) 16
   ·have mq:(256:Int)<=((au (au (x) 32) 16:Nat):Int):=by omega
    have hb:au (au (au (x) 32) 16) 8<256:=by (try simp only[au]at*);omega
    have ht:=Fb hb
    have hv:cI (UInt8.ofNat (aX (au (au (au (x) 32) 16) 8)))=(aX (au (au (au (x) 32) 16) 8):Int):=Fe hb
    have hl:=Dd hb
    simp(disch:=omega) [A.b249,jU,fL,mq,BA,ht,hv,aA]
    have:=zk (k:=32) (n:=x) h0
    have:=zk (k:=16) (n:=au (x) 32) h1
    have:=zk (k:=8) (n:=au (au (x) 32) 16) h2
    first|exact ab.refl|exact And.intro ab.refl (by omega)
   ·have mq:¬(256:Int)<=((au (au (x) 32) 16:Nat):Int):=by omega
    have hb:au (au (x) 32) 16<256:=by (try simp only[au]at*);omega
    have ht:=Fb hb
    have hv:cI (UInt8.ofNat (aX (au (au (x) 32) 16)))=(aX (au (au (x) 32) 16):Int):=Fe hb
    have hl:=Dd hb
    simp(disch:=omega) [A.b249,jU,fL,mq,BA,ht,hv,aA]
    have:=zk (k:=32) (n:=x) h0
    have:=zk (k:=16) (n:=au (x) 32) h1
    first|exact ab.refl|exact And.intro ab.refl (by omega)
  ·have fL:¬(65536:Int)<=((au (x) 32:Nat):Int):=by omega
   by_cases h2:256<=au (x) 32
   ·have mq:(256:Int)<=((au (x) 32:Nat):Int):=by omega
    have hb:au (au (x) 32) 8<256:=by (try simp only[au]at*);omega
    have ht:=Fb hb
    have hv:cI (UInt8.ofNat (aX (au (au (x) 32) 8)))=(aX (au (au (x) 32) 8):Int):=Fe hb
    have hl:=Dd hb
    simp(disch:=omega) [A.b249,jU,fL,mq,BA,ht,hv,aA]
    have:=zk (k:=32) (n:=x) h0
    have:=zk (k:=8) (n:=au (x) 32) h2
    first|exact ab.refl|exact And.intro ab.refl (by omega)
   ·have mq:¬(256:Int)<=((au (x) 32:Nat):Int):=by omega
    have hb:au (x) 32<256:=by (try simp only[au]at*);omega
    have ht:=Fb hb
    have hv:cI (UInt8.ofNat (aX (au (x) 32)))=(aX (au (x) 32):Int):=Fe hb
    have hl:=Dd hb
    simp(disch:=omega) [A.b249,jU,fL,mq,BA,ht,hv,aA]
    have:=zk (k:=32) (n:=x) h0
    first|exact ab.refl|exact And.intro ab.refl (by omega)
 ·have jU:¬(4294967296:Int)<=((x:Nat):Int):=by omega
  by_cases h1:65536<=x
  ·have fL:(65536:Int)<=((x:Nat):Int):=by omega
   by_cases h2:256<=au (x) 16
   ·have mq:(256:Int)<=((au (x) 16:Nat):Int):=by omega
    have hb:au (au (x) 16) 8<256:=by (try simp only[au]at*);omega
    have ht:=Fb hb
    have hv:cI (UInt8.ofNat (aX (au (au (x) 16) 8)))=(aX (au (au (x) 16) 8):Int):=Fe hb
    have hl:=Dd hb
    simp(disch:=omega) [A.b249,jU,fL,mq,BA,ht,hv,aA]
    have:=zk (k:=16) (n:=x) h1
    have:=zk (k:=8) (n:=au (x) 16) h2
    first|exact ab.refl|exact And.intro ab.refl (by omega)
   ·have mq:¬(256:Int)<=((au (x) 16:Nat):Int):=by omega
    have hb:au (x) 16<256:=by (try simp only[au]at*);omega
    have ht:=Fb hb
    have hv:cI (UInt8.ofNat (aX (au (x) 16)))=(aX (au (x) 16):Int):=Fe hb
    have hl:=Dd hb
    simp(disch:=omega) [A.b249,jU,fL,mq,BA,ht,hv,aA]
    have:=zk (k:=16) (n:=x) h1
    first|exact ab.refl|exact And.intro ab.refl (by omega)
  ·have fL:¬(65536:Int)<=((x:Nat):Int):=by omega
   by_cases h2:256<=x
   ·have mq:(256:Int)<=((x:Nat):Int):=by omega
    have hb:au (x) 8<256:=by (try simp only[au]at*);omega
    have ht:=Fb hb
    have hv:cI (UInt8.ofNat (aX (au (x) 8)))=(aX (au (x) 8):Int):=Fe hb
    have hl:=Dd hb
    simp(disch:=omega) [A.b249,jU,fL,mq,BA,ht,hv,aA]
    have:=zk (k:=8) (n:=x) h2
    first|exact ab.refl|exact And.intro ab.refl (by omega)
   ·have mq:¬(256:Int)<=((x:Nat):Int):=by omega
    have hb:x<256:=by (try simp only[au]at*);omega
    have ht:=Fb hb
    have hv:cI (UInt8.ofNat (aX (x)))=(aX (x):Int):=Fe hb
    have hl:=Dd hb
    simp(disch:=omega) [A.b249,jU,fL,mq,BA,ht,hv,aA]
    first|exact ab.refl|exact And.intro ab.refl (by omega)
def Ydo{h:T O}{N:Nat}{x:Nat}(hx:x<18446744073709551616):Fn A.C 252 [.int .u64 x] h N (fun v' h' N'=>h'=h/\N'=N/\v'=.int .i64 ((64-aX x:Nat))):=by
 intro w
 have hl:aX x<=64:=by
  by_cases h0:x=0
  ·subst h0;decide
  ·apply yY
   intro hc
   have:=J1 h0
   have:2^64<=2^(aX x-1):=qz (by decide) (by omega)
   omega
 rw[aN,A.k252 (by simp)]
 simp[A.b252]
 refine aB (YD hx) ?_
 rintro _ _ _ hk ⟨rfl,rfl,rfl⟩
 simp(disch:=omega) [aA]
 exact⟨hk,by omega⟩
variable {s x:Nat}
set_option maxHeartbeats 2000000
def A.M5:=A.q Tryz.f253
def A.nf:=A.ql A.M5 0 []
def A.b253:=(fun x0=>A.qb A.M5 [x0]) A.nf
def A.k253:=@A.kk 253 40 [.tmp 4] A.b253 (by kernel_rfl) rfl
def Q9{c:Nat}(hs:s<64)(hc:c<2^s):jq c (bK x s)=c+bK x s:=by
 unfold jq bK
 have e:x*2^s%18446744073709551616=(x%2^(64-s))<<<s:=by
  rw[Nat.shiftLeft_eq]
  have:(18446744073709551616:Nat)=2^(64-s)*2^s:=by rw[<-kf,show 64-s+s=64 by omega]
  rw[this,K3]
 rw[e,Nat.or_comm,Nat.add_comm,Nat.shiftLeft_add_eq_or_of_lt hc]
def Yb2(hs:s<=64):bK x s+B*au x (64-s)=x*2^s:=by
 unfold bK au
 have e:x/2^(64-s)=x*2^s/18446744073709551616:=by
  have:(18446744073709551616:Nat)=2^(64-s)*2^s:=by rw[<-kf,show 64-s+s=64 by omega]
  rw[this,Qa _ _ (qy s)]
 rw[e]
 have:=uD (x*2^s) 18446744073709551616
 unfold B
 omega
def Yki(hx:x<B)(hs:s<=64):au x (64-s)<2^s:=by
 unfold au
 apply (qc (qy _)).2
 rw[<-kf,show s+(64-s)=64 by omega]
 exact hx
def Zpl{c:Nat}(hs:s<64)(hc:c<2^s):c+bK x s<B:=by
 rw[<-Q9 hs hc]
 unfold jq
 apply Nat.or_lt_two_pow (n:=64)
 ·exact Nat.lt_trans hc (Nat.pow_lt_pow_right (by decide) hs)
 ·exact X8
structure ShJ (h:T O) (N:Nat) (l:List Nat) (s k:Nat) (o:List Nat) (c:Nat) (r:T V) (st:St):Prop where
 hk:k<=l.length
 J3:r.get 14=some (.int .i64 k)
 n:st.n=N+1
 w:av N st.w=[]
 ae:ab h N st.h (N+1)
 row:st.h.get N=some (.cells (dg o) 191 true)
 len:o.length=l.length+1
 dg:Dg o
 zero:∀t,k<t->t<o.length->o[t]?=some 0
 top:o[k]?=some c
 lc:c<2^s
 ex:val B o=val B (l.take k)*2^s
def ShI(h:T O)(N:Nat)(l:List Nat)(s m:Nat)(r:T V)(st:St):Prop:=∃k o c,m=l.length-k/\ShJ h N l s k o c r st
def ShE(h:T O)(N:Nat)(l:List Nat)(s:Nat)(r:T V)(st:St):Prop:=∃o c,ShJ h N l s l.length o c r st
def Zpn{h:T O}{N:Nat}{v:V}{l:List Nat}(hv:Sl h N v (Go.Mx.dg l))(hd:Dg l)(hs:s<64)(hl:l.length<1099511627776):Fn A.C 253 [v,.int .i64 s] h N (fun v' h' N'=>∃i o,N<=i/\i<N'/\v'=.slice i 0 (l.length+1) (some (l.length+1)) 1/\h'.get i=some (.cells (dg o) 191 true)/\o.length=l.length+1/\Dg o/\val B o=val B l*2^s):=by
 intro w
 have lx:=hv.len
 rw[bC]at lx
 rw[aN,A.k253 (by simp)]
 simp(disch:=first|(simp;done)|omega|(simp only[bC,cB,bp];omega)|rfl) [A.b253,lx]
 refine bG [(6,7),(14,38)] (fun e r st=>e=.exit 0/\ShE h N l s r st) (ShI h N l s) l.length ?_ ?_ ?_
 ·refine⟨0,List.replicate (l.length+1) 0,0,by omega,⟨by omega,by simp,by simp,by simp,ab.refl.set (aQ _) |>.up (by omega),by simp[Hq],by simp,?_,?_,by simp,qy s,by simp[val,Zr8]⟩⟩
  ·intro d hd
   rw[Jh]at hd
   rw[hd.2];decide
  ·intro t _ ht
   simp at ht
   simp[ht]
 ·rintro m r ⟨H,n1,W⟩ hr hf ⟨k,o,c,rfl,hk,oQ,hn,hW,hK,hN,ho,J4,hz,hc,BE,he⟩
  simp only at hn hW hK hN
  subst hn
  rw[bk]
  by_cases ax:k<l.length
  ·obtain⟨i1,o1,c1,e1,w1,p1,p2,p3,p4⟩:=hv.at (fu (c9 ax))
   have p3:=(hK.get _ p2).trans p3
   have gx:=c9 ax
   generalize l[k]=x at*
   have hx:x<B:=hd.get gx
   have YC:c<18446744073709551616:=J4.get hc
   have uP:=Q9 (x:=x) hs BE
   have cX:=Zpl (x:=x) hs BE
   obtain⟨z,YE⟩:∃z,c+bK x s=z:=⟨_,rfl⟩
   rw[YE]at uP cX
   have zai:(o.set k z).length=l.length+1:=by simp[ho]
   have EG:=Yb2 (x:=x) (s:=s) (by omega)
   have cy:=Yki hx (s:=s) (by omega)
   have v1:=M6 (b:=B) (v:=z) hc
   have yw:(o.set k z)[k+1]?=some 0:=by
    rw[dW (by omega)];exact hz _ (by omega) (by omega)
   have v2:=M6 (b:=B) (v:=au x (64-s)) yw
   by_cases h0:0<s
   ·have jU:(0:Int)<(s:Int):=by omega
    simp(disch:=first|(simp;done)|omega|(simp only[bC,cB,bp];omega)|rfl) [-getElem?_pos,A.nf,hr,oQ,ax,lx,p1,p3,p4,hN,fu hc,uP,pL,h0,hf]
    refine⟨_,by omega,k+1,(o.set k z).set (k+1) (au x (64-s)),au x (64-s),rfl,⟨by omega,by simp,rfl,by simp[hW],(hK.set (aQ _)).set (aQ _),by simp,by simp[ho],(J4.set cX).set (eY cy (qz (by decide) (by omega):2^s<=2^64)),?_,gK (by omega),cy,?_⟩⟩
    ·intro t t1 t2
     rw[dW (by omega),dW (by omega)]
     exact hz t (by omega) (by simpa using t2)
    ·rw[ET gx,iU,<-he]
     rw[<-YE]at v1 v2 ⊢
     have e3:B^k*(bK x s+B*au x (64-s))=B^k*(x*2^s):=by rw[EG]
     rw[fZ]at v2
     generalize val B ((o.set k (c+bK x s)).set (k+1) (au x (64-s)))=z1 at*
     generalize val B (o.set k (c+bK x s))=z2 at*
     generalize val B o=z3 at*
     generalize bK x s=z4 at*
     generalize au x (64-s)=z5 at*
     generalize B^k=z6 at*
     grind
   ·have jU:¬(0:Int)<(s:Int):=by omega
    simp(disch:=first|(simp;done)|omega|(simp only[bC,cB,bp];omega)|rfl) [-getElem?_pos,A.nf,hr,oQ,ax,lx,p1,p3,p4,hN,fu hc,uP,pL,h0,hf]
    have tl:s=0:=by omega
    subst tl
    have fQ:c=0:=by simpa using BE
    subst fQ
    have e0:bK x 0=x:=by unfold bK;unfold B at hx;simp;omega
    have qk:z=x:=by rw[<-YE,e0];omega
    subst qk
    refine⟨_,by omega,k+1,o.set k z,0,rfl,⟨by omega,by simp,rfl,by simp[hW],hK.set (aQ _),by simp,by simp[ho],J4.set hx,?_,?_,by decide,?_⟩⟩
    ·intro t t1 t2
     rw[dW (by omega)]
     exact hz t (by omega) (by simpa using t2)
    ·rw[dW (by omega)];exact hz _ (by omega) (by omega)
    ·rw[ET gx,iU,<-he]
     simpa using v1
  ·have:k=l.length:=by omega
   subst this
   simp[A.nf,hr,oQ,hf]
   exact⟨o,c,⟨by omega,by simp[oQ],rfl,hW,hK,hN,ho,J4,hz,hc,BE,he⟩⟩
 ·rintro _ r ⟨H,n1,W⟩ hr ⟨rfl,o,c,hk,oQ,hn,hW,hK,hN,ho,J4,hz,hc,BE,he⟩
  simp only at hn hW hK hN
  subst hn
  simp[hr,hN,aA]
  rw[eZ (aQ _)]at he
  exact⟨hW,hK,N,aQ _,by omega,rfl,o,hN,ho,J4,he⟩
open Go
variable {b r:Nat}
def Rn{u un cm lD q:Nat}(hi:u=q*cm+r)(hc:q*lD<=b*r+un):q*(cm*b+lD)<=u*b+un:=by
 subst hi
 rw[tA,iU,<-D7,jk r b]
 omega
def Zx3{u un cm lD q:Nat}(hi:u=q*cm+r)(hc:b*r+un<q*lD):u*b+un<q*(cm*b+lD):=by
 subst hi
 rw[tA,iU,<-D7,jk r b]
 omega
def Ztt{a y q:Nat}(h:a<q*y):a/y<q:=by
 rcases F4 y with rfl|hy
 ·simp at h
 ·exact(qc hy).2 h
def J5{a y q:Nat}(hy:0<y)(h:q*y<=a):q<=a/y:=(Jj hy).2 h
def Yob{P u1 u2 U' v1 v2 V' s:Nat}(oC:0<v1)(CJ:V'<P)(ht:s<=b)(hinv:u1=(s+1)*v1+r)(hc:(s+1)*v2<=r*b+u2):
  s*(V'+P*(v2+b*v1))<=U'+P*(u2+b*u1):=by
 have h1:s*V'<=b*P:=wS ht (by omega)
 have h2:b*P*1<=b*P*v1:=kY _ oC
 have h3:P*((s+1)*v2)<=P*(r*b+u2):=kY _ hc
 have h4:P*((s+1)*v2)=P*(s*v2)+P*v2:=by grind
 have h5:s*(V'+P*(v2+b*v1))=s*V'+P*(s*v2)+b*(P*(s*v1)):=by grind
 have h6:U'+P*(u2+b*u1)=U'+P*(r*b+u2)+b*(P*(s*v1))+b*P*v1:=by subst hinv;grind
 omega
def Yoa{P u1 u2 U' v1 v2 V' t:Nat}(CI:U'<P)(hinv:u1=t*v1+r)(hc:r*b+u2<t*v2):
  U'+P*(u2+b*u1)<t*(V'+P*(v2+b*v1)):=by
 have h3:P*(r*b+u2+1)<=P*(t*v2):=kY _ hc
 have h5:t*(V'+P*(v2+b*v1))=t*V'+P*(t*v2)+b*(P*(t*v1)):=by grind
 have h6:U'+P*(u2+b*u1)+P=U'+P*(r*b+u2+1)+b*(P*(t*v1)):=by subst hinv;grind
 omega
variable {b u y:Nat}
set_option maxHeartbeats 8000000
def A.HJ:=A.q Tryz.f251
def A.iB:=A.ql A.HJ 1 []
def A.iC:=A.ql A.HJ 0 []
def A.b251:=(fun x0 x1=>A.qb A.HJ [x0,x1]) A.iC A.iB
def A.k251:=@A.kk 251 135 [.tmp 6,.tmp 7] A.b251 (by kernel_rfl) rfl
structure DvI (h:T O) (N:Nat) (k1 u cm D m:Nat) (r:T V) (st:St):Prop where
 st:st=⟨h,N,[]⟩
 ex:∃rh:Nat,r.get k1=some (.int .u64 m)/\r.get 16=some (.int .u64 rh)/\u=m*cm+rh/\D<=m/\m<=4294967297/\rh<4294967296
def Ykv(h0:¬y=0)(h:y<18446744073709551616):9223372036854775808<=y*2^(64-aX y)/\y*2^(64-aX y)<18446744073709551616/\64-aX y<64:=by
 have h1:=Rm y
 have h2:=J1 h0
 have hp:0<aX y:=by unfold aX;rw[ak h0];omega
 have hl:aX y<=64:=by
  apply yY
  intro hc
  have:2^64<=2^(aX y-1):=qz (by decide) (by omega)
  omega
 refine⟨?_,?_,by omega⟩
 ·have:=mr (2^(64-aX y)) h2
  rw[<-kf,show aX y-1+(64-aX y)=63 by omega]at this
  exact this
 ·have:=IE h1 (qy (64-aX y))
  rw[<-kf,show aX y+(64-aX y)=64 by omega]at this
  exact this
def YF{a:Nat}(h:a<18446744073709551616):bl .u64 ((a:Int)/(b:Int))=(mB a b:Nat):=by
 have e:((a:Int)/(b:Int))=((a/b:Nat):Int):=rfl
 have:=vu a b
 rw[e,EP (Int.natCast_nonneg _) (Int.ofNat_lt.2 (show a/b<18446744073709551616 by omega))]
 rfl
def Zse{a c:Nat}(h:c<=a)(hr:a-c<18446744073709551616):fP (a%18446744073709551616) (c%18446744073709551616)=a-c:=by
 unfold fP
 split<;>omega
def Yau{c u1 u0 z Y:Nat}(hc:c=b*b)(hY:0<Y):(u1*c+u0*b+z)/Y=(u1*b+u0)/Y*b+((u1*b+u0)%Y*b+z)/Y/\(u1*c+u0*b+z)%Y=((u1*b+u0)%Y*b+z)%Y:=by
 subst hc
 have h:=uD (u1*b+u0) Y
 have e:u1*(b*b)+u0*b+z=Y*((u1*b+u0)/Y*b)+((u1*b+u0)%Y*b+z):=by
  generalize (u1*b+u0)/Y=D at*
  generalize (u1*b+u0)%Y=R at*
  have:(Y*D+R)*b=(u1*b+u0)*b:=by rw[h]
  grind
 rw[e,Nat.mul_add_div hY,Nat.mul_add_mod]
 exact⟨rfl,rfl⟩
def Ztj:u=u/y*y+u%y:=by
 have:=uD u y
 rw[jk]at this
 exact this.symm
def Zxr(h:0<y)(hb:y<=b):u%y<b:=eY (kZ _ h) hb
def Zxt{un cm lD:Nat}(h:0<cm)(hn:un<4294967296):(u*4294967296+un)/(cm*4294967296+lD)<=u/cm:=by
 have h1:(u*4294967296+un)/(cm*4294967296+lD)<=(u*4294967296+un)/(cm*4294967296):=Nat.div_le_div_left (by omega) (by omega)
 have h2:(u*4294967296+un)/(cm*4294967296)=u/cm:=by
  rw[jk cm,<-Gk,show (u*4294967296+un)/4294967296=u by omega]
 rw[h2]at h1
 exact h1
def Zxs{cm lD:Nat}(h0:lD<4294967296)(h:2147483648<=cm)(hu:u<cm*4294967296+lD):u/cm<=4294967297:=by
 apply Nat.le_of_lt_succ
 apply (qc (by omega)).2
 omega
def Zxz{h:T O}{N:Nat}{hi lo:Nat}(hy:hi<y)(Hw:y<18446744073709551616)(fO:lo<18446744073709551616):Fn A.C 251 [.int .u64 hi,.int .u64 lo,.int .u64 y] h N (fun v h' N'=>h'=h/\N'=N/\v=.aV [.int .u64 ((hi*18446744073709551616+lo)/y:Nat),.int .u64 ((hi*18446744073709551616+lo)%y:Nat)]):=by
 intro w
 have xG:¬y=0:=by omega
 have hle:¬y<=hi:=by omega
 rw[aN,A.k251 (by simp)]
 by_cases h0:hi=0
 ·subst h0
  have hq:=YF (b:=y) fO
  simp[A.b251,xG,hle,aE,ct.cv,aA,hq,MG,mB]
  exact ab.refl
 ·simp[A.b251,xG,hle,h0,aE]
  refine aB (Ydo Hw) ?_
  rintro _ h N hk ⟨rfl,rfl,rfl⟩
  obtain⟨n1,n2,n3⟩:=Ykv xG Hw
  generalize 64-aX y=s at*
  have hw:bl .u64 (s:Int)=(s:Int):=EP (by omega) (by omega)
  have Ba:bl .u64 (64-(s:Int))=((64-s:Nat):Int):=by rw[EP (by omega) (by omega)];omega
  obtain⟨Y,hY⟩:∃Y,bK y s=Y:=⟨_,rfl⟩
  have hYe:Y=y*2^s:=by rw[<-hY];unfold bK;omega
  obtain⟨cm,M7⟩:∃x,au Y 32=x:=⟨_,rfl⟩
  obtain⟨lD,M8⟩:∃x,eM Y=x:=⟨_,rfl⟩
  obtain⟨U,hU⟩:∃x,jq (bK hi s) (au lo (64-s))=x:=⟨_,rfl⟩
  obtain⟨L,hL⟩:∃x,bK lo s=x:=⟨_,rfl⟩
  obtain⟨xH,M9⟩:∃x,au L 32=x:=⟨_,rfl⟩
  obtain⟨vY,Na⟩:∃x,eM L=x:=⟨_,rfl⟩
  have hYB:Y<18446744073709551616:=by omega
  have hLB:L<18446744073709551616:=by rw[<-hL];exact X8
  have Ro:Y=cm*4294967296+lD/\lD<4294967296:=by
   rw[<-M7,<-M8];unfold au eM;omega
  have hLd:L=xH*4294967296+vY/\vY<4294967296:=by
   rw[<-M9,<-Na];unfold au eM;omega
  have hA:U*18446744073709551616+L=(hi*18446744073709551616+lo)*2^s:=by
   have e1:=Q9 (x:=hi) n3 (Yki (x:=lo) (s:=s) fO (by omega))
   have e2:=Yb2 (x:=lo) (s:=s) (by omega)
   have e3:bK hi s=hi*2^s:=by
    unfold bK
    have:=IE hy (qy s)
    omega
   have e4:U=au lo (64-s)+hi*2^s:=by
    rw[<-hU,<-e3,<-e1];unfold jq;exact Nat.or_comm _ _
   rw[hL]at e2
   unfold B at e2
   rw[e4,iU (hi*18446744073709551616),<-e2]
   have:hi*18446744073709551616*2^s=hi*2^s*18446744073709551616:=by grind
   omega
  have hUY:U<Y:=by
   have h1:hi*18446744073709551616+lo<y*18446744073709551616:=by omega
   have h2:=IE h1 (qy s)
   have h3:y*18446744073709551616*2^s=y*2^s*18446744073709551616:=by grind
   omega
  have hsr:au lo (64-s)<18446744073709551616:=Zws fO
  have hyp:0<cm:=by omega
  have hyb:cm<=4294967296:=by omega
  have BQ:0<cm*4294967296+lD:=by omega
  have hq:=YF (b:=cm) (show U<18446744073709551616 by omega)
  have hr:fP U (cM (mB U cm) cm)=U%cm:=by
   have h1:=uD U cm
   rw[jk]at h1
   have h2:cM (mB U cm) cm=U/cm*cm:=by unfold cM mB;omega
   rw[h2,ER (by omega) (by omega)];omega
  simp(disch:=first|(simp;done)|omega|(simp only[bC,cB,bp];omega)|rfl) [hq,hr,hw,Ba,hY,M7,M8,hU,hL,M9,Na]
  obtain⟨D1,AI⟩:∃D,(U*4294967296+xH)/(cm*4294967296+lD)=D:=⟨_,rfl⟩
  refine bG [(15,16),(67,85)] (fun e r st=>e=.exit 0/\st=⟨h,N,[]⟩/\r.get 15=some (.int .u64 D1)) (DvI h N 15 U cm D1) (U/cm) ?_ ?_ ?_
  ·exact⟨rfl,U%cm,by simp[mB],by simp,Ztj,AI▸Zxt hyp (by omega),Zxs Ro.2 (by omega) (by omega),Zxr hyp hyb⟩
  ·rintro q r _ hr hf ⟨rfl,rh,hq,AJ,hu,hD,gF,yc⟩
   rw[bk]
   obtain⟨P,hP⟩:∃P,P=q*lD:=⟨_,rfl⟩
   obtain⟨R2,hR2⟩:∃P,P=4294967296*rh:=⟨_,rfl⟩
   obtain⟨R3,hR3⟩:∃P,P=4294967296*rh+xH:=⟨_,rfl⟩
   have m2:cM 4294967296 rh=R2:=by unfold cM;omega
   have m3:cG R2 xH=R3:=by unfold cG;omega
   have tM:(4294967296<=q\/R3<P)->0<q/\D1<=q-1:=by
    intro hc
    have:D1<q:=by
     rcases hc with hc|hc
     ·have:D1<4294967296:=by rw[<-AI];exact(qc BQ).2 (by omega)
      omega
     ·rw[<-AI];exact Ztt (Zx3 (b:=4294967296) hu (by omega))
    omega
   have rG:0<q->U=(q-1)*cm+(rh+cm):=by
    intro hc
    obtain⟨s,rfl⟩:∃s,q=s+1:=⟨q-1,by omega⟩
    rw[hu,iU];simp;omega
   have eK:∀HK,U=(q-1)*cm+HK->4294967296<=HK->(q-1)*(cm*4294967296+lD)<=U*4294967296+xH:=by
    intro HK h1 h2
    refine Rn h1 ?_
    have:=wS (show q-1<=4294967296 by omega) (show lD<=4294967296 by omega)
    omega
   by_cases c1:4294967296<=q
   ·have c1':(4294967296:Int)<=(q:Int):=by omega
    obtain⟨g1,g2⟩:=tM (.inl c1)
    have s1:fP q 1=q-1:=ER g1 (by omega)
    have s2:cG rh cm=rh+cm:=by unfold cG;omega
    by_cases c3:4294967296<=rh+cm
    ·have c3':(4294967296:Int)<=(rh:Int)+(cm:Int):=by omega
     simp[A.iC,hr,hq,AJ,c1',c3',s1,s2,hf]
     have hd:=J5 BQ (eK _ (rG g1) c3)
     rw[AI]at hd;omega
    ·have c3':¬(4294967296:Int)<=(rh:Int)+(cm:Int):=by omega
     simp[A.iC,hr,hq,AJ,c1',c3',s1,s2,hf]
     exact⟨q-1,by omega,rfl,rh+cm,by simp,by simp,rG g1,g2,by omega,by omega⟩
   ·have c1':¬(4294967296:Int)<=(q:Int):=by omega
    have m1:cM q lD=P:=by
     have:=wS (show q<=4294967296 by omega) (show lD<=4294967295 by omega)
     unfold cM;omega
    by_cases c2:R3<P
    ·obtain⟨g1,g2⟩:=tM (.inr c2)
     have s1:fP q 1=q-1:=ER g1 (by omega)
     have s2:cG rh cm=rh+cm:=by unfold cG;omega
     by_cases c3:4294967296<=rh+cm
     ·have c3':(4294967296:Int)<=(rh:Int)+(cm:Int):=by omega
      simp[A.iC,hr,hq,AJ,c1',c2,c3',m1,m2,m3,s1,s2,hf]
      have hd:=J5 BQ (eK _ (rG g1) c3)
      rw[AI]at hd;omega
     ·have c3':¬(4294967296:Int)<=(rh:Int)+(cm:Int):=by omega
      simp[A.iC,hr,hq,AJ,c1',c2,c3',m1,m2,m3,s1,s2,hf]
      exact⟨q-1,by omega,rfl,rh+cm,by simp,by simp,rG g1,g2,by omega,by omega⟩
    ·simp[A.iC,hr,hq,AJ,c1',c2,m1,m2,m3,hf]
     have hd:=J5 BQ (Rn (b:=4294967296) (un:=xH) hu (by omega))
     rw[AI]at hd;omega
  rintro _ r _ ef ⟨rfl,rfl,De⟩
  obtain⟨R1,Rp⟩:∃R,(U*4294967296+xH)%Y=R:=⟨_,rfl⟩
  rw[<-Ro.1]at AI
  have At:fP (cG (cM U 4294967296) xH) (cM D1 Y)=R1:=by
   have h1:=uD (U*4294967296+xH) Y
   rw[AI,Rp,jk Y]at h1
   have h2:cG (cM U 4294967296) xH=(U*4294967296+xH)%18446744073709551616:=by unfold cG cM;omega
   rw[h2]
   have h3:=kZ (U*4294967296+xH) (show 0<Y by omega)
   unfold cM
   rw[Zse (by omega) (by omega)];omega
  have zay:R1<Y:=by rw[<-Rp];exact kZ _ (by omega)
  have kp:=YF (b:=cm) (show R1<18446744073709551616 by omega)
  have dt:fP R1 (cM (mB R1 cm) cm)=R1%cm:=by
   have h1:=uD R1 cm
   rw[jk]at h1
   have h2:cM (mB R1 cm) cm=R1/cm*cm:=by unfold cM mB;omega
   rw[h2,ER (by omega) (by omega)];omega
  simp(disch:=first|(simp;done)|omega|(simp only[bC,cB,bp];omega)|rfl) [ef,De,At,kp,dt]
  obtain⟨D0,zm⟩:∃D,(R1*4294967296+vY)/(cm*4294967296+lD)=D:=⟨_,rfl⟩
  refine bG [(16,16),(18,18),(102,120)] (fun e r st=>e=.exit 2/\st=⟨h,N,[]⟩/\r.get 18=some (.int .u64 D0)) (DvI h N 18 R1 cm D0) (R1/cm) ?_ ?_ ?_
  ·exact⟨rfl,R1%cm,by simp[mB],by simp,Ztj,zm▸Zxt hyp (by omega),Zxs Ro.2 (by omega) (by omega),Zxr hyp hyb⟩
  ·rintro q r _ hr hf ⟨rfl,rh,hq,AJ,hu,hD,gF,yc⟩
   rw[bk]
   obtain⟨P,hP⟩:∃P,P=q*lD:=⟨_,rfl⟩
   obtain⟨R2,hR2⟩:∃P,P=4294967296*rh:=⟨_,rfl⟩
   obtain⟨R3,hR3⟩:∃P,P=4294967296*rh+vY:=⟨_,rfl⟩
   have m2:cM 4294967296 rh=R2:=by unfold cM;omega
   have m3:cG R2 vY=R3:=by unfold cG;omega
   have tM:(4294967296<=q\/R3<P)->0<q/\D0<=q-1:=by
    intro hc
    have:D0<q:=by
     rcases hc with hc|hc
     ·have:D0<4294967296:=by rw[<-zm];exact(qc BQ).2 (by omega)
      omega
     ·rw[<-zm];exact Ztt (Zx3 (b:=4294967296) hu (by omega))
    omega
   have rG:0<q->R1=(q-1)*cm+(rh+cm):=by
    intro hc
    obtain⟨s,rfl⟩:∃s,q=s+1:=⟨q-1,by omega⟩
    rw[hu,iU];simp;omega
   have eK:∀HK,R1=(q-1)*cm+HK->4294967296<=HK->(q-1)*(cm*4294967296+lD)<=R1*4294967296+vY:=by
    intro HK h1 h2
    refine Rn h1 ?_
    have:=wS (show q-1<=4294967296 by omega) (show lD<=4294967296 by omega)
    omega
   by_cases c1:4294967296<=q
   ·have c1':(4294967296:Int)<=(q:Int):=by omega
    obtain⟨g1,g2⟩:=tM (.inl c1)
    have s1:fP q 1=q-1:=ER g1 (by omega)
    have s2:cG rh cm=rh+cm:=by unfold cG;omega
    by_cases c3:4294967296<=rh+cm
    ·have c3':(4294967296:Int)<=(rh:Int)+(cm:Int):=by omega
     simp[A.iB,hr,ef,hq,AJ,c1',c3',s1,s2,hf]
     have hd:=J5 BQ (eK _ (rG g1) c3)
     rw[zm]at hd;omega
    ·have c3':¬(4294967296:Int)<=(rh:Int)+(cm:Int):=by omega
     simp[A.iB,hr,ef,hq,AJ,c1',c3',s1,s2,hf]
     exact⟨q-1,by omega,rfl,rh+cm,by simp,by simp,rG g1,g2,by omega,by omega⟩
   ·have c1':¬(4294967296:Int)<=(q:Int):=by omega
    have m1:cM q lD=P:=by
     have:=wS (show q<=4294967296 by omega) (show lD<=4294967295 by omega)
     unfold cM;omega
    by_cases c2:R3<P
    ·obtain⟨g1,g2⟩:=tM (.inr c2)
     have s1:fP q 1=q-1:=ER g1 (by omega)
     have s2:cG rh cm=rh+cm:=by unfold cG;omega
     by_cases c3:4294967296<=rh+cm
     ·have c3':(4294967296:Int)<=(rh:Int)+(cm:Int):=by omega
      simp[A.iB,hr,ef,hq,AJ,c1',c2,c3',m1,m2,m3,s1,s2,hf]
      have hd:=J5 BQ (eK _ (rG g1) c3)
      rw[zm]at hd;omega
     ·have c3':¬(4294967296:Int)<=(rh:Int)+(cm:Int):=by omega
      simp[A.iB,hr,ef,hq,AJ,c1',c2,c3',m1,m2,m3,s1,s2,hf]
      exact⟨q-1,by omega,rfl,rh+cm,by simp,by simp,rG g1,g2,by omega,by omega⟩
    ·simp[A.iB,hr,ef,hq,AJ,c1',c2,m1,m2,m3,hf]
     have hd:=J5 BQ (Rn (b:=4294967296) (un:=vY) hu (by omega))
     rw[zm]at hd;omega
  rintro _ r2 _ pG ⟨rfl,rfl,h18⟩
  obtain⟨R0,zM⟩:∃R,(R1*4294967296+vY)%Y=R:=⟨_,rfl⟩
  rw[<-Ro.1]at zm
  have oG:fP (cG (cM R1 4294967296) vY) (cM D0 Y)=R0:=by
   have h1:=uD (R1*4294967296+vY) Y
   rw[zm,zM,jk Y]at h1
   have h2:cG (cM R1 4294967296) vY=(R1*4294967296+vY)%18446744073709551616:=by unfold cG cM;omega
   rw[h2]
   have h3:=kZ (R1*4294967296+vY) (show 0<Y by omega)
   unfold cM
   rw[Zse (by omega) (by omega)];omega
  have tG:D1<4294967296:=by rw[<-AI];exact(qc (by omega)).2 (by omega)
  have nT:D0<4294967296:=by rw[<-zm];exact(qc (by omega)).2 (by omega)
  have ha:cG (cM D1 4294967296) D0=D1*4294967296+D0:=by unfold cG cM;omega
  obtain⟨e1,e2⟩:=Yau (b:=4294967296) (c:=18446744073709551616) (by decide) (u1:=U) (u0:=xH) (z:=vY) (show 0<Y by omega)
  rw[Rp,AI,zm]at e1
  rw[Rp,zM]at e2
  have e3:U*18446744073709551616+xH*4294967296+vY=(hi*18446744073709551616+lo)*2^s:=by
   rw[<-hA,hLd.1,pe]
  rw[e3,hYe,Qa _ _ (qy s)]at e1
  rw[e3,hYe,K3]at e2
  have Rq:au R0 s=(hi*18446744073709551616+lo)%y:=by
   unfold au
   rw[<-e2,Nat.mul_div_cancel _ (qy s)]
  simp(disch:=first|(simp;done)|omega|(simp only[bC,cB,bp];omega)|rfl) [ef,pG,De,h18,oG,ha,aA]
  have e5:(hi:Int)*18446744073709551616+lo=((hi*18446744073709551616+lo:Nat):Int):=by omega
  refine⟨ab.refl,?_,?_⟩
  ·rw[e5,<-Int.natCast_ediv,e1];omega
  ·rw[e5,<-Int.natCast_emod,Rq]
variable {P Y a b d k u v1:Nat} {l:List Nat}
def BN(h:l[k]?=some d):val b (l.drop k)=d+b*val b (l.drop (k+1)):=by
 have hk:k<l.length:=by
  apply tn;intro hc;rw[fl hc]at h;cases h
 rw[Gh hk]
 rw[c9 hk]at h
 simp only[aq]at h
 rw[h];rfl
def EW(b:Nat)(l:List Nat)(k:Nat)(hk:k<=l.length):val b l=val b (l.take k)+b^k*val b (l.drop k):=by
 have:=Q6 b (l.take k) (l.drop k)
 rw[Cl,gG,pZ hk]at this
 exact this
def Zwm{b:Nat}:∀{l:List Nat},(∀(t:Nat),t<l.length->l[t]?=some 0)->val b l=0
 |[],_=>rfl
 |d::l,h=>by
  have h0:=h 0 (by simp)
  simp at h0
  have:=Zwm (b:=b) (l:=l) fun t ht=>by simpa using h (t+1) (by simp;omega)
  simp[val,h0,this]
def Yrx{α:Type}{l:List α}{d:α}(h:l[k]?=some d):k<l.length:=by
 apply tn;intro hc;rw[fl hc]at h;cases h
def Yn(hz:∀t,k<=t->t<l.length->l[t]?=some 0):val b (l.drop k)=0:=by
 apply Zwm
 intro t ht
 rw[fg]
 rw[x_]at ht
 exact hz _ (by omega) (by omega)
def Ygc{w:List Nat}{c:Nat}(ha:w[k]?=some a)(hc:w[k+1]?=some c)(hd:w[k+2]?=some d)(hz:∀t,k+3<=t->t<w.length->w[t]?=some 0):
  val b w=val b (w.take k)+b^k*(a+b*(d*b+c)):=by
 have:=Yrx ha
 rw[EW b w k (by omega),BN ha,BN hc,BN hd,Yn hz]
 generalize b^k=p
 grind
def Ygd{w:List Nat}{c:Nat}(ha:w[k]?=some a)(hc:w[k+1]?=some c)(hl:w.length=k+2):
  val b w=val b (w.take k)+b^k*(a+b*c):=by
 rw[EW b w k (by omega),BN ha,BN hc,zV (by omega)]
 simp[val]
def Zm5(g:∀d∈l,d<b)(hk:k<=l.length):val b (l.take k)<b^k:=by
 have:=EU (b:=b) (l:=l.take k) fun d hd=>g d (yL hd)
 rwa [gG,pZ hk]at this
def Yrz{c U' v2 V':Nat}(hP:0<P)(CJ:V'<P)(jL:v2<b)(hd:v1<=d)(hW:U'+P*(a+b*(d*b+c))<b*(V'+P*(v2+b*v1))):d=v1:=by
 apply Nat.le_antisymm _ hd
 apply yY
 intro ax
 have h1:b*(P*(b*(v1+1)))<=b*(P*(b*d)):=kY _ (kY _ (kY _ ax))
 have h2:V'+P*(v2+b*v1)<P*(b*(v1+1)):=by
  have:P*(v2+1)<=P*b:=kY _ jL
  grind
 have h3:b*(V'+P*(v2+b*v1))<=b*(P*(b*(v1+1))):=kY _ (Nat.le_of_lt h2)
 have h4:b*(P*(b*d))<=U'+P*(a+b*(d*b+c)):=by
  have:P*(b*(d*b))=b*(P*(b*d)):=by grind
  have:P*(b*(d*b))<=P*(a+b*(d*b+c)):=kY _ (by rw[tA];omega)
  omega
 omega
def Yr0{U' u2 u1 v2 V' q r:Nat}(hU:U'<P)(fm:u2<b)(hinv:u1=q*v1+r)(hr:r<v1):U'+P*(u2+b*u1)<(q+1)*(V'+P*(v2+b*v1)):=by
 have h1:u1+1<=(q+1)*v1:=by rw[hinv,iU];omega
 have h2:P*(b*(u1+1))<=P*(b*((q+1)*v1)):=kY _ (kY _ h1)
 have h3:P*(u2+1)<=P*b:=kY _ fm
 have h4:P*(b*((q+1)*v1))<=(q+1)*(V'+P*(v2+b*v1)):=by
  have:(q+1)*(V'+P*(v2+b*v1))=(q+1)*V'+P*((q+1)*v2)+P*(b*((q+1)*v1)):=by grind
  omega
 have h5:U'+P*(u2+b*u1)+P<=U'+P*(b*(u1+1)):=by grind
 omega
def vX(q v c:Nat):Nat:=bu (bu (q*v)+c)
def oR(q v c:Nat):Nat:=cG (cf (q*v)) (cf (bu (q*v)+c))
def Ynl{q v c w:Nat}(hq:q<B)(hv:v<B)(hc:c<B)(hu:u<B)(hw:w<=1):
  ew u (vX q v c) w+q*v+c+w=u+B*(oR q v c+fC u (vX q v c) w)/\ew u (vX q v c) w<B/\oR q v c<B/\fC u (vX q v c) w<=1/\vX q v c<B:=by
 have:q*v<=18446744073709551615*18446744073709551615:=wS (by unfold B at*;omega) (by unfold B at*;omega)
 unfold oR vX
 have h1:bu (bu (q*v)+c)+B*cG (cf (q*v)) (cf (bu (q*v)+c))=q*v+c/\cG (cf (q*v)) (cf (bu (q*v)+c))<B/\bu (bu (q*v)+c)<B:=by
  unfold bu cf cG
  unfold B at*
  generalize q*v=p at*
  omega
 obtain⟨h1,h2,h3⟩:=h1
 generalize bu (bu (q*v)+c)=l at*
 generalize cG (cf (q*v)) (cf (bu (q*v)+c))=k at*
 have h4:ew u l w+l+w=u+B*fC u l w/\ew u l w<B/\fC u l w<=1:=by
  unfold ew fC
  unfold B at*
  split<;>omega
 obtain⟨h4,h5,h6⟩:=h4
 refine⟨?_,h5,h2,h6,h3⟩
 rw[tA]
 omega
def Ymk{l w:Nat}(hl:l<B)(hu:u<B)(hw:w<=1):ew u l w+l+w=u+B*fC u l w/\ew u l w<B/\fC u l w<=1:=by
 unfold ew fC
 unfold B at*
 split<;>omega
def Yfy{v c:Nat}(hv:v<B)(hu:u<B)(hc:c<=1):bu (u+v+c)+B*cf (u+v+c)=u+v+c/\bu (u+v+c)<B/\cf (u+v+c)<=1:=by
 unfold bu cf
 unfold B at*
 omega
def MV{b:Nat}:∀{l:List Nat} {k old v:Nat},l[k]?=some old->val b (l.set k v)+b^k*old=val b l+b^k*v
 |[],k,old,v,h=>by simp at h
 |d::l,0,old,v,h=>by simp at h;subst h;simp[val];omega
 |d::l,k+1,old,v,h=>by
  have ih:=MV (b:=b) (l:=l) (k:=k) (old:=old) (v:=v) (by simpa using h)
  simp only[List.set_cons_succ,val,fZ]
  generalize val b (l.set k v)=p at*
  generalize val b l=q at*
  generalize b^k=z at*
  have:b*(p+z*old)=b*(q+z*v):=by rw[ih]
  grind
def Dg.tW(h:Dg l){k v:Nat}(hv:v<B):Dg (l.set k v):=by
 intro d hd
 rcases A7 hd with hd|hd
 ·exact h d hd
 ·subst hd;exact hv
def Yro{W q U t c t' e:Nat}(hb:1<b)(hP:0<P)(hY:Y<P)(hU:U<P)(ht:t'<b)(he:e<=1)(h1:U+q*Y=W+P*c)(h2:t'+c=t+b*e)(fO:(q-1)*Y<=W+P*t)(gW:W+P*t<(q+1)*Y):
  (e=0->U+P*t'+q*Y=W+P*t/\U+P*t'<Y/\t'=0)/\(e=1->0<q/\U+P*t'+q*Y=W+P*t+P*b/\W+P*t<q*Y):=by
 have h3:P*t'+P*c=P*t+P*(b*e):=by rw[<-tA,h2,tA]
 constructor
 ·rintro rfl
  simp only[Nat.mul_zero,mP]at h3
  have h4:U+P*t'+q*Y=W+P*t:=by omega
  have h5:U+P*t'<Y:=by rw[iU]at gW;omega
  refine⟨h4,h5,?_⟩
  rcases F4 t' with h|h
  ·exact h
  ·have:=kY P h
   omega
 ·rintro rfl
  simp only[yZ]at h3
  have h4:U+P*t'+q*Y=W+P*t+P*b:=by omega
  have h5:P*(t'+1)<=P*b:=kY _ ht
  rw[tA]at h5
  have h6:W+P*t<q*Y:=by omega
  refine⟨?_,h4,h6⟩
  rcases F4 q with h|h
  ·subst h;omega
  ·exact h
def Yn9{q U t' T A c:Nat}(hP:0<P)(hY:Y<P)(hA:A<P)(hc:c<=1)(ht:t'<b)(hq:0<q)(h1:U+P*t'+q*Y=T+P*b)(h2:T<q*Y)(fO:(q-1)*Y<=T)(h3:A+P*c=U+Y):
  A+(q-1)*Y=T/\A<Y/\(t'+c)%b=0:=by
 obtain⟨s,rfl⟩:∃s,q=s+1:=⟨q-1,by omega⟩
 simp only[Nat.add_sub_cancel]at*
 rw[iU]at h1 h2
 have h4:A+P*(t'+c)+s*Y=T+P*b:=by rw[tA];omega
 have h5:t'+c=b:=by
  rcases Nat.lt_trichotomy (t'+c) b with h|h|h
  ·have:=kY P (show t'+c+1<=b from h)
   rw[tA P (t'+c)]at this
   omega
  ·exact h
  ·omega
 rw[h5]at h4
 refine⟨by omega,by omega,?_⟩
 rw[h5,Nat.mod_self]
def MO:∀{k n:Nat},B^k<=n->n<B^(k+1)->(aH n).length=k+1/\(aH n)[k]?=some (n/B^k)
 |0,n,h1,h2=>by
  have h0:n≠0:=by
   rw[DY]at h1;omega
  rw[mX h0]
  have h3:n/B=0:=zU (by simpa using h2)
  rw[h3,rE]
  simp
  exact yk (by simpa using h2)
 |k+1,n,h1,h2=>by
  have hB:0<B:=by decide
  have hp:0<B^(k+1):=zX hB
  have h0:n≠0:=by omega
  have h3:B^k<=n/B:=(Jj hB).2 (by rw[<-fZ];exact h1)
  have h4:n/B<B^(k+1):=(qc hB).2 (by rw[<-fZ];exact h2)
  obtain⟨e1,e2⟩:=MO h3 h4
  rw[mX h0]
  refine⟨by simp[e1],?_⟩
  rw[DZ,e2,Gk,fZ,jk (B^k)]
def Ykd{n:Nat}(h:(aH n).length≠0):n≠0:=by
 rintro rfl
 exact h (by rw[rE];rfl)
def Hx:∀{k n:Nat},(aH n).length=k+1->B^k<=n/\n<B^(k+1)
 |0,n,h=>by
  have h0:=Ykd (n:=n) (by omega)
  rw[mX h0]at h
  have h1:(aH (n/B)).length=0:=by simpa using h
  have h2:n/B=0:=by
   by_cases hc:n/B=0
   ·exact hc
   ·rw[mX hc]at h1;simp at h1
  have:=(Nat.div_eq_zero_iff).1 h2
  rcases this with hb|hb
  ·exact absurd hb (by decide)
  ·simp;omega
 |k+1,n,h=>by
  have h0:=Ykd (n:=n) (by omega)
  rw[mX h0]at h
  obtain⟨h1,h2⟩:=Hx (k:=k) (n:=n/B) (by simpa using h)
  have hB:0<B:=by decide
  exact⟨by rw[fZ];exact(Jj hB).1 h1,by rw[fZ];exact(qc hB).1 h2⟩
def Yga{t s:Nat}(hl:(aH b).length=k+1)(ht:(aH b)[k]?=some t)(h1:9223372036854775808<=t*2^s)(h2:t*2^s<18446744073709551616)(hs:s<=64):
  (aH (b*2^s)).length=k+1/\∃v1,(aH (b*2^s))[k]?=some v1/\9223372036854775808<=v1:=by
 obtain⟨b1,b2⟩:=Hx hl
 have hp:0<B^k:=zX (by decide)
 have uy:=qy s
 have htd:t=b/B^k:=by
  have:=(MO b1 b2).2
  rw[ht]at this
  exact pc this
 have b3:t*B^k<=b:=by rw[htd];exact Nat.div_mul_le_self _ _
 have b4:b<(t+1)*B^k:=by
  rw[htd]
  exact(qc hp).1 (vt _)
 have c1:9223372036854775808*B^k<=b*2^s:=by
  have e1:=mr (B^k) h1
  have e2:=mr (2^s) b3
  have e3:t*2^s*B^k=t*B^k*2^s:=by grind
  omega
 have c2:b*2^s<B^(k+1):=by
  have e0:t+1<=2^(64-s):=by
   have:t<2^(64-s):=by
    apply Nat.lt_of_mul_lt_mul_right (a:=2^s)
    rw[<-kf,show 64-s+s=64 by omega];exact h2
   omega
  have e1:=mr (2^s) e0
  rw[<-kf,show 64-s+s=64 by omega]at e1
  have e2:=IE b4 uy
  have e3:=mr (B^k) e1
  have e4:(t+1)*2^s*B^k=(t+1)*B^k*2^s:=by grind
  rw[fZ,jk]
  have e5:(2^64:Nat)*B^k=B^k*B:=by unfold B;rw[jk]
  rw[jk b]at e2
  omega
 have c0:B^k<=b*2^s:=by omega
 obtain⟨d1,d2⟩:=MO c0 c2
 exact⟨d1,_,d2,(Jj hp).2 c1⟩
def Ybq{U:List Nat}{la m s:Nat}(hU:val B U=a*2^s)(hl:U.length=la+1)(hm:m+k+1=la+1)(yv:m<=U.length)(ha:a<B^la)(hs:s<64)(hv:9223372036854775808<=v1)(hY:v1*B^k<=Y):val B (U.drop m)<Y:=by
 have h1:=EW B U m yv
 have h2:B^m*val B (U.drop m)<B^la*2^s:=by
  have:=IE ha (qy s)
  omega
 have h3:(2:Nat)^s<=9223372036854775808:=(qz (by decide) (show s<=63 by omega):(2:Nat)^s<=2^63)
 have h4:B^la=B^m*B^k:=by rw[<-kf];congr 1;omega
 rw[h4,D7]at h2
 have h5:=Nat.lt_of_mul_lt_mul_left h2
 have h6:=kY (B^k) h3
 have h7:=kY (B^k) hv
 rw[jk v1]at hY
 omega
end
end Go.Mx
