/-bits-/
import Derived.Test.YteojhfjdbpdolaaGreatDoorRcL
set_option linter.all false
namespace Go.Mx
noncomputable section
open Go Go.Proofs
variable {n:Nat}
set_option maxHeartbeats 2000000
set_option maxRecDepth 1000000
def Ys8:List UInt8:=[0,1,2,2,3,3,3,3,4,4,4,4,4,4,4,4,5,5,5,5,5,5,5,5,5,5,5,5,5,5,5,5,6,6,6,6,6,6,6,6,6,6,6,6,6,6,6,6,6,6,6,6,6,6,6,6,6,6,6,6,6,6,6,6,7,7,7,7,7,7,7,7,7,7,7,7,7,7,7,7,7,7,7,7,7,7,7,7,7,7,7,7,7,7,7,7,7,7,7,7,7,7,7,7,7,7,7,7,7,7,7,7,7,7,7,7,7,7,7,7,7,7,7,7,7,7,7,7,8,8,8,8,8,8,8,8,8,8,8,8,8,8,8,8,8,8,8,8,8,8,8,8,8,8,8,8,8,8,8,8,8,8,8,8,8,8,8,8,8,8,8,8,8,8,8,8,8,8,8,8,8,8,8,8,8,8,8,8,8,8,8,8,8,8,8,8,8,8,8,8,8,8,8,8,8,8,8,8,8,8,8,8,8,8,8,8,8,8,8,8,8,8,8,8,8,8,8,8,8,8,8,8,8,8,8,8,8,8,8,8,8,8,8,8,8,8,8,8,8,8,8,8,8,8,8,8]
def A.b242:bU:=sr [mc 2 0]
 (.seq (sr [mv 3 0,ge 4 (.bin .geq (.node []) false (tq 3) (.const (.int .u64 4294967296)))]
 (cd 4
 (sr [mv 5 0,ge 6 (.bin .shr (.node []) false (tq 5) (.const (.int .u64 32))),mv 0 6]
 (.dN [mc 2 32]))
 (.skip)))
 (.seq (sr [mv 7 0,ge 8 (.bin .geq (.node []) false (tq 7) (.const (.int .u64 65536)))]
 (cd 8
 (sr [mv 9 0,ge 10 (.bin .shr (.node []) false (tq 9) (.const (.int .u64 16))),mv 0 10]
 (.dN [mv 11 2,bc 12 .add 11 16,mv 2 12]))
 (.skip)))
 (.seq (sr [mv 13 0,ge 14 (.bin .geq (.node []) false (tq 13) (.const (.int .u64 256)))]
 (cd 14
 (sr [mv 15 0,ge 16 (.bin .shr (.node []) false (tq 15) (.const (.int .u64 8))),mv 0 16]
 (.dN [mv 17 2,bc 18 .add 17 8,mv 2 18]))
 (.skip)))
 (sr [mv 19 2,mv 20 0,ge 21 (.cW .u8 (tq 20)),ge 22 (.bI (.const (.str Ys8)) (tq 21)),ge 23 (.cW .i64 (tq 22)),bi 24 .add 19 23,mv 2 24]
 (.ret)))))
def A.k242:=@A.kk 242 25 [.tmp 2] A.b242 (by kernel_rfl) rfl
def A.b245:=A.q Tryz.f245
def A.k245:=@A.kk 245 6 [.tmp 2] A.b245 (by kernel_rfl) rfl
def aY(n:Nat):Nat:=if n=0 then 0 else Nat.log2 n+1
def RB(n:Nat):n<2^aY n:=by
 unfold aY
 split
 ·simp[*]
 ·exact Nat.lt_log2_self
def JX(h:n≠0):2^(aY n-1)<=n:=by
 unfold aY
 rw[ak h]
 exact Nat.log2_self_le h
def Yq8{k:Nat}(h1:2^k<=n)(h2:n<2^(k+1)):aY n=k+1:=by
 have hn:n≠0:=by have:=qQ k;omega
 unfold aY
 rw[ak hn]
 congr 1
 have h3:Nat.log2 n<k+1:=(Nat.log2_lt hn).2 h2
 have h4:k<=Nat.log2 n:=(Nat.le_log2 hn).2 h1
 omega
def zp{k:Nat}(h:2^k<=n):aY (au n k)+k=aY n:=by
 unfold au
 have h0:n/2^k≠0:=by
  have:=Nat.div_pos h (qQ k);omega
 have h1:=RB (n/2^k)
 have h2:=JX h0
 have hp:0<aY (n/2^k):=by unfold aY;rw[ak h0];omega
 have e:aY (n/2^k)+k=(aY (n/2^k)-1+k)+1:=by omega
 rw[e]
 symm
 apply Yq8
 ·rw[ke]
  exact k_ (jB _ h2) (Nat.div_mul_le_self n _)
 ·rw[show aY (n/2^k)-1+k+1=aY (n/2^k)+k by omega,ke]
  exact(pU (qQ k)).1 h1
def EZ:∀{n:Nat},n<256->Ys8[n]?=some (UInt8.ofNat (aY n)):=by decide+kernel
def Df:∀{n:Nat},n<256->aY n<9:=by decide+kernel
def Fa(h:n<256):cM (UInt8.ofNat (aY n))=(aY n:Int):=by
 have:=Df h
 unfold cM
 simp;omega
def YQ{h:T O}{N:Nat}{x:Nat}(hx:x<18446744073709551616):Fn A.C 242 [.int .u64 x] h N (fun v' h' N'=>h'=h/\N'=N/\v'=.int .i64 (aY x:Nat)):=by
 intro w
 rw[aR,A.k242 (by simp)]
 by_cases h0:4294967296<=x
 ·have iO:(4294967296:Int)<=((x:Nat):Int):=by omega
  by_cases h1:65536<=au (x) 32
  ·have fI:(65536:Int)<=((au (x) 32:Nat):Int):=by omega
   by_cases h2:256<=au (au (x) 32) 16
   ·have kI:(256:Int)<=((au (au (x) 32) 16:Nat):Int):=by omega
    have hb:au (au (au (x) 32) 16) 8<256:=by (try simp only[au]at*);omega
    have ht:=EZ hb
    have hv:cM (UInt8.ofNat (aY (au (au (au (x) 32) 16) 8)))=(aY (au (au (au (x) 32) 16) 8):Int):=Fa hb
    have hl:=Df hb
    simp(disch:=omega) [A.b242,iO,fI,kI,Bz,ht,hv,aE]
    have:=zp (k:=32) (n:=x) h0
    have:=zp (k:=16) (n:=au (x) 32) h1
    have:=zp (k:=8) (n:=au (au (x) 32) 16) h2
    first|exact ab.refl|exact And.intro ab.refl (by omega)
   ·have kI:¬(256:Int)<=((au (au (x) 32) 16:Nat):Int):=by omega
    have hb:au (au (x) 32) 16<256:=by (try simp only[au]at*);omega
    have ht:=EZ hb
    have hv:cM (UInt8.ofNat (aY (au (au (x) 32) 16)))=(aY (au (au (x) 32) 16):Int):=Fa hb
    have hl:=Df hb
    simp(disch:=omega) [A.b242,iO,fI,kI,Bz,ht,hv,aE]
    have:=zp (k:=32) (n:=x) h0
    have:=zp (k:=16) (n:=au (x) 32) h1
    first|exact ab.refl|exact And.intro ab.refl (by omega)
  ·have fI:¬(65536:Int)<=((au (x) 32:Nat):Int):=by omega
   by_cases h2:256<=au (x) 32
   ·have kI:(256:Int)<=((au (x) 32:Nat):Int):=by omega
    have hb:au (au (x) 32) 8<256:=by (try simp only[au]at*);omega
    have ht:=EZ hb
    have hv:cM (UInt8.ofNat (aY (au (au (x) 32) 8)))=(aY (au (au (x) 32) 8):Int):=Fa hb
    have hl:=Df hb
    simp(disch:=omega) [A.b242,iO,fI,kI,Bz,ht,hv,aE]
    have:=zp (k:=32) (n:=x) h0
    have:=zp (k:=8) (n:=au (x) 32) h2
    first|exact ab.refl|exact And.intro ab.refl (by omega)
   ·have kI:¬(256:Int)<=((au (x) 32:Nat):Int):=by omega
    have hb:au (x) 32<256:=by (try simp only[au]at*);omega
    have ht:=EZ hb
    have hv:cM (UInt8.ofNat (aY (au (x) 32)))=(aY (au (x) 32):Int):=Fa hb
    have hl:=Df hb
    simp(disch:=omega) [A.b242,iO,fI,kI,Bz,ht,hv,aE]
    have:=zp (k:=32) (n:=x) h0
    first|exact ab.refl|exact And.intro ab.refl (by omega)
 ·have iO:¬(4294967296:Int)<=((x:Nat):Int):=by omega
  by_cases h1:65536<=x
  ·have fI:(65536:Int)<=((x:Nat):Int):=by omega
   by_cases h2:256<=au (x) 16
   ·have kI:(256:Int)<=((au (x) 16:Nat):Int):=by omega
    have hb:au (au (x) 16) 8<256:=by (try simp only[au]at*);omega
    have ht:=EZ hb
    have hv:cM (UInt8.ofNat (aY (au (au (x) 16) 8)))=(aY (au (au (x) 16) 8):Int):=Fa hb
    have hl:=Df hb
    simp(disch:=omega) [A.b242,iO,fI,kI,Bz,ht,hv,aE]
    have:=zp (k:=16) (n:=x) h1
    have:=zp (k:=8) (n:=au (x) 16) h2
    first|exact ab.refl|exact And.intro ab.refl (by omega)
   ·have kI:¬(256:Int)<=((au (x) 16:Nat):Int):=by omega
    have hb:au (x) 16<256:=by (try simp only[au]at*);omega
    have ht:=EZ hb
    have hv:cM (UInt8.ofNat (aY (au (x) 16)))=(aY (au (x) 16):Int):=Fa hb
    have hl:=Df hb
    simp(disch:=omega) [A.b242,iO,fI,kI,Bz,ht,hv,aE]
    have:=zp (k:=16) (n:=x) h1
    first|exact ab.refl|exact And.intro ab.refl (by omega)
  ·have fI:¬(65536:Int)<=((x:Nat):Int):=by omega
   by_cases h2:256<=x
   ·have kI:(256:Int)<=((x:Nat):Int):=by omega
    have hb:au (x) 8<256:=by (try simp only[au]at*);omega
    have ht:=EZ hb
    have hv:cM (UInt8.ofNat (aY (au (x) 8)))=(aY (au (x) 8):Int):=Fa hb
    have hl:=Df hb
    simp(disch:=omega) [A.b242,iO,fI,kI,Bz,ht,hv,aE]
    have:=zp (k:=8) (n:=x) h2
    first|exact ab.refl|exact And.intro ab.refl (by omega)
   ·have kI:¬(256:Int)<=((x:Nat):Int):=by omega
    have hb:x<256:=by (try simp only[au]at*);omega
    have ht:=EZ hb
    have hv:cM (UInt8.ofNat (aY (x)))=(aY (x):Int):=Fa hb
    have hl:=Df hb
    simp(disch:=omega) [A.b242,iO,fI,kI,Bz,ht,hv,aE]
    first|exact ab.refl|exact And.intro ab.refl (by omega)
def Ye5{h:T O}{N:Nat}{x:Nat}(hx:x<18446744073709551616):Fn A.C 245 [.int .u64 x] h N (fun v' h' N'=>h'=h/\N'=N/\v'=.int .i64 ((64-aY x:Nat))):=by
 intro w
 have hl:aY x<=64:=by
  by_cases h0:x=0
  ·subst h0;decide
  ·apply yX
   intro hc
   have:=JX h0
   have:2^64<=2^(aY x-1):=qS (by decide) (by omega)
   omega
 rw[aR,A.k245 (by simp)]
 simp[A.b245]
 refine aA (YQ hx) ?_
 rintro _ _ _ hk ⟨rfl,rfl,rfl⟩
 simp(disch:=omega) [aE]
 exact⟨hk,by omega⟩
variable {s x:Nat}
set_option maxHeartbeats 2000000
def A.M5:=A.q Tryz.f246
def A.na:=A.ql A.M5 0 []
def A.b246:=(fun x0=>A.qb A.M5 [x0]) A.na
def A.k246:=@A.kk 246 40 [.tmp 4] A.b246 (by kernel_rfl) rfl
def Ro{c:Nat}(hs:s<64)(hc:c<2^s):ji c (bK x s)=c+bK x s:=by
 unfold ji bK
 have e:x*2^s%18446744073709551616=(x%2^(64-s))<<<s:=by
  rw[Nat.shiftLeft_eq]
  have:(18446744073709551616:Nat)=2^(64-s)*2^s:=by rw[<-ke,show 64-s+s=64 by omega]
  rw[this,K7]
 rw[e,Nat.or_comm,Nat.add_comm,Nat.shiftLeft_add_eq_or_of_lt hc]
def Yc7(hs:s<=64):bK x s+B*au x (64-s)=x*2^s:=by
 unfold bK au
 have e:x/2^(64-s)=x*2^s/18446744073709551616:=by
  have:(18446744073709551616:Nat)=2^(64-s)*2^s:=by rw[<-ke,show 64-s+s=64 by omega]
  rw[this,Qo _ _ (qQ s)]
 rw[e]
 have:=uo (x*2^s) 18446744073709551616
 unfold B
 omega
def Yl2(hx:x<B)(hs:s<=64):au x (64-s)<2^s:=by
 unfold au
 apply (pU (qQ _)).2
 rw[<-ke,show s+(64-s)=64 by omega]
 exact hx
def Zqg{c:Nat}(hs:s<64)(hc:c<2^s):c+bK x s<B:=by
 rw[<-Ro hs hc]
 unfold ji
 apply Nat.or_lt_two_pow (n:=64)
 ·exact Nat.lt_trans hc (Nat.pow_lt_pow_right (by decide) hs)
 ·exact Yl
structure ShJ (h:T O) (N:Nat) (l:List Nat) (s k:Nat) (o:List Nat) (c:Nat) (r:T V) (st:St):Prop where
 hk:k<=l.length
 JY:r.get 14=some (.int .i64 k)
 n:st.n=N+1
 w:ax N st.w=[]
 ae:ab h N st.h (N+1)
 row:st.h.get N=some (.cells (dg o) 195 true)
 len:o.length=l.length+1
 dg:Dg o
 zero:∀t,k<t->t<o.length->o[t]?=some 0
 top:o[k]?=some c
 lc:c<2^s
 ex:val B o=val B (l.take k)*2^s
def ShI(h:T O)(N:Nat)(l:List Nat)(s m:Nat)(r:T V)(st:St):Prop:=∃k o c,m=l.length-k/\ShJ h N l s k o c r st
def ShE(h:T O)(N:Nat)(l:List Nat)(s:Nat)(r:T V)(st:St):Prop:=∃o c,ShJ h N l s l.length o c r st
def Zqi{h:T O}{N:Nat}{v:V}{l:List Nat}(hv:Sl h N v (Go.Mx.dg l))(hd:Dg l)(hs:s<64)(hl:l.length<1099511627776):Fn A.C 246 [v,.int .i64 s] h N (fun v' h' N'=>∃i o,N<=i/\i<N'/\v'=.slice i 0 (l.length+1) (some (l.length+1)) 1/\h'.get i=some (.cells (dg o) 195 true)/\o.length=l.length+1/\Dg o/\val B o=val B l*2^s):=by
 intro w
 have lx:=hv.len
 rw[bA]at lx
 rw[aR,A.k246 (by simp)]
 simp(disch:=first|(simp;done)|omega|(simp only[bA,cA,bo];omega)|rfl) [A.b246,lx]
 refine bL [(6,7),(14,38)] (fun e r st=>e=.exit 0/\ShE h N l s r st) (ShI h N l s) l.length ?_ ?_ ?_
 ·refine⟨0,List.replicate (l.length+1) 0,0,by omega,⟨by omega,by simp,by simp,by simp,ab.refl.set (aM _) |>.up (by omega),by simp[Hm],by simp,?_,?_,by simp,qQ s,by simp[val,Zsy]⟩⟩
  ·intro d hd
   rw[Ge]at hd
   rw[hd.2];decide
  ·intro t _ ht
   simp at ht
   simp[ht]
 ·rintro m r ⟨H,n1,W⟩ hr hf ⟨k,o,c,rfl,hk,oG,hn,hW,hK,hN,ho,JZ,hz,hc,zm,he⟩
  simp only at hn hW hK hN
  subst hn
  rw[bl]
  by_cases ay:k<l.length
  ·obtain⟨i1,o1,c1,e1,w1,p1,p2,p3,p4⟩:=hv.at (fw (cy ay))
   have p3:=(hK.get _ p2).trans p3
   have gx:=cy ay
   generalize l[k]=x at*
   have hx:x<B:=hd.get gx
   have YP:c<18446744073709551616:=JZ.get hc
   have vc:=Ro (x:=x) hs zm
   have dj:=Zqg (x:=x) hs zm
   obtain⟨z,YR⟩:∃z,c+bK x s=z:=⟨_,rfl⟩
   rw[YR]at vc dj
   have zas:(o.set k z).length=l.length+1:=by simp[ho]
   have EF:=Yc7 (x:=x) (s:=s) (by omega)
   have cC:=Yl2 hx (s:=s) (by omega)
   have v1:=M6 (b:=B) (v:=z) hc
   have uT:(o.set k z)[k+1]?=some 0:=by
    rw[d_ (by omega)];exact hz _ (by omega) (by omega)
   have v2:=M6 (b:=B) (v:=au x (64-s)) uT
   by_cases h0:0<s
   ·have iO:(0:Int)<(s:Int):=by omega
    simp(disch:=first|(simp;done)|omega|(simp only[bA,cA,bo];omega)|rfl) [-getElem?_pos,A.na,hr,oG,ay,lx,p1,p3,p4,hN,fw hc,vc,pE,h0,hf]
    refine⟨_,by omega,k+1,(o.set k z).set (k+1) (au x (64-s)),au x (64-s),rfl,⟨by omega,by simp,rfl,by simp[hW],(hK.set (aM _)).set (aM _),by simp,by simp[ho],(JZ.set dj).set (eX cC (qS (by decide) (by omega):2^s<=2^64)),?_,gG (by omega),cC,?_⟩⟩
    ·intro t t1 t2
     rw[d_ (by omega),d_ (by omega)]
     exact hz t (by omega) (by simpa using t2)
    ·rw[ES gx,iZ,<-he]
     rw[<-YR]at v1 v2 ⊢
     have e3:B^k*(bK x s+B*au x (64-s))=B^k*(x*2^s):=by rw[EF]
     rw[gg]at v2
     generalize val B ((o.set k (c+bK x s)).set (k+1) (au x (64-s)))=z1 at*
     generalize val B (o.set k (c+bK x s))=z2 at*
     generalize val B o=z3 at*
     generalize bK x s=z4 at*
     generalize au x (64-s)=z5 at*
     generalize B^k=z6 at*
     grind
   ·have iO:¬(0:Int)<(s:Int):=by omega
    simp(disch:=first|(simp;done)|omega|(simp only[bA,cA,bo];omega)|rfl) [-getElem?_pos,A.na,hr,oG,ay,lx,p1,p3,p4,hN,fw hc,vc,pE,h0,hf]
    have ui:s=0:=by omega
    subst ui
    have fy:c=0:=by simpa using zm
    subst fy
    have e0:bK x 0=x:=by unfold bK;unfold B at hx;simp;omega
    have qa:z=x:=by rw[<-YR,e0];omega
    subst qa
    refine⟨_,by omega,k+1,o.set k z,0,rfl,⟨by omega,by simp,rfl,by simp[hW],hK.set (aM _),by simp,by simp[ho],JZ.set hx,?_,?_,by decide,?_⟩⟩
    ·intro t t1 t2
     rw[d_ (by omega)]
     exact hz t (by omega) (by simpa using t2)
    ·rw[d_ (by omega)];exact hz _ (by omega) (by omega)
    ·rw[ES gx,iZ,<-he]
     simpa using v1
  ·have:k=l.length:=by omega
   subst this
   simp[A.na,hr,oG,hf]
   exact⟨o,c,⟨by omega,by simp[oG],rfl,hW,hK,hN,ho,JZ,hz,hc,zm,he⟩⟩
 ·rintro _ r ⟨H,n1,W⟩ hr ⟨rfl,o,c,hk,oG,hn,hW,hK,hN,ho,JZ,hz,hc,zm,he⟩
  simp only at hn hW hK hN
  subst hn
  simp[hr,hN,aE]
  rw[fe (aM _)]at he
  exact⟨hW,hK,N,aM _,by omega,rfl,o,hN,ho,JZ,he⟩
open Go
variable {b r:Nat}
def RC{u un cn kR q:Nat}(hi:u=q*cn+r)(hc:q*kR<=b*r+un):q*(cn*b+kR)<=u*b+un:=by
 subst hi
 rw[tf,iZ,<-D7,jb r b]
 omega
def Zy6{u un cn kR q:Nat}(hi:u=q*cn+r)(hc:b*r+un<q*kR):u*b+un<q*(cn*b+kR):=by
 subst hi
 rw[tf,iZ,<-D7,jb r b]
 omega
def Zuf{a y q:Nat}(h:a<q*y):a/y<q:=by
 rcases Gd y with rfl|hy
 ·simp at h
 ·exact(pU hy).2 h
def J0{a y q:Nat}(hy:0<y)(h:q*y<=a):q<=a/y:=(Jh hy).2 h
def Yp2{P u1 u2 U' v1 v2 V' s:Nat}(me:0<v1)(CK:V'<P)(ht:s<=b)(hinv:u1=(s+1)*v1+r)(hc:(s+1)*v2<=r*b+u2):
  s*(V'+P*(v2+b*v1))<=U'+P*(u2+b*u1):=by
 have h1:s*V'<=b*P:=uf ht (by omega)
 have h2:b*P*1<=b*P*v1:=jr _ me
 have h3:P*((s+1)*v2)<=P*(r*b+u2):=jr _ hc
 have h4:P*((s+1)*v2)=P*(s*v2)+P*v2:=by grind
 have h5:s*(V'+P*(v2+b*v1))=s*V'+P*(s*v2)+b*(P*(s*v1)):=by grind
 have h6:U'+P*(u2+b*u1)=U'+P*(r*b+u2)+b*(P*(s*v1))+b*P*v1:=by subst hinv;grind
 omega
def Yp1{P u1 u2 U' v1 v2 V' t:Nat}(CJ:U'<P)(hinv:u1=t*v1+r)(hc:r*b+u2<t*v2):
  U'+P*(u2+b*u1)<t*(V'+P*(v2+b*v1)):=by
 have h3:P*(r*b+u2+1)<=P*(t*v2):=jr _ hc
 have h5:t*(V'+P*(v2+b*v1))=t*V'+P*(t*v2)+b*(P*(t*v1)):=by grind
 have h6:U'+P*(u2+b*u1)+P=U'+P*(r*b+u2+1)+b*(P*(t*v1)):=by subst hinv;grind
 omega
variable {b u y:Nat}
set_option maxHeartbeats 8000000
def A.HF:=A.q Tryz.f244
def A.ic:=A.ql A.HF 1 []
def A.ig:=A.ql A.HF 0 []
def A.b244:=(fun x0 x1=>A.qb A.HF [x0,x1]) A.ig A.ic
def A.k244:=@A.kk 244 135 [.tmp 6,.tmp 7] A.b244 (by kernel_rfl) rfl
structure DvI (h:T O) (N:Nat) (k1 u cn D m:Nat) (r:T V) (st:St):Prop where
 st:st=⟨h,N,[]⟩
 ex:∃rh:Nat,r.get k1=some (.int .u64 m)/\r.get 16=some (.int .u64 rh)/\u=m*cn+rh/\D<=m/\m<=4294967297/\rh<4294967296
def Ymj(h0:¬y=0)(h:y<18446744073709551616):9223372036854775808<=y*2^(64-aY y)/\y*2^(64-aY y)<18446744073709551616/\64-aY y<64:=by
 have h1:=RB y
 have h2:=JX h0
 have hp:0<aY y:=by unfold aY;rw[ak h0];omega
 have hl:aY y<=64:=by
  apply yX
  intro hc
  have:2^64<=2^(aY y-1):=qS (by decide) (by omega)
  omega
 refine⟨?_,?_,by omega⟩
 ·have:=jB (2^(64-aY y)) h2
  rw[<-ke,show aY y-1+(64-aY y)=63 by omega]at this
  exact this
 ·have:=IS h1 (qQ (64-aY y))
  rw[<-ke,show aY y+(64-aY y)=64 by omega]at this
  exact this
def YT{a:Nat}(h:a<18446744073709551616):bj .u64 ((a:Int)/(b:Int))=(mm a b:Nat):=by
 have e:((a:Int)/(b:Int))=((a/b:Nat):Int):=rfl
 have:=vk a b
 rw[e,EO (Int.natCast_nonneg _) (Int.ofNat_lt.2 (show a/b<18446744073709551616 by omega))]
 rfl
def Zs3{a c:Nat}(h:c<=a)(hr:a-c<18446744073709551616):fO (a%18446744073709551616) (c%18446744073709551616)=a-c:=by
 unfold fO
 split<;>omega
def Ybx{c u1 u0 z Y:Nat}(hc:c=b*b)(hY:0<Y):(u1*c+u0*b+z)/Y=(u1*b+u0)/Y*b+((u1*b+u0)%Y*b+z)/Y/\(u1*c+u0*b+z)%Y=((u1*b+u0)%Y*b+z)%Y:=by
 subst hc
 have h:=uo (u1*b+u0) Y
 have e:u1*(b*b)+u0*b+z=Y*((u1*b+u0)/Y*b)+((u1*b+u0)%Y*b+z):=by
  generalize (u1*b+u0)/Y=D at*
  generalize (u1*b+u0)%Y=R at*
  have:(Y*D+R)*b=(u1*b+u0)*b:=by rw[h]
  grind
 rw[e,Nat.mul_add_div hY,Nat.mul_add_mod]
 exact⟨rfl,rfl⟩
def Zt7:u=u/y*y+u%y:=by
 have:=uo u y
 rw[jb]at this
 exact this.symm
def Zyt(h:0<y)(hb:y<=b):u%y<b:=eX (kO _ h) hb
def Zyv{un cn kR:Nat}(h:0<cn)(hn:un<4294967296):(u*4294967296+un)/(cn*4294967296+kR)<=u/cn:=by
 have h1:(u*4294967296+un)/(cn*4294967296+kR)<=(u*4294967296+un)/(cn*4294967296):=Nat.div_le_div_left (by omega) (by omega)
 have h2:(u*4294967296+un)/(cn*4294967296)=u/cn:=by
  rw[jb cn,<-Gb,show (u*4294967296+un)/4294967296=u by omega]
 rw[h2]at h1
 exact h1
def Zyu{cn kR:Nat}(h0:kR<4294967296)(h:2147483648<=cn)(hu:u<cn*4294967296+kR):u/cn<=4294967297:=by
 apply Nat.le_of_lt_succ
 apply (pU (by omega)).2
 omega
def Zy3{h:T O}{N:Nat}{hi lo:Nat}(hy:hi<y)(Hq:y<18446744073709551616)(fN:lo<18446744073709551616):Fn A.C 244 [.int .u64 hi,.int .u64 lo,.int .u64 y] h N (fun v h' N'=>h'=h/\N'=N/\v=.aX [.int .u64 ((hi*18446744073709551616+lo)/y:Nat),.int .u64 ((hi*18446744073709551616+lo)%y:Nat)]):=by
 intro w
 have xH:¬y=0:=by omega
 have hle:¬y<=hi:=by omega
 rw[aR,A.k244 (by simp)]
 by_cases h0:hi=0
 ·subst h0
  have hq:=YT (b:=y) fN
  simp[A.b244,xH,hle,aG,ct.cv,aE,hq,ME,mm]
  exact ab.refl
 ·simp[A.b244,xH,hle,h0,aG]
  refine aA (Ye5 Hq) ?_
  rintro _ h N hk ⟨rfl,rfl,rfl⟩
  obtain⟨n1,n2,n3⟩:=Ymj xH Hq
  generalize 64-aY y=s at*
  have hw:bj .u64 (s:Int)=(s:Int):=EO (by omega) (by omega)
  have CU:bj .u64 (64-(s:Int))=((64-s:Nat):Int):=by rw[EO (by omega) (by omega)];omega
  obtain⟨Y,hY⟩:∃Y,bK y s=Y:=⟨_,rfl⟩
  have hYe:Y=y*2^s:=by rw[<-hY];unfold bK;omega
  obtain⟨cn,M7⟩:∃x,au Y 32=x:=⟨_,rfl⟩
  obtain⟨kR,M8⟩:∃x,eR Y=x:=⟨_,rfl⟩
  obtain⟨U,hU⟩:∃x,ji (bK hi s) (au lo (64-s))=x:=⟨_,rfl⟩
  obtain⟨L,hL⟩:∃x,bK lo s=x:=⟨_,rfl⟩
  obtain⟨xI,M9⟩:∃x,au L 32=x:=⟨_,rfl⟩
  obtain⟨vV,Na⟩:∃x,eR L=x:=⟨_,rfl⟩
  have hYB:Y<18446744073709551616:=by omega
  have hLB:L<18446744073709551616:=by rw[<-hL];exact Yl
  have RD:Y=cn*4294967296+kR/\kR<4294967296:=by
   rw[<-M7,<-M8];unfold au eR;omega
  have hLd:L=xI*4294967296+vV/\vV<4294967296:=by
   rw[<-M9,<-Na];unfold au eR;omega
  have hA:U*18446744073709551616+L=(hi*18446744073709551616+lo)*2^s:=by
   have e1:=Ro (x:=hi) n3 (Yl2 (x:=lo) (s:=s) fN (by omega))
   have e2:=Yc7 (x:=lo) (s:=s) (by omega)
   have e3:bK hi s=hi*2^s:=by
    unfold bK
    have:=IS hy (qQ s)
    omega
   have e4:U=au lo (64-s)+hi*2^s:=by
    rw[<-hU,<-e3,<-e1];unfold ji;exact Nat.or_comm _ _
   rw[hL]at e2
   unfold B at e2
   rw[e4,iZ (hi*18446744073709551616),<-e2]
   have:hi*18446744073709551616*2^s=hi*2^s*18446744073709551616:=by grind
   omega
  have hUY:U<Y:=by
   have h1:hi*18446744073709551616+lo<y*18446744073709551616:=by omega
   have h2:=IS h1 (qQ s)
   have h3:y*18446744073709551616*2^s=y*2^s*18446744073709551616:=by grind
   omega
  have hsr:au lo (64-s)<18446744073709551616:=Zxu fN
  have hyp:0<cn:=by omega
  have hyb:cn<=4294967296:=by omega
  have BS:0<cn*4294967296+kR:=by omega
  have hq:=YT (b:=cn) (show U<18446744073709551616 by omega)
  have hr:fO U (cQ (mm U cn) cn)=U%cn:=by
   have h1:=uo U cn
   rw[jb]at h1
   have h2:cQ (mm U cn) cn=U/cn*cn:=by unfold cQ mm;omega
   rw[h2,EP (by omega) (by omega)];omega
  simp(disch:=first|(simp;done)|omega|(simp only[bA,cA,bo];omega)|rfl) [hq,hr,hw,CU,hY,M7,M8,hU,hL,M9,Na]
  obtain⟨D1,AM⟩:∃D,(U*4294967296+xI)/(cn*4294967296+kR)=D:=⟨_,rfl⟩
  refine bL [(15,16),(67,85)] (fun e r st=>e=.exit 0/\st=⟨h,N,[]⟩/\r.get 15=some (.int .u64 D1)) (DvI h N 15 U cn D1) (U/cn) ?_ ?_ ?_
  ·exact⟨rfl,U%cn,by simp[mm],by simp,Zt7,AM▸Zyv hyp (by omega),Zyu RD.2 (by omega) (by omega),Zyt hyp hyb⟩
  ·rintro q r _ hr hf ⟨rfl,rh,hq,AN,hu,hD,iU,xX⟩
   rw[bl]
   obtain⟨P,hP⟩:∃P,P=q*kR:=⟨_,rfl⟩
   obtain⟨R2,hR2⟩:∃P,P=4294967296*rh:=⟨_,rfl⟩
   obtain⟨R3,hR3⟩:∃P,P=4294967296*rh+xI:=⟨_,rfl⟩
   have m2:cQ 4294967296 rh=R2:=by unfold cQ;omega
   have m3:cL R2 xI=R3:=by unfold cL;omega
   have tE:(4294967296<=q\/R3<P)->0<q/\D1<=q-1:=by
    intro hc
    have:D1<q:=by
     rcases hc with hc|hc
     ·have:D1<4294967296:=by rw[<-AM];exact(pU BS).2 (by omega)
      omega
     ·rw[<-AM];exact Zuf (Zy6 (b:=4294967296) hu (by omega))
    omega
   have rF:0<q->U=(q-1)*cn+(rh+cn):=by
    intro hc
    obtain⟨s,rfl⟩:∃s,q=s+1:=⟨q-1,by omega⟩
    rw[hu,iZ];simp;omega
   have eQ:∀HG,U=(q-1)*cn+HG->4294967296<=HG->(q-1)*(cn*4294967296+kR)<=U*4294967296+xI:=by
    intro HG h1 h2
    refine RC h1 ?_
    have:=uf (show q-1<=4294967296 by omega) (show kR<=4294967296 by omega)
    omega
   by_cases c1:4294967296<=q
   ·have c1':(4294967296:Int)<=(q:Int):=by omega
    obtain⟨g1,g2⟩:=tE (.inl c1)
    have s1:fO q 1=q-1:=EP g1 (by omega)
    have s2:cL rh cn=rh+cn:=by unfold cL;omega
    by_cases c3:4294967296<=rh+cn
    ·have c3':(4294967296:Int)<=(rh:Int)+(cn:Int):=by omega
     simp[A.ig,hr,hq,AN,c1',c3',s1,s2,hf]
     have hd:=J0 BS (eQ _ (rF g1) c3)
     rw[AM]at hd;omega
    ·have c3':¬(4294967296:Int)<=(rh:Int)+(cn:Int):=by omega
     simp[A.ig,hr,hq,AN,c1',c3',s1,s2,hf]
     exact⟨q-1,by omega,rfl,rh+cn,by simp,by simp,rF g1,g2,by omega,by omega⟩
   ·have c1':¬(4294967296:Int)<=(q:Int):=by omega
    have m1:cQ q kR=P:=by
     have:=uf (show q<=4294967296 by omega) (show kR<=4294967295 by omega)
     unfold cQ;omega
    by_cases c2:R3<P
    ·obtain⟨g1,g2⟩:=tE (.inr c2)
     have s1:fO q 1=q-1:=EP g1 (by omega)
     have s2:cL rh cn=rh+cn:=by unfold cL;omega
     by_cases c3:4294967296<=rh+cn
     ·have c3':(4294967296:Int)<=(rh:Int)+(cn:Int):=by omega
      simp[A.ig,hr,hq,AN,c1',c2,c3',m1,m2,m3,s1,s2,hf]
      have hd:=J0 BS (eQ _ (rF g1) c3)
      rw[AM]at hd;omega
     ·have c3':¬(4294967296:Int)<=(rh:Int)+(cn:Int):=by omega
      simp[A.ig,hr,hq,AN,c1',c2,c3',m1,m2,m3,s1,s2,hf]
      exact⟨q-1,by omega,rfl,rh+cn,by simp,by simp,rF g1,g2,by omega,by omega⟩
    ·simp[A.ig,hr,hq,AN,c1',c2,m1,m2,m3,hf]
     have hd:=J0 BS (RC (b:=4294967296) (un:=xI) hu (by omega))
     rw[AM]at hd;omega
  rintro _ r _ iS ⟨rfl,rfl,Dh⟩
  obtain⟨R1,RE⟩:∃R,(U*4294967296+xI)%Y=R:=⟨_,rfl⟩
  rw[<-RD.1]at AM
  have zi:fO (cL (cQ U 4294967296) xI) (cQ D1 Y)=R1:=by
   have h1:=uo (U*4294967296+xI) Y
   rw[AM,RE,jb Y]at h1
   have h2:cL (cQ U 4294967296) xI=(U*4294967296+xI)%18446744073709551616:=by unfold cL cQ;omega
   rw[h2]
   have h3:=kO (U*4294967296+xI) (show 0<Y by omega)
   unfold cQ
   rw[Zs3 (by omega) (by omega)];omega
  have zaI:R1<Y:=by rw[<-RE];exact kO _ (by omega)
  have jo:=YT (b:=cn) (show R1<18446744073709551616 by omega)
  have cZ:fO R1 (cQ (mm R1 cn) cn)=R1%cn:=by
   have h1:=uo R1 cn
   rw[jb]at h1
   have h2:cQ (mm R1 cn) cn=R1/cn*cn:=by unfold cQ mm;omega
   rw[h2,EP (by omega) (by omega)];omega
  simp(disch:=first|(simp;done)|omega|(simp only[bA,cA,bo];omega)|rfl) [iS,Dh,zi,jo,cZ]
  obtain⟨D0,zq⟩:∃D,(R1*4294967296+vV)/(cn*4294967296+kR)=D:=⟨_,rfl⟩
  refine bL [(16,16),(18,18),(102,120)] (fun e r st=>e=.exit 2/\st=⟨h,N,[]⟩/\r.get 18=some (.int .u64 D0)) (DvI h N 18 R1 cn D0) (R1/cn) ?_ ?_ ?_
  ·exact⟨rfl,R1%cn,by simp[mm],by simp,Zt7,zq▸Zyv hyp (by omega),Zyu RD.2 (by omega) (by omega),Zyt hyp hyb⟩
  ·rintro q r _ hr hf ⟨rfl,rh,hq,AN,hu,hD,iU,xX⟩
   rw[bl]
   obtain⟨P,hP⟩:∃P,P=q*kR:=⟨_,rfl⟩
   obtain⟨R2,hR2⟩:∃P,P=4294967296*rh:=⟨_,rfl⟩
   obtain⟨R3,hR3⟩:∃P,P=4294967296*rh+vV:=⟨_,rfl⟩
   have m2:cQ 4294967296 rh=R2:=by unfold cQ;omega
   have m3:cL R2 vV=R3:=by unfold cL;omega
   have tE:(4294967296<=q\/R3<P)->0<q/\D0<=q-1:=by
    intro hc
    have:D0<q:=by
     rcases hc with hc|hc
     ·have:D0<4294967296:=by rw[<-zq];exact(pU BS).2 (by omega)
      omega
     ·rw[<-zq];exact Zuf (Zy6 (b:=4294967296) hu (by omega))
    omega
   have rF:0<q->R1=(q-1)*cn+(rh+cn):=by
    intro hc
    obtain⟨s,rfl⟩:∃s,q=s+1:=⟨q-1,by omega⟩
    rw[hu,iZ];simp;omega
   have eQ:∀HG,R1=(q-1)*cn+HG->4294967296<=HG->(q-1)*(cn*4294967296+kR)<=R1*4294967296+vV:=by
    intro HG h1 h2
    refine RC h1 ?_
    have:=uf (show q-1<=4294967296 by omega) (show kR<=4294967296 by omega)
    omega
   by_cases c1:4294967296<=q
   ·have c1':(4294967296:Int)<=(q:Int):=by omega
    obtain⟨g1,g2⟩:=tE (.inl c1)
    have s1:fO q 1=q-1:=EP g1 (by omega)
    have s2:cL rh cn=rh+cn:=by unfold cL;omega
    by_cases c3:4294967296<=rh+cn
    ·have c3':(4294967296:Int)<=(rh:Int)+(cn:Int):=by omega
     simp[A.ic,hr,iS,hq,AN,c1',c3',s1,s2,hf]
     have hd:=J0 BS (eQ _ (rF g1) c3)
     rw[zq]at hd;omega
    ·have c3':¬(4294967296:Int)<=(rh:Int)+(cn:Int):=by omega
     simp[A.ic,hr,iS,hq,AN,c1',c3',s1,s2,hf]
     exact⟨q-1,by omega,rfl,rh+cn,by simp,by simp,rF g1,g2,by omega,by omega⟩
   ·have c1':¬(4294967296:Int)<=(q:Int):=by omega
    have m1:cQ q kR=P:=by
     have:=uf (show q<=4294967296 by omega) (show kR<=4294967295 by omega)
     unfold cQ;omega
    by_cases c2:R3<P
    ·obtain⟨g1,g2⟩:=tE (.inr c2)
     have s1:fO q 1=q-1:=EP g1 (by omega)
     have s2:cL rh cn=rh+cn:=by unfold cL;omega
     by_cases c3:4294967296<=rh+cn
     ·have c3':(4294967296:Int)<=(rh:Int)+(cn:Int):=by omega
      simp[A.ic,hr,iS,hq,AN,c1',c2,c3',m1,m2,m3,s1,s2,hf]
      have hd:=J0 BS (eQ _ (rF g1) c3)
      rw[zq]at hd;omega
     ·have c3':¬(4294967296:Int)<=(rh:Int)+(cn:Int):=by omega
      simp[A.ic,hr,iS,hq,AN,c1',c2,c3',m1,m2,m3,s1,s2,hf]
      exact⟨q-1,by omega,rfl,rh+cn,by simp,by simp,rF g1,g2,by omega,by omega⟩
    ·simp[A.ic,hr,iS,hq,AN,c1',c2,m1,m2,m3,hf]
     have hd:=J0 BS (RC (b:=4294967296) (un:=vV) hu (by omega))
     rw[zq]at hd;omega
  rintro _ r2 _ pk ⟨rfl,rfl,h18⟩
  obtain⟨R0,zG⟩:∃R,(R1*4294967296+vV)%Y=R:=⟨_,rfl⟩
  rw[<-RD.1]at zq
  have kg:fO (cL (cQ R1 4294967296) vV) (cQ D0 Y)=R0:=by
   have h1:=uo (R1*4294967296+vV) Y
   rw[zq,zG,jb Y]at h1
   have h2:cL (cQ R1 4294967296) vV=(R1*4294967296+vV)%18446744073709551616:=by unfold cL cQ;omega
   rw[h2]
   have h3:=kO (R1*4294967296+vV) (show 0<Y by omega)
   unfold cQ
   rw[Zs3 (by omega) (by omega)];omega
  have tr:D1<4294967296:=by rw[<-AM];exact(pU (by omega)).2 (by omega)
  have nY:D0<4294967296:=by rw[<-zq];exact(pU (by omega)).2 (by omega)
  have ha:cL (cQ D1 4294967296) D0=D1*4294967296+D0:=by unfold cL cQ;omega
  obtain⟨e1,e2⟩:=Ybx (b:=4294967296) (c:=18446744073709551616) (by decide) (u1:=U) (u0:=xI) (z:=vV) (show 0<Y by omega)
  rw[RE,AM,zq]at e1
  rw[RE,zG]at e2
  have e3:U*18446744073709551616+xI*4294967296+vV=(hi*18446744073709551616+lo)*2^s:=by
   rw[<-hA,hLd.1,oW]
  rw[e3,hYe,Qo _ _ (qQ s)]at e1
  rw[e3,hYe,K7]at e2
  have RF:au R0 s=(hi*18446744073709551616+lo)%y:=by
   unfold au
   rw[<-e2,Nat.mul_div_cancel _ (qQ s)]
  simp(disch:=first|(simp;done)|omega|(simp only[bA,cA,bo];omega)|rfl) [iS,pk,Dh,h18,kg,ha,aE]
  have e5:(hi:Int)*18446744073709551616+lo=((hi*18446744073709551616+lo:Nat):Int):=by omega
  refine⟨ab.refl,?_,?_⟩
  ·rw[e5,<-Int.natCast_ediv,e1];omega
  ·rw[e5,<-Int.natCast_emod,RF]
variable {P Y a b d k u v1:Nat} {l:List Nat}
def BQ(h:l[k]?=some d):val b (l.drop k)=d+b*val b (l.drop (k+1)):=by
 have hk:k<l.length:=by
  apply tg;intro hc;rw[eJ hc]at h;cases h
 rw[F8 hk]
 rw[cy hk]at h
 simp only[al]at h
 rw[h];rfl
def EV(b:Nat)(l:List Nat)(k:Nat)(hk:k<=l.length):val b l=val b (l.take k)+b^k*val b (l.drop k):=by
 have:=Rl b (l.take k) (l.drop k)
 rw[Cl,gD,pV hk]at this
 exact this
def Zxi{b:Nat}:∀{l:List Nat},(∀(t:Nat),t<l.length->l[t]?=some 0)->val b l=0
 |[],_=>rfl
 |d::l,h=>by
  have h0:=h 0 (by simp)
  simp at h0
  have:=Zxi (b:=b) (l:=l) fun t ht=>by simpa using h (t+1) (by simp;omega)
  simp[val,h0,this]
def Ytn{α:Type}{l:List α}{d:α}(h:l[k]?=some d):k<l.length:=by
 apply tg;intro hc;rw[eJ hc]at h;cases h
def YA(hz:∀t,k<=t->t<l.length->l[t]?=some 0):val b (l.drop k)=0:=by
 apply Zxi
 intro t ht
 rw[ff]
 rw[uQ]at ht
 exact hz _ (by omega) (by omega)
def Yhv{w:List Nat}{c:Nat}(ha:w[k]?=some a)(hc:w[k+1]?=some c)(hd:w[k+2]?=some d)(hz:∀t,k+3<=t->t<w.length->w[t]?=some 0):
  val b w=val b (w.take k)+b^k*(a+b*(d*b+c)):=by
 have:=Ytn ha
 rw[EV b w k (by omega),BQ ha,BQ hc,BQ hd,YA hz]
 generalize b^k=p
 grind
def Yhw{w:List Nat}{c:Nat}(ha:w[k]?=some a)(hc:w[k+1]?=some c)(hl:w.length=k+2):
  val b w=val b (w.take k)+b^k*(a+b*c):=by
 rw[EV b w k (by omega),BQ ha,BQ hc,yC (by omega)]
 simp[val]
def Zns(g:∀d∈l,d<b)(hk:k<=l.length):val b (l.take k)<b^k:=by
 have:=ET (b:=b) (l:=l.take k) fun d hd=>g d (wW hd)
 rwa [gD,pV hk]at this
def Ytp{c U' v2 V':Nat}(hP:0<P)(CK:V'<P)(iR:v2<b)(hd:v1<=d)(hW:U'+P*(a+b*(d*b+c))<b*(V'+P*(v2+b*v1))):d=v1:=by
 apply Nat.le_antisymm _ hd
 apply yX
 intro ay
 have h1:b*(P*(b*(v1+1)))<=b*(P*(b*d)):=jr _ (jr _ (jr _ ay))
 have h2:V'+P*(v2+b*v1)<P*(b*(v1+1)):=by
  have:P*(v2+1)<=P*b:=jr _ iR
  grind
 have h3:b*(V'+P*(v2+b*v1))<=b*(P*(b*(v1+1))):=jr _ (Nat.le_of_lt h2)
 have h4:b*(P*(b*d))<=U'+P*(a+b*(d*b+c)):=by
  have:P*(b*(d*b))=b*(P*(b*d)):=by grind
  have:P*(b*(d*b))<=P*(a+b*(d*b+c)):=jr _ (by rw[tf];omega)
  omega
 omega
def Ytq{U' u2 u1 v2 V' q r:Nat}(hU:U'<P)(fG:u2<b)(hinv:u1=q*v1+r)(hr:r<v1):U'+P*(u2+b*u1)<(q+1)*(V'+P*(v2+b*v1)):=by
 have h1:u1+1<=(q+1)*v1:=by rw[hinv,iZ];omega
 have h2:P*(b*(u1+1))<=P*(b*((q+1)*v1)):=jr _ (jr _ h1)
 have h3:P*(u2+1)<=P*b:=jr _ fG
 have h4:P*(b*((q+1)*v1))<=(q+1)*(V'+P*(v2+b*v1)):=by
  have:(q+1)*(V'+P*(v2+b*v1))=(q+1)*V'+P*((q+1)*v2)+P*(b*((q+1)*v1)):=by grind
  omega
 have h5:U'+P*(u2+b*u1)+P<=U'+P*(b*(u1+1)):=by grind
 omega
def vU(q v c:Nat):Nat:=bz (bz (q*v)+c)
def oH(q v c:Nat):Nat:=cL (cg (q*v)) (cg (bz (q*v)+c))
def Yo7{q v c w:Nat}(hq:q<B)(hv:v<B)(hc:c<B)(hu:u<B)(hw:w<=1):
  eD u (vU q v c) w+q*v+c+w=u+B*(oH q v c+fB u (vU q v c) w)/\eD u (vU q v c) w<B/\oH q v c<B/\fB u (vU q v c) w<=1/\vU q v c<B:=by
 have:q*v<=18446744073709551615*18446744073709551615:=uf (by unfold B at*;omega) (by unfold B at*;omega)
 unfold oH vU
 have h1:bz (bz (q*v)+c)+B*cL (cg (q*v)) (cg (bz (q*v)+c))=q*v+c/\cL (cg (q*v)) (cg (bz (q*v)+c))<B/\bz (bz (q*v)+c)<B:=by
  unfold bz cg cL
  unfold B at*
  generalize q*v=p at*
  omega
 obtain⟨h1,h2,h3⟩:=h1
 generalize bz (bz (q*v)+c)=l at*
 generalize cL (cg (q*v)) (cg (bz (q*v)+c))=k at*
 have h4:eD u l w+l+w=u+B*fB u l w/\eD u l w<B/\fB u l w<=1:=by
  unfold eD fB
  unfold B at*
  split<;>omega
 obtain⟨h4,h5,h6⟩:=h4
 refine⟨?_,h5,h2,h6,h3⟩
 rw[tf]
 omega
def Yn5{l w:Nat}(hl:l<B)(hu:u<B)(hw:w<=1):eD u l w+l+w=u+B*fB u l w/\eD u l w<B/\fB u l w<=1:=by
 unfold eD fB
 unfold B at*
 split<;>omega
def Yhj{v c:Nat}(hv:v<B)(hu:u<B)(hc:c<=1):bz (u+v+c)+B*cg (u+v+c)=u+v+c/\bz (u+v+c)<B/\cg (u+v+c)<=1:=by
 unfold bz cg
 unfold B at*
 omega
def MU{b:Nat}:∀{l:List Nat} {k old v:Nat},l[k]?=some old->val b (l.set k v)+b^k*old=val b l+b^k*v
 |[],k,old,v,h=>by simp at h
 |d::l,0,old,v,h=>by simp at h;subst h;simp[val];omega
 |d::l,k+1,old,v,h=>by
  have ih:=MU (b:=b) (l:=l) (k:=k) (old:=old) (v:=v) (by simpa using h)
  simp only[List.set_cons_succ,val,gg]
  generalize val b (l.set k v)=p at*
  generalize val b l=q at*
  generalize b^k=z at*
  have:b*(p+z*old)=b*(q+z*v):=by rw[ih]
  grind
def Dg.tL(h:Dg l){k v:Nat}(hv:v<B):Dg (l.set k v):=by
 intro d hd
 rcases F9 hd with hd|hd
 ·exact h d hd
 ·subst hd;exact hv
def Yta{W q U t c t' e:Nat}(hb:1<b)(hP:0<P)(hY:Y<P)(hU:U<P)(ht:t'<b)(he:e<=1)(h1:U+q*Y=W+P*c)(h2:t'+c=t+b*e)(fN:(q-1)*Y<=W+P*t)(gX:W+P*t<(q+1)*Y):
  (e=0->U+P*t'+q*Y=W+P*t/\U+P*t'<Y/\t'=0)/\(e=1->0<q/\U+P*t'+q*Y=W+P*t+P*b/\W+P*t<q*Y):=by
 have h3:P*t'+P*c=P*t+P*(b*e):=by rw[<-tf,h2,tf]
 constructor
 ·rintro rfl
  simp only[Nat.mul_zero,kv]at h3
  have h4:U+P*t'+q*Y=W+P*t:=by omega
  have h5:U+P*t'<Y:=by rw[iZ]at gX;omega
  refine⟨h4,h5,?_⟩
  rcases Gd t' with h|h
  ·exact h
  ·have:=jr P h
   omega
 ·rintro rfl
  simp only[yZ]at h3
  have h4:U+P*t'+q*Y=W+P*t+P*b:=by omega
  have h5:P*(t'+1)<=P*b:=jr _ ht
  rw[tf]at h5
  have h6:W+P*t<q*Y:=by omega
  refine⟨?_,h4,h6⟩
  rcases Gd q with h|h
  ·subst h;omega
  ·exact h
def Ypv{q U t' T A c:Nat}(hP:0<P)(hY:Y<P)(hA:A<P)(hc:c<=1)(ht:t'<b)(hq:0<q)(h1:U+P*t'+q*Y=T+P*b)(h2:T<q*Y)(fN:(q-1)*Y<=T)(h3:A+P*c=U+Y):
  A+(q-1)*Y=T/\A<Y/\(t'+c)%b=0:=by
 obtain⟨s,rfl⟩:∃s,q=s+1:=⟨q-1,by omega⟩
 simp only[Nat.add_sub_cancel]at*
 rw[iZ]at h1 h2
 have h4:A+P*(t'+c)+s*Y=T+P*b:=by rw[tf];omega
 have h5:t'+c=b:=by
  rcases Nat.lt_trichotomy (t'+c) b with h|h|h
  ·have:=jr P (show t'+c+1<=b from h)
   rw[tf P (t'+c)]at this
   omega
  ·exact h
  ·omega
 rw[h5]at h4
 refine⟨by omega,by omega,?_⟩
 rw[h5,Nat.mod_self]
def MN:∀{k n:Nat},B^k<=n->n<B^(k+1)->(aJ n).length=k+1/\(aJ n)[k]?=some (n/B^k)
 |0,n,h1,h2=>by
  have h0:n≠0:=by
   rw[D8]at h1;omega
  rw[mU h0]
  have h3:n/B=0:=zZ (by simpa using h2)
  rw[h3,rD]
  simp
  exact yn (by simpa using h2)
 |k+1,n,h1,h2=>by
  have hB:0<B:=by decide
  have hp:0<B^(k+1):=z_ hB
  have h0:n≠0:=by omega
  have h3:B^k<=n/B:=(Jh hB).2 (by rw[<-gg];exact h1)
  have h4:n/B<B^(k+1):=(pU hB).2 (by rw[<-gg];exact h2)
  obtain⟨e1,e2⟩:=MN h3 h4
  rw[mU h0]
  refine⟨by simp[e1],?_⟩
  rw[D5,e2,Gb,gg,jb (B^k)]
def Ylt{n:Nat}(h:(aJ n).length≠0):n≠0:=by
 rintro rfl
 exact h (by rw[rD];rfl)
def Hr:∀{k n:Nat},(aJ n).length=k+1->B^k<=n/\n<B^(k+1)
 |0,n,h=>by
  have h0:=Ylt (n:=n) (by omega)
  rw[mU h0]at h
  have h1:(aJ (n/B)).length=0:=by simpa using h
  have h2:n/B=0:=by
   by_cases hc:n/B=0
   ·exact hc
   ·rw[mU hc]at h1;simp at h1
  have:=(Nat.div_eq_zero_iff).1 h2
  rcases this with hb|hb
  ·exact absurd hb (by decide)
  ·simp;omega
 |k+1,n,h=>by
  have h0:=Ylt (n:=n) (by omega)
  rw[mU h0]at h
  obtain⟨h1,h2⟩:=Hr (k:=k) (n:=n/B) (by simpa using h)
  have hB:0<B:=by decide
  exact⟨by rw[gg];exact(Jh hB).1 h1,by rw[gg];exact(pU hB).1 h2⟩
def Yhu{t s:Nat}(hl:(aJ b).length=k+1)(ht:(aJ b)[k]?=some t)(h1:9223372036854775808<=t*2^s)(h2:t*2^s<18446744073709551616)(hs:s<=64):
  (aJ (b*2^s)).length=k+1/\∃v1,(aJ (b*2^s))[k]?=some v1/\9223372036854775808<=v1:=by
 obtain⟨b1,b2⟩:=Hr hl
 have hp:0<B^k:=z_ (by decide)
 have qw:=qQ s
 have htd:t=b/B^k:=by
  have:=(MN b1 b2).2
  rw[ht]at this
  exact oV this
 have b3:t*B^k<=b:=by rw[htd];exact Nat.div_mul_le_self _ _
 have b4:b<(t+1)*B^k:=by
  rw[htd]
  exact(pU hp).1 (vn _)
 have c1:9223372036854775808*B^k<=b*2^s:=by
  have e1:=jB (B^k) h1
  have e2:=jB (2^s) b3
  have e3:t*2^s*B^k=t*B^k*2^s:=by grind
  omega
 have c2:b*2^s<B^(k+1):=by
  have e0:t+1<=2^(64-s):=by
   have:t<2^(64-s):=by
    apply Nat.lt_of_mul_lt_mul_right (a:=2^s)
    rw[<-ke,show 64-s+s=64 by omega];exact h2
   omega
  have e1:=jB (2^s) e0
  rw[<-ke,show 64-s+s=64 by omega]at e1
  have e2:=IS b4 qw
  have e3:=jB (B^k) e1
  have e4:(t+1)*2^s*B^k=(t+1)*B^k*2^s:=by grind
  rw[gg,jb]
  have e5:(2^64:Nat)*B^k=B^k*B:=by unfold B;rw[jb]
  rw[jb b]at e2
  omega
 have c0:B^k<=b*2^s:=by omega
 obtain⟨d1,d2⟩:=MN c0 c2
 exact⟨d1,_,d2,(Jh hp).2 c1⟩
def Ycq{U:List Nat}{la m s:Nat}(hU:val B U=a*2^s)(hl:U.length=la+1)(hm:m+k+1=la+1)(wV:m<=U.length)(ha:a<B^la)(hs:s<64)(hv:9223372036854775808<=v1)(hY:v1*B^k<=Y):val B (U.drop m)<Y:=by
 have h1:=EV B U m wV
 have h2:B^m*val B (U.drop m)<B^la*2^s:=by
  have:=IS ha (qQ s)
  omega
 have h3:(2:Nat)^s<=9223372036854775808:=(qS (by decide) (show s<=63 by omega):(2:Nat)^s<=2^63)
 have h4:B^la=B^m*B^k:=by rw[<-ke];congr 1;omega
 rw[h4,D7]at h2
 have h5:=Nat.lt_of_mul_lt_mul_left h2
 have h6:=jr (B^k) h3
 have h7:=jr (B^k) hv
 rw[jb v1]at hY
 omega
end
end Go.Mx
