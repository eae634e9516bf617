/-bits-/
import Derived.Test.YtgnadghjglamaaaGreatDoorRcL
set_option linter.all false
set_option maxHeartbeats 8000000
namespace Go.Mx
noncomputable section
open Go Go.Proofs
variable {n:Nat}
set_option maxRecDepth 1000000
def Ymv:List UInt8:=[0,1,2,2,3,3,3,3,4,4,4,4,4,4,4,4,5,5,5,5,5,5,5,5,5,5,5,5,5,5,5,5,6,6,6,6,6,6,6,6,6,6,6,6,6,6,6,6,6,6,6,6,6,6,6,6,6,6,6,6,6,6,6,6,7,7,7,7,7,7,7,7,7,7,7,7,7,7,7,7,7,7,7,7,7,7,7,7,7,7,7,7,7,7,7,7,7,7,7,7,7,7,7,7,7,7,7,7,7,7,7,7,7,7,7,7,7,7,7,7,7,7,7,7,7,7,7,7,8,8,8,8,8,8,8,8,8,8,8,8,8,8,8,8,8,8,8,8,8,8,8,8,8,8,8,8,8,8,8,8,8,8,8,8,8,8,8,8,8,8,8,8,8,8,8,8,8,8,8,8,8,8,8,8,8,8,8,8,8,8,8,8,8,8,8,8,8,8,8,8,8,8,8,8,8,8,8,8,8,8,8,8,8,8,8,8,8,8,8,8,8,8,8,8,8,8,8,8,8,8,8,8,8,8,8,8,8,8,8,8,8,8,8,8,8,8,8,8,8,8,8,8,8,8,8,8]
def A.b273:cF:=sr [mc 2 0]
 (.seq (sr [mv 3 0,ge 4 (.bin .geq (.node []) false (tq 3) (.const (.int .u64 4294967296)))]
 (cd 4
 (sr [mv 5 0,ge 6 (.bin .shr (.node []) false (tq 5) (.const (.int .u64 32))),mv 0 6]
 (.reg [mc 2 32]))
 (.skip)))
 (.seq (sr [mv 7 0,ge 8 (.bin .geq (.node []) false (tq 7) (.const (.int .u64 65536)))]
 (cd 8
 (sr [mv 9 0,ge 10 (.bin .shr (.node []) false (tq 9) (.const (.int .u64 16))),mv 0 10]
 (.reg [mv 11 2,bc 12 .add 11 16,mv 2 12]))
 (.skip)))
 (.seq (sr [mv 13 0,ge 14 (.bin .geq (.node []) false (tq 13) (.const (.int .u64 256)))]
 (cd 14
 (sr [mv 15 0,ge 16 (.bin .shr (.node []) false (tq 15) (.const (.int .u64 8))),mv 0 16]
 (.reg [mv 17 2,bc 18 .add 17 8,mv 2 18]))
 (.skip)))
 (sr [mv 19 2,mv 20 0,ge 21 (.dr .u8 (tq 20)),ge 22 (.bO (.const (.str Ymv)) (tq 21)),ge 23 (.dr .i64 (tq 22)),bi 24 .add 19 23,mv 2 24]
 (.ret)))))
def A.k273:=@A.kk 273 25 [.tmp 2] A.b273 (by kernel_rfl) rfl
def A.b251:=A.q Tryz.f251
def A.k251:=@A.kk 251 6 [.tmp 2] A.b251 (by kernel_rfl) rfl
def bf(n:Nat):Nat:=if n=0 then 0 else Nat.log2 n+1
def TT(n:Nat):n<2^bf n:=by
 unfold bf
 split
 ·simp[*]
 ·exact Nat.lt_log2_self
def Mz(h:n≠0):2^(bf n-1)<=n:=by
 unfold bf
 rw[aA h]
 exact Nat.log2_self_le h
def Yle{k:Nat}(h1:2^k<=n)(h2:n<2^(k+1)):bf n=k+1:=by
 have hn:n≠0:=by have:=sR k;omega
 unfold bf
 rw[aA hn]
 congr 1
 have h3:Nat.log2 n<k+1:=(Nat.log2_lt hn).2 h2
 have h4:k<=Nat.log2 n:=(Nat.le_log2 hn).2 h1
 omega
def yA{k:Nat}(h:2^k<=n):bf (ay n k)+k=bf n:=by
 unfold ay
 have h0:n/2^k≠0:=by
  have:=Nat.div_pos h (sR k);omega
 have h1:=TT (n/2^k)
 have h2:=Mz h0
 have hp:0<bf (n/2^k):=by unfold bf;rw[aA h0];omega
 have e:bf (n/2^k)+k=(bf (n/2^k)-1+k)+1:=by omega
 rw[e]
 symm
 apply Yle
 ·rw[iF]
  exact sF (ky _ h2) (Nat.div_mul_le_self n _)
 ·rw[show bf (n/2^k)-1+k+1=bf (n/2^k)+k by omega,iF]
  exact(pK (sR k)).1 h1
def Ey:∀{n:Nat},n<256->Ymv[n]?=some (UInt8.ofNat (bf n)):=by decide+kernel
def CV:∀{n:Nat},n<256->bf n<9:=by decide+kernel
def Ez(h:n<256):cR (UInt8.ofNat (bf n))=(bf n:Int):=by
 have:=CV h
 unfold cR
 simp;omega
def Zpu{h:T O}{N:Nat}{x:Nat}(hx:x<18446744073709551616):Fn A.C 273 [.int .u64 x] h N (fun v' h' N'=>h'=h/\N'=N/\v'=.int .i64 (bf x:Nat)):=by
 intro w
 rw[aV,A.k273 (by simp)]
 by_cases h0:4294967296<=x
 ·have rf:(4294967296:Int)<=((x:Nat):Int):=by omega
  by_cases h1:65536<=ay (x) 32
  ·have iW:(65536:Int)<=((ay (x) 32:Nat):Int):=by omega
   by_cases h2:256<=ay (ay (x) 32) 16
   ·have l_:(256:Int)<=((ay (ay (x) 32) 16:Nat):Int):=by omega
    have hb:ay (ay (ay (x) 32) 16) 8<256:=by (try simp only[ay]at*);omega
    have ht:=Ey hb
    have hv:cR (UInt8.ofNat (bf (ay (ay (ay (x) 32) 16) 8)))=(bf (ay (ay (ay (x) 32) 16) 8):Int):=Ez hb
    have hl:=CV hb
    simp(disch:=first|(simp;done)|omega|(simp only[Zab,aq,ak];omega)|rfl) [-getElem?_pos,A.b273,rf,iW,l_,Bs,ht,hv,aF]
    have:=yA (k:=32) (n:=x) h0
    have:=yA (k:=16) (n:=ay (x) 32) h1
    have:=yA (k:=8) (n:=ay (ay (x) 32) 16) h2
    first|exact ae.refl|exact And.intro ae.refl (by omega)
   ·have l_:¬(256:Int)<=((ay (ay (x) 32) 16:Nat):Int):=by omega
    have hb:ay (ay (x) 32) 16<256:=by (try simp only[ay]at*);omega
    have ht:=Ey hb
    have hv:cR (UInt8.ofNat (bf (ay (ay (x) 32) 16)))=(bf (ay (ay (x) 32) 16):Int):=Ez hb
    have hl:=CV hb
    simp(disch:=first|(simp;done)|omega|(simp only[Zab,aq,ak];omega)|rfl) [-getElem?_pos,A.b273,rf,iW,l_,Bs,ht,hv,aF]
    have:=yA (k:=32) (n:=x) h0
    have:=yA (k:=16) (n:=ay (x) 32) h1
    first|exact ae.refl|exact And.intro ae.refl (by omega)
  ·have iW:¬(65536:Int)<=((ay (x) 32:Nat):Int):=by omega
   by_cases h2:256<=ay (x) 32
   ·have l_:(256:Int)<=((ay (x) 32:Nat):Int):=by omega
    have hb:ay (ay (x) 32) 8<256:=by (try simp only[ay]at*);omega
    have ht:=Ey hb
    have hv:cR (UInt8.ofNat (bf (ay (ay (x) 32) 8)))=(bf (ay (ay (x) 32) 8):Int):=Ez hb
    have hl:=CV hb
    simp(disch:=first|(simp;done)|omega|(simp only[Zab,aq,ak];omega)|rfl) [-getElem?_pos,A.b273,rf,iW,l_,Bs,ht,hv,aF]
    have:=yA (k:=32) (n:=x) h0
    have:=yA (k:=8) (n:=ay (x) 32) h2
    first|exact ae.refl|exact And.intro ae.refl (by omega)
   ·have l_:¬(256:Int)<=((ay (x) 32:Nat):Int):=by omega
    have hb:ay (x) 32<256:=by (try simp only[ay]at*);omega
    have ht:=Ey hb
    have hv:cR (UInt8.ofNat (bf (ay (x) 32)))=(bf (ay (x) 32):Int):=Ez hb
    have hl:=CV hb
    simp(disch:=first|(simp;done)|omega|(simp only[Zab,aq,ak];omega)|rfl) [-getElem?_pos,A.b273,rf,iW,l_,Bs,ht,hv,aF]
    have:=yA (k:=32) (n:=x) h0
    first|exact ae.refl|exact And.intro ae.refl (by omega)
 ·have rf:¬(4294967296:Int)<=((x:Nat):Int):=by omega
  by_cases h1:65536<=x
  ·have iW:(65536:Int)<=((x:Nat):Int):=by omega
   by_cases h2:256<=ay (x) 16
   ·have l_:(256:Int)<=((ay (x) 16:Nat):Int):=by omega
    have hb:ay (ay (x) 16) 8<256:=by (try simp only[ay]at*);omega
    have ht:=Ey hb
    have hv:cR (UInt8.ofNat (bf (ay (ay (x) 16) 8)))=(bf (ay (ay (x) 16) 8):Int):=Ez hb
    have hl:=CV hb
    simp(disch:=first|(simp;done)|omega|(simp only[Zab,aq,ak];omega)|rfl) [-getElem?_pos,A.b273,rf,iW,l_,Bs,ht,hv,aF]
    have:=yA (k:=16) (n:=x) h1
    have:=yA (k:=8) (n:=ay (x) 16) h2
    first|exact ae.refl|exact And.intro ae.refl (by omega)
   ·have l_:¬(256:Int)<=((ay (x) 16:Nat):Int):=by omega
    have hb:ay (x) 16<256:=by (try simp only[ay]at*);omega
    have ht:=Ey hb
    have hv:cR (UInt8.ofNat (bf (ay (x) 16)))=(bf (ay (x) 16):Int):=Ez hb
    have hl:=CV hb
    simp(disch:=first|(simp;done)|omega|(simp only[Zab,aq,ak];omega)|rfl) [-getElem?_pos,A.b273,rf,iW,l_,Bs,ht,hv,aF]
    have:=yA (k:=16) (n:=x) h1
    first|exact ae.refl|exact And.intro ae.refl (by omega)
  ·have iW:¬(65536:Int)<=((x:Nat):Int):=by omega
   by_cases h2:256<=x
   ·have l_:(256:Int)<=((x:Nat):Int):=by omega
    have hb:ay (x) 8<256:=by (try simp only[ay]at*);omega
    have ht:=Ey hb
    have hv:cR (UInt8.ofNat (bf (ay (x) 8)))=(bf (ay (x) 8):Int):=Ez hb
    have hl:=CV hb
    simp(disch:=first|(simp;done)|omega|(simp only[Zab,aq,ak];omega)|rfl) [-getElem?_pos,A.b273,rf,iW,l_,Bs,ht,hv,aF]
    have:=yA (k:=8) (n:=x) h2
    first|exact ae.refl|exact And.intro ae.refl (by omega)
   ·have l_:¬(256:Int)<=((x:Nat):Int):=by omega
    have hb:x<256:=by (try simp only[ay]at*);omega
    have ht:=Ey hb
    have hv:cR (UInt8.ofNat (bf (x)))=(bf (x):Int):=Ez hb
    have hl:=CV hb
    simp(disch:=first|(simp;done)|omega|(simp only[Zab,aq,ak];omega)|rfl) [-getElem?_pos,A.b273,rf,iW,l_,Bs,ht,hv,aF]
    first|exact ae.refl|exact And.intro ae.refl (by omega)
def Ybv{h:T O}{N:Nat}{x:Nat}(hx:x<18446744073709551616):Fn A.C 251 [.int .u64 x] h N (fun v' h' N'=>h'=h/\N'=N/\v'=.int .i64 ((64-bf x:Nat))):=by
 intro w
 have hl:bf x<=64:=by
  by_cases h0:x=0
  ·subst h0;decide
  ·apply yl
   intro hc
   have:=Mz h0
   have:2^64<=2^(bf x-1):=pc (by decide) (by omega)
   omega
 rw[aV,A.k251 (by simp)]
 simp(disch:=first|(simp;done)|omega|(simp only[Zab,aq,ak];omega)|rfl) [-getElem?_pos,A.b251]
 refine az (Zpu hx) ?_
 rintro _ _ _ hk ⟨rfl,rfl,rfl⟩
 simp(disch:=first|(simp;done)|omega|(simp only[Zab,aq,ak];omega)|rfl) [-getElem?_pos,aF]
 exact⟨hk,by omega⟩
variable {s x:Nat}
def A.P6:=A.q Tryz.f252
def A.m7:=A.ql A.P6 0 []
def A.b252:=(fun x0=>A.qb A.P6 [x0]) A.m7
def A.k252:=@A.kk 252 40 [.tmp 4] A.b252 (by kernel_rfl) rfl
def TI{c:Nat}(hs:s<64)(hc:c<2^s):jq c (bR x s)=c+bR x s:=by
 unfold jq bR
 have e:x*2^s%18446744073709551616=(x%2^(64-s))<<<s:=by
  rw[Nat.shiftLeft_eq]
  have:(18446744073709551616:Nat)=2^(64-s)*2^s:=by rw[<-iF,show 64-s+s=64 by omega]
  rw[this,Of]
 rw[e,Nat.or_comm,Nat.add_comm,Nat.shiftLeft_add_eq_or_of_lt hc]
def Zzz(hs:s<=64):bR x s+B*ay x (64-s)=x*2^s:=by
 unfold bR ay
 have e:x/2^(64-s)=x*2^s/18446744073709551616:=by
  have:(18446744073709551616:Nat)=2^(64-s)*2^s:=by rw[<-iF,show 64-s+s=64 by omega]
  rw[this,SM _ _ (sR s)]
 rw[e]
 have:=tW (x*2^s) 18446744073709551616
 unfold B
 omega
def Yhg(hx:x<B)(hs:s<=64):ay x (64-s)<2^s:=by
 unfold ay
 apply (pK (sR _)).2
 rw[<-iF,show s+(64-s)=64 by omega]
 exact hx
def Zoh{c:Nat}(hs:s<64)(hc:c<2^s):c+bR x s<B:=by
 rw[<-TI hs hc]
 unfold jq
 apply Nat.or_lt_two_pow (n:=64)
 ·exact Nat.lt_trans hc (Nat.pow_lt_pow_right (by decide) hs)
 ·exact Zpg
structure ShJ (h:T O) (N:Nat) (l:List Nat) (s k:Nat) (o:List Nat) (c:Nat) (r:T V) (st:St):Prop where
 hk:k<=l.length
 MA:r.get 14=some (.int .i64 k)
 n:st.n=N+1
 w:aD N st.w=[]
 ah:ae h N st.h (N+1)
 row:st.h.get N=some (.cells (dg o) 217 true)
 len:o.length=l.length+1
 dg:Dg o
 zero:∀t,k<t->t<o.length->o[t]?=some 0
 top:o[k]?=some c
 lc:c<2^s
 ex:val B o=val B (l.take k)*2^s
def ShI(h:T O)(N:Nat)(l:List Nat)(s m:Nat)(r:T V)(st:St):Prop:=∃k o c,m=l.length-k/\ShJ h N l s k o c r st
def ShE(h:T O)(N:Nat)(l:List Nat)(s:Nat)(r:T V)(st:St):Prop:=∃o c,ShJ h N l s l.length o c r st
def Zoj{h:T O}{N:Nat}{v:V}{l:List Nat}(hv:Sl h N v (Go.Mx.dg l))(hd:Dg l)(hs:s<64)(hl:l.length<1099511627776):Fn A.C 252 [v,.int .i64 s] h N (fun v' h' N'=>∃i o,N<=i/\i<N'/\v'=.slice i 0 (l.length+1) (some (l.length+1)) 1/\h'.get i=some (.cells (dg o) 217 true)/\o.length=l.length+1/\Dg o/\val B o=val B l*2^s):=by
 intro w
 have lx:=hv.len
 rw[Zab]at lx
 rw[aV,A.k252 (by simp)]
 simp(disch:=first|(simp;done)|omega|(simp only[Zab,aq,ak];omega)|rfl) [-getElem?_pos,A.b252,lx]
 refine c_ [(6,7),(14,38)] (fun e r st=>e=.exit 0/\ShE h N l s r st) (ShI h N l s) l.length ?_ ?_ ?_
 ·refine⟨0,List.replicate (l.length+1) 0,0,by omega,⟨by omega,by simp,by simp,by simp,ae.refl.set (aZ _) |>.up (by omega),by simp[JO],by simp,?_,?_,by simp,sR s,by simp[val,Zqg]⟩⟩
  ·intro d hd
   rw[LH]at hd
   rw[hd.2];decide
  ·intro t _ ht
   simp at ht
   simp[ht]
 ·rintro m r ⟨H,n1,W⟩ hr hf ⟨k,o,c,rfl,hk,rP,hn,hW,hK,hN,ho,MB,hz,hc,Bk,he⟩
  simp only at hn hW hK hN
  subst hn
  rw[dk]
  by_cases aP:k<l.length
  ·obtain⟨i1,o1,c1,e1,w1,p1,p2,p3,p4⟩:=hv.at (fH (eA aP))
   have p3:=(hK.get _ p2).trans p3
   have gx:=eA aP
   generalize l[k]=x at*
   have hx:x<B:=hd.get gx
   have hcB:c<18446744073709551616:=MB.get hc
   have Ak:=TI (x:=x) hs Bk
   have fm:=Zoh (x:=x) hs Bk
   obtain⟨z,hzz⟩:∃z,c+bR x s=z:=⟨_,rfl⟩
   rw[hzz]at Ak fm
   have zeN:(o.set k z).length=l.length+1:=by simp[ho]
   have D8:=Zzz (x:=x) (s:=s) (by omega)
   have cZ:=Yhg hx (s:=s) (by omega)
   have v1:=P3 (b:=B) (v:=z) hc
   have z_:(o.set k z)[k+1]?=some 0:=by
    rw[eR (by omega)];exact hz _ (by omega) (by omega)
   have v2:=P3 (b:=B) (v:=ay x (64-s)) z_
   by_cases h0:0<s
   ·have rf:(0:Int)<(s:Int):=by omega
    simp(disch:=first|(simp;done)|omega|(simp only[Zab,aq,ak];omega)|rfl) [-getElem?_pos,A.m7,hr,rP,aP,lx,p1,p3,p4,hN,fH hc,Ak,pw,h0,hf]
    refine⟨_,by omega,k+1,(o.set k z).set (k+1) (ay x (64-s)),ay x (64-s),rfl,⟨by omega,by simp,rfl,by simp[hW],(hK.set (aZ _)).set (aZ _),by simp,by simp[ho],(MB.set fm).set (h_ cZ (pc (by decide) (by omega):2^s<=2^64)),?_,sI (by omega),cZ,?_⟩⟩
    ·intro t t1 t2
     rw[eR (by omega),eR (by omega)]
     exact hz t (by omega) (by simpa using t2)
    ·rw[En gx,jg,<-he]
     rw[<-hzz]at v1 v2 ⊢
     have e3:B^k*(bR x s+B*ay x (64-s))=B^k*(x*2^s):=by rw[D8]
     rw[fO]at v2
     generalize val B ((o.set k (c+bR x s)).set (k+1) (ay x (64-s)))=z1 at*
     generalize val B (o.set k (c+bR x s))=z2 at*
     generalize val B o=z3 at*
     generalize bR x s=z4 at*
     generalize ay x (64-s)=z5 at*
     generalize B^k=z6 at*
     grind
   ·have rf:¬(0:Int)<(s:Int):=by omega
    simp(disch:=first|(simp;done)|omega|(simp only[Zab,aq,ak];omega)|rfl) [-getElem?_pos,A.m7,hr,rP,aP,lx,p1,p3,p4,hN,fH hc,Ak,pw,h0,hf]
    have wk:s=0:=by omega
    subst wk
    have gw:c=0:=by simpa using Bk
    subst gw
    have e0:bR x 0=x:=by unfold bR;unfold B at hx;simp;omega
    have pR:z=x:=by rw[<-hzz,e0];omega
    subst pR
    refine⟨_,by omega,k+1,o.set k z,0,rfl,⟨by omega,by simp,rfl,by simp[hW],hK.set (aZ _),by simp,by simp[ho],MB.set hx,?_,?_,by decide,?_⟩⟩
    ·intro t t1 t2
     rw[eR (by omega)]
     exact hz t (by omega) (by simpa using t2)
    ·rw[eR (by omega)];exact hz _ (by omega) (by omega)
    ·rw[En gx,jg,<-he]
     simpa using v1
  ·have:k=l.length:=by omega
   subst this
   simp(disch:=first|(simp;done)|omega|(simp only[Zab,aq,ak];omega)|rfl) [-getElem?_pos,A.m7,hr,rP,hf]
   exact⟨o,c,⟨by omega,by simp[rP],rfl,hW,hK,hN,ho,MB,hz,hc,Bk,he⟩⟩
 ·rintro _ r ⟨H,n1,W⟩ hr ⟨rfl,o,c,hk,rP,hn,hW,hK,hN,ho,MB,hz,hc,Bk,he⟩
  simp only at hn hW hK hN
  subst hn
  simp(disch:=first|(simp;done)|omega|(simp only[Zab,aq,ak];omega)|rfl) [-getElem?_pos,hr,hN,aF]
  rw[iP (aZ _)]at he
  exact⟨hW,hK,N,aZ _,by omega,rfl,o,hN,ho,MB,he⟩
open Go
variable {b r:Nat}
def TU{u un cJ lf q:Nat}(hi:u=q*cJ+r)(hc:q*lf<=b*r+un):q*(cJ*b+lf)<=u*b+un:=by
 subst hi
 rw[nL,jg,<-uA,gk r b]
 omega
def Zwc{u un cJ lf q:Nat}(hi:u=q*cJ+r)(hc:b*r+un<q*lf):u*b+un<q*(cJ*b+lf):=by
 subst hi
 rw[nL,jg,<-uA,gk r b]
 omega
def Zrw{a y q:Nat}(h:a<q*y):a/y<q:=by
 rcases LG y with rfl|hy
 ·simp at h
 ·exact(pK hy).2 h
def MC{a y q:Nat}(hy:0<y)(h:q*y<=a):q<=a/y:=(LI hy).2 h
def Ykg{P u1 u2 U' v1 v2 V' s:Nat}(oC:0<v1)(CK:V'<P)(ht:s<=b)(hinv:u1=(s+1)*v1+r)(hc:(s+1)*v2<=r*b+u2):
  s*(V'+P*(v2+b*v1))<=U'+P*(u2+b*u1):=by
 have h1:s*V'<=b*P:=jf ht (by omega)
 have h2:b*P*1<=b*P*v1:=je _ oC
 have h3:P*((s+1)*v2)<=P*(r*b+u2):=je _ hc
 have h4:P*((s+1)*v2)=P*(s*v2)+P*v2:=by grind
 have h5:s*(V'+P*(v2+b*v1))=s*V'+P*(s*v2)+b*(P*(s*v1)):=by grind
 have h6:U'+P*(u2+b*u1)=U'+P*(r*b+u2)+b*(P*(s*v1))+b*P*v1:=by subst hinv;grind
 omega
def Ykf{P u1 u2 U' v1 v2 V' t:Nat}(CJ:U'<P)(hinv:u1=t*v1+r)(hc:r*b+u2<t*v2):
  U'+P*(u2+b*u1)<t*(V'+P*(v2+b*v1)):=by
 have h3:P*(r*b+u2+1)<=P*(t*v2):=je _ hc
 have h5:t*(V'+P*(v2+b*v1))=t*V'+P*(t*v2)+b*(P*(t*v1)):=by grind
 have h6:U'+P*(u2+b*u1)+P=U'+P*(r*b+u2+1)+b*(P*(t*v1)):=by subst hinv;grind
 omega
variable {b u y:Nat}
def A.J4:=A.q Tryz.f250
def A.iK:=A.ql A.J4 1 []
def A.iL:=A.ql A.J4 0 []
def A.b250:=(fun x0 x1=>A.qb A.J4 [x0,x1]) A.iL A.iK
def A.k250:=@A.kk 250 135 [.tmp 6,.tmp 7] A.b250 (by kernel_rfl) rfl
structure DvI (h:T O) (N:Nat) (k1 u cJ D m:Nat) (r:T V) (st:St):Prop where
 st:st=⟨h,N,[]⟩
 ex:∃rh:Nat,r.get k1=some (.int .u64 m)/\r.get 16=some (.int .u64 rh)/\u=m*cJ+rh/\D<=m/\m<=4294967297/\rh<4294967296
def Yho(h0:¬y=0)(h:y<18446744073709551616):9223372036854775808<=y*2^(64-bf y)/\y*2^(64-bf y)<18446744073709551616/\64-bf y<64:=by
 have h1:=TT y
 have h2:=Mz h0
 have hp:0<bf y:=by unfold bf;rw[aA h0];omega
 have hl:bf y<=64:=by
  apply yl
  intro hc
  have:2^64<=2^(bf y-1):=pc (by decide) (by omega)
  omega
 refine⟨?_,?_,by omega⟩
 ·have:=ky (2^(64-bf y)) h2
  rw[<-iF,show bf y-1+(64-bf y)=63 by omega]at this
  exact this
 ·have:=Oh h1 (sR (64-bf y))
  rw[<-iF,show bf y+(64-bf y)=64 by omega]at this
  exact this
def Zkp{a:Nat}(h:a<18446744073709551616):bn .u64 ((a:Int)/(b:Int))=(zgr a b:Nat):=by
 have e:((a:Int)/(b:Int))=((a/b:Nat):Int):=rfl
 have:=uZ a b
 rw[e,BP (Int.natCast_nonneg _) (Int.ofNat_lt.2 (show a/b<18446744073709551616 by omega))]
 rfl
def Zqm{a c:Nat}(h:c<=a)(hr:a-c<18446744073709551616):ga (a%18446744073709551616) (c%18446744073709551616)=a-c:=by
 unfold ga
 split<;>omega
def Zy0{c u1 u0 z Y:Nat}(hc:c=b*b)(hY:0<Y):(u1*c+u0*b+z)/Y=(u1*b+u0)/Y*b+((u1*b+u0)%Y*b+z)/Y/\(u1*c+u0*b+z)%Y=((u1*b+u0)%Y*b+z)%Y:=by
 subst hc
 have h:=tW (u1*b+u0) Y
 have e:u1*(b*b)+u0*b+z=Y*((u1*b+u0)/Y*b)+((u1*b+u0)%Y*b+z):=by
  generalize (u1*b+u0)/Y=D at*
  generalize (u1*b+u0)%Y=R at*
  have:(Y*D+R)*b=(u1*b+u0)*b:=by rw[h]
  grind
 rw[e,Nat.mul_add_div hY,Nat.mul_add_mod]
 exact⟨rfl,rfl⟩
def Zro:u=u/y*y+u%y:=by
 have:=tW u y
 rw[gk]at this
 exact this.symm
def Zv1(h:0<y)(hb:y<=b):u%y<b:=h_ (kW _ h) hb
def Zv3{un cJ lf:Nat}(h:0<cJ)(hn:un<4294967296):(u*4294967296+un)/(cJ*4294967296+lf)<=u/cJ:=by
 have h1:(u*4294967296+un)/(cJ*4294967296+lf)<=(u*4294967296+un)/(cJ*4294967296):=Nat.div_le_div_left (by omega) (by omega)
 have h2:(u*4294967296+un)/(cJ*4294967296)=u/cJ:=by
  rw[gk cJ,<-IW,show (u*4294967296+un)/4294967296=u by omega]
 rw[h2]at h1
 exact h1
def Zv2{cJ lf:Nat}(h0:lf<4294967296)(h:2147483648<=cJ)(hu:u<cJ*4294967296+lf):u/cJ<=4294967297:=by
 apply Nat.le_of_lt_succ
 apply (pK (by omega)).2
 omega
def Zv9{h:T O}{N:Nat}{hi lo:Nat}(hy:hi<y)(JR:y<18446744073709551616)(fZ:lo<18446744073709551616):Fn A.C 250 [.int .u64 hi,.int .u64 lo,.int .u64 y] h N (fun v h' N'=>h'=h/\N'=N/\v=.aS [.int .u64 ((hi*18446744073709551616+lo)/y:Nat),.int .u64 ((hi*18446744073709551616+lo)%y:Nat)]):=by
 intro w
 have wU:¬y=0:=by omega
 have hle:¬y<=hi:=by omega
 rw[aV,A.k250 (by simp)]
 by_cases h0:hi=0
 ·subst h0
  have hq:=Zkp (b:=y) fZ
  simp(disch:=first|(simp;done)|omega|(simp only[Zab,aq,ak];omega)|rfl) [-getElem?_pos,A.b250,wU,hle,aL,bU.bZ,aF,hq,PD,zgr]
  exact ae.refl
 ·simp(disch:=first|(simp;done)|omega|(simp only[Zab,aq,ak];omega)|rfl) [-getElem?_pos,A.b250,wU,hle,h0,aL]
  refine az (Ybv JR) ?_
  rintro _ h N hk ⟨rfl,rfl,rfl⟩
  obtain⟨n1,n2,n3⟩:=Yho wU JR
  generalize 64-bf y=s at*
  have hw:bn .u64 (s:Int)=(s:Int):=BP (by omega) (by omega)
  have hw2:bn .u64 (64-(s:Int))=((64-s:Nat):Int):=by rw[BP (by omega) (by omega)];omega
  obtain⟨Y,hY⟩:∃Y,bR y s=Y:=⟨_,rfl⟩
  have hYe:Y=y*2^s:=by rw[<-hY];unfold bR;omega
  obtain⟨cJ,P7⟩:∃x,ay Y 32=x:=⟨_,rfl⟩
  obtain⟨lf,P9⟩:∃x,fh Y=x:=⟨_,rfl⟩
  obtain⟨U,hU⟩:∃x,jq (bR hi s) (ay lo (64-s))=x:=⟨_,rfl⟩
  obtain⟨L,hL⟩:∃x,bR lo s=x:=⟨_,rfl⟩
  obtain⟨wV,Qa⟩:∃x,ay L 32=x:=⟨_,rfl⟩
  obtain⟨vH,Qc⟩:∃x,fh L=x:=⟨_,rfl⟩
  have hYB:Y<18446744073709551616:=by omega
  have hLB:L<18446744073709551616:=by rw[<-hL];exact Zpg
  have TV:Y=cJ*4294967296+lf/\lf<4294967296:=by
   rw[<-P7,<-P9];unfold ay fh;omega
  have hLd:L=wV*4294967296+vH/\vH<4294967296:=by
   rw[<-Qa,<-Qc];unfold ay fh;omega
  have hA:U*18446744073709551616+L=(hi*18446744073709551616+lo)*2^s:=by
   have e1:=TI (x:=hi) n3 (Yhg (x:=lo) (s:=s) fZ (by omega))
   have e2:=Zzz (x:=lo) (s:=s) (by omega)
   have e3:bR hi s=hi*2^s:=by
    unfold bR
    have:=Oh hy (sR s)
    omega
   have e4:U=ay lo (64-s)+hi*2^s:=by
    rw[<-hU,<-e3,<-e1];unfold jq;exact Nat.or_comm _ _
   rw[hL]at e2
   unfold B at e2
   rw[e4,jg (hi*18446744073709551616),<-e2]
   have:hi*18446744073709551616*2^s=hi*2^s*18446744073709551616:=by grind
   omega
  have hUY:U<Y:=by
   have h1:hi*18446744073709551616+lo<y*18446744073709551616:=by omega
   have h2:=Oh h1 (sR s)
   have h3:y*18446744073709551616*2^s=y*2^s*18446744073709551616:=by grind
   omega
  have hsr:ay lo (64-s)<18446744073709551616:=Zu2 fZ
  have hyp:0<cJ:=by omega
  have hyb:cJ<=4294967296:=by omega
  have Bz:0<cJ*4294967296+lf:=by omega
  have hq:=Zkp (b:=cJ) (show U<18446744073709551616 by omega)
  have hr:ga U (cX (zgr U cJ) cJ)=U%cJ:=by
   have h1:=tW U cJ
   rw[gk]at h1
   have h2:cX (zgr U cJ) cJ=U/cJ*cJ:=by unfold cX zgr;omega
   rw[h2,Em (by omega) (by omega)];omega
  simp(disch:=first|(simp;done)|omega|(simp only[Zab,aq,ak];omega)|rfl) [-getElem?_pos,hq,hr,hw,hw2,hY,P7,P9,hU,hL,Qa,Qc]
  obtain⟨D1,Al⟩:∃D,(U*4294967296+wV)/(cJ*4294967296+lf)=D:=⟨_,rfl⟩
  refine c_ [(15,16),(67,85)] (fun e r st=>e=.exit 0/\st=⟨h,N,[]⟩/\r.get 15=some (.int .u64 D1)) (DvI h N 15 U cJ D1) (U/cJ) ?_ ?_ ?_
  ·exact⟨rfl,U%cJ,by simp[zgr],by simp,Zro,Al▸Zv3 hyp (by omega),Zv2 TV.2 (by omega) (by omega),Zv1 hyp hyb⟩
  ·rintro q r _ hr hf ⟨rfl,rh,hq,Am,hu,hD,TW,hrb⟩
   rw[dk]
   obtain⟨P,hP⟩:∃P,P=q*lf:=⟨_,rfl⟩
   obtain⟨R2,hR2⟩:∃P,P=4294967296*rh:=⟨_,rfl⟩
   obtain⟨R3,hR3⟩:∃P,P=4294967296*rh+wV:=⟨_,rfl⟩
   have m2:cX 4294967296 rh=R2:=by unfold cX;omega
   have m3:cQ R2 wV=R3:=by unfold cQ;omega
   have uO:(4294967296<=q\/R3<P)->0<q/\D1<=q-1:=by
    intro hc
    have:D1<q:=by
     rcases hc with hc|hc
     ·have:D1<4294967296:=by rw[<-Al];exact(pK Bz).2 (by omega)
      omega
     ·rw[<-Al];exact Zrw (Zwc (b:=4294967296) hu (by omega))
    omega
   have rk:0<q->U=(q-1)*cJ+(rh+cJ):=by
    intro hc
    obtain⟨s,rfl⟩:∃s,q=s+1:=⟨q-1,by omega⟩
    rw[hu,jg];simp;omega
   have zgm:∀J5,U=(q-1)*cJ+J5->4294967296<=J5->(q-1)*(cJ*4294967296+lf)<=U*4294967296+wV:=by
    intro J5 h1 h2
    refine TU h1 ?_
    have:=jf (show q-1<=4294967296 by omega) (show lf<=4294967296 by omega)
    omega
   by_cases c1:4294967296<=q
   ·have c1':(4294967296:Int)<=(q:Int):=by omega
    obtain⟨g1,g2⟩:=uO (.inl c1)
    have s1:ga q 1=q-1:=Em g1 (by omega)
    have s2:cQ rh cJ=rh+cJ:=by unfold cQ;omega
    by_cases c3:4294967296<=rh+cJ
    ·have c3':(4294967296:Int)<=(rh:Int)+(cJ:Int):=by omega
     simp(disch:=first|(simp;done)|omega|(simp only[Zab,aq,ak];omega)|rfl) [-getElem?_pos,A.iL,hr,hq,Am,c1',c3',s1,s2,hf]
     have hd:=MC Bz (zgm _ (rk g1) c3)
     rw[Al]at hd;omega
    ·have c3':¬(4294967296:Int)<=(rh:Int)+(cJ:Int):=by omega
     simp(disch:=first|(simp;done)|omega|(simp only[Zab,aq,ak];omega)|rfl) [-getElem?_pos,A.iL,hr,hq,Am,c1',c3',s1,s2,hf]
     exact⟨q-1,by omega,rfl,rh+cJ,by simp,by simp,rk g1,g2,by omega,by omega⟩
   ·have c1':¬(4294967296:Int)<=(q:Int):=by omega
    have m1:cX q lf=P:=by
     have:=jf (show q<=4294967296 by omega) (show lf<=4294967295 by omega)
     unfold cX;omega
    by_cases c2:R3<P
    ·obtain⟨g1,g2⟩:=uO (.inr c2)
     have s1:ga q 1=q-1:=Em g1 (by omega)
     have s2:cQ rh cJ=rh+cJ:=by unfold cQ;omega
     by_cases c3:4294967296<=rh+cJ
     ·have c3':(4294967296:Int)<=(rh:Int)+(cJ:Int):=by omega
      simp(disch:=first|(simp;done)|omega|(simp only[Zab,aq,ak];omega)|rfl) [-getElem?_pos,A.iL,hr,hq,Am,c1',c2,c3',m1,m2,m3,s1,s2,hf]
      have hd:=MC Bz (zgm _ (rk g1) c3)
      rw[Al]at hd;omega
     ·have c3':¬(4294967296:Int)<=(rh:Int)+(cJ:Int):=by omega
      simp(disch:=first|(simp;done)|omega|(simp only[Zab,aq,ak];omega)|rfl) [-getElem?_pos,A.iL,hr,hq,Am,c1',c2,c3',m1,m2,m3,s1,s2,hf]
      exact⟨q-1,by omega,rfl,rh+cJ,by simp,by simp,rk g1,g2,by omega,by omega⟩
    ·simp(disch:=first|(simp;done)|omega|(simp only[Zab,aq,ak];omega)|rfl) [-getElem?_pos,A.iL,hr,hq,Am,c1',c2,m1,m2,m3,hf]
     have hd:=MC Bz (TU (b:=4294967296) (un:=wV) hu (by omega))
     rw[Al]at hd;omega
  rintro _ r _ kR ⟨rfl,rfl,xl⟩
  obtain⟨R1,TX⟩:∃R,(U*4294967296+wV)%Y=R:=⟨_,rfl⟩
  rw[<-TV.1]at Al
  have uT:ga (cQ (cX U 4294967296) wV) (cX D1 Y)=R1:=by
   have h1:=tW (U*4294967296+wV) Y
   rw[Al,TX,gk Y]at h1
   have h2:cQ (cX U 4294967296) wV=(U*4294967296+wV)%18446744073709551616:=by unfold cQ cX;omega
   rw[h2]
   have h3:=kW (U*4294967296+wV) (show 0<Y by omega)
   unfold cX
   rw[Zqm (by omega) (by omega)];omega
  have ze_:R1<Y:=by rw[<-TX];exact kW _ (by omega)
  have lI:=Zkp (b:=cJ) (show R1<18446744073709551616 by omega)
  have bK:ga R1 (cX (zgr R1 cJ) cJ)=R1%cJ:=by
   have h1:=tW R1 cJ
   rw[gk]at h1
   have h2:cX (zgr R1 cJ) cJ=R1/cJ*cJ:=by unfold cX zgr;omega
   rw[h2,Em (by omega) (by omega)];omega
  simp(disch:=first|(simp;done)|omega|(simp only[Zab,aq,ak];omega)|rfl) [-getElem?_pos,kR,xl,uT,lI,bK]
  obtain⟨D0,yC⟩:∃D,(R1*4294967296+vH)/(cJ*4294967296+lf)=D:=⟨_,rfl⟩
  refine c_ [(16,16),(18,18),(102,120)] (fun e r st=>e=.exit 2/\st=⟨h,N,[]⟩/\r.get 18=some (.int .u64 D0)) (DvI h N 18 R1 cJ D0) (R1/cJ) ?_ ?_ ?_
  ·exact⟨rfl,R1%cJ,by simp[zgr],by simp,Zro,yC▸Zv3 hyp (by omega),Zv2 TV.2 (by omega) (by omega),Zv1 hyp hyb⟩
  ·rintro q r _ hr hf ⟨rfl,rh,hq,Am,hu,hD,TW,hrb⟩
   rw[dk]
   obtain⟨P,hP⟩:∃P,P=q*lf:=⟨_,rfl⟩
   obtain⟨R2,hR2⟩:∃P,P=4294967296*rh:=⟨_,rfl⟩
   obtain⟨R3,hR3⟩:∃P,P=4294967296*rh+vH:=⟨_,rfl⟩
   have m2:cX 4294967296 rh=R2:=by unfold cX;omega
   have m3:cQ R2 vH=R3:=by unfold cQ;omega
   have uO:(4294967296<=q\/R3<P)->0<q/\D0<=q-1:=by
    intro hc
    have:D0<q:=by
     rcases hc with hc|hc
     ·have:D0<4294967296:=by rw[<-yC];exact(pK Bz).2 (by omega)
      omega
     ·rw[<-yC];exact Zrw (Zwc (b:=4294967296) hu (by omega))
    omega
   have rk:0<q->R1=(q-1)*cJ+(rh+cJ):=by
    intro hc
    obtain⟨s,rfl⟩:∃s,q=s+1:=⟨q-1,by omega⟩
    rw[hu,jg];simp;omega
   have zgm:∀J5,R1=(q-1)*cJ+J5->4294967296<=J5->(q-1)*(cJ*4294967296+lf)<=R1*4294967296+vH:=by
    intro J5 h1 h2
    refine TU h1 ?_
    have:=jf (show q-1<=4294967296 by omega) (show lf<=4294967296 by omega)
    omega
   by_cases c1:4294967296<=q
   ·have c1':(4294967296:Int)<=(q:Int):=by omega
    obtain⟨g1,g2⟩:=uO (.inl c1)
    have s1:ga q 1=q-1:=Em g1 (by omega)
    have s2:cQ rh cJ=rh+cJ:=by unfold cQ;omega
    by_cases c3:4294967296<=rh+cJ
    ·have c3':(4294967296:Int)<=(rh:Int)+(cJ:Int):=by omega
     simp(disch:=first|(simp;done)|omega|(simp only[Zab,aq,ak];omega)|rfl) [-getElem?_pos,A.iK,hr,kR,hq,Am,c1',c3',s1,s2,hf]
     have hd:=MC Bz (zgm _ (rk g1) c3)
     rw[yC]at hd;omega
    ·have c3':¬(4294967296:Int)<=(rh:Int)+(cJ:Int):=by omega
     simp(disch:=first|(simp;done)|omega|(simp only[Zab,aq,ak];omega)|rfl) [-getElem?_pos,A.iK,hr,kR,hq,Am,c1',c3',s1,s2,hf]
     exact⟨q-1,by omega,rfl,rh+cJ,by simp,by simp,rk g1,g2,by omega,by omega⟩
   ·have c1':¬(4294967296:Int)<=(q:Int):=by omega
    have m1:cX q lf=P:=by
     have:=jf (show q<=4294967296 by omega) (show lf<=4294967295 by omega)
     unfold cX;omega
    by_cases c2:R3<P
    ·obtain⟨g1,g2⟩:=uO (.inr c2)
     have s1:ga q 1=q-1:=Em g1 (by omega)
     have s2:cQ rh cJ=rh+cJ:=by unfold cQ;omega
     by_cases c3:4294967296<=rh+cJ
     ·have c3':(4294967296:Int)<=(rh:Int)+(cJ:Int):=by omega
      simp(disch:=first|(simp;done)|omega|(simp only[Zab,aq,ak];omega)|rfl) [-getElem?_pos,A.iK,hr,kR,hq,Am,c1',c2,c3',m1,m2,m3,s1,s2,hf]
      have hd:=MC Bz (zgm _ (rk g1) c3)
      rw[yC]at hd;omega
     ·have c3':¬(4294967296:Int)<=(rh:Int)+(cJ:Int):=by omega
      simp(disch:=first|(simp;done)|omega|(simp only[Zab,aq,ak];omega)|rfl) [-getElem?_pos,A.iK,hr,kR,hq,Am,c1',c2,c3',m1,m2,m3,s1,s2,hf]
      exact⟨q-1,by omega,rfl,rh+cJ,by simp,by simp,rk g1,g2,by omega,by omega⟩
    ·simp(disch:=first|(simp;done)|omega|(simp only[Zab,aq,ak];omega)|rfl) [-getElem?_pos,A.iK,hr,kR,hq,Am,c1',c2,m1,m2,m3,hf]
     have hd:=MC Bz (TU (b:=4294967296) (un:=vH) hu (by omega))
     rw[yC]at hd;omega
  rintro _ r2 _ yU ⟨rfl,rfl,Lj⟩
  obtain⟨R0,J6⟩:∃R,(R1*4294967296+vH)%Y=R:=⟨_,rfl⟩
  rw[<-TV.1]at yC
  have nP:ga (cQ (cX R1 4294967296) vH) (cX D0 Y)=R0:=by
   have h1:=tW (R1*4294967296+vH) Y
   rw[yC,J6,gk Y]at h1
   have h2:cQ (cX R1 4294967296) vH=(R1*4294967296+vH)%18446744073709551616:=by unfold cQ cX;omega
   rw[h2]
   have h3:=kW (R1*4294967296+vH) (show 0<Y by omega)
   unfold cX
   rw[Zqm (by omega) (by omega)];omega
  have sA:D1<4294967296:=by rw[<-Al];exact(pK (by omega)).2 (by omega)
  have kv:D0<4294967296:=by rw[<-yC];exact(pK (by omega)).2 (by omega)
  have ha:cQ (cX D1 4294967296) D0=D1*4294967296+D0:=by unfold cQ cX;omega
  obtain⟨e1,e2⟩:=Zy0 (b:=4294967296) (c:=18446744073709551616) (by decide) (u1:=U) (u0:=wV) (z:=vH) (show 0<Y by omega)
  rw[TX,Al,yC]at e1
  rw[TX,J6]at e2
  have e3:U*18446744073709551616+wV*4294967296+vH=(hi*18446744073709551616+lo)*2^s:=by
   rw[<-hA,hLd.1,qS]
  rw[e3,hYe,SM _ _ (sR s)]at e1
  rw[e3,hYe,Of]at e2
  have TY:ay R0 s=(hi*18446744073709551616+lo)%y:=by
   unfold ay
   rw[<-e2,Nat.mul_div_cancel _ (sR s)]
  simp(disch:=first|(simp;done)|omega|(simp only[Zab,aq,ak];omega)|rfl) [-getElem?_pos,kR,yU,xl,Lj,nP,ha,aF]
  have e5:(hi:Int)*18446744073709551616+lo=((hi*18446744073709551616+lo:Nat):Int):=by omega
  refine⟨ae.refl,?_,?_⟩
  ·rw[e5,<-Int.natCast_ediv,e1];omega
  ·rw[e5,<-Int.natCast_emod,TY]
end
end Go.Mx
