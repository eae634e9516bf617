/-bits-/
import Derived.Test.YthekjfgljafnaaaGreatDoorRcL
set_option linter.all false
namespace Go.Mx
open Go Go.Proofs
variable {n:Nat}
set_option maxHeartbeats 2000000
set_option maxRecDepth 1000000
def Yq1:List UInt8:=[0,1,2,2,3,3,3,3,4,4,4,4,4,4,4,4,5,5,5,5,5,5,5,5,5,5,5,5,5,5,5,5,6,6,6,6,6,6,6,6,6,6,6,6,6,6,6,6,6,6,6,6,6,6,6,6,6,6,6,6,6,6,6,6,7,7,7,7,7,7,7,7,7,7,7,7,7,7,7,7,7,7,7,7,7,7,7,7,7,7,7,7,7,7,7,7,7,7,7,7,7,7,7,7,7,7,7,7,7,7,7,7,7,7,7,7,7,7,7,7,7,7,7,7,7,7,7,7,8,8,8,8,8,8,8,8,8,8,8,8,8,8,8,8,8,8,8,8,8,8,8,8,8,8,8,8,8,8,8,8,8,8,8,8,8,8,8,8,8,8,8,8,8,8,8,8,8,8,8,8,8,8,8,8,8,8,8,8,8,8,8,8,8,8,8,8,8,8,8,8,8,8,8,8,8,8,8,8,8,8,8,8,8,8,8,8,8,8,8,8,8,8,8,8,8,8,8,8,8,8,8,8,8,8,8,8,8,8,8,8,8,8,8,8,8,8,8,8,8,8,8,8,8,8,8,8]
def A.b238:Zaw:=sr [mc 2 0]
 (.seq (sr [mv 3 0,ge 4 (.bin .geq (.node []) false (tq 3) (.const (.int .u64 4294967296)))]
 (cd 4
 (sr [mv 5 0,ge 6 (.bin .shr (.node []) false (tq 5) (.const (.int .u64 32))),mv 0 6]
 (.reg [mc 2 32]))
 (.skip)))
 (.seq (sr [mv 7 0,ge 8 (.bin .geq (.node []) false (tq 7) (.const (.int .u64 65536)))]
 (cd 8
 (sr [mv 9 0,ge 10 (.bin .shr (.node []) false (tq 9) (.const (.int .u64 16))),mv 0 10]
 (.reg [mv 11 2,bc 12 .add 11 16,mv 2 12]))
 (.skip)))
 (.seq (sr [mv 13 0,ge 14 (.bin .geq (.node []) false (tq 13) (.const (.int .u64 256)))]
 (cd 14
 (sr [mv 15 0,ge 16 (.bin .shr (.node []) false (tq 15) (.const (.int .u64 8))),mv 0 16]
 (.reg [mv 17 2,bc 18 .add 17 8,mv 2 18]))
 (.skip)))
 (sr [mv 19 2,mv 20 0,ge 21 (.convInt .u8 (tq 20)),ge 22 (.idxStr (.const (.str Yq1)) (tq 21)),ge 23 (.convInt .i64 (tq 22)),bi 24 .add 19 23,mv 2 24]
 (.ret)))))
def A.k238:=@A.kk 238 25 [.tmp 2] A.b238 (by kernel_rfl) rfl
noncomputable def A.b241:=A.q Tryz.f241
def A.k241:=@A.kk 241 6 [.tmp 2] A.b241 (by kernel_rfl) rfl
def blen(n:Nat):Nat:=if n=0 then 0 else Nat.log2 n+1
def Zrh(n:Nat):n<2^blen n:=by
 unfold blen
 split
 ·simp[*]
 ·exact Nat.lt_log2_self
def Zlo(h:n≠0):2^(blen n-1)≤n:=by
 unfold blen
 rw[Yv4 h]
 exact Nat.log2_self_le h
def Yo4{k:Nat}(h1:2^k≤n)(h2:n<2^(k+1)):blen n=k+1:=by
 have hn:n≠0:=by have:=Yxl k;omega
 unfold blen
 rw[Yv4 hn]
 congr 1
 have h3:Nat.log2 n<k+1:=(Nat.log2_lt hn).2 h2
 have h4:k≤Nat.log2 n:=(Nat.le_log2 hn).2 h1
 omega
def Zdb{k:Nat}(h:2^k≤n):blen (shr64 n k)+k=blen n:=by
 unfold shr64
 have h0:n/2^k≠0:=by
  have:=Nat.div_pos h (Yxl k);omega
 have h1:=Zrh (n/2^k)
 have h2:=Zlo h0
 have hp:0<blen (n/2^k):=by unfold blen;rw[Yv4 h0];omega
 have e:blen (n/2^k)+k=(blen (n/2^k)-1+k)+1:=by omega
 rw[e]
 symm
 apply Yo4
 ·rw[Yxe]
  exact Yxt (Ywr _ h2) (Nat.div_mul_le_self n _)
 ·rw[show blen (n/2^k)-1+k+1=blen (n/2^k)+k by omega,Yxe]
  exact(Ywz (Yxl k)).1 h1
def Ykg:∀{n:Nat},n<256→Yq1[n]?=some (UInt8.ofNat (blen n)):=by decide+kernel
def Zri:∀{n:Nat},n<256→blen n<9:=by decide+kernel
def Zhi(h:n<256):u8I (UInt8.ofNat (blen n))=(blen n:Int):=by
 have:=Zri h
 unfold u8I
 simp;omega
def Zqz{h:T O}{N:Nat}{x:Nat}(hx:x<18446744073709551616):Fn A.C 238 [.int .u64 x] h N (fun v' h' N'=>h'=h∧N'=N∧v'=.int .i64 (blen x:Nat)):=by
 intro w
 rw[Zab,A.k238 (by simp)]
 by_cases h0:4294967296≤x
 ·have h0':(4294967296:Int)≤((x:Nat):Int):=by omega
  by_cases h1:65536≤shr64 (x) 32
  ·have h1':(65536:Int)≤((shr64 (x) 32:Nat):Int):=by omega
   by_cases h2:256≤shr64 (shr64 (x) 32) 16
   ·have h2':(256:Int)≤((shr64 (shr64 (x) 32) 16:Nat):Int):=by omega
    have hb:shr64 (shr64 (shr64 (x) 32) 16) 8<256:=by (try simp only[shr64]at*);omega
    have ht:=Ykg hb
    have hv:u8I (UInt8.ofNat (blen (shr64 (shr64 (shr64 (x) 32) 16) 8)))=(blen (shr64 (shr64 (shr64 (x) 32) 16) 8):Int):=Zhi hb
    have hl:=Zri hb
    simp(disch:=omega) [A.b238,h0',h1',h2',Zej,ht,hv,Ret]
    have:=Zdb (k:=32) (n:=x) h0
    have:=Zdb (k:=16) (n:=shr64 (x) 32) h1
    have:=Zdb (k:=8) (n:=shr64 (shr64 (x) 32) 16) h2
    first|exact Keeps.refl|exact And.intro Keeps.refl (by omega)
   ·have h2':¬(256:Int)≤((shr64 (shr64 (x) 32) 16:Nat):Int):=by omega
    have hb:shr64 (shr64 (x) 32) 16<256:=by (try simp only[shr64]at*);omega
    have ht:=Ykg hb
    have hv:u8I (UInt8.ofNat (blen (shr64 (shr64 (x) 32) 16)))=(blen (shr64 (shr64 (x) 32) 16):Int):=Zhi hb
    have hl:=Zri hb
    simp(disch:=omega) [A.b238,h0',h1',h2',Zej,ht,hv,Ret]
    have:=Zdb (k:=32) (n:=x) h0
    have:=Zdb (k:=16) (n:=shr64 (x) 32) h1
    first|exact Keeps.refl|exact And.intro Keeps.refl (by omega)
  ·have h1':¬(65536:Int)≤((shr64 (x) 32:Nat):Int):=by omega
   by_cases h2:256≤shr64 (x) 32
   ·have h2':(256:Int)≤((shr64 (x) 32:Nat):Int):=by omega
    have hb:shr64 (shr64 (x) 32) 8<256:=by (try simp only[shr64]at*);omega
    have ht:=Ykg hb
    have hv:u8I (UInt8.ofNat (blen (shr64 (shr64 (x) 32) 8)))=(blen (shr64 (shr64 (x) 32) 8):Int):=Zhi hb
    have hl:=Zri hb
    simp(disch:=omega) [A.b238,h0',h1',h2',Zej,ht,hv,Ret]
    have:=Zdb (k:=32) (n:=x) h0
    have:=Zdb (k:=8) (n:=shr64 (x) 32) h2
    first|exact Keeps.refl|exact And.intro Keeps.refl (by omega)
   ·have h2':¬(256:Int)≤((shr64 (x) 32:Nat):Int):=by omega
    have hb:shr64 (x) 32<256:=by (try simp only[shr64]at*);omega
    have ht:=Ykg hb
    have hv:u8I (UInt8.ofNat (blen (shr64 (x) 32)))=(blen (shr64 (x) 32):Int):=Zhi hb
    have hl:=Zri hb
    simp(disch:=omega) [A.b238,h0',h1',h2',Zej,ht,hv,Ret]
    have:=Zdb (k:=32) (n:=x) h0
    first|exact Keeps.refl|exact And.intro Keeps.refl (by omega)
 ·have h0':¬(4294967296:Int)≤((x:Nat):Int):=by omega
  by_cases h1:65536≤x
  ·have h1':(65536:Int)≤((x:Nat):Int):=by omega
   by_cases h2:256≤shr64 (x) 16
   ·have h2':(256:Int)≤((shr64 (x) 16:Nat):Int):=by omega
    have hb:shr64 (shr64 (x) 16) 8<256:=by (try simp only[shr64]at*);omega
    have ht:=Ykg hb
    have hv:u8I (UInt8.ofNat (blen (shr64 (shr64 (x) 16) 8)))=(blen (shr64 (shr64 (x) 16) 8):Int):=Zhi hb
    have hl:=Zri hb
    simp(disch:=omega) [A.b238,h0',h1',h2',Zej,ht,hv,Ret]
    have:=Zdb (k:=16) (n:=x) h1
    have:=Zdb (k:=8) (n:=shr64 (x) 16) h2
    first|exact Keeps.refl|exact And.intro Keeps.refl (by omega)
   ·have h2':¬(256:Int)≤((shr64 (x) 16:Nat):Int):=by omega
    have hb:shr64 (x) 16<256:=by (try simp only[shr64]at*);omega
    have ht:=Ykg hb
    have hv:u8I (UInt8.ofNat (blen (shr64 (x) 16)))=(blen (shr64 (x) 16):Int):=Zhi hb
    have hl:=Zri hb
    simp(disch:=omega) [A.b238,h0',h1',h2',Zej,ht,hv,Ret]
    have:=Zdb (k:=16) (n:=x) h1
    first|exact Keeps.refl|exact And.intro Keeps.refl (by omega)
  ·have h1':¬(65536:Int)≤((x:Nat):Int):=by omega
   by_cases h2:256≤x
   ·have h2':(256:Int)≤((x:Nat):Int):=by omega
    have hb:shr64 (x) 8<256:=by (try simp only[shr64]at*);omega
    have ht:=Ykg hb
    have hv:u8I (UInt8.ofNat (blen (shr64 (x) 8)))=(blen (shr64 (x) 8):Int):=Zhi hb
    have hl:=Zri hb
    simp(disch:=omega) [A.b238,h0',h1',h2',Zej,ht,hv,Ret]
    have:=Zdb (k:=8) (n:=x) h2
    first|exact Keeps.refl|exact And.intro Keeps.refl (by omega)
   ·have h2':¬(256:Int)≤((x:Nat):Int):=by omega
    have hb:x<256:=by (try simp only[shr64]at*);omega
    have ht:=Ykg hb
    have hv:u8I (UInt8.ofNat (blen (x)))=(blen (x):Int):=Zhi hb
    have hl:=Zri hb
    simp(disch:=omega) [A.b238,h0',h1',h2',Zej,ht,hv,Ret]
    first|exact Keeps.refl|exact And.intro Keeps.refl (by omega)
def Ydh{h:T O}{N:Nat}{x:Nat}(hx:x<18446744073709551616):Fn A.C 241 [.int .u64 x] h N (fun v' h' N'=>h'=h∧N'=N∧v'=.int .i64 ((64-blen x:Nat))):=by
 intro w
 have hl:blen x≤64:=by
  by_cases h0:x=0
  ·subst h0;decide
  ·apply Yyc
   intro hc
   have:=Zlo h0
   have:2^64≤2^(blen x-1):=Yw3 (by decide) (by omega)
   omega
 rw[Zab,A.k241 (by simp)]
 simp[A.b241]
 refine Zac (Zqz hx) ?_
 rintro _ _ _ hk ⟨rfl,rfl,rfl⟩
 simp(disch:=omega) [Ret]
 exact⟨hk,by omega⟩
variable {s x:Nat}
set_option maxHeartbeats 2000000
noncomputable def A.w242:=A.q Tryz.f242
noncomputable def A.lb242_0:=A.ql A.w242 0 []
noncomputable def A.b242:=(fun x0=>A.qb A.w242 [x0]) A.lb242_0
def A.k242:=@A.kk 242 40 [.tmp 4] A.b242 (by kernel_rfl) rfl
def Zws{c:Nat}(hs:s<64)(hc:c<2^s):or64 c (shl64 x s)=c+shl64 x s:=by
 unfold or64 shl64
 have e:x*2^s%18446744073709551616=(x%2^(64-s))<<<s:=by
  rw[Nat.shiftLeft_eq]
  have:(18446744073709551616:Nat)=2^(64-s)*2^s:=by rw[←Yxe,show 64-s+s=64 by omega]
  rw[this,Yzm]
 rw[e,Nat.or_comm,Nat.add_comm,Nat.shiftLeft_add_eq_or_of_lt hc]
def Ybo(hs:s≤64):shl64 x s+B*shr64 x (64-s)=x*2^s:=by
 unfold shl64 shr64
 have e:x/2^(64-s)=x*2^s/18446744073709551616:=by
  have:(18446744073709551616:Nat)=2^(64-s)*2^s:=by rw[←Yxe,show 64-s+s=64 by omega]
  rw[this,Yz0 _ _ (Yxl s)]
 rw[e]
 have:=Yxv (x*2^s) 18446744073709551616
 unfold B
 omega
def Yjx(hx:x<B)(hs:s≤64):shr64 x (64-s)<2^s:=by
 unfold shr64
 apply (Ywz (Yxl _)).2
 rw[←Yxe,show s+(64-s)=64 by omega]
 exact hx
def Zpg{c:Nat}(hs:s<64)(hc:c<2^s):c+shl64 x s<B:=by
 rw[←Zws hs hc]
 unfold or64
 apply Nat.or_lt_two_pow (n:=64)
 ·exact Nat.lt_trans hc (Nat.pow_lt_pow_right (by decide) hs)
 ·exact Zql
structure ShJ (h:T O) (N:Nat) (l:List Nat) (s k:Nat) (o:List Nat) (c:Nat) (r:T V) (st:St):Prop where
 hk:k≤l.length
 r14:r.get 14=some (.int .i64 k)
 n:st.n=N+1
 w:Zaa N st.w=[]
 keep:Keeps h N st.h (N+1)
 row:st.h.get N=some (.cells (dg o) 205 true)
 len:o.length=l.length+1
 dg:Dg o
 zero:∀t,k<t→t<o.length→o[t]?=some 0
 top:o[k]?=some c
 lc:c<2^s
 ex:val B o=val B (l.take k)*2^s
def ShI(h:T O)(N:Nat)(l:List Nat)(s m:Nat)(r:T V)(st:St):Prop:=∃k o c,m=l.length-k∧ShJ h N l s k o c r st
def ShE(h:T O)(N:Nat)(l:List Nat)(s:Nat)(r:T V)(st:St):Prop:=∃o c,ShJ h N l s l.length o c r st
def Zpi{h:T O}{N:Nat}{v:V}{l:List Nat}(hv:Sl h N v (Go.Mx.dg l))(hd:Dg l)(hs:s<64)(hl:l.length<1099511627776):Fn A.C 242 [v,.int .i64 s] h N (fun v' h' N'=>∃i o,N≤i∧i<N'∧v'=.slice i 0 (l.length+1) (some (l.length+1)) 1∧h'.get i=some (.cells (dg o) 205 true)∧o.length=l.length+1∧Dg o∧val B o=val B l*2^s):=by
 intro w
 have lx:=hv.len
 rw[Zaf]at lx
 rw[Zab,A.k242 (by simp)]
 simp(disch:=first|(simp;done)|omega|(simp only[Zaf,Zag,Yv8];omega)|rfl) [A.b242,lx]
 refine Zai [(6,7),(14,38)] (fun e r st=>e=.exit 0∧ShE h N l s r st) (ShI h N l s) l.length ?_ ?_ ?_
 ·refine⟨0,List.replicate (l.length+1) 0,0,by omega,⟨by omega,by simp,by simp,by simp,Keeps.refl.set (Yv5 _) |>.up (by omega),by simp[Zg7],by simp,?_,?_,by simp,Yxl s,by simp[val,Zrp]⟩⟩
  ·intro d hd
   rw[Yzk]at hd
   rw[hd.2];decide
  ·intro t _ ht
   simp at ht
   simp[ht]
 ·rintro m r ⟨H,n1,W⟩ hr hf ⟨k,o,c,rfl,hk,h14,hn,hW,hK,hN,ho,hdo,hz,hc,hlc,he⟩
  simp only at hn hW hK hN
  subst hn
  rw[Zah]
  by_cases hlt:k<l.length
  ·obtain⟨i1,o1,c1,e1,w1,p1,p2,p3,p4⟩:=hv.at (Za9 (Yv9 hlt))
   have p3:=(hK.get _ p2).trans p3
   have gx:=Yv9 hlt
   generalize l[k]=x at*
   have hx:x<B:=hd.get gx
   have hcB:c<18446744073709551616:=hdo.get hc
   have hsum:=Zws (x:=x) hs hlc
   have hlt2:=Zpg (x:=x) hs hlc
   obtain⟨z,hzz⟩:∃z,c+shl64 x s=z:=⟨_,rfl⟩
   rw[hzz]at hsum hlt2
   have hlen1:(o.set k z).length=l.length+1:=by simp[ho]
   have hss:=Ybo (x:=x) (s:=s) (by omega)
   have hsl:=Yjx hx (s:=s) (by omega)
   have v1:=Zmy (b:=B) (v:=z) hc
   have hz1:(o.set k z)[k+1]?=some 0:=by
    rw[Ywb (by omega)];exact hz _ (by omega) (by omega)
   have v2:=Zmy (b:=B) (v:=shr64 x (64-s)) hz1
   by_cases h0:0<s
   ·have h0':(0:Int)<(s:Int):=by omega
    simp(disch:=first|(simp;done)|omega|(simp only[Zaf,Zag,Yv8];omega)|rfl) [-getElem?_pos,A.lb242_0,hr,h14,hlt,lx,p1,p3,p4,hN,Za9 hc,hsum,Zc7,h0,hf]
    refine⟨_,by omega,k+1,(o.set k z).set (k+1) (shr64 x (64-s)),shr64 x (64-s),rfl,⟨by omega,by simp,rfl,by simp[hW],(hK.set (Yv5 _)).set (Yv5 _),by simp,by simp[ho],(hdo.set hlt2).set (Ywf hsl (Yw3 (by decide) (by omega):2^s≤2^64)),?_,Ywh (by omega),hsl,?_⟩⟩
    ·intro t t1 t2
     rw[Ywb (by omega),Ywb (by omega)]
     exact hz t (by omega) (by simpa using t2)
    ·rw[Zb1 gx,Yxd,←he]
     rw[←hzz]at v1 v2 ⊢
     have e3:B^k*(shl64 x s+B*shr64 x (64-s))=B^k*(x*2^s):=by rw[hss]
     rw[Ywx]at v2
     generalize val B ((o.set k (c+shl64 x s)).set (k+1) (shr64 x (64-s)))=z1 at*
     generalize val B (o.set k (c+shl64 x s))=z2 at*
     generalize val B o=z3 at*
     generalize shl64 x s=z4 at*
     generalize shr64 x (64-s)=z5 at*
     generalize B^k=z6 at*
     grind
   ·have h0':¬(0:Int)<(s:Int):=by omega
    simp(disch:=first|(simp;done)|omega|(simp only[Zaf,Zag,Yv8];omega)|rfl) [-getElem?_pos,A.lb242_0,hr,h14,hlt,lx,p1,p3,p4,hN,Za9 hc,hsum,Zc7,h0,hf]
    have hs0:s=0:=by omega
    subst hs0
    have hc0:c=0:=by simpa using hlc
    subst hc0
    have e0:shl64 x 0=x:=by unfold shl64;unfold B at hx;simp;omega
    have hzx:z=x:=by rw[←hzz,e0];omega
    subst hzx
    refine⟨_,by omega,k+1,o.set k z,0,rfl,⟨by omega,by simp,rfl,by simp[hW],hK.set (Yv5 _),by simp,by simp[ho],hdo.set hx,?_,?_,by decide,?_⟩⟩
    ·intro t t1 t2
     rw[Ywb (by omega)]
     exact hz t (by omega) (by simpa using t2)
    ·rw[Ywb (by omega)];exact hz _ (by omega) (by omega)
    ·rw[Zb1 gx,Yxd,←he]
     simpa using v1
  ·have:k=l.length:=by omega
   subst this
   simp[A.lb242_0,hr,h14,hf]
   exact⟨o,c,⟨by omega,by simp[h14],rfl,hW,hK,hN,ho,hdo,hz,hc,hlc,he⟩⟩
 ·rintro _ r ⟨H,n1,W⟩ hr ⟨rfl,o,c,hk,h14,hn,hW,hK,hN,ho,hdo,hz,hc,hlc,he⟩
  simp only at hn hW hK hN
  subst hn
  simp[hr,hN,Ret]
  rw[Ywe (Yv5 _)]at he
  exact⟨hW,hK,N,Yv5 _,by omega,rfl,o,hN,ho,hdo,he⟩
open Go
variable {b r:Nat}
def Zmn{u un yn1 yn0 q:Nat}(hi:u=q*yn1+r)(hc:q*yn0≤b*r+un):q*(yn1*b+yn0)≤u*b+un:=by
 subst hi
 rw[Yyg,Yxd,←Yzn,Yw4 r b]
 omega
def Zxs{u un yn1 yn0 q:Nat}(hi:u=q*yn1+r)(hc:b*r+un<q*yn0):u*b+un<q*(yn1*b+yn0):=by
 subst hi
 rw[Yyg,Yxd,←Yzn,Yw4 r b]
 omega
def Zs8{a y q:Nat}(h:a<q*y):a/y<q:=by
 rcases Yzb y with rfl|hy
 ·simp at h
 ·exact(Ywz hy).2 h
def Zf9{a y q:Nat}(hy:0<y)(h:q*y≤a):q≤a/y:=(Yzc hy).2 h
def Ynp{P u1 u2 U' v1 v2 V' s:Nat}(hv1:0<v1)(hV':V'<P)(ht:s≤b)(hinv:u1=(s+1)*v1+r)(hc:(s+1)*v2≤r*b+u2):
  s*(V'+P*(v2+b*v1))≤U'+P*(u2+b*u1):=by
 have h1:s*V'≤b*P:=Yx9 ht (by omega)
 have h2:b*P*1≤b*P*v1:=Ywt _ hv1
 have h3:P*((s+1)*v2)≤P*(r*b+u2):=Ywt _ hc
 have h4:P*((s+1)*v2)=P*(s*v2)+P*v2:=by grind
 have h5:s*(V'+P*(v2+b*v1))=s*V'+P*(s*v2)+b*(P*(s*v1)):=by grind
 have h6:U'+P*(u2+b*u1)=U'+P*(r*b+u2)+b*(P*(s*v1))+b*P*v1:=by subst hinv;grind
 omega
def Yno{P u1 u2 U' v1 v2 V' t:Nat}(hU':U'<P)(hinv:u1=t*v1+r)(hc:r*b+u2<t*v2):
  U'+P*(u2+b*u1)<t*(V'+P*(v2+b*v1)):=by
 have h3:P*(r*b+u2+1)≤P*(t*v2):=Ywt _ hc
 have h5:t*(V'+P*(v2+b*v1))=t*V'+P*(t*v2)+b*(P*(t*v1)):=by grind
 have h6:U'+P*(u2+b*u1)+P=U'+P*(r*b+u2+1)+b*(P*(t*v1)):=by subst hinv;grind
 omega
variable {b u y:Nat}
set_option maxHeartbeats 8000000
noncomputable def A.w240:=A.q Tryz.f240
noncomputable def A.lb240_0:=A.ql A.w240 1 []
noncomputable def A.lb240_1:=A.ql A.w240 0 []
noncomputable def A.b240:=(fun x0 x1=>A.qb A.w240 [x0,x1]) A.lb240_1 A.lb240_0
def A.k240:=@A.kk 240 135 [.tmp 6,.tmp 7] A.b240 (by kernel_rfl) rfl
structure DvI (h:T O) (N:Nat) (k1 u yn1 D m:Nat) (r:T V) (st:St):Prop where
 st:st=⟨h,N,[]⟩
 ex:∃rh:Nat,r.get k1=some (.int .u64 m)∧r.get 16=some (.int .u64 rh)∧u=m*yn1+rh∧D≤m∧m≤4294967297∧rh<4294967296
def Ykc(h0:¬y=0)(h:y<18446744073709551616):9223372036854775808≤y*2^(64-blen y)∧y*2^(64-blen y)<18446744073709551616∧64-blen y<64:=by
 have h1:=Zrh y
 have h2:=Zlo h0
 have hp:0<blen y:=by unfold blen;rw[Yv4 h0];omega
 have hl:blen y≤64:=by
  apply Yyc
  intro hc
  have:2^64≤2^(blen y-1):=Yw3 (by decide) (by omega)
  omega
 refine⟨?_,?_,by omega⟩
 ·have:=Ywr (2^(64-blen y)) h2
  rw[←Yxe,show blen y-1+(64-blen y)=63 by omega]at this
  exact this
 ·have:=Yyw h1 (Yxl (64-blen y))
  rw[←Yxe,show blen y+(64-blen y)=64 by omega]at this
  exact this
def Zk9{a:Nat}(h:a<18446744073709551616):Zar .u64 ((a:Int)/(b:Int))=(quou a b:Nat):=by
 have e:((a:Int)/(b:Int))=((a/b:Nat):Int):=rfl
 have:=Yxz a b
 rw[e,Zeo (Int.natCast_nonneg _) (Int.ofNat_lt.2 (show a/b<18446744073709551616 by omega))]
 rfl
def Zrv{a c:Nat}(h:c≤a)(hr:a-c<18446744073709551616):subu (a%18446744073709551616) (c%18446744073709551616)=a-c:=by
 unfold subu
 split<;>omega
def Yae{c u1 u0 z Y:Nat}(hc:c=b*b)(hY:0<Y):(u1*c+u0*b+z)/Y=(u1*b+u0)/Y*b+((u1*b+u0)%Y*b+z)/Y∧(u1*c+u0*b+z)%Y=((u1*b+u0)%Y*b+z)%Y:=by
 subst hc
 have h:=Yxv (u1*b+u0) Y
 have e:u1*(b*b)+u0*b+z=Y*((u1*b+u0)/Y*b)+((u1*b+u0)%Y*b+z):=by
  generalize (u1*b+u0)/Y=D at*
  generalize (u1*b+u0)%Y=R at*
  have:(Y*D+R)*b=(u1*b+u0)*b:=by rw[h]
  grind
 rw[e,Nat.mul_add_div hY,Nat.mul_add_mod]
 exact⟨rfl,rfl⟩
def Zs0:u=u/y*y+u%y:=by
 have:=Yxv u y
 rw[Yw4]at this
 exact this.symm
def Zxg(h:0<y)(hb:y≤b):u%y<b:=Ywf (Yxo _ h) hb
def Zxi{un yn1 yn0:Nat}(h:0<yn1)(hn:un<4294967296):(u*4294967296+un)/(yn1*4294967296+yn0)≤u/yn1:=by
 have h1:(u*4294967296+un)/(yn1*4294967296+yn0)≤(u*4294967296+un)/(yn1*4294967296):=Nat.div_le_div_left (by omega) (by omega)
 have h2:(u*4294967296+un)/(yn1*4294967296)=u/yn1:=by
  rw[Yw4 yn1,←Yy0,show (u*4294967296+un)/4294967296=u by omega]
 rw[h2]at h1
 exact h1
def Zxh{yn1 yn0:Nat}(h0:yn0<4294967296)(h:2147483648≤yn1)(hu:u<yn1*4294967296+yn0):u/yn1≤4294967297:=by
 apply Nat.le_of_lt_succ
 apply (Ywz (by omega)).2
 omega
def Zxq{h:T O}{N:Nat}{hi lo:Nat}(hy:hi<y)(hy64:y<18446744073709551616)(hlo:lo<18446744073709551616):Fn A.C 240 [.int .u64 hi,.int .u64 lo,.int .u64 y] h N (fun v h' N'=>h'=h∧N'=N∧v=.tup [.int .u64 ((hi*18446744073709551616+lo)/y:Nat),.int .u64 ((hi*18446744073709551616+lo)%y:Nat)]):=by
 intro w
 have hy0:¬y=0:=by omega
 have hle:¬y≤hi:=by omega
 rw[Zab,A.k240 (by simp)]
 by_cases h0:hi=0
 ·subst h0
  have hq:=Zk9 (b:=y) hlo
  simp[A.b240,hy0,hle,Zad,Zao.chk,Ret,hq,remu,quou]
  exact Keeps.refl
 ·simp[A.b240,hy0,hle,h0,Zad]
  refine Zac (Ydh hy64) ?_
  rintro _ h N hk ⟨rfl,rfl,rfl⟩
  obtain⟨n1,n2,n3⟩:=Ykc hy0 hy64
  generalize 64-blen y=s at*
  have hw:Zar .u64 (s:Int)=(s:Int):=Zeo (by omega) (by omega)
  have hw2:Zar .u64 (64-(s:Int))=((64-s:Nat):Int):=by rw[Zeo (by omega) (by omega)];omega
  obtain⟨Y,hY⟩:∃Y,shl64 y s=Y:=⟨_,rfl⟩
  have hYe:Y=y*2^s:=by rw[←hY];unfold shl64;omega
  obtain⟨yn1,hyn1⟩:∃x,shr64 Y 32=x:=⟨_,rfl⟩
  obtain⟨yn0,hyn0⟩:∃x,and32 Y=x:=⟨_,rfl⟩
  obtain⟨U,hU⟩:∃x,or64 (shl64 hi s) (shr64 lo (64-s))=x:=⟨_,rfl⟩
  obtain⟨L,hL⟩:∃x,shl64 lo s=x:=⟨_,rfl⟩
  obtain⟨un1,hun1⟩:∃x,shr64 L 32=x:=⟨_,rfl⟩
  obtain⟨un0,hun0⟩:∃x,and32 L=x:=⟨_,rfl⟩
  have hYB:Y<18446744073709551616:=by omega
  have hLB:L<18446744073709551616:=by rw[←hL];exact Zql
  have hYd:Y=yn1*4294967296+yn0∧yn0<4294967296:=by
   rw[←hyn1,←hyn0];unfold shr64 and32;omega
  have hLd:L=un1*4294967296+un0∧un0<4294967296:=by
   rw[←hun1,←hun0];unfold shr64 and32;omega
  have hA:U*18446744073709551616+L=(hi*18446744073709551616+lo)*2^s:=by
   have e1:=Zws (x:=hi) n3 (Yjx (x:=lo) (s:=s) hlo (by omega))
   have e2:=Ybo (x:=lo) (s:=s) (by omega)
   have e3:shl64 hi s=hi*2^s:=by
    unfold shl64
    have:=Yyw hy (Yxl s)
    omega
   have e4:U=shr64 lo (64-s)+hi*2^s:=by
    rw[←hU,←e3,←e1];unfold or64;exact Nat.or_comm _ _
   rw[hL]at e2
   unfold B at e2
   rw[e4,Yxd (hi*18446744073709551616),←e2]
   have:hi*18446744073709551616*2^s=hi*2^s*18446744073709551616:=by grind
   omega
  have hUY:U<Y:=by
   have h1:hi*18446744073709551616+lo<y*18446744073709551616:=by omega
   have h2:=Yyw h1 (Yxl s)
   have h3:y*18446744073709551616*2^s=y*2^s*18446744073709551616:=by grind
   omega
  have hsr:shr64 lo (64-s)<18446744073709551616:=Zwd hlo
  have hyp:0<yn1:=by omega
  have hyb:yn1≤4294967296:=by omega
  have hY0:0<yn1*4294967296+yn0:=by omega
  have hq:=Zk9 (b:=yn1) (show U<18446744073709551616 by omega)
  have hr:subu U (mulu (quou U yn1) yn1)=U%yn1:=by
   have h1:=Yxv U yn1
   rw[Yw4]at h1
   have h2:mulu (quou U yn1) yn1=U/yn1*yn1:=by unfold mulu quou;omega
   rw[h2,Zhk (by omega) (by omega)];omega
  simp(disch:=first|(simp;done)|omega|(simp only[Zaf,Zag,Yv8];omega)|rfl) [hq,hr,hw,hw2,hY,hyn1,hyn0,hU,hL,hun1,hun0]
  obtain⟨D1,hD1⟩:∃D,(U*4294967296+un1)/(yn1*4294967296+yn0)=D:=⟨_,rfl⟩
  refine Zai [(15,16),(67,85)] (fun e r st=>e=.exit 0∧st=⟨h,N,[]⟩∧r.get 15=some (.int .u64 D1)) (DvI h N 15 U yn1 D1) (U/yn1) ?_ ?_ ?_
  ·exact⟨rfl,U%yn1,by simp[quou],by simp,Zs0,hD1▸Zxi hyp (by omega),Zxh hYd.2 (by omega) (by omega),Zxg hyp hyb⟩
  ·rintro q r _ hr hf ⟨rfl,rh,hq,hrh,hu,hD,hqb,hrb⟩
   rw[Zah]
   obtain⟨P,hP⟩:∃P,P=q*yn0:=⟨_,rfl⟩
   obtain⟨R2,hR2⟩:∃P,P=4294967296*rh:=⟨_,rfl⟩
   obtain⟨R3,hR3⟩:∃P,P=4294967296*rh+un1:=⟨_,rfl⟩
   have m2:mulu 4294967296 rh=R2:=by unfold mulu;omega
   have m3:addu R2 un1=R3:=by unfold addu;omega
   have hgo:(4294967296≤q∨R3<P)→0<q∧D1≤q-1:=by
    intro hc
    have:D1<q:=by
     rcases hc with hc|hc
     ·have:D1<4294967296:=by rw[←hD1];exact(Ywz hY0).2 (by omega)
      omega
     ·rw[←hD1];exact Zs8 (Zxs (b:=4294967296) hu (by omega))
    omega
   have hgo2:0<q→U=(q-1)*yn1+(rh+yn1):=by
    intro hc
    obtain⟨s,rfl⟩:∃s,q=s+1:=⟨q-1,by omega⟩
    rw[hu,Yxd];simp;omega
   have hend:∀rh',U=(q-1)*yn1+rh'→4294967296≤rh'→(q-1)*(yn1*4294967296+yn0)≤U*4294967296+un1:=by
    intro rh' h1 h2
    refine Zmn h1 ?_
    have:=Yx9 (show q-1≤4294967296 by omega) (show yn0≤4294967296 by omega)
    omega
   by_cases c1:4294967296≤q
   ·have c1':(4294967296:Int)≤(q:Int):=by omega
    obtain⟨g1,g2⟩:=hgo (.inl c1)
    have s1:subu q 1=q-1:=Zhk g1 (by omega)
    have s2:addu rh yn1=rh+yn1:=by unfold addu;omega
    by_cases c3:4294967296≤rh+yn1
    ·have c3':(4294967296:Int)≤(rh:Int)+(yn1:Int):=by omega
     simp[A.lb240_1,hr,hq,hrh,c1',c3',s1,s2,hf]
     have hd:=Zf9 hY0 (hend _ (hgo2 g1) c3)
     rw[hD1]at hd;omega
    ·have c3':¬(4294967296:Int)≤(rh:Int)+(yn1:Int):=by omega
     simp[A.lb240_1,hr,hq,hrh,c1',c3',s1,s2,hf]
     exact⟨q-1,by omega,rfl,rh+yn1,by simp,by simp,hgo2 g1,g2,by omega,by omega⟩
   ·have c1':¬(4294967296:Int)≤(q:Int):=by omega
    have m1:mulu q yn0=P:=by
     have:=Yx9 (show q≤4294967296 by omega) (show yn0≤4294967295 by omega)
     unfold mulu;omega
    by_cases c2:R3<P
    ·obtain⟨g1,g2⟩:=hgo (.inr c2)
     have s1:subu q 1=q-1:=Zhk g1 (by omega)
     have s2:addu rh yn1=rh+yn1:=by unfold addu;omega
     by_cases c3:4294967296≤rh+yn1
     ·have c3':(4294967296:Int)≤(rh:Int)+(yn1:Int):=by omega
      simp[A.lb240_1,hr,hq,hrh,c1',c2,c3',m1,m2,m3,s1,s2,hf]
      have hd:=Zf9 hY0 (hend _ (hgo2 g1) c3)
      rw[hD1]at hd;omega
     ·have c3':¬(4294967296:Int)≤(rh:Int)+(yn1:Int):=by omega
      simp[A.lb240_1,hr,hq,hrh,c1',c2,c3',m1,m2,m3,s1,s2,hf]
      exact⟨q-1,by omega,rfl,rh+yn1,by simp,by simp,hgo2 g1,g2,by omega,by omega⟩
    ·simp[A.lb240_1,hr,hq,hrh,c1',c2,m1,m2,m3,hf]
     have hd:=Zf9 hY0 (Zmn (b:=4294967296) (un:=un1) hu (by omega))
     rw[hD1]at hd;omega
  rintro _ r _ hr0 ⟨rfl,rfl,h15⟩
  obtain⟨R1,hR1⟩:∃R,(U*4294967296+un1)%Y=R:=⟨_,rfl⟩
  rw[←hYd.1]at hD1
  have hs1:subu (addu (mulu U 4294967296) un1) (mulu D1 Y)=R1:=by
   have h1:=Yxv (U*4294967296+un1) Y
   rw[hD1,hR1,Yw4 Y]at h1
   have h2:addu (mulu U 4294967296) un1=(U*4294967296+un1)%18446744073709551616:=by unfold addu mulu;omega
   rw[h2]
   have h3:=Yxo (U*4294967296+un1) (show 0<Y by omega)
   unfold mulu
   rw[Zrv (by omega) (by omega)];omega
  have hR1Y:R1<Y:=by rw[←hR1];exact Yxo _ (by omega)
  have hq2:=Zk9 (b:=yn1) (show R1<18446744073709551616 by omega)
  have hr2:subu R1 (mulu (quou R1 yn1) yn1)=R1%yn1:=by
   have h1:=Yxv R1 yn1
   rw[Yw4]at h1
   have h2:mulu (quou R1 yn1) yn1=R1/yn1*yn1:=by unfold mulu quou;omega
   rw[h2,Zhk (by omega) (by omega)];omega
  simp(disch:=first|(simp;done)|omega|(simp only[Zaf,Zag,Yv8];omega)|rfl) [hr0,h15,hs1,hq2,hr2]
  obtain⟨D0,hD0⟩:∃D,(R1*4294967296+un0)/(yn1*4294967296+yn0)=D:=⟨_,rfl⟩
  refine Zai [(16,16),(18,18),(102,120)] (fun e r st=>e=.exit 2∧st=⟨h,N,[]⟩∧r.get 18=some (.int .u64 D0)) (DvI h N 18 R1 yn1 D0) (R1/yn1) ?_ ?_ ?_
  ·exact⟨rfl,R1%yn1,by simp[quou],by simp,Zs0,hD0▸Zxi hyp (by omega),Zxh hYd.2 (by omega) (by omega),Zxg hyp hyb⟩
  ·rintro q r _ hr hf ⟨rfl,rh,hq,hrh,hu,hD,hqb,hrb⟩
   rw[Zah]
   obtain⟨P,hP⟩:∃P,P=q*yn0:=⟨_,rfl⟩
   obtain⟨R2,hR2⟩:∃P,P=4294967296*rh:=⟨_,rfl⟩
   obtain⟨R3,hR3⟩:∃P,P=4294967296*rh+un0:=⟨_,rfl⟩
   have m2:mulu 4294967296 rh=R2:=by unfold mulu;omega
   have m3:addu R2 un0=R3:=by unfold addu;omega
   have hgo:(4294967296≤q∨R3<P)→0<q∧D0≤q-1:=by
    intro hc
    have:D0<q:=by
     rcases hc with hc|hc
     ·have:D0<4294967296:=by rw[←hD0];exact(Ywz hY0).2 (by omega)
      omega
     ·rw[←hD0];exact Zs8 (Zxs (b:=4294967296) hu (by omega))
    omega
   have hgo2:0<q→R1=(q-1)*yn1+(rh+yn1):=by
    intro hc
    obtain⟨s,rfl⟩:∃s,q=s+1:=⟨q-1,by omega⟩
    rw[hu,Yxd];simp;omega
   have hend:∀rh',R1=(q-1)*yn1+rh'→4294967296≤rh'→(q-1)*(yn1*4294967296+yn0)≤R1*4294967296+un0:=by
    intro rh' h1 h2
    refine Zmn h1 ?_
    have:=Yx9 (show q-1≤4294967296 by omega) (show yn0≤4294967296 by omega)
    omega
   by_cases c1:4294967296≤q
   ·have c1':(4294967296:Int)≤(q:Int):=by omega
    obtain⟨g1,g2⟩:=hgo (.inl c1)
    have s1:subu q 1=q-1:=Zhk g1 (by omega)
    have s2:addu rh yn1=rh+yn1:=by unfold addu;omega
    by_cases c3:4294967296≤rh+yn1
    ·have c3':(4294967296:Int)≤(rh:Int)+(yn1:Int):=by omega
     simp[A.lb240_0,hr,hr0,hq,hrh,c1',c3',s1,s2,hf]
     have hd:=Zf9 hY0 (hend _ (hgo2 g1) c3)
     rw[hD0]at hd;omega
    ·have c3':¬(4294967296:Int)≤(rh:Int)+(yn1:Int):=by omega
     simp[A.lb240_0,hr,hr0,hq,hrh,c1',c3',s1,s2,hf]
     exact⟨q-1,by omega,rfl,rh+yn1,by simp,by simp,hgo2 g1,g2,by omega,by omega⟩
   ·have c1':¬(4294967296:Int)≤(q:Int):=by omega
    have m1:mulu q yn0=P:=by
     have:=Yx9 (show q≤4294967296 by omega) (show yn0≤4294967295 by omega)
     unfold mulu;omega
    by_cases c2:R3<P
    ·obtain⟨g1,g2⟩:=hgo (.inr c2)
     have s1:subu q 1=q-1:=Zhk g1 (by omega)
     have s2:addu rh yn1=rh+yn1:=by unfold addu;omega
     by_cases c3:4294967296≤rh+yn1
     ·have c3':(4294967296:Int)≤(rh:Int)+(yn1:Int):=by omega
      simp[A.lb240_0,hr,hr0,hq,hrh,c1',c2,c3',m1,m2,m3,s1,s2,hf]
      have hd:=Zf9 hY0 (hend _ (hgo2 g1) c3)
      rw[hD0]at hd;omega
     ·have c3':¬(4294967296:Int)≤(rh:Int)+(yn1:Int):=by omega
      simp[A.lb240_0,hr,hr0,hq,hrh,c1',c2,c3',m1,m2,m3,s1,s2,hf]
      exact⟨q-1,by omega,rfl,rh+yn1,by simp,by simp,hgo2 g1,g2,by omega,by omega⟩
    ·simp[A.lb240_0,hr,hr0,hq,hrh,c1',c2,m1,m2,m3,hf]
     have hd:=Zf9 hY0 (Zmn (b:=4294967296) (un:=un0) hu (by omega))
     rw[hD0]at hd;omega
  rintro _ r2 _ hr4 ⟨rfl,rfl,h18⟩
  obtain⟨R0,hR0⟩:∃R,(R1*4294967296+un0)%Y=R:=⟨_,rfl⟩
  rw[←hYd.1]at hD0
  have hs2:subu (addu (mulu R1 4294967296) un0) (mulu D0 Y)=R0:=by
   have h1:=Yxv (R1*4294967296+un0) Y
   rw[hD0,hR0,Yw4 Y]at h1
   have h2:addu (mulu R1 4294967296) un0=(R1*4294967296+un0)%18446744073709551616:=by unfold addu mulu;omega
   rw[h2]
   have h3:=Yxo (R1*4294967296+un0) (show 0<Y by omega)
   unfold mulu
   rw[Zrv (by omega) (by omega)];omega
  have hd1:D1<4294967296:=by rw[←hD1];exact(Ywz (by omega)).2 (by omega)
  have hd0:D0<4294967296:=by rw[←hD0];exact(Ywz (by omega)).2 (by omega)
  have ha:addu (mulu D1 4294967296) D0=D1*4294967296+D0:=by unfold addu mulu;omega
  obtain⟨e1,e2⟩:=Yae (b:=4294967296) (c:=18446744073709551616) (by decide) (u1:=U) (u0:=un1) (z:=un0) (show 0<Y by omega)
  rw[hR1,hD1,hD0]at e1
  rw[hR1,hR0]at e2
  have e3:U*18446744073709551616+un1*4294967296+un0=(hi*18446744073709551616+lo)*2^s:=by
   rw[←hA,hLd.1,Yxp]
  rw[e3,hYe,Yz0 _ _ (Yxl s)]at e1
  rw[e3,hYe,Yzm]at e2
  have hsh:shr64 R0 s=(hi*18446744073709551616+lo)%y:=by
   unfold shr64
   rw[←e2,Nat.mul_div_cancel _ (Yxl s)]
  simp(disch:=first|(simp;done)|omega|(simp only[Zaf,Zag,Yv8];omega)|rfl) [hr0,hr4,h15,h18,hs2,ha,Ret]
  have e5:(hi:Int)*18446744073709551616+lo=((hi*18446744073709551616+lo:Nat):Int):=by omega
  refine⟨Keeps.refl,?_,?_⟩
  ·rw[e5,←Int.natCast_ediv,e1];omega
  ·rw[e5,←Int.natCast_emod,hsh]
variable {P Y a b d k u v1:Nat} {l:List Nat}
def Zc6(h:l[k]?=some d):val b (l.drop k)=d+b*val b (l.drop (k+1)):=by
 have hk:k<l.length:=by
  apply Yxn;intro hc;rw[Ywd hc]at h;cases h
 rw[Yyn hk]
 rw[Yv9 hk]at h
 simp only[Yv3]at h
 rw[h];rfl
def Zdl(b:Nat)(l:List Nat)(k:Nat)(hk:k≤l.length):val b l=val b (l.take k)+b^k*val b (l.drop k):=by
 have:=Zh9 b (l.take k) (l.drop k)
 rw[Yx2,Ywm,Yxh hk]at this
 exact this
def Zv5{b:Nat}:∀{l:List Nat},(∀(t:Nat),t<l.length→l[t]?=some 0)→val b l=0
 |[],_=>rfl
 |d::l,h=>by
  have h0:=h 0 (by simp)
  simp at h0
  have:=Zv5 (b:=b) (l:=l) fun t ht=>by simpa using h (t+1) (by simp;omega)
  simp[val,h0,this]
def Yq8{α:Type}{l:List α}{d:α}(h:l[k]?=some d):k<l.length:=by
 apply Yxn;intro hc;rw[Ywd hc]at h;cases h
def Zgj(hz:∀t,k≤t→t<l.length→l[t]?=some 0):val b (l.drop k)=0:=by
 apply Zv5
 intro t ht
 rw[Ywg]
 rw[Yyk]at ht
 exact hz _ (by omega) (by omega)
def Yf4{w:List Nat}{c:Nat}(ha:w[k]?=some a)(hc:w[k+1]?=some c)(hd:w[k+2]?=some d)(hz:∀t,k+3≤t→t<w.length→w[t]?=some 0):
  val b w=val b (w.take k)+b^k*(a+b*(d*b+c)):=by
 have:=Yq8 ha
 rw[Zdl b w k (by omega),Zc6 ha,Zc6 hc,Zc6 hd,Zgj hz]
 generalize b^k=p
 grind
def Yf5{w:List Nat}{c:Nat}(ha:w[k]?=some a)(hc:w[k+1]?=some c)(hl:w.length=k+2):
  val b w=val b (w.take k)+b^k*(a+b*c):=by
 rw[Zdl b w k (by omega),Zc6 ha,Zc6 hc,Yw8 (by omega)]
 simp[val]
def Zmx(g:∀d∈l,d<b)(hk:k≤l.length):val b (l.take k)<b^k:=by
 have:=Zlr (b:=b) (l:=l.take k) fun d hd=>g d (Yxi hd)
 rwa [Ywm,Yxh hk]at this
def Yra{c U' v2 V':Nat}(hP:0<P)(hV':V'<P)(hv2:v2<b)(hd:v1≤d)(hW:U'+P*(a+b*(d*b+c))<b*(V'+P*(v2+b*v1))):d=v1:=by
 apply Nat.le_antisymm _ hd
 apply Yyc
 intro hlt
 have h1:b*(P*(b*(v1+1)))≤b*(P*(b*d)):=Ywt _ (Ywt _ (Ywt _ hlt))
 have h2:V'+P*(v2+b*v1)<P*(b*(v1+1)):=by
  have:P*(v2+1)≤P*b:=Ywt _ hv2
  grind
 have h3:b*(V'+P*(v2+b*v1))≤b*(P*(b*(v1+1))):=Ywt _ (Nat.le_of_lt h2)
 have h4:b*(P*(b*d))≤U'+P*(a+b*(d*b+c)):=by
  have:P*(b*(d*b))=b*(P*(b*d)):=by grind
  have:P*(b*(d*b))≤P*(a+b*(d*b+c)):=Ywt _ (by rw[Yyg];omega)
  omega
 omega
def Yrb{U' u2 u1 v2 V' q r:Nat}(hU:U'<P)(hu2:u2<b)(hinv:u1=q*v1+r)(hr:r<v1):U'+P*(u2+b*u1)<(q+1)*(V'+P*(v2+b*v1)):=by
 have h1:u1+1≤(q+1)*v1:=by rw[hinv,Yxd];omega
 have h2:P*(b*(u1+1))≤P*(b*((q+1)*v1)):=Ywt _ (Ywt _ h1)
 have h3:P*(u2+1)≤P*b:=Ywt _ hu2
 have h4:P*(b*((q+1)*v1))≤(q+1)*(V'+P*(v2+b*v1)):=by
  have:(q+1)*(V'+P*(v2+b*v1))=(q+1)*V'+P*((q+1)*v2)+P*(b*((q+1)*v1)):=by grind
  omega
 have h5:U'+P*(u2+b*u1)+P≤U'+P*(b*(u1+1)):=by grind
 omega
def Zuw(q v c:Nat):Nat:=lo64 (lo64 (q*v)+c)
def msCar(q v c:Nat):Nat:=addu (hi64 (q*v)) (hi64 (lo64 (q*v)+c))
def Ymw{q v c w:Nat}(hq:q<B)(hv:v<B)(hc:c<B)(hu:u<B)(hw:w≤1):
  sb64 u (Zuw q v c) w+q*v+c+w=u+B*(msCar q v c+bw64 u (Zuw q v c) w)∧sb64 u (Zuw q v c) w<B∧msCar q v c<B∧bw64 u (Zuw q v c) w≤1∧Zuw q v c<B:=by
 have:q*v≤18446744073709551615*18446744073709551615:=Yx9 (by unfold B at*;omega) (by unfold B at*;omega)
 unfold msCar Zuw
 have h1:lo64 (lo64 (q*v)+c)+B*addu (hi64 (q*v)) (hi64 (lo64 (q*v)+c))=q*v+c∧addu (hi64 (q*v)) (hi64 (lo64 (q*v)+c))<B∧lo64 (lo64 (q*v)+c)<B:=by
  unfold lo64 hi64 addu
  unfold B at*
  generalize q*v=p at*
  omega
 obtain⟨h1,h2,h3⟩:=h1
 generalize lo64 (lo64 (q*v)+c)=l at*
 generalize addu (hi64 (q*v)) (hi64 (lo64 (q*v)+c))=k at*
 have h4:sb64 u l w+l+w=u+B*bw64 u l w∧sb64 u l w<B∧bw64 u l w≤1:=by
  unfold sb64 bw64
  unfold B at*
  split<;>omega
 obtain⟨h4,h5,h6⟩:=h4
 refine⟨?_,h5,h2,h6,h3⟩
 rw[Yyg]
 omega
def Ylw{l w:Nat}(hl:l<B)(hu:u<B)(hw:w≤1):sb64 u l w+l+w=u+B*bw64 u l w∧sb64 u l w<B∧bw64 u l w≤1:=by
 unfold sb64 bw64
 unfold B at*
 split<;>omega
def Yfs{v c:Nat}(hv:v<B)(hu:u<B)(hc:c≤1):lo64 (u+v+c)+B*hi64 (u+v+c)=u+v+c∧lo64 (u+v+c)<B∧hi64 (u+v+c)≤1:=by
 unfold lo64 hi64
 unfold B at*
 omega
def Zju{b:Nat}:∀{l:List Nat} {k old v:Nat},l[k]?=some old→val b (l.set k v)+b^k*old=val b l+b^k*v
 |[],k,old,v,h=>by simp at h
 |d::l,0,old,v,h=>by simp at h;subst h;simp[val];omega
 |d::l,k+1,old,v,h=>by
  have ih:=Zju (b:=b) (l:=l) (k:=k) (old:=old) (v:=v) (by simpa using h)
  simp only[List.set_cons_succ,val,Ywx]
  generalize val b (l.set k v)=p at*
  generalize val b l=q at*
  generalize b^k=z at*
  have:b*(p+z*old)=b*(q+z*v):=by rw[ih]
  grind
def Dg.set'(h:Dg l){k v:Nat}(hv:v<B):Dg (l.set k v):=by
 intro d hd
 rcases Yxm hd with hd|hd
 ·exact h d hd
 ·subst hd;exact hv
def Yq3{W q U t c t' e:Nat}(hb:1<b)(hP:0<P)(hY:Y<P)(hU:U<P)(ht:t'<b)(he:e≤1)(h1:U+q*Y=W+P*c)(h2:t'+c=t+b*e)(hlo:(q-1)*Y≤W+P*t)(hhi:W+P*t<(q+1)*Y):
  (e=0→U+P*t'+q*Y=W+P*t∧U+P*t'<Y∧t'=0)∧(e=1→0<q∧U+P*t'+q*Y=W+P*t+P*b∧W+P*t<q*Y):=by
 have h3:P*t'+P*c=P*t+P*(b*e):=by rw[←Yyg,h2,Yyg]
 constructor
 ·rintro rfl
  simp only[Nat.mul_zero,Yxc]at h3
  have h4:U+P*t'+q*Y=W+P*t:=by omega
  have h5:U+P*t'<Y:=by rw[Yxd]at hhi;omega
  refine⟨h4,h5,?_⟩
  rcases Yzb t' with h|h
  ·exact h
  ·have:=Ywt P h
   omega
 ·rintro rfl
  simp only[Yyy]at h3
  have h4:U+P*t'+q*Y=W+P*t+P*b:=by omega
  have h5:P*(t'+1)≤P*b:=Ywt _ ht
  rw[Yyg]at h5
  have h6:W+P*t<q*Y:=by omega
  refine⟨?_,h4,h6⟩
  rcases Yzb q with h|h
  ·subst h;omega
  ·exact h
def Ynj{q U t' T A c:Nat}(hP:0<P)(hY:Y<P)(hA:A<P)(hc:c≤1)(ht:t'<b)(hq:0<q)(h1:U+P*t'+q*Y=T+P*b)(h2:T<q*Y)(hlo:(q-1)*Y≤T)(h3:A+P*c=U+Y):
  A+(q-1)*Y=T∧A<Y∧(t'+c)%b=0:=by
 obtain⟨s,rfl⟩:∃s,q=s+1:=⟨q-1,by omega⟩
 simp only[Nat.add_sub_cancel]at*
 rw[Yxd]at h1 h2
 have h4:A+P*(t'+c)+s*Y=T+P*b:=by rw[Yyg];omega
 have h5:t'+c=b:=by
  rcases Nat.lt_trichotomy (t'+c) b with h|h|h
  ·have:=Ywt P (show t'+c+1≤b from h)
   rw[Yyg P (t'+c)]at this
   omega
  ·exact h
  ·omega
 rw[h5]at h4
 refine⟨by omega,by omega,?_⟩
 rw[h5,Nat.mod_self]
def Zmw:∀{k n:Nat},B^k≤n→n<B^(k+1)→(wds n).length=k+1∧(wds n)[k]?=some (n/B^k)
 |0,n,h1,h2=>by
  have h0:n≠0:=by
   rw[Yzs]at h1;omega
  rw[Zbq h0]
  have h3:n/B=0:=Yyl (by simpa using h2)
  rw[h3,Zbo]
  simp
  exact Yx5 (by simpa using h2)
 |k+1,n,h1,h2=>by
  have hB:0<B:=by decide
  have hp:0<B^(k+1):=Yzf hB
  have h0:n≠0:=by omega
  have h3:B^k≤n/B:=(Yzc hB).2 (by rw[←Ywx];exact h1)
  have h4:n/B<B^(k+1):=(Ywz hB).2 (by rw[←Ywx];exact h2)
  obtain⟨e1,e2⟩:=Zmw h3 h4
  rw[Zbq h0]
  refine⟨by simp[e1],?_⟩
  rw[Yyh,e2,Yy0,Ywx,Yw4 (B^k)]
def Yjt{n:Nat}(h:(wds n).length≠0):n≠0:=by
 rintro rfl
 exact h (by rw[Zbo];rfl)
def Zd7:∀{k n:Nat},(wds n).length=k+1→B^k≤n∧n<B^(k+1)
 |0,n,h=>by
  have h0:=Yjt (n:=n) (by omega)
  rw[Zbq h0]at h
  have h1:(wds (n/B)).length=0:=by simpa using h
  have h2:n/B=0:=by
   by_cases hc:n/B=0
   ·exact hc
   ·rw[Zbq hc]at h1;simp at h1
  have:=(Nat.div_eq_zero_iff).1 h2
  rcases this with hb|hb
  ·exact absurd hb (by decide)
  ·simp;omega
 |k+1,n,h=>by
  have h0:=Yjt (n:=n) (by omega)
  rw[Zbq h0]at h
  obtain⟨h1,h2⟩:=Zd7 (k:=k) (n:=n/B) (by simpa using h)
  have hB:0<B:=by decide
  exact⟨by rw[Ywx];exact(Yzc hB).1 h1,by rw[Ywx];exact(Ywz hB).1 h2⟩
def Yf3{t s:Nat}(hl:(wds b).length=k+1)(ht:(wds b)[k]?=some t)(h1:9223372036854775808≤t*2^s)(h2:t*2^s<18446744073709551616)(hs:s≤64):
  (wds (b*2^s)).length=k+1∧∃v1,(wds (b*2^s))[k]?=some v1∧9223372036854775808≤v1:=by
 obtain⟨b1,b2⟩:=Zd7 hl
 have hp:0<B^k:=Yzf (by decide)
 have hps:=Yxl s
 have htd:t=b/B^k:=by
  have:=(Zmw b1 b2).2
  rw[ht]at this
  exact Yxj this
 have b3:t*B^k≤b:=by rw[htd];exact Nat.div_mul_le_self _ _
 have b4:b<(t+1)*B^k:=by
  rw[htd]
  exact(Ywz hp).1 (Yxu _)
 have c1:9223372036854775808*B^k≤b*2^s:=by
  have e1:=Ywr (B^k) h1
  have e2:=Ywr (2^s) b3
  have e3:t*2^s*B^k=t*B^k*2^s:=by grind
  omega
 have c2:b*2^s<B^(k+1):=by
  have e0:t+1≤2^(64-s):=by
   have:t<2^(64-s):=by
    apply Nat.lt_of_mul_lt_mul_right (a:=2^s)
    rw[←Yxe,show 64-s+s=64 by omega];exact h2
   omega
  have e1:=Ywr (2^s) e0
  rw[←Yxe,show 64-s+s=64 by omega]at e1
  have e2:=Yyw b4 hps
  have e3:=Ywr (B^k) e1
  have e4:(t+1)*2^s*B^k=(t+1)*B^k*2^s:=by grind
  rw[Ywx,Yw4]
  have e5:(2^64:Nat)*B^k=B^k*B:=by unfold B;rw[Yw4]
  rw[Yw4 b]at e2
  omega
 have c0:B^k≤b*2^s:=by omega
 obtain⟨d1,d2⟩:=Zmw c0 c2
 exact⟨d1,_,d2,(Yzc hp).2 c1⟩
def Yba{U:List Nat}{la m s:Nat}(hU:val B U=a*2^s)(hl:U.length=la+1)(hm:m+k+1=la+1)(hkl:m≤U.length)(ha:a<B^la)(hs:s<64)(hv:9223372036854775808≤v1)(hY:v1*B^k≤Y):val B (U.drop m)<Y:=by
 have h1:=Zdl B U m hkl
 have h2:B^m*val B (U.drop m)<B^la*2^s:=by
  have:=Yyw ha (Yxl s)
  omega
 have h3:(2:Nat)^s≤9223372036854775808:=(Yw3 (by decide) (show s≤63 by omega):(2:Nat)^s≤2^63)
 have h4:B^la=B^m*B^k:=by rw[←Yxe];congr 1;omega
 rw[h4,Yzn]at h2
 have h5:=Nat.lt_of_mul_lt_mul_left h2
 have h6:=Ywt (B^k) h3
 have h7:=Ywt (B^k) hv
 rw[Yw4 v1]at hY
 omega
end Go.Mx
