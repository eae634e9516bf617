/-num-/
import Derived.Test.YtnkdakmfipgidaaGreatDoorRcJ
set_option linter.all false
set_option maxHeartbeats 8000000
namespace Go.Mx
noncomputable section
open Go Go.Proofs
set_option maxRecDepth 1000000
def A.Kb:=A.q Tryz.f207
def A.sY:=A.ql A.Kb 1 []
def A.sZ:=(fun x0=>A.ql A.Kb 0 [x0]) A.sY
def A.b207:=(fun x0=>A.qb A.Kb [x0]) A.sZ
def A.k207:=@A.kk 207 80 [.tmp 4] A.b207 (by kernel_rfl) rfl
def P6{b:Nat}:∀{l:List Nat} {k old v:Nat},l[k]?=some old->val b (l.set k v)+b^k*old=val b l+b^k*v
 |[],k,old,v,h=>by simp at h
 |d::l,0,old,v,h=>by simp at h;subst h;simp[val];omega
 |d::l,k+1,old,v,h=>by
  have ih:=P6 (b:=b) (l:=l) (k:=k) (old:=old) (v:=v) (by simpa using h)
  simp only[List.set_cons_succ,val,ix]
  generalize val b (l.set k v)=p at*
  generalize val b l=q at*
  generalize b^k=z at*
  have:b*(p+z*old)=b*(q+z*v):=by rw[ih]
  grind
def Dg.set{l:List Nat}(h:Dg l){k v:Nat}(hv:v<B):Dg (l.set k v):=by
 intro d hd;rcases CB hd with hd|hd
 ·exact h d hd
 subst hd;exact hv
def gW(x y o c:Nat):Nat:=bA (bA (bA (x*y)+o)+c)
def jU(x y o c:Nat):Nat:=cN (cN (cy (x*y)) (cy (bA (x*y)+o))) (cy (bA (bA (x*y)+o)+c))
def Yk3{x y o c:Nat}(hx:x<B)(hy:y<B)(ho:o<B)(hc:c<B):gW x y o c+B*jU x y o c=x*y+o+c/\gW x y o c<B/\jU x y o c<B:=by have:x*y<=18446744073709551615*18446744073709551615:=nC (by unfold B at*;omega) (by unfold B at*;omega);unfold gW jU bA cy cN;unfold B at*;generalize x*y=p at*;omega
structure Yzt (h:T O) (N x y i j:Nat) (o:List Nat) (c xi:Nat) (r:T V) (st:St):Prop where
 hj:j<=(aH y).length
 r29:r.get 29=some (.int .i64 j)
 r8:r.get 8=some (.int .u64 c)
 n:st.n=N+1
 w:ay N st.w=[]
 ad:ab h N st.h (N+1)
 row:st.h.get N=some (.cells (dg o) 205 true)
 len:o.length=(aH x).length+(aH y).length
 dg:Dg o
 zero:∀t,i+(aH y).length<=t->t<o.length->o[t]?=some 0
 lc:c<B
 ex:val B o+B^(i+j)*c=val B ((aH x).take i)*y+B^i*(xi*val B ((aH y).take j))
def Xba(h:T O)(N x y i xi m:Nat)(r:T V)(st:St):Prop:=∃j o c,m=(aH y).length-j/\Yzt h N x y i j o c xi r st
def Xbb(h:T O)(N x y i xi:Nat)(r:T V)(st:St):Prop:=∃o c,Yzt h N x y i (aH y).length o c xi r st
structure Yw5 (h:T O) (N x y i:Nat) (o:List Nat) (r:T V) (st:St):Prop where
 hi:i<=(aH x).length
 r22:r.get 22=some (.int .i64 i)
 n:st.n=N+1
 w:ay N st.w=[]
 ad:ab h N st.h (N+1)
 row:st.h.get N=some (.cells (Go.Mx.dg o) 205 true)
 len:o.length=(aH x).length+(aH y).length
 dg:Dg o
 zero:∀t,i+(aH y).length<=t->t<o.length->o[t]?=some 0
 ex:val B o=val B ((aH x).take i)*y
def Yzf(h:T O)(N x y m:Nat)(r:T V)(st:St):Prop:=∃i o,m=(aH x).length-i/\Yw5 h N x y i o r st
def Yzg(h:T O)(N x y:Nat)(r:T V)(st:St):Prop:=∃o,Yw5 h N x y (aH x).length o r st
def Zwy{h:T O}{N:Nat}{vx vy:V}{x y:Nat}(hx:Wn h N vx x)(hy:Wn h N vy y)(zo:(aH x).length<1099511627776)(O5:(aH y).length<1099511627776):Fn A.C 207 [vx,vy] h N (fun v' h' N'=>Wn h' N' v' (x*y)):=by
 intro w;have lx:=hx.len;have ly:=hy.len;rw[bq]at lx ly;rw[aN,A.k207 (by simp)];simp(disch:=first|(simp;done)|omega|(simp only[bq,b_,bk];omega)|rfl) [A.b207,lx,ly];refine cm [(6,13),(22,77)] (fun e r st=>e=.exit 0/\Yzg h N x y r st) (Yzf h N x y) (aH x).length ?_ ?_ ?_
 ·refine⟨0,List.replicate ((aH x).length+(aH y).length) 0,by omega,⟨by omega,by simp,by simp,by simp,ab.refl.set (aO _) |>.up (by omega),?_,by simp,?_,?_,by simp[val,Ztl]⟩⟩
  ·simp[JX]
  ·intro d hd;rw[Ia]at hd;rw[hd.2];decide
  intro t _ ht;simp at ht;simp[ht]
 ·rintro m r ⟨H,n1,W⟩ hr hf ⟨i,o,rfl,hi,pQ,hn,hW,hK,hN,ho,hd,hz,he⟩;simp only at hn hW hK hN;subst hn;rw[bu];by_cases aC:i<(aH x).length
  ·obtain⟨i1,o1,c1,e1,w1,p1,p2,p3,p4⟩:=hx.at (f_ (bV aC));have p3:=(hK.get _ p2).trans p3;have gx:=bV aC;generalize (aH x)[i]=xi at*;simp[A.sZ,hr,pQ,aC,lx,ly,p1,p3,p4];refine cm [(8,13),(29,69)] (fun e r st=>e=.exit 2/\Xbb h N x y i xi r st) (Xba h N x y i xi) (aH y).length ?_ ?_ ?_
   ·exact⟨0,o,0,by omega,⟨by omega,by simp,by simp,rfl,hW,hK,hN,ho,hd,hz,by decide,by simp[val,he]⟩⟩
   ·rintro m r2 ⟨H2,n2,W2⟩ fi dT ⟨j,o2,c,rfl,hj,P7,h8,ib,gS,pP,xE,zz,dX,eW,EX,xf⟩;simp only at ib gS pP xE;subst ib;rw[bu];have hi:xi<B:=(sX x).get gx;by_cases eK:j<(aH y).length
    ·obtain⟨i2,o3,c3,e3,w3,q1,q2,q3,q4⟩:=hy.at (f_ (bV eK));have q3:=(pP.get _ q2).trans q3;have gy:=bV eK;generalize (aH y)[j]=yj at*;have hyj:yj<B:=(sX y).get gy;have go:=bV (l:=o2) (i:=i+j) (by omega);generalize o2[i+j]'(by omega)=ov at*;simp[A.sY,fi,P7,eK,ly,q1,q3,q4];refine av (OT hi hyj) ?_;rintro _ _ _ ER ⟨rfl,rfl,rfl⟩;simp(disch:=first|(simp;done)|omega|(simp only[bq,b_,bk];omega)|rfl) [-getElem?_pos,hr,fi,P7,h8,eK,lx,ly,q1,q3,q4,dT,xE,f_ go,qL];obtain⟨m1,m2,m3⟩:=Yk3 hi hyj (dX.get go) EX;refine⟨_,by omega,j+1,o2.set (i+j) (gW xi yj ov c),jU xi yj ov c,rfl,⟨by omega,by simp,?_,rfl,by simp[gS],pP.set (aO _),?_,by simp[zz],dX.set m2,?_,m3,?_⟩⟩
     ·simp[jU]
     ·simp[gW]
     ·intro t t1 t2;rw[eX (by omega)];exact eW t t1 (by simpa using t2)
     have v1:=P6 (b:=B) (v:=gW xi yj ov c) go;rw[GV gy];have e1:B^(i+(j+1))=B^(i+j)*B:=by rw[show i+(j+1)=(i+j)+1 by omega,ix]
     have e2:B^i*(xi*(B^j*yj))=B^(i+j)*(xi*yj):=by rw[mr];grind
     have e3:B^(i+j)*(gW xi yj ov c+B*jU xi yj ov c)=B^(i+j)*(xi*yj+ov+c):=by rw[m1]
     rw[e1];generalize val B (List.set o2 (i+j) (gW xi yj ov c))=z1 at*;generalize val B o2=z2 at*;generalize gW xi yj ov c=z3 at*;generalize jU xi yj ov c=z4 at*;generalize val B (List.take j (aH y))=z5 at*;generalize B^(i+j)=z6 at*;grind
    have:j=(aH y).length:=by omega
    subst this;simp[A.sY,fi,P7,dT];exact⟨o2,c,⟨by omega,by simp[P7],by simp[h8],rfl,gS,pP,xE,zz,dX,eW,EX,xf⟩⟩
   rintro e r2 ⟨H2,n2,W2⟩ fi ⟨rfl,o2,c,hj,P7,h8,ib,gS,pP,xE,zz,dX,eW,EX,xf⟩;simp only at ib gS pP xE;subst ib;have dT:=hf.inner (D':=[(8,13),(29,69)]) rfl (by simp) fi;simp(disch:=first|(simp;done)|omega|(simp only[bq,b_,bk];omega)|rfl) [hr,fi,pQ,h8,ly,xE,qL,dT];have pn:o2[i+(aH y).length]?=some 0:=eW _ (aO _) (by omega);refine⟨_,by omega,i+1,o2.set (i+(aH y).length) c,rfl,⟨by omega,by simp,rfl,by simp[gS],pP.set (aO _),by simp,by simp[zz],dX.set EX,?_,?_⟩⟩
   ·intro t t1 t2;rw[eX (by omega)];exact eW t (by omega) (by simpa using t2)
   have v1:=P6 (b:=B) (v:=c) pn;rw[gp (aO _),oz]at xf;rw[GV gx];simp only[Nat.mul_zero,gE]at v1;rw[v1,xf];grind
  have:i=(aH x).length:=by omega
  subst this;simp[A.sZ,hr,pQ,hf];exact⟨o,⟨by omega,by simp[pQ],rfl,hW,hK,hN,ho,hd,hz,he⟩⟩
 rintro _ r ⟨H,n1,W⟩ hr ⟨rfl,o,hi,pQ,hn,hW,hK,hN,ho,hd,hz,he⟩;simp only at hn hW hK hN;subst hn;simp[hr];refine av (Fp (l:=o) (Sl.row (e:=205) (rw:=true) (by omega) (by simp[hN]) (by simp[ho]) (by simp)) (by simp[ho];omega)) ?_;intro v' h' n' iD hs;simp[ax];refine⟨hW,hK.trans iD,?_⟩;rw[gp (aO _),oz]at he;rw[Fm hd,he]at hs;exact hs
variable {n:Nat}
def Yvq:List UInt8:=[0,1,2,2,3,3,3,3,4,4,4,4,4,4,4,4,5,5,5,5,5,5,5,5,5,5,5,5,5,5,5,5,6,6,6,6,6,6,6,6,6,6,6,6,6,6,6,6,6,6,6,6,6,6,6,6,6,6,6,6,6,6,6,6,7,7,7,7,7,7,7,7,7,7,7,7,7,7,7,7,7,7,7,7,7,7,7,7,7,7,7,7,7,7,7,7,7,7,7,7,7,7,7,7,7,7,7,7,7,7,7,7,7,7,7,7,7,7,7,7,7,7,7,7,7,7,7,7,8,8,8,8,8,8,8,8,8,8,8,8,8,8,8,8,8,8,8,8,8,8,8,8,8,8,8,8,8,8,8,8,8,8,8,8,8,8,8,8,8,8,8,8,8,8,8,8,8,8,8,8,8,8,8,8,8,8,8,8,8,8,8,8,8,8,8,8,8,8,8,8,8,8,8,8,8,8,8,8,8,8,8,8,8,8,8,8,8,8,8,8,8,8,8,8,8,8,8,8,8,8,8,8,8,8,8,8,8,8,8,8,8,8,8,8,8,8,8,8,8,8,8,8,8,8,8,8]
def A.b234:bW:=sr [mc 2 0] (.seq (sr [mv 3 0,ge 4 (.bin .geq (.node []) false (tq 3) (.const (.int .u64 4294967296)))] (cd 4 (sr [mv 5 0,ge 6 (.bin .shr (.node []) false (tq 5) (.const (.int .u64 32))),mv 0 6] (.fY [mc 2 32])) (.skip))) (.seq (sr [mv 7 0,ge 8 (.bin .geq (.node []) false (tq 7) (.const (.int .u64 65536)))] (cd 8 (sr [mv 9 0,ge 10 (.bin .shr (.node []) false (tq 9) (.const (.int .u64 16))),mv 0 10] (.fY [mv 11 2,bc 12 .add 11 16,mv 2 12])) (.skip))) (.seq (sr [mv 13 0,ge 14 (.bin .geq (.node []) false (tq 13) (.const (.int .u64 256)))] (cd 14 (sr [mv 15 0,ge 16 (.bin .shr (.node []) false (tq 15) (.const (.int .u64 8))),mv 0 16] (.fY [mv 17 2,bc 18 .add 17 8,mv 2 18])) (.skip))) (sr [mv 19 2,mv 20 0,ge 21 (.dB .u8 (tq 20)),ge 22 (.bL (.const (.str Yvq)) (tq 21)),ge 23 (.dB .i64 (tq 22)),bi 24 .add 19 23,mv 2 24] (.ret)))))
def A.k234:=@A.kk 234 25 [.tmp 2] A.b234 (by kernel_rfl) rfl
def A.b237:=A.q Tryz.f237
def A.k237:=@A.kk 237 6 [.tmp 2] A.b237 (by kernel_rfl) rfl
def aX(n:Nat):Nat:=if n=0 then 0 else Nat.log2 n+1
def UP(n:Nat):n<2^aX n:=by
 unfold aX;split
 ·simp[*]
 exact Nat.lt_log2_self
def MH(h:n≠0):2^(aX n-1)<=n:=by unfold aX;rw[ak h];exact Nat.log2_self_le h
def Ytk{k:Nat}(h1:2^k<=n)(h2:n<2^(k+1)):aX n=k+1:=by
 have hn:n≠0:=by have:=rV k;omega
 unfold aX;rw[ak hn];congr 1;have h3:Nat.log2 n<k+1:=(Nat.log2_lt hn).2 h2;have h4:k<=Nat.log2 n:=(Nat.le_log2 hn).2 h1;omega
def Av{k:Nat}(h:2^k<=n):aX (au n k)+k=aX n:=by
 unfold au;have h0:n/2^k≠0:=by have:=Nat.div_pos h (rV k);omega
 have h1:=UP (n/2^k);have h2:=MH h0;have hp:0<aX (n/2^k):=by unfold aX;rw[ak h0];omega
 have e:aX (n/2^k)+k=(aX (n/2^k)-1+k)+1:=by omega
 rw[e];symm;apply Ytk
 ·rw[mr];exact j_ (nf _ h2) (Nat.div_mul_le_self n _)
 rw[show aX (n/2^k)-1+k+1=aX (n/2^k)+k by omega,mr];exact(rk (rV k)).1 h1
def Hr:∀{n:Nat},n<256->Yvq[n]?=some (UInt8.ofNat (aX n)):=by decide+kernel
def Fs:∀{n:Nat},n<256->aX n<9:=by decide+kernel
def Hs(h:n<256):cW (UInt8.ofNat (aX n))=(aX n:Int):=by have:=Fs h;unfold cW;simp;omega
def Zsn{h:T O}{N:Nat}{x:Nat}(hx:x<18446744073709551616):Fn A.C 234 [.int .u64 x] h N (fun v' h' N'=>h'=h/\N'=N/\v'=.int .i64 (aX x:Nat)):=by
 intro w;rw[aN,A.k234 (by simp)];by_cases h0:4294967296<=x
 ·have jM:(4294967296:Int)<=((x:Nat):Int):=by omega
  by_cases h1:65536<=au (x) 32
  ·have h_:(65536:Int)<=((au (x) 32:Nat):Int):=by omega
   by_cases h2:256<=au (au (x) 32) 16
   ·have mG:(256:Int)<=((au (au (x) 32) 16:Nat):Int):=by omega
    have hb:au (au (au (x) 32) 16) 8<256:=by (try simp only[au]at*);omega
    have ht:=Hr hb;have hv:cW (UInt8.ofNat (aX (au (au (au (x) 32) 16) 8)))=(aX (au (au (au (x) 32) 16) 8):Int):=Hs hb;have hl:=Fs hb;simp(disch:=omega) [A.b234,jM,h_,mG,Dj,ht,hv,ax];have:=Av (k:=32) (n:=x) h0;have:=Av (k:=16) (n:=au (x) 32) h1;have:=Av (k:=8) (n:=au (au (x) 32) 16) h2;first|exact ab.refl|exact And.intro ab.refl (by omega)
   have mG:¬(256:Int)<=((au (au (x) 32) 16:Nat):Int):=by omega
   have hb:au (au (x) 32) 16<256:=by (try simp only[au]at*);omega
   have ht:=Hr hb;have hv:cW (UInt8.ofNat (aX (au (au (x) 32) 16)))=(aX (au (au (x) 32) 16):Int):=Hs hb;have hl:=Fs hb;simp(disch:=omega) [A.b234,jM,h_,mG,Dj,ht,hv,ax];have:=Av (k:=32) (n:=x) h0;have:=Av (k:=16) (n:=au (x) 32) h1;first|exact ab.refl|exact And.intro ab.refl (by omega)
  have h_:¬(65536:Int)<=((au (x) 32:Nat):Int):=by omega
  by_cases h2:256<=au (x) 32
  ·have mG:(256:Int)<=((au (x) 32:Nat):Int):=by omega
   have hb:au (au (x) 32) 8<256:=by (try simp only[au]at*);omega
   have ht:=Hr hb;have hv:cW (UInt8.ofNat (aX (au (au (x) 32) 8)))=(aX (au (au (x) 32) 8):Int):=Hs hb;have hl:=Fs hb;simp(disch:=omega) [A.b234,jM,h_,mG,Dj,ht,hv,ax];have:=Av (k:=32) (n:=x) h0;have:=Av (k:=8) (n:=au (x) 32) h2;first|exact ab.refl|exact And.intro ab.refl (by omega)
  have mG:¬(256:Int)<=((au (x) 32:Nat):Int):=by omega
  have hb:au (x) 32<256:=by (try simp only[au]at*);omega
  have ht:=Hr hb;have hv:cW (UInt8.ofNat (aX (au (x) 32)))=(aX (au (x) 32):Int):=Hs hb;have hl:=Fs hb;simp(disch:=omega) [A.b234,jM,h_,mG,Dj,ht,hv,ax];have:=Av (k:=32) (n:=x) h0;first|exact ab.refl|exact And.intro ab.refl (by omega)
 have jM:¬(4294967296:Int)<=((x:Nat):Int):=by omega
 by_cases h1:65536<=x
 ·have h_:(65536:Int)<=((x:Nat):Int):=by omega
  by_cases h2:256<=au (x) 16
  ·have mG:(256:Int)<=((au (x) 16:Nat):Int):=by omega
   have hb:au (au (x) 16) 8<256:=by (try simp only[au]at*);omega
   have ht:=Hr hb;have hv:cW (UInt8.ofNat (aX (au (au (x) 16) 8)))=(aX (au (au (x) 16) 8):Int):=Hs hb;have hl:=Fs hb;simp(disch:=omega) [A.b234,jM,h_,mG,Dj,ht,hv,ax];have:=Av (k:=16) (n:=x) h1;have:=Av (k:=8) (n:=au (x) 16) h2;first|exact ab.refl|exact And.intro ab.refl (by omega)
  have mG:¬(256:Int)<=((au (x) 16:Nat):Int):=by omega
  have hb:au (x) 16<256:=by (try simp only[au]at*);omega
  have ht:=Hr hb;have hv:cW (UInt8.ofNat (aX (au (x) 16)))=(aX (au (x) 16):Int):=Hs hb;have hl:=Fs hb;simp(disch:=omega) [A.b234,jM,h_,mG,Dj,ht,hv,ax];have:=Av (k:=16) (n:=x) h1;first|exact ab.refl|exact And.intro ab.refl (by omega)
 have h_:¬(65536:Int)<=((x:Nat):Int):=by omega
 by_cases h2:256<=x
 ·have mG:(256:Int)<=((x:Nat):Int):=by omega
  have hb:au (x) 8<256:=by (try simp only[au]at*);omega
  have ht:=Hr hb;have hv:cW (UInt8.ofNat (aX (au (x) 8)))=(aX (au (x) 8):Int):=Hs hb;have hl:=Fs hb;simp(disch:=omega) [A.b234,jM,h_,mG,Dj,ht,hv,ax];have:=Av (k:=8) (n:=x) h2;first|exact ab.refl|exact And.intro ab.refl (by omega)
 have mG:¬(256:Int)<=((x:Nat):Int):=by omega
 have hb:x<256:=by (try simp only[au]at*);omega
 have ht:=Hr hb;have hv:cW (UInt8.ofNat (aX (x)))=(aX (x):Int):=Hs hb;have hl:=Fs hb;simp(disch:=omega) [A.b234,jM,h_,mG,Dj,ht,hv,ax];first|exact ab.refl|exact And.intro ab.refl (by omega)
def Ygn{h:T O}{N:Nat}{x:Nat}(hx:x<18446744073709551616):Fn A.C 237 [.int .u64 x] h N (fun v' h' N'=>h'=h/\N'=N/\v'=.int .i64 ((64-aX x:Nat))):=by
 intro w;have hl:aX x<=64:=by
  by_cases h0:x=0
  ·subst h0;decide
  apply zB;intro hc;have:=MH h0;have:2^64<=2^(aX x-1):=qW (by decide) (by omega);omega
 rw[aN,A.k237 (by simp)];simp[A.b237];refine av (Zsn hx) ?_;rintro _ _ _ hk ⟨rfl,rfl,rfl⟩;simp(disch:=omega) [ax];exact⟨hk,by omega⟩
variable {s x:Nat}
def A.P8:=A.q Tryz.f238
def A.oE:=A.ql A.P8 0 []
def A.b238:=(fun x0=>A.qb A.P8 [x0]) A.oE
def A.k238:=@A.kk 238 40 [.tmp 4] A.b238 (by kernel_rfl) rfl
def UJ{c:Nat}(hs:s<64)(hc:c<2^s):jT c (bN x s)=c+bN x s:=by
 unfold jT bN;have e:x*2^s%18446744073709551616=(x%2^(64-s))<<<s:=by
  rw[Nat.shiftLeft_eq];have:(18446744073709551616:Nat)=2^(64-s)*2^s:=by rw[<-mr,show 64-s+s=64 by omega]
  rw[this,Oj]
 rw[e,Nat.or_comm,Nat.add_comm,Nat.shiftLeft_add_eq_or_of_lt hc]
def Yep(hs:s<=64):bN x s+B*au x (64-s)=x*2^s:=by
 unfold bN au;have e:x/2^(64-s)=x*2^s/18446744073709551616:=by
  have:(18446744073709551616:Nat)=2^(64-s)*2^s:=by rw[<-mr,show 64-s+s=64 by omega]
  rw[this,TD _ _ (rV s)]
 rw[e];have:=vM (x*2^s) 18446744073709551616;unfold B;omega
def Ynw(hx:x<B)(hs:s<=64):au x (64-s)<2^s:=by unfold au;apply (rk (rV _)).2;rw[<-mr,show s+(64-s)=64 by omega];exact hx
def Zqv{c:Nat}(hs:s<64)(hc:c<2^s):c+bN x s<B:=by
 rw[<-UJ hs hc];unfold jT;apply Nat.or_lt_two_pow (n:=64)
 ·exact Nat.lt_trans hc (Nat.pow_lt_pow_right (by decide) hs)
 exact Zr4
structure ShJ (h:T O) (N:Nat) (l:List Nat) (s k:Nat) (o:List Nat) (c:Nat) (r:T V) (st:St):Prop where
 hk:k<=l.length
 MI:r.get 14=some (.int .i64 k)
 n:st.n=N+1
 w:ay N st.w=[]
 ad:ab h N st.h (N+1)
 row:st.h.get N=some (.cells (dg o) 205 true)
 len:o.length=l.length+1
 dg:Dg o
 zero:∀t,k<t->t<o.length->o[t]?=some 0
 top:o[k]?=some c
 lc:c<2^s
 ex:val B o=val B (l.take k)*2^s
def ShI(h:T O)(N:Nat)(l:List Nat)(s m:Nat)(r:T V)(st:St):Prop:=∃k o c,m=l.length-k/\ShJ h N l s k o c r st
def ShE(h:T O)(N:Nat)(l:List Nat)(s:Nat)(r:T V)(st:St):Prop:=∃o c,ShJ h N l s l.length o c r st
def Zqx{h:T O}{N:Nat}{v:V}{l:List Nat}(hv:Sl h N v (Go.Mx.dg l))(hd:Dg l)(hs:s<64)(hl:l.length<1099511627776):Fn A.C 238 [v,.int .i64 s] h N (fun v' h' N'=>∃i o,N<=i/\i<N'/\v'=.slice i 0 (l.length+1) (some (l.length+1)) 1/\h'.get i=some (.cells (dg o) 205 true)/\o.length=l.length+1/\Dg o/\val B o=val B l*2^s):=by
 intro w;have lx:=hv.len;rw[bq]at lx;rw[aN,A.k238 (by simp)];simp(disch:=first|(simp;done)|omega|(simp only[bq,b_,bk];omega)|rfl) [A.b238,lx];refine cm [(6,7),(14,38)] (fun e r st=>e=.exit 0/\ShE h N l s r st) (ShI h N l s) l.length ?_ ?_ ?_
 ·refine⟨0,List.replicate (l.length+1) 0,0,by omega,⟨by omega,by simp,by simp,by simp,ab.refl.set (aO _) |>.up (by omega),by simp[JX],by simp,?_,?_,by simp,rV s,by simp[val,Ztl]⟩⟩
  ·intro d hd;rw[Ia]at hd;rw[hd.2];decide
  intro t _ ht;simp at ht;simp[ht]
 ·rintro m r ⟨H,n1,W⟩ hr hf ⟨k,o,c,rfl,hk,qd,hn,hW,hK,hN,ho,MJ,hz,hc,Aa,he⟩;simp only at hn hW hK hN;subst hn;rw[bu];by_cases aC:k<l.length
  ·obtain⟨i1,o1,c1,e1,w1,p1,p2,p3,p4⟩:=hv.at (f_ (bV aC));have p3:=(hK.get _ p2).trans p3;have gx:=bV aC;generalize l[k]=x at*;have hx:x<B:=hd.get gx;have hcB:c<18446744073709551616:=MJ.get hc;have wA:=UJ (x:=x) hs Aa;have eK:=Zqv (x:=x) hs Aa;obtain⟨z,hzz⟩:∃z,c+bN x s=z:=⟨_,rfl⟩;rw[hzz]at wA eK;have zbe:(o.set k z).length=l.length+1:=by simp[ho]
   have G5:=Yep (x:=x) (s:=s) (by omega);have ct:=Ynw hx (s:=s) (by omega);have v1:=P6 (b:=B) (v:=z) hc;have B4:(o.set k z)[k+1]?=some 0:=by rw[eX (by omega)];exact hz _ (by omega) (by omega)
   have v2:=P6 (b:=B) (v:=au x (64-s)) B4;by_cases h0:0<s
   ·have jM:(0:Int)<(s:Int):=by omega
    simp(disch:=first|(simp;done)|omega|(simp only[bq,b_,bk];omega)|rfl) [-getElem?_pos,A.oE,hr,qd,aC,lx,p1,p3,p4,hN,f_ hc,wA,qL,h0,hf];refine⟨_,by omega,k+1,(o.set k z).set (k+1) (au x (64-s)),au x (64-s),rfl,⟨by omega,by simp,rfl,by simp[hW],(hK.set (aO _)).set (aO _),by simp,by simp[ho],(MJ.set eK).set (fm ct (qW (by decide) (by omega):2^s<=2^64)),?_,mD (by omega),ct,?_⟩⟩
    ·intro t t1 t2;rw[eX (by omega),eX (by omega)];exact hz t (by omega) (by simpa using t2)
    rw[GV gx,ji,<-he];rw[<-hzz]at v1 v2 ⊢;have e3:B^k*(bN x s+B*au x (64-s))=B^k*(x*2^s):=by rw[G5]
    rw[ix]at v2;generalize val B ((o.set k (c+bN x s)).set (k+1) (au x (64-s)))=z1 at*;generalize val B (o.set k (c+bN x s))=z2 at*;generalize val B o=z3 at*;generalize bN x s=z4 at*;generalize au x (64-s)=z5 at*;generalize B^k=z6 at*;grind
   have jM:¬(0:Int)<(s:Int):=by omega
   simp(disch:=first|(simp;done)|omega|(simp only[bq,b_,bk];omega)|rfl) [-getElem?_pos,A.oE,hr,qd,aC,lx,p1,p3,p4,hN,f_ hc,wA,qL,h0,hf];have fP:s=0:=by omega
   subst fP;have im:c=0:=by simpa using Aa
   subst im;have e0:bN x 0=x:=by unfold bN;unfold B at hx;simp;omega
   have rA:z=x:=by rw[<-hzz,e0];omega
   subst rA;refine⟨_,by omega,k+1,o.set k z,0,rfl,⟨by omega,by simp,rfl,by simp[hW],hK.set (aO _),by simp,by simp[ho],MJ.set hx,?_,?_,by decide,?_⟩⟩
   ·intro t t1 t2;rw[eX (by omega)];exact hz t (by omega) (by simpa using t2)
   ·rw[eX (by omega)];exact hz _ (by omega) (by omega)
   rw[GV gx,ji,<-he];simpa using v1
  have:k=l.length:=by omega
  subst this;simp[A.oE,hr,qd,hf];exact⟨o,c,⟨by omega,by simp[qd],rfl,hW,hK,hN,ho,MJ,hz,hc,Aa,he⟩⟩
 rintro _ r ⟨H,n1,W⟩ hr ⟨rfl,o,c,hk,qd,hn,hW,hK,hN,ho,MJ,hz,hc,Aa,he⟩;simp only at hn hW hK hN;subst hn;simp[hr,ax];rw[gp (aO _)]at he;exact⟨hW,hK,N,aO _,by omega,rfl,o,hN,ho,MJ,he⟩
open Go
variable {b r:Nat}
def UQ{u un cD mT q:Nat}(hi:u=q*cD+r)(hc:q*mT<=b*r+un):q*(cD*b+mT)<=u*b+un:=by subst hi;rw[uI,ji,<-Gu,jO r b];omega
def Yac{u un cD mT q:Nat}(hi:u=q*cD+r)(hc:b*r+un<q*mT):u*b+un<q*(cD*b+mT):=by subst hi;rw[uI,ji,<-Gu,jO r b];omega
def Zu9{a y q:Nat}(h:a<q*y):a/y<q:=by
 rcases El y with rfl|hy
 ·simp at h
 exact(rk hy).2 h
def MK{a y q:Nat}(hy:0<y)(h:q*y<=a):q<=a/y:=(LK hy).2 h
def Yrz{P u1 u2 U' v1 v2 V' s:Nat}(pC:0<v1)(EK:V'<P)(ht:s<=b)(hinv:u1=(s+1)*v1+r)(hc:(s+1)*v2<=r*b+u2):
  s*(V'+P*(v2+b*v1))<=U'+P*(u2+b*u1):=by
 have h1:s*V'<=b*P:=nC ht (by omega);have h2:b*P*1<=b*P*v1:=mM _ pC;have h3:P*((s+1)*v2)<=P*(r*b+u2):=mM _ hc;have h4:P*((s+1)*v2)=P*(s*v2)+P*v2:=by grind
 have h5:s*(V'+P*(v2+b*v1))=s*V'+P*(s*v2)+b*(P*(s*v1)):=by grind
 have h6:U'+P*(u2+b*u1)=U'+P*(r*b+u2)+b*(P*(s*v1))+b*P*v1:=by subst hinv;grind
 omega
def Yry{P u1 u2 U' v1 v2 V' t:Nat}(EJ:U'<P)(hinv:u1=t*v1+r)(hc:r*b+u2<t*v2):
  U'+P*(u2+b*u1)<t*(V'+P*(v2+b*v1)):=by
 have h3:P*(r*b+u2+1)<=P*(t*v2):=mM _ hc;have h5:t*(V'+P*(v2+b*v1))=t*V'+P*(t*v2)+b*(P*(t*v1)):=by grind
 have h6:U'+P*(u2+b*u1)+P=U'+P*(r*b+u2+1)+b*(P*(t*v1)):=by subst hinv;grind
 omega
variable {b u y:Nat}
def A.Kc:=A.q Tryz.f236
def A.jc:=A.ql A.Kc 1 []
def A.jd:=A.ql A.Kc 0 []
def A.b236:=(fun x0 x1=>A.qb A.Kc [x0,x1]) A.jd A.jc
def A.k236:=@A.kk 236 135 [.tmp 6,.tmp 7] A.b236 (by kernel_rfl) rfl
structure DvI (h:T O) (N:Nat) (k1 u cD D m:Nat) (r:T V) (st:St):Prop where
 st:st=⟨h,N,[]⟩
 ex:∃rh:Nat,r.get k1=some (.int .u64 m)/\r.get 16=some (.int .u64 rh)/\u=m*cD+rh/\D<=m/\m<=4294967297/\rh<4294967296
def Yob(h0:¬y=0)(h:y<18446744073709551616):9223372036854775808<=y*2^(64-aX y)/\y*2^(64-aX y)<18446744073709551616/\64-aX y<64:=by
 have h1:=UP y;have h2:=MH h0;have hp:0<aX y:=by unfold aX;rw[ak h0];omega
 have hl:aX y<=64:=by apply zB;intro hc;have:2^64<=2^(aX y-1):=qW (by decide) (by omega);omega
 refine⟨?_,?_,by omega⟩
 ·have:=nf (2^(64-aX y)) h2;rw[<-mr,show aX y-1+(64-aX y)=63 by omega]at this;exact this
 have:=K7 h1 (rV (64-aX y));rw[<-mr,show aX y+(64-aX y)=64 by omega]at this;exact this
def Zmg{a:Nat}(h:a<18446744073709551616):bo .u64 ((a:Int)/(b:Int))=(nM a b:Nat):=by have e:((a:Int)/(b:Int))=((a/b:Nat):Int):=rfl;have:=wS a b;rw[e,Hk (Int.natCast_nonneg _) (Int.ofNat_lt.2 (show a/b<18446744073709551616 by omega))];rfl
def Ztr{a c:Nat}(h:c<=a)(hr:a-c<18446744073709551616):gU (a%18446744073709551616) (c%18446744073709551616)=a-c:=by unfold gU;split<;>omega
def Yda{c u1 u0 z Y:Nat}(hc:c=b*b)(hY:0<Y):(u1*c+u0*b+z)/Y=(u1*b+u0)/Y*b+((u1*b+u0)%Y*b+z)/Y/\(u1*c+u0*b+z)%Y=((u1*b+u0)%Y*b+z)%Y:=by
 subst hc;have h:=vM (u1*b+u0) Y;have e:u1*(b*b)+u0*b+z=Y*((u1*b+u0)/Y*b)+((u1*b+u0)%Y*b+z):=by
  generalize (u1*b+u0)/Y=D at*;generalize (u1*b+u0)%Y=R at*;have:(Y*D+R)*b=(u1*b+u0)*b:=by rw[h]
  grind
 rw[e,Nat.mul_add_div hY,Nat.mul_add_mod];exact⟨rfl,rfl⟩
def Zu0:u=u/y*y+u%y:=by have:=vM u y;rw[jO]at this;exact this.symm
def Zz1(h:0<y)(hb:y<=b):u%y<b:=fm (mO _ h) hb
def Zz3{un cD mT:Nat}(h:0<cD)(hn:un<4294967296):(u*4294967296+un)/(cD*4294967296+mT)<=u/cD:=by
 have h1:(u*4294967296+un)/(cD*4294967296+mT)<=(u*4294967296+un)/(cD*4294967296):=Nat.div_le_div_left (by omega) (by omega);have h2:(u*4294967296+un)/(cD*4294967296)=u/cD:=by rw[jO cD,<-IZ,show (u*4294967296+un)/4294967296=u by omega]
 rw[h2]at h1;exact h1
def Zz2{cD mT:Nat}(h0:mT<4294967296)(h:2147483648<=cD)(hu:u<cD*4294967296+mT):u/cD<=4294967297:=by apply Nat.le_of_lt_succ;apply (rk (by omega)).2;omega
def Yaa{h:T O}{N:Nat}{hi lo:Nat}(hy:hi<y)(J3:y<18446744073709551616)(gT:lo<18446744073709551616):Fn A.C 236 [.int .u64 hi,.int .u64 lo,.int .u64 y] h N (fun v h' N'=>h'=h/\N'=N/\v=.aV [.int .u64 ((hi*18446744073709551616+lo)/y:Nat),.int .u64 ((hi*18446744073709551616+lo)%y:Nat)]):=by
 intro w;have tO:¬y=0:=by omega
 have hle:¬y<=hi:=by omega
 rw[aN,A.k236 (by simp)];by_cases h0:hi=0
 ·subst h0;have hq:=Zmg (b:=y) gT;simp[A.b236,tO,cQ.cU,ax,hq,PV,nM];exact ab.refl
 simp[A.b236,tO,hle,h0];refine av (Ygn J3) ?_;rintro _ h N hk ⟨rfl,rfl,rfl⟩;obtain⟨n1,n2,n3⟩:=Yob tO J3;generalize 64-aX y=s at*;have hw:bo .u64 (s:Int)=(s:Int):=Hk (by omega) (by omega);have NH:bo .u64 (64-(s:Int))=((64-s:Nat):Int):=by rw[Hk (by omega) (by omega)];omega
 obtain⟨Y,hY⟩:∃Y,bN y s=Y:=⟨_,rfl⟩;have hYe:Y=y*2^s:=by rw[<-hY];unfold bN;omega
 obtain⟨cD,P9⟩:∃x,au Y 32=x:=⟨_,rfl⟩;obtain⟨mT,Qa⟩:∃x,fj Y=x:=⟨_,rfl⟩;obtain⟨U,hU⟩:∃x,jT (bN hi s) (au lo (64-s))=x:=⟨_,rfl⟩;obtain⟨L,hL⟩:∃x,bN lo s=x:=⟨_,rfl⟩;obtain⟨yY,Qc⟩:∃x,au L 32=x:=⟨_,rfl⟩;obtain⟨xF,Qd⟩:∃x,fj L=x:=⟨_,rfl⟩;have hYB:Y<18446744073709551616:=by omega
 have hLB:L<18446744073709551616:=by rw[<-hL];exact Zr4
 have UR:Y=cD*4294967296+mT/\mT<4294967296:=by rw[<-P9,<-Qa];unfold au fj;omega
 have hLd:L=yY*4294967296+xF/\xF<4294967296:=by rw[<-Qc,<-Qd];unfold au fj;omega
 have hA:U*18446744073709551616+L=(hi*18446744073709551616+lo)*2^s:=by
  have e1:=UJ (x:=hi) n3 (Ynw (x:=lo) (s:=s) gT (by omega));have e2:=Yep (x:=lo) (s:=s) (by omega);have e3:bN hi s=hi*2^s:=by unfold bN;have:=K7 hy (rV s);omega
  have e4:U=au lo (64-s)+hi*2^s:=by rw[<-hU,<-e3,<-e1];unfold jT;exact Nat.or_comm _ _
  rw[hL]at e2;unfold B at e2;rw[e4,ji (hi*18446744073709551616),<-e2];have:hi*18446744073709551616*2^s=hi*2^s*18446744073709551616:=by grind
  omega
 have hUY:U<Y:=by
  have h1:hi*18446744073709551616+lo<y*18446744073709551616:=by omega
  have h2:=K7 h1 (rV s);have h3:y*18446744073709551616*2^s=y*2^s*18446744073709551616:=by grind
  omega
 have Gf:au lo (64-s)<18446744073709551616:=Zyu gT;have hyp:0<cD:=by omega
 have hyb:cD<=4294967296:=by omega
 have Dy:0<cD*4294967296+mT:=by omega
 have hq:=Zmg (b:=cD) (show U<18446744073709551616 by omega);have hr:gU U (dc (nM U cD) cD)=U%cD:=by
  have h1:=vM U cD;rw[jO]at h1;have h2:dc (nM U cD) cD=U/cD*cD:=by unfold dc nM;omega
  rw[h2,GW (by omega) (by omega)];omega
 simp(disch:=first|(simp;done)|omega|(simp only[bq,b_,bk];omega)|rfl) [hq,hr,hw,NH,hY,P9,Qa,hU,hL,Qc,Qd];obtain⟨D1,B9⟩:∃D,(U*4294967296+yY)/(cD*4294967296+mT)=D:=⟨_,rfl⟩;refine cm [(15,16),(67,85)] (fun e r st=>e=.exit 0/\st=⟨h,N,[]⟩/\r.get 15=some (.int .u64 D1)) (DvI h N 15 U cD D1) (U/cD) ?_ ?_ ?_
 ·exact⟨rfl,U%cD,by simp[nM],by simp,Zu0,B9▸Zz3 hyp (by omega),Zz2 UR.2 (by omega) (by omega),Zz1 hyp hyb⟩
 ·rintro q r _ hr hf ⟨rfl,rh,hq,Ca,hu,hD,qO,Kd⟩;rw[bu];obtain⟨P,hP⟩:∃P,P=q*mT:=⟨_,rfl⟩;obtain⟨R2,hR2⟩:∃P,P=4294967296*rh:=⟨_,rfl⟩;obtain⟨R3,hR3⟩:∃P,P=4294967296*rh+yY:=⟨_,rfl⟩;have m2:dc 4294967296 rh=R2:=by unfold dc;omega
  have m3:cN R2 yY=R3:=by unfold cN;omega
  have uX:(4294967296<=q\/R3<P)->0<q/\D1<=q-1:=by
   intro hc;have:D1<q:=by
    rcases hc with hc|hc
    ·have:D1<4294967296:=by rw[<-B9];exact(rk Dy).2 (by omega)
     omega
    rw[<-B9];exact Zu9 (Yac (b:=4294967296) hu (by omega))
   omega
  have s_:0<q->U=(q-1)*cD+(rh+cD):=by intro hc;obtain⟨s,rfl⟩:∃s,q=s+1:=⟨q-1,by omega⟩;rw[hu,ji];simp;omega
  have fg:∀Ke,U=(q-1)*cD+Ke->4294967296<=Ke->(q-1)*(cD*4294967296+mT)<=U*4294967296+yY:=by intro Ke h1 h2;refine UQ h1 ?_;have:=nC (show q-1<=4294967296 by omega) (show mT<=4294967296 by omega);omega
  by_cases c1:4294967296<=q
  ·have c1':(4294967296:Int)<=(q:Int):=by omega
   obtain⟨g1,g2⟩:=uX (.inl c1);have s1:gU q 1=q-1:=GW g1 (by omega);have s2:cN rh cD=rh+cD:=by unfold cN;omega
   by_cases c3:4294967296<=rh+cD
   ·have c3':(4294967296:Int)<=(rh:Int)+(cD:Int):=by omega
    simp[A.jd,hr,hq,Ca,c1',c3',s1,s2,hf];have hd:=MK Dy (fg _ (s_ g1) c3);rw[B9]at hd;omega
   have c3':¬(4294967296:Int)<=(rh:Int)+(cD:Int):=by omega
   simp[A.jd,hr,hq,Ca,c1',c3',s1,s2,hf];exact⟨q-1,by omega,rfl,rh+cD,by simp,by simp,s_ g1,g2,by omega,by omega⟩
  have c1':¬(4294967296:Int)<=(q:Int):=by omega
  have m1:dc q mT=P:=by have:=nC (show q<=4294967296 by omega) (show mT<=4294967295 by omega);unfold dc;omega
  by_cases c2:R3<P
  ·obtain⟨g1,g2⟩:=uX (.inr c2);have s1:gU q 1=q-1:=GW g1 (by omega);have s2:cN rh cD=rh+cD:=by unfold cN;omega
   by_cases c3:4294967296<=rh+cD
   ·have c3':(4294967296:Int)<=(rh:Int)+(cD:Int):=by omega
    simp[A.jd,hr,hq,Ca,c1',c2,c3',m1,m2,m3,s1,s2,hf];have hd:=MK Dy (fg _ (s_ g1) c3);rw[B9]at hd;omega
   have c3':¬(4294967296:Int)<=(rh:Int)+(cD:Int):=by omega
   simp[A.jd,hr,hq,Ca,c1',c2,c3',m1,m2,m3,s1,s2,hf];exact⟨q-1,by omega,rfl,rh+cD,by simp,by simp,s_ g1,g2,by omega,by omega⟩
  simp[A.jd,hr,hq,Ca,c1',c2,m1,m2,m3,hf];have hd:=MK Dy (UQ (b:=4294967296) (un:=yY) hu (by omega));rw[B9]at hd;omega
 rintro _ r _ fv ⟨rfl,rfl,Ft⟩;obtain⟨R1,US⟩:∃R,(U*4294967296+yY)%Y=R:=⟨_,rfl⟩;rw[<-UR.1]at B9;have yx:gU (cN (dc U 4294967296) yY) (dc D1 Y)=R1:=by
  have h1:=vM (U*4294967296+yY) Y;rw[B9,US,jO Y]at h1;have h2:cN (dc U 4294967296) yY=(U*4294967296+yY)%18446744073709551616:=by unfold cN dc;omega
  rw[h2];have h3:=mO (U*4294967296+yY) (show 0<Y by omega);unfold dc;rw[Ztr (by omega) (by omega)];omega
 have zbC:R1<Y:=by rw[<-US];exact mO _ (by omega)
 have nL:=Zmg (b:=cD) (show R1<18446744073709551616 by omega);have fi:gU R1 (dc (nM R1 cD) cD)=R1%cD:=by
  have h1:=vM R1 cD;rw[jO]at h1;have h2:dc (nM R1 cD) cD=R1/cD*cD:=by unfold dc nM;omega
  rw[h2,GW (by omega) (by omega)];omega
 simp(disch:=first|(simp;done)|omega|(simp only[bq,b_,bk];omega)|rfl) [fv,Ft,yx,nL,fi];obtain⟨D0,Aw⟩:∃D,(R1*4294967296+xF)/(cD*4294967296+mT)=D:=⟨_,rfl⟩;refine cm [(16,16),(18,18),(102,120)] (fun e r st=>e=.exit 2/\st=⟨h,N,[]⟩/\r.get 18=some (.int .u64 D0)) (DvI h N 18 R1 cD D0) (R1/cD) ?_ ?_ ?_
 ·exact⟨rfl,R1%cD,by simp[nM],by simp,Zu0,Aw▸Zz3 hyp (by omega),Zz2 UR.2 (by omega) (by omega),Zz1 hyp hyb⟩
 ·rintro q r _ hr hf ⟨rfl,rh,hq,Ca,hu,hD,qO,Kd⟩;rw[bu];obtain⟨P,hP⟩:∃P,P=q*mT:=⟨_,rfl⟩;obtain⟨R2,hR2⟩:∃P,P=4294967296*rh:=⟨_,rfl⟩;obtain⟨R3,hR3⟩:∃P,P=4294967296*rh+xF:=⟨_,rfl⟩;have m2:dc 4294967296 rh=R2:=by unfold dc;omega
  have m3:cN R2 xF=R3:=by unfold cN;omega
  have uX:(4294967296<=q\/R3<P)->0<q/\D0<=q-1:=by
   intro hc;have:D0<q:=by
    rcases hc with hc|hc
    ·have:D0<4294967296:=by rw[<-Aw];exact(rk Dy).2 (by omega)
     omega
    rw[<-Aw];exact Zu9 (Yac (b:=4294967296) hu (by omega))
   omega
  have s_:0<q->R1=(q-1)*cD+(rh+cD):=by intro hc;obtain⟨s,rfl⟩:∃s,q=s+1:=⟨q-1,by omega⟩;rw[hu,ji];simp;omega
  have fg:∀Ke,R1=(q-1)*cD+Ke->4294967296<=Ke->(q-1)*(cD*4294967296+mT)<=R1*4294967296+xF:=by intro Ke h1 h2;refine UQ h1 ?_;have:=nC (show q-1<=4294967296 by omega) (show mT<=4294967296 by omega);omega
  by_cases c1:4294967296<=q
  ·have c1':(4294967296:Int)<=(q:Int):=by omega
   obtain⟨g1,g2⟩:=uX (.inl c1);have s1:gU q 1=q-1:=GW g1 (by omega);have s2:cN rh cD=rh+cD:=by unfold cN;omega
   by_cases c3:4294967296<=rh+cD
   ·have c3':(4294967296:Int)<=(rh:Int)+(cD:Int):=by omega
    simp[A.jc,hr,fv,hq,Ca,c1',c3',s1,s2,hf];have hd:=MK Dy (fg _ (s_ g1) c3);rw[Aw]at hd;omega
   have c3':¬(4294967296:Int)<=(rh:Int)+(cD:Int):=by omega
   simp[A.jc,hr,fv,hq,Ca,c1',c3',s1,s2,hf];exact⟨q-1,by omega,rfl,rh+cD,by simp,by simp,s_ g1,g2,by omega,by omega⟩
  have c1':¬(4294967296:Int)<=(q:Int):=by omega
  have m1:dc q mT=P:=by have:=nC (show q<=4294967296 by omega) (show mT<=4294967295 by omega);unfold dc;omega
  by_cases c2:R3<P
  ·obtain⟨g1,g2⟩:=uX (.inr c2);have s1:gU q 1=q-1:=GW g1 (by omega);have s2:cN rh cD=rh+cD:=by unfold cN;omega
   by_cases c3:4294967296<=rh+cD
   ·have c3':(4294967296:Int)<=(rh:Int)+(cD:Int):=by omega
    simp[A.jc,hr,fv,hq,Ca,c1',c2,c3',m1,m2,m3,s1,s2,hf];have hd:=MK Dy (fg _ (s_ g1) c3);rw[Aw]at hd;omega
   have c3':¬(4294967296:Int)<=(rh:Int)+(cD:Int):=by omega
   simp[A.jc,hr,fv,hq,Ca,c1',c2,c3',m1,m2,m3,s1,s2,hf];exact⟨q-1,by omega,rfl,rh+cD,by simp,by simp,s_ g1,g2,by omega,by omega⟩
  simp[A.jc,hr,fv,hq,Ca,c1',c2,m1,m2,m3,hf];have hd:=MK Dy (UQ (b:=4294967296) (un:=xF) hu (by omega));rw[Aw]at hd;omega
 rintro _ r2 _ xG ⟨rfl,rfl,h18⟩;obtain⟨R0,Cc⟩:∃R,(R1*4294967296+xF)%Y=R:=⟨_,rfl⟩;rw[<-UR.1]at Aw;have na:gU (cN (dc R1 4294967296) xF) (dc D0 Y)=R0:=by
  have h1:=vM (R1*4294967296+xF) Y;rw[Aw,Cc,jO Y]at h1;have h2:cN (dc R1 4294967296) xF=(R1*4294967296+xF)%18446744073709551616:=by unfold cN dc;omega
  rw[h2];have h3:=mO (R1*4294967296+xF) (show 0<Y by omega);unfold dc;rw[Ztr (by omega) (by omega)];omega
 have uP:D1<4294967296:=by rw[<-B9];exact(rk (by omega)).2 (by omega)
 have qf:D0<4294967296:=by rw[<-Aw];exact(rk (by omega)).2 (by omega)
 have ha:cN (dc D1 4294967296) D0=D1*4294967296+D0:=by unfold cN dc;omega
 obtain⟨e1,e2⟩:=Yda (b:=4294967296) (c:=18446744073709551616) (by decide) (u1:=U) (u0:=yY) (z:=xF) (show 0<Y by omega);rw[US,B9,Aw]at e1;rw[US,Cc]at e2;have e3:U*18446744073709551616+yY*4294967296+xF=(hi*18446744073709551616+lo)*2^s:=by rw[<-hA,hLd.1,qe]
 rw[e3,hYe,TD _ _ (rV s)]at e1;rw[e3,hYe,Oj]at e2;have Dz:au R0 s=(hi*18446744073709551616+lo)%y:=by unfold au;rw[<-e2,Nat.mul_div_cancel _ (rV s)]
 simp(disch:=first|(simp;done)|omega|(simp only[bq,b_,bk];omega)|rfl) [fv,xG,Ft,h18,na,ha,ax];have e5:(hi:Int)*18446744073709551616+lo=((hi*18446744073709551616+lo:Nat):Int):=by omega
 refine⟨ab.refl,?_,?_⟩
 ·rw[e5,<-Int.natCast_ediv,e1];omega
 rw[e5,<-Int.natCast_emod,Dz]
end
end Go.Mx
