/-num-/
import Derived.Test.YtdlikflhcjmkeaaGreatDoorRcK
set_option linter.all false
set_option maxHeartbeats 8000000
namespace Go.Mx
noncomputable section
open Go Go.Proofs
set_option maxRecDepth 1000000
def A.w203:=A.q Tryz.f203
def A.lb203_0:=A.ql A.w203 1 []
def A.lb203_1:=(fun x0=>A.ql A.w203 0 [x0]) A.lb203_0
def A.b203:=(fun x0=>A.qb A.w203 [x0]) A.lb203_1
def A.k203:=@A.kk 203 80 [.tmp 4] A.b203 (by kernel_rfl) rfl
def Zlv{b:Nat}:∀{l:List Nat} {k old v:Nat},l[k]?=some old→val b (l.set k v)+b^k*old=val b l+b^k*v
 |[],k,old,v,h=>by simp at h
 |d::l,0,old,v,h=>by simp at h;subst h;simp[val];omega
 |d::l,k+1,old,v,h=>by
  have ih:=Zlv (b:=b) (l:=l) (k:=k) (old:=old) (v:=v) (by simpa using h)
  simp only[List.set_cons_succ,val,Yqx]
  generalize val b (l.set k v)=p at*
  generalize val b l=q at*
  generalize b^k=z at*
  have:b*(p+z*old)=b*(q+z*v):=by rw[ih]
  grind
def Dg.set{l:List Nat}(h:Dg l){k v:Nat}(hv:v<B):Dg (l.set k v):=by
 intro d hd
 rcases List.mem_or_eq_of_mem_set hd with hd|hd
 ·exact h d hd
 ·subst hd;exact hv
def mulNew(x y o c:Nat):Nat:=lo64 (lo64 (lo64 (x*y)+o)+c)
def mulCar(x y o c:Nat):Nat:=addu (addu (hi64 (x*y)) (hi64 (lo64 (x*y)+o))) (hi64 (lo64 (lo64 (x*y)+o)+c))
def Yee{x y o c:Nat}(hx:x<B)(hy:y<B)(ho:o<B)(hc:c<B):mulNew x y o c+B*mulCar x y o c=x*y+o+c∧mulNew x y o c<B∧mulCar x y o c<B:=by
 have:x*y≤18446744073709551615*18446744073709551615:=Yr1 (by unfold B at*;omega) (by unfold B at*;omega)
 unfold mulNew mulCar lo64 hi64 addu
 unfold B at*
 generalize x*y=p at*
 omega
structure Yoo (h:T O) (N x y i j:Nat) (o:List Nat) (c xi:Nat) (r:T V) (st:St):Prop where
 hj:j≤(wds y).length
 r29:r.get 29=some (.int .i64 j)
 r8:r.get 8=some (.int .u64 c)
 n:st.n=N+1
 w:Zac N st.w=[]
 keep:Keeps h N st.h (N+1)
 row:st.h.get N=some (.cells (dg o) 211 true)
 len:o.length=(wds x).length+(wds y).length
 dg:Dg o
 zero:∀t,i+(wds y).length≤t→t<o.length→o[t]?=some 0
 lc:c<B
 ex:val B o+B^(i+j)*c=val B ((wds x).take i)*y+B^i*(xi*val B ((wds y).take j))
def Yp6(h:T O)(N x y i xi m:Nat)(r:T V)(st:St):Prop:=∃j o c,m=(wds y).length-j∧Yoo h N x y i j o c xi r st
def Yp7(h:T O)(N x y i xi:Nat)(r:T V)(st:St):Prop:=∃o c,Yoo h N x y i (wds y).length o c xi r st
structure Ymj (h:T O) (N x y i:Nat) (o:List Nat) (r:T V) (st:St):Prop where
 hi:i≤(wds x).length
 r22:r.get 22=some (.int .i64 i)
 n:st.n=N+1
 w:Zac N st.w=[]
 keep:Keeps h N st.h (N+1)
 row:st.h.get N=some (.cells (Go.Mx.dg o) 211 true)
 len:o.length=(wds x).length+(wds y).length
 dg:Dg o
 zero:∀t,i+(wds y).length≤t→t<o.length→o[t]?=some 0
 ex:val B o=val B ((wds x).take i)*y
def Yof(h:T O)(N x y m:Nat)(r:T V)(st:St):Prop:=∃i o,m=(wds x).length-i∧Ymj h N x y i o r st
def Yog(h:T O)(N x y:Nat)(r:T V)(st:St):Prop:=∃o,Ymj h N x y (wds x).length o r st
def Zsv{h:T O}{N:Nat}{vx vy:V}{x y:Nat}(hx:Wn h N vx x)(hy:Wn h N vy y)(hxl:(wds x).length<1099511627776)(hyl:(wds y).length<1099511627776):Fn A.C 203 [vx,vy] h N (fun v' h' N'=>Wn h' N' v' (x*y)):=by
 intro w
 have lx:=hx.len
 have ly:=hy.len
 rw[Zad]at lx ly
 rw[Zab,A.k203 (by simp)]
 simp(disch:=first|(simp;done)|omega|(simp only[Zad,Zae,Yqd];omega)|rfl) [A.b203,lx,ly]
 refine Zaj [(6,13),(22,77)] (fun e r st=>e=.exit 0∧Yog h N x y r st) (Yof h N x y) (wds x).length ?_ ?_ ?_
 ·refine⟨0,List.replicate ((wds x).length+(wds y).length) 0,by omega,⟨by omega,by simp,by simp,by simp,Keeps.refl.set (Yqg _) |>.up (by omega),?_,by simp,?_,?_,by simp[val,Zpy]⟩⟩
  ·simp[Zgd]
  ·intro d hd
   rw[Ytn]at hd
   rw[hd.2];decide
  ·intro t _ ht
   simp at ht
   simp[ht]
 ·rintro m r ⟨H,n1,W⟩ hr hf ⟨i,o,rfl,hi,h22,hn,hW,hK,hN,ho,hd,hz,he⟩
  simp only at hn hW hK hN
  subst hn
  rw[Zai]
  by_cases hlt:i<(wds x).length
  ·obtain⟨i1,o1,c1,e1,w1,p1,p2,p3,p4⟩:=hx.at (Za5 (Yqh hlt))
   have p3:=(hK.get _ p2).trans p3
   have gx:=Yqh hlt
   generalize (wds x)[i]=xi at*
   simp[A.lb203_1,hr,h22,hlt,lx,ly,p1,p3,p4]
   refine Zaj [(8,13),(29,69)] (fun e r st=>e=.exit 2∧Yp7 h N x y i xi r st) (Yp6 h N x y i xi) (wds y).length ?_ ?_ ?_
   ·exact⟨0,o,0,by omega,⟨by omega,by simp,by simp,rfl,hW,hK,hN,ho,hd,hz,by decide,by simp[val,he]⟩⟩
   ·rintro m r2 ⟨H2,n2,W2⟩ hr2 hf2 ⟨j,o2,c,rfl,hj,h29,h8,hn2,hW2,hK2,hN2,ho2,hd2,hz2,hc2,he2⟩
    simp only at hn2 hW2 hK2 hN2
    subst hn2
    rw[Zai]
    have hi:xi<B:=(Zdf x).get gx
    by_cases hlt2:j<(wds y).length
    ·obtain⟨i2,o3,c3,e3,w3,q1,q2,q3,q4⟩:=hy.at (Za5 (Yqh hlt2))
     have q3:=(hK2.get _ q2).trans q3
     have gy:=Yqh hlt2
     generalize (wds y)[j]=yj at*
     have hyj:yj<B:=(Zdf y).get gy
     have go:=Yqh (l:=o2) (i:=i+j) (by omega)
     generalize o2[i+j]'(by omega)=ov at*
     simp[A.lb203_0,hr2,h29,hlt2,ly,q1,q3,q4]
     refine Zaa (Zjn hi hyj) ?_
     rintro _ _ _ hk3 ⟨rfl,rfl,rfl⟩
     simp(disch:=first|(simp;done)|omega|(simp only[Zad,Zae,Yqd];omega)|rfl) [-getElem?_pos,hr,hr2,h29,h8,hlt2,lx,ly,q1,q3,q4,hf2,hN2,Za5 go,Zcv]
     obtain⟨m1,m2,m3⟩:=Yee hi hyj (hd2.get go) hc2
     refine⟨_,by omega,j+1,o2.set (i+j) (mulNew xi yj ov c),mulCar xi yj ov c,rfl,⟨by omega,by simp,?_,rfl,by simp[hW2],hK2.set (Yqg _),?_,by simp[ho2],hd2.set m2,?_,m3,?_⟩⟩
     ·simp[mulCar]
     ·simp[mulNew]
     ·intro t t1 t2
      rw[Yqj (by omega)]
      exact hz2 t t1 (by simpa using t2)
     ·have v1:=Zlv (b:=B) (v:=mulNew xi yj ov c) go
      rw[Zbx gy]
      have e1:B^(i+(j+1))=B^(i+j)*B:=by rw[show i+(j+1)=(i+j)+1 by omega,Yqx]
      have e2:B^i*(xi*(B^j*yj))=B^(i+j)*(xi*yj):=by rw[Yre];grind
      have e3:B^(i+j)*(mulNew xi yj ov c+B*mulCar xi yj ov c)=B^(i+j)*(xi*yj+ov+c):=by rw[m1]
      rw[e1]
      generalize val B (List.set o2 (i+j) (mulNew xi yj ov c))=z1 at*
      generalize val B o2=z2 at*
      generalize mulNew xi yj ov c=z3 at*
      generalize mulCar xi yj ov c=z4 at*
      generalize val B (List.take j (wds y))=z5 at*
      generalize B^(i+j)=z6 at*
      grind
    ·have:j=(wds y).length:=by omega
     subst this
     simp[A.lb203_0,hr2,h29,hf2]
     exact⟨o2,c,⟨by omega,by simp[h29],by simp[h8],rfl,hW2,hK2,hN2,ho2,hd2,hz2,hc2,he2⟩⟩
   ·rintro e r2 ⟨H2,n2,W2⟩ hr2 ⟨rfl,o2,c,hj,h29,h8,hn2,hW2,hK2,hN2,ho2,hd2,hz2,hc2,he2⟩
    simp only at hn2 hW2 hK2 hN2
    subst hn2
    have hf2:=hf.inner (D':=[(8,13),(29,69)]) rfl (by simp) hr2
    simp(disch:=first|(simp;done)|omega|(simp only[Zad,Zae,Yqd];omega)|rfl) [hr,hr2,h22,h8,ly,hN2,Zcv,hf2]
    have hz0:o2[i+(wds y).length]?=some 0:=hz2 _ (Yqg _) (by omega)
    refine⟨_,by omega,i+1,o2.set (i+(wds y).length) c,rfl,⟨by omega,by simp,rfl,by simp[hW2],hK2.set (Yqg _),by simp,by simp[ho2],hd2.set hc2,?_,?_⟩⟩
    ·intro t t1 t2
     rw[Yqj (by omega)]
     exact hz2 t (by omega) (by simpa using t2)
    ·have v1:=Zlv (b:=B) (v:=c) hz0
     rw[Yqp (Yqg _),Zbm]at he2
     rw[Zbx gx]
     simp only[Nat.mul_zero,Ysh]at v1
     rw[v1,he2]
     grind
  ·have:i=(wds x).length:=by omega
   subst this
   simp[A.lb203_1,hr,h22,hf]
   exact⟨o,⟨by omega,by simp[h22],rfl,hW,hK,hN,ho,hd,hz,he⟩⟩
 ·rintro _ r ⟨H,n1,W⟩ hr ⟨rfl,o,hi,h22,hn,hW,hK,hN,ho,hd,hz,he⟩
  simp only at hn hW hK hN
  subst hn
  simp[hr]
  refine Zaa (Zft (l:=o) (Sl.row (e:=211) (rw:=true) (by omega) (by simp[hN]) (by simp[ho]) (by simp)) (by simp[ho];omega)) ?_
  intro v' h' n' hk' hs
  simp[Ret]
  refine⟨hW,hK.trans hk',?_⟩
  rw[Yqp (Yqg _),Zbm]at he
  rw[Zdg hd,he]at hs
  exact hs
variable {n:Nat}
def Ylu:List UInt8:=[0,1,2,2,3,3,3,3,4,4,4,4,4,4,4,4,5,5,5,5,5,5,5,5,5,5,5,5,5,5,5,5,6,6,6,6,6,6,6,6,6,6,6,6,6,6,6,6,6,6,6,6,6,6,6,6,6,6,6,6,6,6,6,6,7,7,7,7,7,7,7,7,7,7,7,7,7,7,7,7,7,7,7,7,7,7,7,7,7,7,7,7,7,7,7,7,7,7,7,7,7,7,7,7,7,7,7,7,7,7,7,7,7,7,7,7,7,7,7,7,7,7,7,7,7,7,7,7,8,8,8,8,8,8,8,8,8,8,8,8,8,8,8,8,8,8,8,8,8,8,8,8,8,8,8,8,8,8,8,8,8,8,8,8,8,8,8,8,8,8,8,8,8,8,8,8,8,8,8,8,8,8,8,8,8,8,8,8,8,8,8,8,8,8,8,8,8,8,8,8,8,8,8,8,8,8,8,8,8,8,8,8,8,8,8,8,8,8,8,8,8,8,8,8,8,8,8,8,8,8,8,8,8,8,8,8,8,8,8,8,8,8,8,8,8,8,8,8,8,8,8,8,8,8,8,8]
def A.b278:Zaz:=sr [mc 2 0]
 (.seq (sr [mv 3 0,ge 4 (.bin .geq (.node []) false (tq 3) (.const (.int .u64 4294967296)))]
 (cd 4
 (sr [mv 5 0,ge 6 (.bin .shr (.node []) false (tq 5) (.const (.int .u64 32))),mv 0 6]
 (.reg [mc 2 32]))
 (.skip)))
 (.seq (sr [mv 7 0,ge 8 (.bin .geq (.node []) false (tq 7) (.const (.int .u64 65536)))]
 (cd 8
 (sr [mv 9 0,ge 10 (.bin .shr (.node []) false (tq 9) (.const (.int .u64 16))),mv 0 10]
 (.reg [mv 11 2,bc 12 .add 11 16,mv 2 12]))
 (.skip)))
 (.seq (sr [mv 13 0,ge 14 (.bin .geq (.node []) false (tq 13) (.const (.int .u64 256)))]
 (cd 14
 (sr [mv 15 0,ge 16 (.bin .shr (.node []) false (tq 15) (.const (.int .u64 8))),mv 0 16]
 (.reg [mv 17 2,bc 18 .add 17 8,mv 2 18]))
 (.skip)))
 (sr [mv 19 2,mv 20 0,ge 21 (.convInt .u8 (tq 20)),ge 22 (.idxStr (.const (.str Ylu)) (tq 21)),ge 23 (.convInt .i64 (tq 22)),bi 24 .add 19 23,mv 2 24]
 (.ret)))))
def A.k278:=@A.kk 278 25 [.tmp 2] A.b278 (by kernel_rfl) rfl
def A.b244:=A.q Tryz.f244
def A.k244:=@A.kk 244 6 [.tmp 2] A.b244 (by kernel_rfl) rfl
def blen(n:Nat):Nat:=if n=0 then 0 else Nat.log2 n+1
def Zpm(n:Nat):n<2^blen n:=by
 unfold blen
 split
 ·simp[*]
 ·exact Nat.lt_log2_self
def Zko(h:n≠0):2^(blen n-1)≤n:=by
 unfold blen
 rw[Yqe h]
 exact Nat.log2_self_le h
def Yj9{k:Nat}(h1:2^k≤n)(h2:n<2^(k+1)):blen n=k+1:=by
 have hn:n≠0:=by have:=Yrn k;omega
 unfold blen
 rw[Yqe hn]
 congr 1
 have h3:Nat.log2 n<k+1:=(Nat.log2_lt hn).2 h2
 have h4:k≤Nat.log2 n:=(Nat.le_log2 hn).2 h1
 omega
def Zc0{k:Nat}(h:2^k≤n):blen (shr64 n k)+k=blen n:=by
 unfold shr64
 have h0:n/2^k≠0:=by
  have:=Nat.div_pos h (Yrn k);omega
 have h1:=Zpm (n/2^k)
 have h2:=Zko h0
 have hp:0<blen (n/2^k):=by unfold blen;rw[Yqe h0];omega
 have e:blen (n/2^k)+k=(blen (n/2^k)-1+k)+1:=by omega
 rw[e]
 symm
 apply Yj9
 ·rw[Yre]
  exact Yr4 (Yqz _ h2) (Nat.div_mul_le_self n _)
 ·rw[show blen (n/2^k)-1+k+1=blen (n/2^k)+k by omega,Yre]
  exact(Yq2 (Yrn k)).1 h1
def Ygk:∀{n:Nat},n<256→Ylu[n]?=some (UInt8.ofNat (blen n)):=by decide+kernel
def Zpn:∀{n:Nat},n<256→blen n<9:=by decide+kernel
def Zgo(h:n<256):u8I (UInt8.ofNat (blen n))=(blen n:Int):=by
 have:=Zpn h
 unfold u8I
 simp;omega
def Zo8{h:T O}{N:Nat}{x:Nat}(hx:x<18446744073709551616):Fn A.C 278 [.int .u64 x] h N (fun v' h' N'=>h'=h∧N'=N∧v'=.int .i64 (blen x:Nat)):=by
 intro w
 rw[Zab,A.k278 (by simp)]
 by_cases h0:4294967296≤x
 ·have h0':(4294967296:Int)≤((x:Nat):Int):=by omega
  by_cases h1:65536≤shr64 (x) 32
  ·have h1':(65536:Int)≤((shr64 (x) 32:Nat):Int):=by omega
   by_cases h2:256≤shr64 (shr64 (x) 32) 16
   ·have h2':(256:Int)≤((shr64 (shr64 (x) 32) 16:Nat):Int):=by omega
    have hb:shr64 (shr64 (shr64 (x) 32) 16) 8<256:=by (try simp only[shr64]at*);omega
    have ht:=Ygk hb
    have hv:u8I (UInt8.ofNat (blen (shr64 (shr64 (shr64 (x) 32) 16) 8)))=(blen (shr64 (shr64 (shr64 (x) 32) 16) 8):Int):=Zgo hb
    have hl:=Zpn hb
    simp(disch:=omega) [A.b278,h0',h1',h2',Zd2,ht,hv,Ret]
    have:=Zc0 (k:=32) (n:=x) h0
    have:=Zc0 (k:=16) (n:=shr64 (x) 32) h1
    have:=Zc0 (k:=8) (n:=shr64 (shr64 (x) 32) 16) h2
    first|exact Keeps.refl|exact And.intro Keeps.refl (by omega)
   ·have h2':¬(256:Int)≤((shr64 (shr64 (x) 32) 16:Nat):Int):=by omega
    have hb:shr64 (shr64 (x) 32) 16<256:=by (try simp only[shr64]at*);omega
    have ht:=Ygk hb
    have hv:u8I (UInt8.ofNat (blen (shr64 (shr64 (x) 32) 16)))=(blen (shr64 (shr64 (x) 32) 16):Int):=Zgo hb
    have hl:=Zpn hb
    simp(disch:=omega) [A.b278,h0',h1',h2',Zd2,ht,hv,Ret]
    have:=Zc0 (k:=32) (n:=x) h0
    have:=Zc0 (k:=16) (n:=shr64 (x) 32) h1
    first|exact Keeps.refl|exact And.intro Keeps.refl (by omega)
  ·have h1':¬(65536:Int)≤((shr64 (x) 32:Nat):Int):=by omega
   by_cases h2:256≤shr64 (x) 32
   ·have h2':(256:Int)≤((shr64 (x) 32:Nat):Int):=by omega
    have hb:shr64 (shr64 (x) 32) 8<256:=by (try simp only[shr64]at*);omega
    have ht:=Ygk hb
    have hv:u8I (UInt8.ofNat (blen (shr64 (shr64 (x) 32) 8)))=(blen (shr64 (shr64 (x) 32) 8):Int):=Zgo hb
    have hl:=Zpn hb
    simp(disch:=omega) [A.b278,h0',h1',h2',Zd2,ht,hv,Ret]
    have:=Zc0 (k:=32) (n:=x) h0
    have:=Zc0 (k:=8) (n:=shr64 (x) 32) h2
    first|exact Keeps.refl|exact And.intro Keeps.refl (by omega)
   ·have h2':¬(256:Int)≤((shr64 (x) 32:Nat):Int):=by omega
    have hb:shr64 (x) 32<256:=by (try simp only[shr64]at*);omega
    have ht:=Ygk hb
    have hv:u8I (UInt8.ofNat (blen (shr64 (x) 32)))=(blen (shr64 (x) 32):Int):=Zgo hb
    have hl:=Zpn hb
    simp(disch:=omega) [A.b278,h0',h1',h2',Zd2,ht,hv,Ret]
    have:=Zc0 (k:=32) (n:=x) h0
    first|exact Keeps.refl|exact And.intro Keeps.refl (by omega)
 ·have h0':¬(4294967296:Int)≤((x:Nat):Int):=by omega
  by_cases h1:65536≤x
  ·have h1':(65536:Int)≤((x:Nat):Int):=by omega
   by_cases h2:256≤shr64 (x) 16
   ·have h2':(256:Int)≤((shr64 (x) 16:Nat):Int):=by omega
    have hb:shr64 (shr64 (x) 16) 8<256:=by (try simp only[shr64]at*);omega
    have ht:=Ygk hb
    have hv:u8I (UInt8.ofNat (blen (shr64 (shr64 (x) 16) 8)))=(blen (shr64 (shr64 (x) 16) 8):Int):=Zgo hb
    have hl:=Zpn hb
    simp(disch:=omega) [A.b278,h0',h1',h2',Zd2,ht,hv,Ret]
    have:=Zc0 (k:=16) (n:=x) h1
    have:=Zc0 (k:=8) (n:=shr64 (x) 16) h2
    first|exact Keeps.refl|exact And.intro Keeps.refl (by omega)
   ·have h2':¬(256:Int)≤((shr64 (x) 16:Nat):Int):=by omega
    have hb:shr64 (x) 16<256:=by (try simp only[shr64]at*);omega
    have ht:=Ygk hb
    have hv:u8I (UInt8.ofNat (blen (shr64 (x) 16)))=(blen (shr64 (x) 16):Int):=Zgo hb
    have hl:=Zpn hb
    simp(disch:=omega) [A.b278,h0',h1',h2',Zd2,ht,hv,Ret]
    have:=Zc0 (k:=16) (n:=x) h1
    first|exact Keeps.refl|exact And.intro Keeps.refl (by omega)
  ·have h1':¬(65536:Int)≤((x:Nat):Int):=by omega
   by_cases h2:256≤x
   ·have h2':(256:Int)≤((x:Nat):Int):=by omega
    have hb:shr64 (x) 8<256:=by (try simp only[shr64]at*);omega
    have ht:=Ygk hb
    have hv:u8I (UInt8.ofNat (blen (shr64 (x) 8)))=(blen (shr64 (x) 8):Int):=Zgo hb
    have hl:=Zpn hb
    simp(disch:=omega) [A.b278,h0',h1',h2',Zd2,ht,hv,Ret]
    have:=Zc0 (k:=8) (n:=x) h2
    first|exact Keeps.refl|exact And.intro Keeps.refl (by omega)
   ·have h2':¬(256:Int)≤((x:Nat):Int):=by omega
    have hb:x<256:=by (try simp only[shr64]at*);omega
    have ht:=Ygk hb
    have hv:u8I (UInt8.ofNat (blen (x)))=(blen (x):Int):=Zgo hb
    have hl:=Zpn hb
    simp(disch:=omega) [A.b278,h0',h1',h2',Zd2,ht,hv,Ret]
    first|exact Keeps.refl|exact And.intro Keeps.refl (by omega)
def Yar{h:T O}{N:Nat}{x:Nat}(hx:x<18446744073709551616):Fn A.C 244 [.int .u64 x] h N (fun v' h' N'=>h'=h∧N'=N∧v'=.int .i64 ((64-blen x:Nat))):=by
 intro w
 have hl:blen x≤64:=by
  by_cases h0:x=0
  ·subst h0;decide
  ·apply Yr7
   intro hc
   have:=Zko h0
   have:2^64≤2^(blen x-1):=Yq3 (by decide) (by omega)
   omega
 rw[Zab,A.k244 (by simp)]
 simp[A.b244]
 refine Zaa (Zo8 hx) ?_
 rintro _ _ _ hk ⟨rfl,rfl,rfl⟩
 simp(disch:=omega) [Ret]
 exact⟨hk,by omega⟩
variable {s x:Nat}
def A.w245:=A.q Tryz.f245
def A.lb245_0:=A.ql A.w245 0 []
def A.b245:=(fun x0=>A.qb A.w245 [x0]) A.lb245_0
def A.k245:=@A.kk 245 40 [.tmp 4] A.b245 (by kernel_rfl) rfl
def Zul{c:Nat}(hs:s<64)(hc:c<2^s):or64 c (shl64 x s)=c+shl64 x s:=by
 unfold or64 shl64
 have e:x*2^s%18446744073709551616=(x%2^(64-s))<<<s:=by
  rw[Nat.shiftLeft_eq]
  have:(18446744073709551616:Nat)=2^(64-s)*2^s:=by rw[←Yre,show 64-s+s=64 by omega]
  rw[this,Ytp]
 rw[e,Nat.or_comm,Nat.add_comm,Nat.shiftLeft_add_eq_or_of_lt hc]
def Zy1(hs:s≤64):shl64 x s+B*shr64 x (64-s)=x*2^s:=by
 unfold shl64 shr64
 have e:x/2^(64-s)=x*2^s/18446744073709551616:=by
  have:(18446744073709551616:Nat)=2^(64-s)*2^s:=by rw[←Yre,show 64-s+s=64 by omega]
  rw[this,Yt5 _ _ (Yrn s)]
 rw[e]
 have:=Yrt (x*2^s) 18446744073709551616
 unfold B
 omega
def Yf5(hx:x<B)(hs:s≤64):shr64 x (64-s)<2^s:=by
 unfold shr64
 apply (Yq2 (Yrn _)).2
 rw[←Yre,show s+(64-s)=64 by omega]
 exact hx
def Znx{c:Nat}(hs:s<64)(hc:c<2^s):c+shl64 x s<B:=by
 rw[←Zul hs hc]
 unfold or64
 apply Nat.or_lt_two_pow (n:=64)
 ·exact Nat.lt_trans hc (Nat.pow_lt_pow_right (by decide) hs)
 ·exact Zov
structure ShJ (h:T O) (N:Nat) (l:List Nat) (s k:Nat) (o:List Nat) (c:Nat) (r:T V) (st:St):Prop where
 hk:k≤l.length
 r14:r.get 14=some (.int .i64 k)
 n:st.n=N+1
 w:Zac N st.w=[]
 keep:Keeps h N st.h (N+1)
 row:st.h.get N=some (.cells (dg o) 211 true)
 len:o.length=l.length+1
 dg:Dg o
 zero:∀t,k<t→t<o.length→o[t]?=some 0
 top:o[k]?=some c
 lc:c<2^s
 ex:val B o=val B (l.take k)*2^s
def ShI(h:T O)(N:Nat)(l:List Nat)(s m:Nat)(r:T V)(st:St):Prop:=∃k o c,m=l.length-k∧ShJ h N l s k o c r st
def ShE(h:T O)(N:Nat)(l:List Nat)(s:Nat)(r:T V)(st:St):Prop:=∃o c,ShJ h N l s l.length o c r st
def Znz{h:T O}{N:Nat}{v:V}{l:List Nat}(hv:Sl h N v (Go.Mx.dg l))(hd:Dg l)(hs:s<64)(hl:l.length<1099511627776):Fn A.C 245 [v,.int .i64 s] h N (fun v' h' N'=>∃i o,N≤i∧i<N'∧v'=.slice i 0 (l.length+1) (some (l.length+1)) 1∧h'.get i=some (.cells (dg o) 211 true)∧o.length=l.length+1∧Dg o∧val B o=val B l*2^s):=by
 intro w
 have lx:=hv.len
 rw[Zad]at lx
 rw[Zab,A.k245 (by simp)]
 simp(disch:=first|(simp;done)|omega|(simp only[Zad,Zae,Yqd];omega)|rfl) [A.b245,lx]
 refine Zaj [(6,7),(14,38)] (fun e r st=>e=.exit 0∧ShE h N l s r st) (ShI h N l s) l.length ?_ ?_ ?_
 ·refine⟨0,List.replicate (l.length+1) 0,0,by omega,⟨by omega,by simp,by simp,by simp,Keeps.refl.set (Yqg _) |>.up (by omega),by simp[Zgd],by simp,?_,?_,by simp,Yrn s,by simp[val,Zpy]⟩⟩
  ·intro d hd
   rw[Ytn]at hd
   rw[hd.2];decide
  ·intro t _ ht
   simp at ht
   simp[ht]
 ·rintro m r ⟨H,n1,W⟩ hr hf ⟨k,o,c,rfl,hk,h14,hn,hW,hK,hN,ho,hdo,hz,hc,hlc,he⟩
  simp only at hn hW hK hN
  subst hn
  rw[Zai]
  by_cases hlt:k<l.length
  ·obtain⟨i1,o1,c1,e1,w1,p1,p2,p3,p4⟩:=hv.at (Za5 (Yqh hlt))
   have p3:=(hK.get _ p2).trans p3
   have gx:=Yqh hlt
   generalize l[k]=x at*
   have hx:x<B:=hd.get gx
   have hcB:c<18446744073709551616:=hdo.get hc
   have hsum:=Zul (x:=x) hs hlc
   have hlt2:=Znx (x:=x) hs hlc
   obtain⟨z,hzz⟩:∃z,c+shl64 x s=z:=⟨_,rfl⟩
   rw[hzz]at hsum hlt2
   have hlen1:(o.set k z).length=l.length+1:=by simp[ho]
   have hss:=Zy1 (x:=x) (s:=s) (by omega)
   have hsl:=Yf5 hx (s:=s) (by omega)
   have v1:=Zlv (b:=B) (v:=z) hc
   have hz1:(o.set k z)[k+1]?=some 0:=by
    rw[Yqj (by omega)];exact hz _ (by omega) (by omega)
   have v2:=Zlv (b:=B) (v:=shr64 x (64-s)) hz1
   by_cases h0:0<s
   ·have h0':(0:Int)<(s:Int):=by omega
    simp(disch:=first|(simp;done)|omega|(simp only[Zad,Zae,Yqd];omega)|rfl) [-getElem?_pos,A.lb245_0,hr,h14,hlt,lx,p1,p3,p4,hN,Za5 hc,hsum,Zcv,h0,hf]
    refine⟨_,by omega,k+1,(o.set k z).set (k+1) (shr64 x (64-s)),shr64 x (64-s),rfl,⟨by omega,by simp,rfl,by simp[hW],(hK.set (Yqg _)).set (Yqg _),by simp,by simp[ho],(hdo.set hlt2).set (Yqq hsl (Yq3 (by decide) (by omega):2^s≤2^64)),?_,Yq7 (by omega),hsl,?_⟩⟩
    ·intro t t1 t2
     rw[Yqj (by omega),Yqj (by omega)]
     exact hz t (by omega) (by simpa using t2)
    ·rw[Zbx gx,Yrf,←he]
     rw[←hzz]at v1 v2 ⊢
     have e3:B^k*(shl64 x s+B*shr64 x (64-s))=B^k*(x*2^s):=by rw[hss]
     rw[Yqx]at v2
     generalize val B ((o.set k (c+shl64 x s)).set (k+1) (shr64 x (64-s)))=z1 at*
     generalize val B (o.set k (c+shl64 x s))=z2 at*
     generalize val B o=z3 at*
     generalize shl64 x s=z4 at*
     generalize shr64 x (64-s)=z5 at*
     generalize B^k=z6 at*
     grind
   ·have h0':¬(0:Int)<(s:Int):=by omega
    simp(disch:=first|(simp;done)|omega|(simp only[Zad,Zae,Yqd];omega)|rfl) [-getElem?_pos,A.lb245_0,hr,h14,hlt,lx,p1,p3,p4,hN,Za5 hc,hsum,Zcv,h0,hf]
    have hs0:s=0:=by omega
    subst hs0
    have hc0:c=0:=by simpa using hlc
    subst hc0
    have e0:shl64 x 0=x:=by unfold shl64;unfold B at hx;simp;omega
    have hzx:z=x:=by rw[←hzz,e0];omega
    subst hzx
    refine⟨_,by omega,k+1,o.set k z,0,rfl,⟨by omega,by simp,rfl,by simp[hW],hK.set (Yqg _),by simp,by simp[ho],hdo.set hx,?_,?_,by decide,?_⟩⟩
    ·intro t t1 t2
     rw[Yqj (by omega)]
     exact hz t (by omega) (by simpa using t2)
    ·rw[Yqj (by omega)];exact hz _ (by omega) (by omega)
    ·rw[Zbx gx,Yrf,←he]
     simpa using v1
  ·have:k=l.length:=by omega
   subst this
   simp[A.lb245_0,hr,h14,hf]
   exact⟨o,c,⟨by omega,by simp[h14],rfl,hW,hK,hN,ho,hdo,hz,hc,hlc,he⟩⟩
 ·rintro _ r ⟨H,n1,W⟩ hr ⟨rfl,o,c,hk,h14,hn,hW,hK,hN,ho,hdo,hz,hc,hlc,he⟩
  simp only at hn hW hK hN
  subst hn
  simp[hr,Ret]
  rw[Yqp (Yqg _)]at he
  exact⟨hW,hK,N,Yqg _,by omega,rfl,o,hN,ho,hdo,he⟩
open Go
variable {b r:Nat}
def Zlo{u un yn1 yn0 q:Nat}(hi:u=q*yn1+r)(hc:q*yn0≤b*r+un):q*(yn1*b+yn0)≤u*b+un:=by
 subst hi
 rw[Ysa,Yrf,←Ytf,Yq5 r b]
 omega
def Zvg{u un yn1 yn0 q:Nat}(hi:u=q*yn1+r)(hc:b*r+un<q*yn0):u*b+un<q*(yn1*b+yn0):=by
 subst hi
 rw[Ysa,Yrf,←Ytf,Yq5 r b]
 omega
def Zre{a y q:Nat}(h:a<q*y):a/y<q:=by
 rcases Ytx y with rfl|hy
 ·simp at h
 ·exact(Yq2 hy).2 h
def Zfj{a y q:Nat}(hy:0<y)(h:q*y≤a):q≤a/y:=(Yth hy).2 h
def Yja{P u1 u2 U' v1 v2 V' s:Nat}(hv1:0<v1)(hV':V'<P)(ht:s≤b)(hinv:u1=(s+1)*v1+r)(hc:(s+1)*v2≤r*b+u2):
  s*(V'+P*(v2+b*v1))≤U'+P*(u2+b*u1):=by
 have h1:s*V'≤b*P:=Yr1 ht (by omega)
 have h2:b*P*1≤b*P*v1:=Yqs _ hv1
 have h3:P*((s+1)*v2)≤P*(r*b+u2):=Yqs _ hc
 have h4:P*((s+1)*v2)=P*(s*v2)+P*v2:=by grind
 have h5:s*(V'+P*(v2+b*v1))=s*V'+P*(s*v2)+b*(P*(s*v1)):=by grind
 have h6:U'+P*(u2+b*u1)=U'+P*(r*b+u2)+b*(P*(s*v1))+b*P*v1:=by subst hinv;grind
 omega
def Yi9{P u1 u2 U' v1 v2 V' t:Nat}(hU':U'<P)(hinv:u1=t*v1+r)(hc:r*b+u2<t*v2):
  U'+P*(u2+b*u1)<t*(V'+P*(v2+b*v1)):=by
 have h3:P*(r*b+u2+1)≤P*(t*v2):=Yqs _ hc
 have h5:t*(V'+P*(v2+b*v1))=t*V'+P*(t*v2)+b*(P*(t*v1)):=by grind
 have h6:U'+P*(u2+b*u1)+P=U'+P*(r*b+u2+1)+b*(P*(t*v1)):=by subst hinv;grind
 omega
variable {b u y:Nat}
def A.w243:=A.q Tryz.f243
def A.lb243_0:=A.ql A.w243 1 []
def A.lb243_1:=A.ql A.w243 0 []
def A.b243:=(fun x0 x1=>A.qb A.w243 [x0,x1]) A.lb243_1 A.lb243_0
def A.k243:=@A.kk 243 135 [.tmp 6,.tmp 7] A.b243 (by kernel_rfl) rfl
structure DvI (h:T O) (N:Nat) (k1 u yn1 D m:Nat) (r:T V) (st:St):Prop where
 st:st=⟨h,N,[]⟩
 ex:∃rh:Nat,r.get k1=some (.int .u64 m)∧r.get 16=some (.int .u64 rh)∧u=m*yn1+rh∧D≤m∧m≤4294967297∧rh<4294967296
def Ygg(h0:¬y=0)(h:y<18446744073709551616):9223372036854775808≤y*2^(64-blen y)∧y*2^(64-blen y)<18446744073709551616∧64-blen y<64:=by
 have h1:=Zpm y
 have h2:=Zko h0
 have hp:0<blen y:=by unfold blen;rw[Yqe h0];omega
 have hl:blen y≤64:=by
  apply Yr7
  intro hc
  have:2^64≤2^(blen y-1):=Yq3 (by decide) (by omega)
  omega
 refine⟨?_,?_,by omega⟩
 ·have:=Yqz (2^(64-blen y)) h2
  rw[←Yre,show blen y-1+(64-blen y)=63 by omega]at this
  exact this
 ·have:=Ys8 h1 (Yrn (64-blen y))
  rw[←Yre,show blen y+(64-blen y)=64 by omega]at this
  exact this
def Zka{a:Nat}(h:a<18446744073709551616):Zao .u64 ((a:Int)/(b:Int))=(quou a b:Nat):=by
 have e:((a:Int)/(b:Int))=((a/b:Nat):Int):=rfl
 have:=Yrz a b
 rw[e,Zd6 (Int.natCast_nonneg _) (Int.ofNat_lt.2 (show a/b<18446744073709551616 by omega))]
 rfl
def Zp3{a c:Nat}(h:c≤a)(hr:a-c<18446744073709551616):subu (a%18446744073709551616) (c%18446744073709551616)=a-c:=by
 unfold subu
 split<;>omega
def Zx2{c u1 u0 z Y:Nat}(hc:c=b*b)(hY:0<Y):(u1*c+u0*b+z)/Y=(u1*b+u0)/Y*b+((u1*b+u0)%Y*b+z)/Y∧(u1*c+u0*b+z)%Y=((u1*b+u0)%Y*b+z)%Y:=by
 subst hc
 have h:=Yrt (u1*b+u0) Y
 have e:u1*(b*b)+u0*b+z=Y*((u1*b+u0)/Y*b)+((u1*b+u0)%Y*b+z):=by
  generalize (u1*b+u0)/Y=D at*
  generalize (u1*b+u0)%Y=R at*
  have:(Y*D+R)*b=(u1*b+u0)*b:=by rw[h]
  grind
 rw[e,Nat.mul_add_div hY,Nat.mul_add_mod]
 exact⟨rfl,rfl⟩
def Zq5:u=u/y*y+u%y:=by
 have:=Yrt u y
 rw[Yq5]at this
 exact this.symm
def Zu5(h:0<y)(hb:y≤b):u%y<b:=Yqq (Yri _ h) hb
def Zu7{un yn1 yn0:Nat}(h:0<yn1)(hn:un<4294967296):(u*4294967296+un)/(yn1*4294967296+yn0)≤u/yn1:=by
 have h1:(u*4294967296+un)/(yn1*4294967296+yn0)≤(u*4294967296+un)/(yn1*4294967296):=Nat.div_le_div_left (by omega) (by omega)
 have h2:(u*4294967296+un)/(yn1*4294967296)=u/yn1:=by
  rw[Yq5 yn1,←Ysq,show (u*4294967296+un)/4294967296=u by omega]
 rw[h2]at h1
 exact h1
def Zu6{yn1 yn0:Nat}(h0:yn0<4294967296)(h:2147483648≤yn1)(hu:u<yn1*4294967296+yn0):u/yn1≤4294967297:=by
 apply Nat.le_of_lt_succ
 apply (Yq2 (by omega)).2
 omega
def Zve{h:T O}{N:Nat}{hi lo:Nat}(hy:hi<y)(hy64:y<18446744073709551616)(hlo:lo<18446744073709551616):Fn A.C 243 [.int .u64 hi,.int .u64 lo,.int .u64 y] h N (fun v h' N'=>h'=h∧N'=N∧v=.tup [.int .u64 ((hi*18446744073709551616+lo)/y:Nat),.int .u64 ((hi*18446744073709551616+lo)%y:Nat)]):=by
 intro w
 have hy0:¬y=0:=by omega
 have hle:¬y≤hi:=by omega
 rw[Zab,A.k243 (by simp)]
 by_cases h0:hi=0
 ·subst h0
  have hq:=Zka (b:=y) hlo
  simp[A.b243,hy0,Zam.chk,Ret,hq,remu,quou]
  exact Keeps.refl
 ·simp[A.b243,hy0,hle,h0]
  refine Zaa (Yar hy64) ?_
  rintro _ h N hk ⟨rfl,rfl,rfl⟩
  obtain⟨n1,n2,n3⟩:=Ygg hy0 hy64
  generalize 64-blen y=s at*
  have hw:Zao .u64 (s:Int)=(s:Int):=Zd6 (by omega) (by omega)
  have hw2:Zao .u64 (64-(s:Int))=((64-s:Nat):Int):=by rw[Zd6 (by omega) (by omega)];omega
  obtain⟨Y,hY⟩:∃Y,shl64 y s=Y:=⟨_,rfl⟩
  have hYe:Y=y*2^s:=by rw[←hY];unfold shl64;omega
  obtain⟨yn1,hyn1⟩:∃x,shr64 Y 32=x:=⟨_,rfl⟩
  obtain⟨yn0,hyn0⟩:∃x,and32 Y=x:=⟨_,rfl⟩
  obtain⟨U,hU⟩:∃x,or64 (shl64 hi s) (shr64 lo (64-s))=x:=⟨_,rfl⟩
  obtain⟨L,hL⟩:∃x,shl64 lo s=x:=⟨_,rfl⟩
  obtain⟨un1,hun1⟩:∃x,shr64 L 32=x:=⟨_,rfl⟩
  obtain⟨un0,hun0⟩:∃x,and32 L=x:=⟨_,rfl⟩
  have hYB:Y<18446744073709551616:=by omega
  have hLB:L<18446744073709551616:=by rw[←hL];exact Zov
  have hYd:Y=yn1*4294967296+yn0∧yn0<4294967296:=by
   rw[←hyn1,←hyn0];unfold shr64 and32;omega
  have hLd:L=un1*4294967296+un0∧un0<4294967296:=by
   rw[←hun1,←hun0];unfold shr64 and32;omega
  have hA:U*18446744073709551616+L=(hi*18446744073709551616+lo)*2^s:=by
   have e1:=Zul (x:=hi) n3 (Yf5 (x:=lo) (s:=s) hlo (by omega))
   have e2:=Zy1 (x:=lo) (s:=s) (by omega)
   have e3:shl64 hi s=hi*2^s:=by
    unfold shl64
    have:=Ys8 hy (Yrn s)
    omega
   have e4:U=shr64 lo (64-s)+hi*2^s:=by
    rw[←hU,←e3,←e1];unfold or64;exact Nat.or_comm _ _
   rw[hL]at e2
   unfold B at e2
   rw[e4,Yrf (hi*18446744073709551616),←e2]
   have:hi*18446744073709551616*2^s=hi*2^s*18446744073709551616:=by grind
   omega
  have hUY:U<Y:=by
   have h1:hi*18446744073709551616+lo<y*18446744073709551616:=by omega
   have h2:=Ys8 h1 (Yrn s)
   have h3:y*18446744073709551616*2^s=y*2^s*18446744073709551616:=by grind
   omega
  have hsr:shr64 lo (64-s)<18446744073709551616:=Zt9 hlo
  have hyp:0<yn1:=by omega
  have hyb:yn1≤4294967296:=by omega
  have hY0:0<yn1*4294967296+yn0:=by omega
  have hq:=Zka (b:=yn1) (show U<18446744073709551616 by omega)
  have hr:subu U (mulu (quou U yn1) yn1)=U%yn1:=by
   have h1:=Yrt U yn1
   rw[Yq5]at h1
   have h2:mulu (quou U yn1) yn1=U/yn1*yn1:=by unfold mulu quou;omega
   rw[h2,Zgp (by omega) (by omega)];omega
  simp(disch:=first|(simp;done)|omega|(simp only[Zad,Zae,Yqd];omega)|rfl) [hq,hr,hw,hw2,hY,hyn1,hyn0,hU,hL,hun1,hun0]
  obtain⟨D1,hD1⟩:∃D,(U*4294967296+un1)/(yn1*4294967296+yn0)=D:=⟨_,rfl⟩
  refine Zaj [(15,16),(67,85)] (fun e r st=>e=.exit 0∧st=⟨h,N,[]⟩∧r.get 15=some (.int .u64 D1)) (DvI h N 15 U yn1 D1) (U/yn1) ?_ ?_ ?_
  ·exact⟨rfl,U%yn1,by simp[quou],by simp,Zq5,hD1▸Zu7 hyp (by omega),Zu6 hYd.2 (by omega) (by omega),Zu5 hyp hyb⟩
  ·rintro q r _ hr hf ⟨rfl,rh,hq,hrh,hu,hD,hqb,hrb⟩
   rw[Zai]
   obtain⟨P,hP⟩:∃P,P=q*yn0:=⟨_,rfl⟩
   obtain⟨R2,hR2⟩:∃P,P=4294967296*rh:=⟨_,rfl⟩
   obtain⟨R3,hR3⟩:∃P,P=4294967296*rh+un1:=⟨_,rfl⟩
   have m2:mulu 4294967296 rh=R2:=by unfold mulu;omega
   have m3:addu R2 un1=R3:=by unfold addu;omega
   have hgo:(4294967296≤q∨R3<P)→0<q∧D1≤q-1:=by
    intro hc
    have:D1<q:=by
     rcases hc with hc|hc
     ·have:D1<4294967296:=by rw[←hD1];exact(Yq2 hY0).2 (by omega)
      omega
     ·rw[←hD1];exact Zre (Zvg (b:=4294967296) hu (by omega))
    omega
   have hgo2:0<q→U=(q-1)*yn1+(rh+yn1):=by
    intro hc
    obtain⟨s,rfl⟩:∃s,q=s+1:=⟨q-1,by omega⟩
    rw[hu,Yrf];simp;omega
   have hend:∀rh',U=(q-1)*yn1+rh'→4294967296≤rh'→(q-1)*(yn1*4294967296+yn0)≤U*4294967296+un1:=by
    intro rh' h1 h2
    refine Zlo h1 ?_
    have:=Yr1 (show q-1≤4294967296 by omega) (show yn0≤4294967296 by omega)
    omega
   by_cases c1:4294967296≤q
   ·have c1':(4294967296:Int)≤(q:Int):=by omega
    obtain⟨g1,g2⟩:=hgo (.inl c1)
    have s1:subu q 1=q-1:=Zgp g1 (by omega)
    have s2:addu rh yn1=rh+yn1:=by unfold addu;omega
    by_cases c3:4294967296≤rh+yn1
    ·have c3':(4294967296:Int)≤(rh:Int)+(yn1:Int):=by omega
     simp[A.lb243_1,hr,hq,hrh,c1',c3',s1,s2,hf]
     have hd:=Zfj hY0 (hend _ (hgo2 g1) c3)
     rw[hD1]at hd;omega
    ·have c3':¬(4294967296:Int)≤(rh:Int)+(yn1:Int):=by omega
     simp[A.lb243_1,hr,hq,hrh,c1',c3',s1,s2,hf]
     exact⟨q-1,by omega,rfl,rh+yn1,by simp,by simp,hgo2 g1,g2,by omega,by omega⟩
   ·have c1':¬(4294967296:Int)≤(q:Int):=by omega
    have m1:mulu q yn0=P:=by
     have:=Yr1 (show q≤4294967296 by omega) (show yn0≤4294967295 by omega)
     unfold mulu;omega
    by_cases c2:R3<P
    ·obtain⟨g1,g2⟩:=hgo (.inr c2)
     have s1:subu q 1=q-1:=Zgp g1 (by omega)
     have s2:addu rh yn1=rh+yn1:=by unfold addu;omega
     by_cases c3:4294967296≤rh+yn1
     ·have c3':(4294967296:Int)≤(rh:Int)+(yn1:Int):=by omega
      simp[A.lb243_1,hr,hq,hrh,c1',c2,c3',m1,m2,m3,s1,s2,hf]
      have hd:=Zfj hY0 (hend _ (hgo2 g1) c3)
      rw[hD1]at hd;omega
     ·have c3':¬(4294967296:Int)≤(rh:Int)+(yn1:Int):=by omega
      simp[A.lb243_1,hr,hq,hrh,c1',c2,c3',m1,m2,m3,s1,s2,hf]
      exact⟨q-1,by omega,rfl,rh+yn1,by simp,by simp,hgo2 g1,g2,by omega,by omega⟩
    ·simp[A.lb243_1,hr,hq,hrh,c1',c2,m1,m2,m3,hf]
     have hd:=Zfj hY0 (Zlo (b:=4294967296) (un:=un1) hu (by omega))
     rw[hD1]at hd;omega
  rintro _ r _ hr0 ⟨rfl,rfl,h15⟩
  obtain⟨R1,hR1⟩:∃R,(U*4294967296+un1)%Y=R:=⟨_,rfl⟩
  rw[←hYd.1]at hD1
  have hs1:subu (addu (mulu U 4294967296) un1) (mulu D1 Y)=R1:=by
   have h1:=Yrt (U*4294967296+un1) Y
   rw[hD1,hR1,Yq5 Y]at h1
   have h2:addu (mulu U 4294967296) un1=(U*4294967296+un1)%18446744073709551616:=by unfold addu mulu;omega
   rw[h2]
   have h3:=Yri (U*4294967296+un1) (show 0<Y by omega)
   unfold mulu
   rw[Zp3 (by omega) (by omega)];omega
  have hR1Y:R1<Y:=by rw[←hR1];exact Yri _ (by omega)
  have hq2:=Zka (b:=yn1) (show R1<18446744073709551616 by omega)
  have hr2:subu R1 (mulu (quou R1 yn1) yn1)=R1%yn1:=by
   have h1:=Yrt R1 yn1
   rw[Yq5]at h1
   have h2:mulu (quou R1 yn1) yn1=R1/yn1*yn1:=by unfold mulu quou;omega
   rw[h2,Zgp (by omega) (by omega)];omega
  simp(disch:=first|(simp;done)|omega|(simp only[Zad,Zae,Yqd];omega)|rfl) [hr0,h15,hs1,hq2,hr2]
  obtain⟨D0,hD0⟩:∃D,(R1*4294967296+un0)/(yn1*4294967296+yn0)=D:=⟨_,rfl⟩
  refine Zaj [(16,16),(18,18),(102,120)] (fun e r st=>e=.exit 2∧st=⟨h,N,[]⟩∧r.get 18=some (.int .u64 D0)) (DvI h N 18 R1 yn1 D0) (R1/yn1) ?_ ?_ ?_
  ·exact⟨rfl,R1%yn1,by simp[quou],by simp,Zq5,hD0▸Zu7 hyp (by omega),Zu6 hYd.2 (by omega) (by omega),Zu5 hyp hyb⟩
  ·rintro q r _ hr hf ⟨rfl,rh,hq,hrh,hu,hD,hqb,hrb⟩
   rw[Zai]
   obtain⟨P,hP⟩:∃P,P=q*yn0:=⟨_,rfl⟩
   obtain⟨R2,hR2⟩:∃P,P=4294967296*rh:=⟨_,rfl⟩
   obtain⟨R3,hR3⟩:∃P,P=4294967296*rh+un0:=⟨_,rfl⟩
   have m2:mulu 4294967296 rh=R2:=by unfold mulu;omega
   have m3:addu R2 un0=R3:=by unfold addu;omega
   have hgo:(4294967296≤q∨R3<P)→0<q∧D0≤q-1:=by
    intro hc
    have:D0<q:=by
     rcases hc with hc|hc
     ·have:D0<4294967296:=by rw[←hD0];exact(Yq2 hY0).2 (by omega)
      omega
     ·rw[←hD0];exact Zre (Zvg (b:=4294967296) hu (by omega))
    omega
   have hgo2:0<q→R1=(q-1)*yn1+(rh+yn1):=by
    intro hc
    obtain⟨s,rfl⟩:∃s,q=s+1:=⟨q-1,by omega⟩
    rw[hu,Yrf];simp;omega
   have hend:∀rh',R1=(q-1)*yn1+rh'→4294967296≤rh'→(q-1)*(yn1*4294967296+yn0)≤R1*4294967296+un0:=by
    intro rh' h1 h2
    refine Zlo h1 ?_
    have:=Yr1 (show q-1≤4294967296 by omega) (show yn0≤4294967296 by omega)
    omega
   by_cases c1:4294967296≤q
   ·have c1':(4294967296:Int)≤(q:Int):=by omega
    obtain⟨g1,g2⟩:=hgo (.inl c1)
    have s1:subu q 1=q-1:=Zgp g1 (by omega)
    have s2:addu rh yn1=rh+yn1:=by unfold addu;omega
    by_cases c3:4294967296≤rh+yn1
    ·have c3':(4294967296:Int)≤(rh:Int)+(yn1:Int):=by omega
     simp[A.lb243_0,hr,hr0,hq,hrh,c1',c3',s1,s2,hf]
     have hd:=Zfj hY0 (hend _ (hgo2 g1) c3)
     rw[hD0]at hd;omega
    ·have c3':¬(4294967296:Int)≤(rh:Int)+(yn1:Int):=by omega
     simp[A.lb243_0,hr,hr0,hq,hrh,c1',c3',s1,s2,hf]
     exact⟨q-1,by omega,rfl,rh+yn1,by simp,by simp,hgo2 g1,g2,by omega,by omega⟩
   ·have c1':¬(4294967296:Int)≤(q:Int):=by omega
    have m1:mulu q yn0=P:=by
     have:=Yr1 (show q≤4294967296 by omega) (show yn0≤4294967295 by omega)
     unfold mulu;omega
    by_cases c2:R3<P
    ·obtain⟨g1,g2⟩:=hgo (.inr c2)
     have s1:subu q 1=q-1:=Zgp g1 (by omega)
     have s2:addu rh yn1=rh+yn1:=by unfold addu;omega
     by_cases c3:4294967296≤rh+yn1
     ·have c3':(4294967296:Int)≤(rh:Int)+(yn1:Int):=by omega
      simp[A.lb243_0,hr,hr0,hq,hrh,c1',c2,c3',m1,m2,m3,s1,s2,hf]
      have hd:=Zfj hY0 (hend _ (hgo2 g1) c3)
      rw[hD0]at hd;omega
     ·have c3':¬(4294967296:Int)≤(rh:Int)+(yn1:Int):=by omega
      simp[A.lb243_0,hr,hr0,hq,hrh,c1',c2,c3',m1,m2,m3,s1,s2,hf]
      exact⟨q-1,by omega,rfl,rh+yn1,by simp,by simp,hgo2 g1,g2,by omega,by omega⟩
    ·simp[A.lb243_0,hr,hr0,hq,hrh,c1',c2,m1,m2,m3,hf]
     have hd:=Zfj hY0 (Zlo (b:=4294967296) (un:=un0) hu (by omega))
     rw[hD0]at hd;omega
  rintro _ r2 _ hr4 ⟨rfl,rfl,h18⟩
  obtain⟨R0,hR0⟩:∃R,(R1*4294967296+un0)%Y=R:=⟨_,rfl⟩
  rw[←hYd.1]at hD0
  have hs2:subu (addu (mulu R1 4294967296) un0) (mulu D0 Y)=R0:=by
   have h1:=Yrt (R1*4294967296+un0) Y
   rw[hD0,hR0,Yq5 Y]at h1
   have h2:addu (mulu R1 4294967296) un0=(R1*4294967296+un0)%18446744073709551616:=by unfold addu mulu;omega
   rw[h2]
   have h3:=Yri (R1*4294967296+un0) (show 0<Y by omega)
   unfold mulu
   rw[Zp3 (by omega) (by omega)];omega
  have hd1:D1<4294967296:=by rw[←hD1];exact(Yq2 (by omega)).2 (by omega)
  have hd0:D0<4294967296:=by rw[←hD0];exact(Yq2 (by omega)).2 (by omega)
  have ha:addu (mulu D1 4294967296) D0=D1*4294967296+D0:=by unfold addu mulu;omega
  obtain⟨e1,e2⟩:=Zx2 (b:=4294967296) (c:=18446744073709551616) (by decide) (u1:=U) (u0:=un1) (z:=un0) (show 0<Y by omega)
  rw[hR1,hD1,hD0]at e1
  rw[hR1,hR0]at e2
  have e3:U*18446744073709551616+un1*4294967296+un0=(hi*18446744073709551616+lo)*2^s:=by
   rw[←hA,hLd.1,Yrq]
  rw[e3,hYe,Yt5 _ _ (Yrn s)]at e1
  rw[e3,hYe,Ytp]at e2
  have hsh:shr64 R0 s=(hi*18446744073709551616+lo)%y:=by
   unfold shr64
   rw[←e2,Nat.mul_div_cancel _ (Yrn s)]
  simp(disch:=first|(simp;done)|omega|(simp only[Zad,Zae,Yqd];omega)|rfl) [hr0,hr4,h15,h18,hs2,ha,Ret]
  have e5:(hi:Int)*18446744073709551616+lo=((hi*18446744073709551616+lo:Nat):Int):=by omega
  refine⟨Keeps.refl,?_,?_⟩
  ·rw[e5,←Int.natCast_ediv,e1];omega
  ·rw[e5,←Int.natCast_emod,hsh]
end
end Go.Mx
