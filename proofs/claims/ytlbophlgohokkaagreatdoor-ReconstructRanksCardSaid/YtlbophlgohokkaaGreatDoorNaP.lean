/-
  num.compareWords: compares words.
-/
import Derived.Test.YtlbophlgohokkaaGreatDoorRcK
import Derived.Test.YtlbophlgohokkaaGreatDoorMxWord
set_option linter.all false
namespace Go.Mx
open Go Go.Proofs
set_option maxHeartbeats 2000000
set_option maxRecDepth 1000000
def A.lb250_0:Zae:=.seq (sr [mv 19 5,bc 20 .geq 19 0]
 (cd 20
 (.skip)
 (.exit 0)))
 (.seq (.block 1 (.seq (.regD [mv 23 0,mv 24 5,ia 25 1 23 24,ld 26 25,mv 27 1,mv 28 5,ia 29 1 27 28,ld 30 29,⟨(some 31),.bin .neq (.prim .int) false (.tmp 26) (.tmp 30),none⟩] [0,0,3,7,0,0,48,112,255])
 (cd 31
 (.seq (.seq (.regD [mv 32 0,mv 33 5,ia 34 1 32 33,ld 35 34,mv 36 1,mv 37 5,ia 38 1 36 37,ld 39 38,bi 40 .lss 35 39] [0,0,3,7,0,0,48,112,255])
 (cd 40
 (sr [⟨(some 4),.mov (.const (.int .i64 (-1))),none⟩]
 (.ret))
 (.skip)))
 (sr [mc 4 1]
 (.ret)))
 (.skip))))
 (.reg [mv 21 5,bc 22 .sub 21 1,mv 5 22]))
def A.b250:Zae:=sr [mc 4 0]
 (.seq (sr [mv 6 0,ln 7 6,mv 8 1,ln 9 8,⟨(some 10),.bin .neq (.prim .int) false (.tmp 7) (.tmp 9),none⟩]
 (cd 10
 (.seq (sr [mv 11 0,ln 12 11,mv 13 1,ln 14 13,bi 15 .lss 12 14]
 (cd 15
 (sr [⟨(some 4),.mov (.const (.int .i64 (-1))),none⟩]
 (.ret))
 (.skip)))
 (sr [mc 4 1]
 (.ret)))
 (.skip)))
 (.seq (sr [mv 16 0,ln 17 16,bc 18 .sub 17 1,mv 5 18]
 (.block 0 (.loop A.lb250_0)))
 (sr [mc 4 0]
 (.ret))))
theorem A.c250:A.F 250=some ⟨41,[.tmp 4],A.b250⟩:=by kernel_rfl
def A.k250:=@A.kk 250 _ _ _ A.c250 rfl
def Zsy(x y:Int):Int:=if x<y then -1 else if y<x then 1 else 0
theorem Yfk{x y:Nat}(h:(wds x).length<(wds y).length):x<y:=by
 apply Yp5
 intro hc
 have:=Zcz hc
 omega
theorem Zku{b:Nat}{l:List Nat}{k d:Nat}(h:l[k]?=some d):val b (l.drop k)=d+b*val b (l.drop (k+1)):=by
 have hk:k<l.length:=by
  apply Yp5;intro hc;rw[Ypd hc]at h;cases h
 rw[Yrl hk]
 rw[Yo2 hk]at h
 simp only[Yox]at h
 rw[h];rfl
theorem Zpf(b:Nat)(l:List Nat)(k:Nat)(hk:k≤l.length):val b l=val b (l.take k)+b^k*val b (l.drop k):=by
 have:=Zg4 b (l.take k) (l.drop k)
 rw[Yq8,Ypq,Yp7 hk]at this
 exact this
theorem Ye7{x y:List Nat}{k:Nat}(gx:Dg x)(hx:k≤x.length)(hy:k≤y.length)(h:val B (x.drop k)<val B (y.drop k)):val B x<val B y:=by
 rw[Zpf B x k hx,Zpf B y k hy]
 have h1:val B (x.take k)<B^k:=by
  have:=Zld (b:=B) (l:=x.take k) fun d hd=>gx d (Yrr hd)
  rwa [Ypq,Yp7 hx]at this
 have h2:B^k*(val B (x.drop k)+1)≤B^k*val B (y.drop k):=Ypg _ h
 rw[Yq4]at h2
 omega
structure Yni (h:T O) (N x y m:Nat) (r:T V) (st:St):Prop where
 hm:m≤(wds x).length
 r5:r.get 5=some (.int .i64 ((m:Int)-1))
 n:st.n=N
 w:st.w=[]
 keep:Keeps h N st.h N
 top:(wds x).drop m=(wds y).drop m
theorem Zgx{h:T O}{N:Nat}{vx vy:V}{x y:Nat}(hx:Wn h N vx x)(hy:Wn h N vy y)(hxl:(wds x).length<1099511627776)(hyl:(wds y).length<1099511627776):Fn A.C 250 [vx,vy] h N (fun v' h' N'=>v'=.int .i64 (Zsy x y)):=by
 intro w
 have lx:=hx.len
 have ly:=hy.len
 rw[Zad]at lx ly
 rw[Zab,A.k250 (by simp)]
 by_cases hne:(wds x).length=(wds y).length
 ·have hne':((wds x).length:Int)=((wds y).length:Int):=by omega
  simp(disch:=omega) [A.b250,lx,ly,hne]
  refine Zaj [(4,5),(19,40)] (fun e r st=>(e=.exit 0∧Yni h N x y 0 r st)∨(e=.ret∧r.get 4=some (.int .i64 (Zsy x y))∧st.n=N∧st.w=[]∧Keeps h N st.h N)) (Yni h N x y) (wds x).length ?_ ?_ ?_
  ·exact⟨by omega,by simp[hne],rfl,rfl,Keeps.refl,by rw[Yp6,hne,Yp6]⟩
  ·rintro m r ⟨H,n1,W⟩ hr hf ⟨hm,h5,hn,hW,hK,ht⟩
   simp only at hn hW hK
   subst hn;subst hW
   rw[Zah]
   cases m with
   |zero=>
    simp[A.lb250_0,h5,hf]
    exact⟨by omega,by simp[h5],rfl,rfl,hK,ht⟩
   |succ m=>
    have hmx:m<(wds x).length:=by omega
    have hmy:m<(wds y).length:=by omega
    have h5':r.get 5=some (.int .i64 (m:Int)):=by rw[h5];congr 2;omega
    have gx:=Yo2 hmx
    have gy:=Yo2 hmy
    obtain⟨i1,o1,c1,e1,w1,p1,p2,p3,p4⟩:=hx.at (Zba gx)
    have p3:=(hK.get _ p2).trans p3
    obtain⟨i2,o2,c2,e2,w2,q1,q2,q3,q4⟩:=hy.at (Zba gy)
    have q3:=(hK.get _ q2).trans q3
    rcases Nat.lt_trichotomy (wds x)[m] (wds y)[m]with hlt|heq|hgt
    ·have hlt2:x<y:=by
      have:=Ye7 (x:=wds x) (y:=wds y) (k:=m) (Zd0 x) (by omega) (by omega) (by rw[Zku gx,Zku gy,ht];omega)
      rwa [Zbo,Zbo]at this
     have hne2:¬(wds x)[m]=(wds y)[m]:=by omega
     simp(disch:=first|(simp;done)|omega|(simp only[Zad,Zag,Yoz];omega)|rfl) [A.lb250_0,h5',hr,hf,lx,ly,p1,p2,p3,p4,q1,q2,q3,q4,hne2,hlt]
     exact⟨by simp[Zsy,hlt2],hK⟩
    ·have ht':(wds x).drop m=(wds y).drop m:=by rw[Yrl hmx,Yrl hmy,ht,heq]
     simp(disch:=first|(simp;done)|omega|(simp only[Zad,Zag,Yoz];omega)|rfl) [A.lb250_0,h5',hr,hf,lx,ly,p1,p2,p3,p4,q1,q2,q3,q4,heq]
     exact⟨m,by omega,⟨by omega,by simp,rfl,rfl,hK,ht'⟩⟩
    ·have hlt2:y<x:=by
      have:=Ye7 (x:=wds y) (y:=wds x) (k:=m) (Zd0 y) (by omega) (by omega) (by rw[Zku gx,Zku gy,ht];omega)
      rwa [Zbo,Zbo]at this
     have hne2:¬(wds x)[m]=(wds y)[m]:=by omega
     have hlt:¬(wds x)[m]<(wds y)[m]:=by omega
     have hlt3:¬x<y:=by omega
     simp(disch:=first|(simp;done)|omega|(simp only[Zad,Zag,Yoz];omega)|rfl) [A.lb250_0,h5',hr,hf,lx,ly,p1,p2,p3,p4,q1,q2,q3,q4,hne2,hlt]
     exact⟨by simp[Zsy,hlt2,hlt3],hK⟩
  ·rintro e r ⟨H,n1,W⟩ hr (⟨rfl,hm,h5,hn,hW,hK,ht⟩|⟨rfl,h4,hn,hW,hK⟩)
   ·simp only at hn hW hK
    subst hn;subst hW
    simp only[Yri]at ht
    have:x=y:=by rw[←Zbo x,ht,Zbo]
    subst this
    simp[Ret]
    exact⟨hK,by simp[Zsy]⟩
   ·simp only at hn hW hK
    subst hn;subst hW
    simp[h4,Ret]
    exact hK
 ·have hne':¬((wds x).length:Int)=((wds y).length:Int):=by omega
  by_cases hlt:(wds x).length<(wds y).length
  ·have:=Yfk hlt
   simp[A.b250,lx,ly,hne,hlt,Ret]
   exact⟨Keeps.refl,by simp[Zsy,this]⟩
  ·have h1:=Yfk (x:=y) (y:=x) (by omega)
   have h2:¬x<y:=by omega
   simp[A.b250,lx,ly,hne,hlt,Ret]
   exact⟨Keeps.refl,by simp[Zsy,h1,h2]⟩
set_option maxHeartbeats 4000000
def A.lb224_0:Zae:=sr [bi 30 .lss 29 28]
 (.seq (cd 30
 (.skip)
 (.exit 2))
 (.seq (.block 3 (sr [mv 31 29,ia 32 1 27 29,ld 33 32,mv 9 31,mv 10 33]
 (sr [mv 35 7,mv 36 10,c2 37 220 35 36,mv 34 37,xt 38 34 0,xt 39 34 1,mv 11 38,mv 12 39]
 (sr [⟨(some 13),.mov (.const (.int .u64 0)),none⟩]
 (sr [mv 41 12,mv 42 5,mv 43 6,mv 44 9,bi 45 .add 43 44,ia 46 1 42 45,ld 47 46,⟨(some 48),.ext .add64 [(.tmp 41),(.tmp 47),(.const (.int .u64 0))],none⟩,mv 40 48,xt 49 40 0,xt 50 40 1,mv 12 49,mv 13 50]
 (sr [mv 51 11,mv 52 13,bi 53 .add 51 52,mv 11 53]
 (sr [mv 55 12,mv 56 8,⟨(some 57),.ext .add64 [(.tmp 55),(.tmp 56),(.const (.int .u64 0))],none⟩,mv 54 57,xt 58 54 0,xt 59 54 1,mv 12 58,mv 13 59]
 (.reg [mv 60 5,mv 61 6,mv 62 9,bi 63 .add 61 62,mv 64 12,mv 65 11,mv 66 13,bi 67 .add 65 66,ia 68 1 60 63,so 68 64,mv 8 67]))))))))
 (.reg [bc 69 .add 29 1,mv 29 69])))
def A.lb224_1:Zae:=sr [bi 23 .lss 22 21]
 (.seq (cd 23
 (.skip)
 (.exit 0))
 (.seq (.block 1 (sr [mv 24 22,ia 25 1 20 22,ld 26 25,mv 6 24,mv 7 26]
 (sr [⟨(some 8),.mov (.const (.int .u64 0)),none⟩]
 (.seq (sr [mv 27 1,ln 28 27,mc 29 0]
 (.block 2 (.loop A.lb224_0)))
 (.reg [mv 70 5,mv 71 6,mv 72 1,ln 73 72,bi 74 .add 71 73,mv 75 8,ia 76 1 70 74,so 76 75])))))
 (.reg [bc 77 .add 22 1,mv 22 77])))
def A.b224:Zae:=sr [mN 4]
 (sr [mv 14 0,ln 15 14,mv 16 1,ln 17 16,bi 18 .add 15 17,⟨(some 19),.mkslice 214 1 8 [(.int .u64 0)] (.tmp 18) (.tmp 18),none⟩,mv 5 19]
 (.seq (sr [mv 20 0,ln 21 20,mc 22 0]
 (.block 0 (.loop A.lb224_1)))
 (sr [mv 78 5,c1 79 263 78,mv 4 79]
 (.ret))))
theorem A.c224:A.F 224=some ⟨80,[.tmp 4],A.b224⟩:=by kernel_rfl
def A.k224:=@A.kk 224 _ _ _ A.c224 rfl
theorem Zlc{b:Nat}:∀{l:List Nat} {k old v:Nat},l[k]?=some old→val b (l.set k v)+b^k*old=val b l+b^k*v
 |[],k,old,v,h=>by simp at h
 |d::l,0,old,v,h=>by simp at h;subst h;simp[val];omega
 |d::l,k+1,old,v,h=>by
  have ih:=Zlc (b:=b) (l:=l) (k:=k) (old:=old) (v:=v) (by simpa using h)
  simp only[List.set_cons_succ,val,Ypn]
  generalize val b (l.set k v)=p at*
  generalize val b l=q at*
  generalize b^k=z at*
  have:b*(p+z*old)=b*(q+z*v):=by rw[ih]
  grind
theorem Dg.set{l:List Nat}(h:Dg l){k v:Nat}(hv:v<B):Dg (l.set k v):=by
 intro d hd
 rcases Yq5 hd with hd|hd
 ·exact h d hd
 ·subst hd;exact hv
def mulNew(x y o c:Nat):Nat:=lo64 (lo64 (lo64 (x*y)+o)+c)
def mulCar(x y o c:Nat):Nat:=addu (addu (hi64 (x*y)) (hi64 (lo64 (x*y)+o))) (hi64 (lo64 (lo64 (x*y)+o)+c))
theorem Yc8{x y o c:Nat}(hx:x<B)(hy:y<B)(ho:o<B)(hc:c<B):mulNew x y o c+B*mulCar x y o c=x*y+o+c∧mulNew x y o c<B∧mulCar x y o c<B:=by
 have:x*y≤18446744073709551615*18446744073709551615:=Yq0 (by unfold B at*;omega) (by unfold B at*;omega)
 unfold mulNew mulCar lo64 hi64 addu
 unfold B at*
 generalize x*y=p at*
 omega
structure Ynh (h:T O) (N x y i j:Nat) (o:List Nat) (c xi:Nat) (r:T V) (st:St):Prop where
 hj:j≤(wds y).length
 r29:r.get 29=some (.int .i64 j)
 r8:r.get 8=some (.int .u64 c)
 n:st.n=N+1
 w:Zaa N st.w=[]
 keep:Keeps h N st.h (N+1)
 row:st.h.get N=some (.cells (dg o) 214 true)
 len:o.length=(wds x).length+(wds y).length
 dg:Dg o
 zero:∀t,i+(wds y).length≤t→t<o.length→o[t]?=some 0
 lc:c<B
 ex:val B o+B^(i+j)*c=val B ((wds x).take i)*y+B^i*(xi*val B ((wds y).take j))
def You(h:T O)(N x y i xi m:Nat)(r:T V)(st:St):Prop:=∃j o c,m=(wds y).length-j∧Ynh h N x y i j o c xi r st
def Yov(h:T O)(N x y i xi:Nat)(r:T V)(st:St):Prop:=∃o c,Ynh h N x y i (wds y).length o c xi r st
structure Ylj (h:T O) (N x y i:Nat) (o:List Nat) (r:T V) (st:St):Prop where
 hi:i≤(wds x).length
 r22:r.get 22=some (.int .i64 i)
 n:st.n=N+1
 w:Zaa N st.w=[]
 keep:Keeps h N st.h (N+1)
 row:st.h.get N=some (.cells (Go.Mx.dg o) 214 true)
 len:o.length=(wds x).length+(wds y).length
 dg:Dg o
 zero:∀t,i+(wds y).length≤t→t<o.length→o[t]?=some 0
 ex:val B o=val B ((wds x).take i)*y
def Ym7(h:T O)(N x y m:Nat)(r:T V)(st:St):Prop:=∃i o,m=(wds x).length-i∧Ylj h N x y i o r st
def Ym8(h:T O)(N x y:Nat)(r:T V)(st:St):Prop:=∃o,Ylj h N x y (wds x).length o r st
theorem Zr9{h:T O}{N:Nat}{vx vy:V}{x y:Nat}(hx:Wn h N vx x)(hy:Wn h N vy y)(hxl:(wds x).length<1099511627776)(hyl:(wds y).length<1099511627776):Fn A.C 224 [vx,vy] h N (fun v' h' N'=>Wn h' N' v' (x*y)):=by
 intro w
 have lx:=hx.len
 have ly:=hy.len
 rw[Zad]at lx ly
 rw[Zab,A.k224 (by simp)]
 simp(disch:=first|(simp;done)|omega|(simp only[Zad,Zag,Yoz];omega)|rfl) [A.b224,lx,ly]
 refine Zaj [(6,13),(22,77)] (fun e r st=>e=.exit 0∧Ym8 h N x y r st) (Ym7 h N x y) (wds x).length ?_ ?_ ?_
 ·refine⟨0,List.replicate ((wds x).length+(wds y).length) 0,by omega,⟨by omega,by simp,by simp,by simp,Keeps.refl.set (Yoy _) |>.up (by omega),?_,by simp,?_,?_,by simp[val,Zpe]⟩⟩
  ·simp[Zf5]
  ·intro d hd
   rw[Ysb]at hd
   rw[hd.2];decide
  ·intro t _ ht
   simp at ht
   simp[ht]
 ·rintro m r ⟨H,n1,W⟩ hr hf ⟨i,o,rfl,hi,h22,hn,hW,hK,hN,ho,hd,hz,he⟩
  simp only at hn hW hK hN
  subst hn
  rw[Zah]
  by_cases hlt:i<(wds x).length
  ·obtain⟨i1,o1,c1,e1,w1,p1,p2,p3,p4⟩:=hx.at (Zba (Yo2 hlt))
   have p3:=(hK.get _ p2).trans p3
   have gx:=Yo2 hlt
   generalize (wds x)[i]=xi at*
   simp[A.lb224_1,hr,h22,hlt,lx,ly,p1,p3,p4]
   refine Zaj [(8,13),(29,69)] (fun e r st=>e=.exit 2∧Yov h N x y i xi r st) (You h N x y i xi) (wds y).length ?_ ?_ ?_
   ·exact⟨0,o,0,by omega,⟨by omega,by simp,by simp,rfl,hW,hK,hN,ho,hd,hz,by decide,by simp[val,he]⟩⟩
   ·rintro m r2 ⟨H2,n2,W2⟩ hr2 hf2 ⟨j,o2,c,rfl,hj,h29,h8,hn2,hW2,hK2,hN2,ho2,hd2,hz2,hc2,he2⟩
    simp only at hn2 hW2 hK2 hN2
    subst hn2
    rw[Zah]
    have hi:xi<B:=(Zd0 x).get gx
    by_cases hlt2:j<(wds y).length
    ·obtain⟨i2,o3,c3,e3,w3,q1,q2,q3,q4⟩:=hy.at (Zba (Yo2 hlt2))
     have q3:=(hK2.get _ q2).trans q3
     have gy:=Yo2 hlt2
     generalize (wds y)[j]=yj at*
     have hyj:yj<B:=(Zd0 y).get gy
     have go:=Yo2 (l:=o2) (i:=i+j) (by omega)
     generalize o2[i+j]'(by omega)=ov at*
     simp[A.lb224_0,hr2,h29,hlt2,ly,q1,q3,q4]
     refine Zac (Zk1 hi hyj) ?_
     rintro _ _ _ hk3 ⟨rfl,rfl,rfl⟩
     simp(disch:=first|(simp;done)|omega|(simp only[Zad,Zag,Yoz];omega)|rfl) [-getElem?_pos,hr,hr2,h29,h8,hf2,hN2,Zba go,Zc6]
     obtain⟨m1,m2,m3⟩:=Yc8 hi hyj (hd2.get go) hc2
     refine⟨_,by omega,j+1,o2.set (i+j) (mulNew xi yj ov c),mulCar xi yj ov c,rfl,⟨by omega,by simp,?_,rfl,by simp[hW2],hK2.set (Yoy _),?_,by simp[ho2],hd2.set m2,?_,m3,?_⟩⟩
     ·simp[mulCar]
     ·simp[mulNew]
     ·intro t t1 t2
      rw[Yo5 (by omega)]
      exact hz2 t t1 (by simpa using t2)
     ·have v1:=Zlc (b:=B) (v:=mulNew xi yj ov c) go
      rw[Zbx gy]
      have e1:B^(i+(j+1))=B^(i+j)*B:=by rw[show i+(j+1)=(i+j)+1 by omega,Ypn]
      have e2:B^i*(xi*(B^j*yj))=B^(i+j)*(xi*yj):=by rw[Yqc];grind
      have e3:B^(i+j)*(mulNew xi yj ov c+B*mulCar xi yj ov c)=B^(i+j)*(xi*yj+ov+c):=by rw[m1]
      rw[e1]
      generalize val B (List.set o2 (i+j) (mulNew xi yj ov c))=z1 at*
      generalize val B o2=z2 at*
      generalize mulNew xi yj ov c=z3 at*
      generalize mulCar xi yj ov c=z4 at*
      generalize val B (List.take j (wds y))=z5 at*
      generalize B^(i+j)=z6 at*
      grind
    ·have:j=(wds y).length:=by omega
     subst this
     simp[A.lb224_0,hr2,h29,hf2]
     exact⟨o2,c,⟨by omega,by simp[h29],by simp[h8],rfl,hW2,hK2,hN2,ho2,hd2,hz2,hc2,he2⟩⟩
   ·rintro e r2 ⟨H2,n2,W2⟩ hr2 ⟨rfl,o2,c,hj,h29,h8,hn2,hW2,hK2,hN2,ho2,hd2,hz2,hc2,he2⟩
    simp only at hn2 hW2 hK2 hN2
    subst hn2
    have hf2:=hf.inner (D':=[(8,13),(29,69)]) rfl (by simp) hr2
    simp(disch:=first|(simp;done)|omega|(simp only[Zad,Zag,Yoz];omega)|rfl) [hr,hr2,h22,h8,ly,hN2,Zc6,hf2]
    have hz0:o2[i+(wds y).length]?=some 0:=hz2 _ (Yoy _) (by omega)
    refine⟨_,by omega,i+1,o2.set (i+(wds y).length) c,rfl,⟨by omega,by simp,rfl,by simp[hW2],hK2.set (Yoy _),by simp,by simp[ho2],hd2.set hc2,?_,?_⟩⟩
    ·intro t t1 t2
     rw[Yo5 (by omega)]
     exact hz2 t (by omega) (by simpa using t2)
    ·have v1:=Zlc (b:=B) (v:=c) hz0
     rw[Yo7 (Yoy _),Zbo]at he2
     rw[Zbx gx]
     simp only[Nat.mul_zero,Yqd]at v1
     rw[v1,he2]
     grind
  ·have:i=(wds x).length:=by omega
   subst this
   simp[A.lb224_1,hr,h22,hf]
   exact⟨o,⟨by omega,by simp[h22],rfl,hW,hK,hN,ho,hd,hz,he⟩⟩
 ·rintro _ r ⟨H,n1,W⟩ hr ⟨rfl,o,hi,h22,hn,hW,hK,hN,ho,hd,hz,he⟩
  simp only at hn hW hK hN
  subst hn
  simp[hr]
  refine Zac (Zfn (l:=o) (Sl.row (e:=214) (rw:=true) (by omega) (by simp[hN]) (by simp[ho]) (by simp)) (by simp[ho];omega)) ?_
  intro v' h' n' hk' hs
  simp[Ret]
  refine⟨hW,hK.trans hk',?_⟩
  rw[Yo7 (Yoy _),Zbo]at he
  rw[Zc9 hd,he]at hs
  exact hs
variable {n:Nat}
set_option maxHeartbeats 2000000
def Ykn:List UInt8:=[0,1,2,2,3,3,3,3,4,4,4,4,4,4,4,4,5,5,5,5,5,5,5,5,5,5,5,5,5,5,5,5,6,6,6,6,6,6,6,6,6,6,6,6,6,6,6,6,6,6,6,6,6,6,6,6,6,6,6,6,6,6,6,6,7,7,7,7,7,7,7,7,7,7,7,7,7,7,7,7,7,7,7,7,7,7,7,7,7,7,7,7,7,7,7,7,7,7,7,7,7,7,7,7,7,7,7,7,7,7,7,7,7,7,7,7,7,7,7,7,7,7,7,7,7,7,7,7,8,8,8,8,8,8,8,8,8,8,8,8,8,8,8,8,8,8,8,8,8,8,8,8,8,8,8,8,8,8,8,8,8,8,8,8,8,8,8,8,8,8,8,8,8,8,8,8,8,8,8,8,8,8,8,8,8,8,8,8,8,8,8,8,8,8,8,8,8,8,8,8,8,8,8,8,8,8,8,8,8,8,8,8,8,8,8,8,8,8,8,8,8,8,8,8,8,8,8,8,8,8,8,8,8,8,8,8,8,8,8,8,8,8,8,8,8,8,8,8,8,8,8,8,8,8,8,8]
def A.b268:Zae:=sr [mc 2 0]
 (.seq (sr [mv 3 0,⟨(some 4),.bin .geq (.node []) false (.tmp 3) (.const (.int .u64 4294967296)),none⟩]
 (cd 4
 (sr [mv 5 0,⟨(some 6),.bin .shr (.node []) false (.tmp 5) (.const (.int .u64 32)),none⟩,mv 0 6]
 (.reg [mc 2 32]))
 (.skip)))
 (.seq (sr [mv 7 0,⟨(some 8),.bin .geq (.node []) false (.tmp 7) (.const (.int .u64 65536)),none⟩]
 (cd 8
 (sr [mv 9 0,⟨(some 10),.bin .shr (.node []) false (.tmp 9) (.const (.int .u64 16)),none⟩,mv 0 10]
 (.reg [mv 11 2,bc 12 .add 11 16,mv 2 12]))
 (.skip)))
 (.seq (sr [mv 13 0,⟨(some 14),.bin .geq (.node []) false (.tmp 13) (.const (.int .u64 256)),none⟩]
 (cd 14
 (sr [mv 15 0,⟨(some 16),.bin .shr (.node []) false (.tmp 15) (.const (.int .u64 8)),none⟩,mv 0 16]
 (.reg [mv 17 2,bc 18 .add 17 8,mv 2 18]))
 (.skip)))
 (sr [mv 19 2,mv 20 0,⟨(some 21),.convInt .u8 (.tmp 20),none⟩,⟨(some 22),.idxStr (.const (.str Ykn)) (.tmp 21),none⟩,⟨(some 23),.convInt .i64 (.tmp 22),none⟩,bi 24 .add 19 23,mv 2 24]
 (.ret)))))
theorem A.c268:A.F 268=some ⟨25,[.tmp 2],A.b268⟩:=by kernel_rfl
def A.k268:=@A.kk 268 _ _ _ A.c268 rfl
def A.b272:Zae:=sr [mc 2 0]
 (sr [mv 3 0,c1 4 268 3,⟨(some 5),.bin .sub (.node []) false (.const (.int .i64 64)) (.tmp 4),none⟩,mv 2 5]
 (.ret))
theorem A.c272:A.F 272=some ⟨6,[.tmp 2],A.b272⟩:=by kernel_rfl
def A.k272:=@A.kk 272 _ _ _ A.c272 rfl
def blen(n:Nat):Nat:=if n=0 then 0 else Nat.log2 n+1
theorem Ybb(n:Nat):n<2^blen n:=by
 unfold blen
 split
 ·simp[*]
 ·exact Nat.lt_log2_self
theorem Zs4(h:n≠0):2^(blen n-1)≤n:=by
 unfold blen
 rw[Yo0 h]
 exact Nat.log2_self_le h
theorem Yi7{k:Nat}(h1:2^k≤n)(h2:n<2^(k+1)):blen n=k+1:=by
 have hn:n≠0:=by have:=Yp9 k;omega
 unfold blen
 rw[Yo0 hn]
 congr 1
 have h3:Nat.log2 n<k+1:=(Nat.log2_lt hn).2 h2
 have h4:k≤Nat.log2 n:=(Nat.le_log2 hn).2 h1
 omega
theorem Zcr{k:Nat}(h:2^k≤n):blen (shr64 n k)+k=blen n:=by
 unfold shr64
 have h0:n/2^k≠0:=by
  have:=Nat.div_pos h (Yp9 k);omega
 have h1:=Ybb (n/2^k)
 have h2:=Zs4 h0
 have hp:0<blen (n/2^k):=by unfold blen;rw[Yo0 h0];omega
 have e:blen (n/2^k)+k=(blen (n/2^k)-1+k)+1:=by omega
 rw[e]
 symm
 apply Yi7
 ·rw[Yqc]
  exact Yqk (Ypk _ h2) (Nat.div_mul_le_self n _)
 ·rw[show blen (n/2^k)-1+k+1=blen (n/2^k)+k by omega,Yqc]
  exact(Ypu (Yp9 k)).1 h1
theorem Yfl:∀{n:Nat},n<256→Ykn[n]?=some (UInt8.ofNat (blen n)):=by decide+kernel
theorem Zo3:∀{n:Nat},n<256→blen n<9:=by decide+kernel
theorem Zgc(h:n<256):u8I (UInt8.ofNat (blen n))=(blen n:Int):=by
 have:=Zo3 h
 unfold u8I
 simp;omega
theorem Ydp{h:T O}{N:Nat}{x:Nat}(hx:x<18446744073709551616):Fn A.C 268 [.int .u64 x] h N (fun v' h' N'=>h'=h∧N'=N∧v'=.int .i64 (blen x:Nat)):=by
 intro w
 rw[Zab,A.k268 (by simp)]
 by_cases h0:4294967296≤x
 ·have h0':(4294967296:Int)≤((x:Nat):Int):=by omega
  by_cases h1:65536≤shr64 (x) 32
  ·have h1':(65536:Int)≤((shr64 (x) 32:Nat):Int):=by omega
   by_cases h2:256≤shr64 (shr64 (x) 32) 16
   ·have h2':(256:Int)≤((shr64 (shr64 (x) 32) 16:Nat):Int):=by omega
    have hb:shr64 (shr64 (shr64 (x) 32) 16) 8<256:=by (try simp only[shr64]at*);omega
    have ht:=Yfl hb
    have hv:u8I (UInt8.ofNat (blen (shr64 (shr64 (shr64 (x) 32) 16) 8)))=(blen (shr64 (shr64 (shr64 (x) 32) 16) 8):Int):=Zgc hb
    have hl:=Zo3 hb
    simp(disch:=omega) [A.b268,h0',h1',h2',Zec,ht,hv,Ret]
    have:=Zcr (k:=32) (n:=x) h0
    have:=Zcr (k:=16) (n:=shr64 (x) 32) h1
    have:=Zcr (k:=8) (n:=shr64 (shr64 (x) 32) 16) h2
    first|exact Keeps.refl|exact And.intro Keeps.refl (by omega)
   ·have h2':¬(256:Int)≤((shr64 (shr64 (x) 32) 16:Nat):Int):=by omega
    have hb:shr64 (shr64 (x) 32) 16<256:=by (try simp only[shr64]at*);omega
    have ht:=Yfl hb
    have hv:u8I (UInt8.ofNat (blen (shr64 (shr64 (x) 32) 16)))=(blen (shr64 (shr64 (x) 32) 16):Int):=Zgc hb
    have hl:=Zo3 hb
    simp(disch:=omega) [A.b268,h0',h1',h2',Zec,ht,hv,Ret]
    have:=Zcr (k:=32) (n:=x) h0
    have:=Zcr (k:=16) (n:=shr64 (x) 32) h1
    first|exact Keeps.refl|exact And.intro Keeps.refl (by omega)
  ·have h1':¬(65536:Int)≤((shr64 (x) 32:Nat):Int):=by omega
   by_cases h2:256≤shr64 (x) 32
   ·have h2':(256:Int)≤((shr64 (x) 32:Nat):Int):=by omega
    have hb:shr64 (shr64 (x) 32) 8<256:=by (try simp only[shr64]at*);omega
    have ht:=Yfl hb
    have hv:u8I (UInt8.ofNat (blen (shr64 (shr64 (x) 32) 8)))=(blen (shr64 (shr64 (x) 32) 8):Int):=Zgc hb
    have hl:=Zo3 hb
    simp(disch:=omega) [A.b268,h0',h1',h2',Zec,ht,hv,Ret]
    have:=Zcr (k:=32) (n:=x) h0
    have:=Zcr (k:=8) (n:=shr64 (x) 32) h2
    first|exact Keeps.refl|exact And.intro Keeps.refl (by omega)
   ·have h2':¬(256:Int)≤((shr64 (x) 32:Nat):Int):=by omega
    have hb:shr64 (x) 32<256:=by (try simp only[shr64]at*);omega
    have ht:=Yfl hb
    have hv:u8I (UInt8.ofNat (blen (shr64 (x) 32)))=(blen (shr64 (x) 32):Int):=Zgc hb
    have hl:=Zo3 hb
    simp(disch:=omega) [A.b268,h0',h1',h2',Zec,ht,hv,Ret]
    have:=Zcr (k:=32) (n:=x) h0
    first|exact Keeps.refl|exact And.intro Keeps.refl (by omega)
 ·have h0':¬(4294967296:Int)≤((x:Nat):Int):=by omega
  by_cases h1:65536≤x
  ·have h1':(65536:Int)≤((x:Nat):Int):=by omega
   by_cases h2:256≤shr64 (x) 16
   ·have h2':(256:Int)≤((shr64 (x) 16:Nat):Int):=by omega
    have hb:shr64 (shr64 (x) 16) 8<256:=by (try simp only[shr64]at*);omega
    have ht:=Yfl hb
    have hv:u8I (UInt8.ofNat (blen (shr64 (shr64 (x) 16) 8)))=(blen (shr64 (shr64 (x) 16) 8):Int):=Zgc hb
    have hl:=Zo3 hb
    simp(disch:=omega) [A.b268,h0',h1',h2',Zec,ht,hv,Ret]
    have:=Zcr (k:=16) (n:=x) h1
    have:=Zcr (k:=8) (n:=shr64 (x) 16) h2
    first|exact Keeps.refl|exact And.intro Keeps.refl (by omega)
   ·have h2':¬(256:Int)≤((shr64 (x) 16:Nat):Int):=by omega
    have hb:shr64 (x) 16<256:=by (try simp only[shr64]at*);omega
    have ht:=Yfl hb
    have hv:u8I (UInt8.ofNat (blen (shr64 (x) 16)))=(blen (shr64 (x) 16):Int):=Zgc hb
    have hl:=Zo3 hb
    simp(disch:=omega) [A.b268,h0',h1',h2',Zec,ht,hv,Ret]
    have:=Zcr (k:=16) (n:=x) h1
    first|exact Keeps.refl|exact And.intro Keeps.refl (by omega)
  ·have h1':¬(65536:Int)≤((x:Nat):Int):=by omega
   by_cases h2:256≤x
   ·have h2':(256:Int)≤((x:Nat):Int):=by omega
    have hb:shr64 (x) 8<256:=by (try simp only[shr64]at*);omega
    have ht:=Yfl hb
    have hv:u8I (UInt8.ofNat (blen (shr64 (x) 8)))=(blen (shr64 (x) 8):Int):=Zgc hb
    have hl:=Zo3 hb
    simp(disch:=omega) [A.b268,h0',h1',h2',Zec,ht,hv,Ret]
    have:=Zcr (k:=8) (n:=x) h2
    first|exact Keeps.refl|exact And.intro Keeps.refl (by omega)
   ·have h2':¬(256:Int)≤((x:Nat):Int):=by omega
    have hb:x<256:=by (try simp only[shr64]at*);omega
    have ht:=Yfl hb
    have hv:u8I (UInt8.ofNat (blen (x)))=(blen (x):Int):=Zgc hb
    have hl:=Zo3 hb
    simp(disch:=omega) [A.b268,h0',h1',h2',Zec,ht,hv,Ret]
    first|exact Keeps.refl|exact And.intro Keeps.refl (by omega)
theorem Zzt{h:T O}{N:Nat}{x:Nat}(hx:x<18446744073709551616):Fn A.C 272 [.int .u64 x] h N (fun v' h' N'=>h'=h∧N'=N∧v'=.int .i64 ((64-blen x:Nat))):=by
 intro w
 have hl:blen x≤64:=by
  by_cases h0:x=0
  ·subst h0;decide
  ·apply Yqv
   intro hc
   have:=Zs4 h0
   have:2^64≤2^(blen x-1):=Yp3 (by decide) (by omega)
   omega
 rw[Zab,A.k272 (by simp)]
 simp[A.b272]
 refine Zac (Ydp hx) ?_
 rintro _ _ _ hk ⟨rfl,rfl,rfl⟩
 simp(disch:=omega) [Ret]
 exact⟨hk,by omega⟩
variable {s x:Nat}
set_option maxHeartbeats 2000000
def A.lb273_0:Zae:=sr [bi 15 .lss 14 13]
 (.seq (cd 15
 (.skip)
 (.exit 0))
 (.seq (.block 1 (sr [mv 16 14,ia 17 1 12 14,ld 18 17,mv 6 16,mv 7 18]
 (.seq (.regD [mv 19 5,mv 20 6,ia 21 1 19 20,ld 22 21,mv 23 7,mv 24 1,bi 25 .shl 23 24,bi 26 .or 22 25,ia 27 1 19 20,so 27 26] [0,0,3,7,0,0,48,127,255,511])
 (sr [mv 28 1,bc 29 .gtr 28 0]
 (cd 29
 (.reg [mv 30 5,mv 31 6,bc 32 .add 31 1,mv 33 7,mv 34 1,⟨(some 35),.bin .sub (.node []) false (.const (.int .i64 64)) (.tmp 34),none⟩,bi 36 .shr 33 35,ia 37 1 30 32,so 37 36])
 (.skip))))))
 (.reg [bc 38 .add 14 1,mv 14 38])))
def A.b273:Zae:=sr [mN 4]
 (sr [mv 8 0,ln 9 8,bc 10 .add 9 1,⟨(some 11),.mkslice 214 1 8 [(.int .u64 0)] (.tmp 10) (.tmp 10),none⟩,mv 5 11]
 (.seq (sr [mv 12 0,ln 13 12,mc 14 0]
 (.block 0 (.loop A.lb273_0)))
 (sr [mv 39 5,mv 4 39]
 (.ret))))
theorem A.c273:A.F 273=some ⟨40,[.tmp 4],A.b273⟩:=by kernel_rfl
def A.k273:=@A.kk 273 _ _ _ A.c273 rfl
theorem Zty{c:Nat}(hs:s<64)(hc:c<2^s):or64 c (shl64 x s)=c+shl64 x s:=by
 unfold or64 shl64
 have e:x*2^s%18446744073709551616=(x%2^(64-s))<<<s:=by
  rw[Nat.shiftLeft_eq]
  have:(18446744073709551616:Nat)=2^(64-s)*2^s:=by rw[←Yqc,show 64-s+s=64 by omega]
  rw[this,Ysd]
 rw[e,Nat.or_comm,Nat.add_comm,Nat.shiftLeft_add_eq_or_of_lt hc]
theorem Zyc(hs:s≤64):shl64 x s+B*shr64 x (64-s)=x*2^s:=by
 unfold shl64 shr64
 have e:x/2^(64-s)=x*2^s/18446744073709551616:=by
  have:(18446744073709551616:Nat)=2^(64-s)*2^s:=by rw[←Yqc,show 64-s+s=64 by omega]
  rw[this,Ysu _ _ (Yp9 s)]
 rw[e]
 have:=Yqn (x*2^s) 18446744073709551616
 unfold B
 omega
theorem Yfa(hx:x<B)(hs:s≤64):shr64 x (64-s)<2^s:=by
 unfold shr64
 apply (Ypu (Yp9 _)).2
 rw[←Yqc,show s+(64-s)=64 by omega]
 exact hx
theorem Znc{c:Nat}(hs:s<64)(hc:c<2^s):c+shl64 x s<B:=by
 rw[←Zty hs hc]
 unfold or64
 apply Nat.or_lt_two_pow (n:=64)
 ·exact Nat.lt_trans hc (Nat.pow_lt_pow_right (by decide) hs)
 ·exact Zob
structure ShJ (h:T O) (N:Nat) (l:List Nat) (s k:Nat) (o:List Nat) (c:Nat) (r:T V) (st:St):Prop where
 hk:k≤l.length
 r14:r.get 14=some (.int .i64 k)
 n:st.n=N+1
 w:Zaa N st.w=[]
 keep:Keeps h N st.h (N+1)
 row:st.h.get N=some (.cells (dg o) 214 true)
 len:o.length=l.length+1
 dg:Dg o
 zero:∀t,k<t→t<o.length→o[t]?=some 0
 top:o[k]?=some c
 lc:c<2^s
 ex:val B o=val B (l.take k)*2^s
def ShI(h:T O)(N:Nat)(l:List Nat)(s m:Nat)(r:T V)(st:St):Prop:=∃k o c,m=l.length-k∧ShJ h N l s k o c r st
def ShE(h:T O)(N:Nat)(l:List Nat)(s:Nat)(r:T V)(st:St):Prop:=∃o c,ShJ h N l s l.length o c r st
theorem Zne{h:T O}{N:Nat}{v:V}{l:List Nat}(hv:Sl h N v (Go.Mx.dg l))(hd:Dg l)(hs:s<64)(hl:l.length<1099511627776):Fn A.C 273 [v,.int .i64 s] h N (fun v' h' N'=>∃i o,N≤i∧i<N'∧v'=.slice i 0 (l.length+1) (some (l.length+1)) 1∧h'.get i=some (.cells (dg o) 214 true)∧o.length=l.length+1∧Dg o∧val B o=val B l*2^s):=by
 intro w
 have lx:=hv.len
 rw[Zad]at lx
 rw[Zab,A.k273 (by simp)]
 simp(disch:=first|(simp;done)|omega|(simp only[Zad,Zag,Yoz];omega)|rfl) [A.b273,lx]
 refine Zaj [(6,7),(14,38)] (fun e r st=>e=.exit 0∧ShE h N l s r st) (ShI h N l s) l.length ?_ ?_ ?_
 ·refine⟨0,List.replicate (l.length+1) 0,0,by omega,⟨by omega,by simp,by simp,by simp,Keeps.refl.set (Yoy _) |>.up (by omega),by simp[Zf5],by simp,?_,?_,by simp,Yp9 s,by simp[val,Zpe]⟩⟩
  ·intro d hd
   rw[Ysb]at hd
   rw[hd.2];decide
  ·intro t _ ht
   simp at ht
   simp[ht]
 ·rintro m r ⟨H,n1,W⟩ hr hf ⟨k,o,c,rfl,hk,h14,hn,hW,hK,hN,ho,hdo,hz,hc,hlc,he⟩
  simp only at hn hW hK hN
  subst hn
  rw[Zah]
  by_cases hlt:k<l.length
  ·obtain⟨i1,o1,c1,e1,w1,p1,p2,p3,p4⟩:=hv.at (Zba (Yo2 hlt))
   have p3:=(hK.get _ p2).trans p3
   have gx:=Yo2 hlt
   generalize l[k]=x at*
   have hx:x<B:=hd.get gx
   have hcB:c<18446744073709551616:=hdo.get hc
   have hsum:=Zty (x:=x) hs hlc
   have hlt2:=Znc (x:=x) hs hlc
   obtain⟨z,hzz⟩:∃z,c+shl64 x s=z:=⟨_,rfl⟩
   rw[hzz]at hsum hlt2
   have hlen1:(o.set k z).length=l.length+1:=by simp[ho]
   have hss:=Zyc (x:=x) (s:=s) (by omega)
   have hsl:=Yfa hx (s:=s) (by omega)
   have v1:=Zlc (b:=B) (v:=z) hc
   have hz1:(o.set k z)[k+1]?=some 0:=by
    rw[Yo5 (by omega)];exact hz _ (by omega) (by omega)
   have v2:=Zlc (b:=B) (v:=shr64 x (64-s)) hz1
   by_cases h0:0<s
   ·have h0':(0:Int)<(s:Int):=by omega
    simp(disch:=first|(simp;done)|omega|(simp only[Zad,Zag,Yoz];omega)|rfl) [-getElem?_pos,A.lb273_0,hr,h14,hlt,lx,p1,p3,p4,hN,Zba hc,hsum,Zc6,h0,hf]
    refine⟨_,by omega,k+1,(o.set k z).set (k+1) (shr64 x (64-s)),shr64 x (64-s),rfl,⟨by omega,by simp,rfl,by simp[hW],(hK.set (Yoy _)).set (Yoy _),by simp,by simp[ho],(hdo.set hlt2).set (Yo8 hsl (Yp3 (by decide) (by omega):2^s≤2^64)),?_,Ypc (by omega),hsl,?_⟩⟩
    ·intro t t1 t2
     rw[Yo5 (by omega),Yo5 (by omega)]
     exact hz t (by omega) (by simpa using t2)
    ·rw[Zbx gx,Yp0,←he]
     rw[←hzz]at v1 v2 ⊢
     have e3:B^k*(shl64 x s+B*shr64 x (64-s))=B^k*(x*2^s):=by rw[hss]
     rw[Ypn]at v2
     generalize val B ((o.set k (c+shl64 x s)).set (k+1) (shr64 x (64-s)))=z1 at*
     generalize val B (o.set k (c+shl64 x s))=z2 at*
     generalize val B o=z3 at*
     generalize shl64 x s=z4 at*
     generalize shr64 x (64-s)=z5 at*
     generalize B^k=z6 at*
     grind
   ·have h0':¬(0:Int)<(s:Int):=by omega
    simp(disch:=first|(simp;done)|omega|(simp only[Zad,Zag,Yoz];omega)|rfl) [-getElem?_pos,A.lb273_0,hr,h14,hlt,lx,p1,p3,p4,hN,Zba hc,hsum,Zc6,h0,hf]
    have hs0:s=0:=by omega
    subst hs0
    have hc0:c=0:=by simpa using hlc
    subst hc0
    have e0:shl64 x 0=x:=by unfold shl64;unfold B at hx;simp;omega
    have hzx:z=x:=by rw[←hzz,e0];omega
    subst hzx
    refine⟨_,by omega,k+1,o.set k z,0,rfl,⟨by omega,by simp,rfl,by simp[hW],hK.set (Yoy _),by simp,by simp[ho],hdo.set hx,?_,?_,by decide,?_⟩⟩
    ·intro t t1 t2
     rw[Yo5 (by omega)]
     exact hz t (by omega) (by simpa using t2)
    ·rw[Yo5 (by omega)];exact hz _ (by omega) (by omega)
    ·rw[Zbx gx,Yp0,←he]
     simpa using v1
  ·have:k=l.length:=by omega
   subst this
   simp[A.lb273_0,hr,h14,hf]
   exact⟨o,c,⟨by omega,by simp[h14],rfl,hW,hK,hN,ho,hdo,hz,hc,hlc,he⟩⟩
 ·rintro _ r ⟨H,n1,W⟩ hr ⟨rfl,o,c,hk,h14,hn,hW,hK,hN,ho,hdo,hz,hc,hlc,he⟩
  simp only at hn hW hK hN
  subst hn
  simp[hr,Ret]
  rw[Yo7 (Yoy _)]at he
  exact⟨hW,hK,N,Yoy _,by omega,rfl,o,hN,ho,hdo,he⟩
open Go
variable {b q r:Nat}
theorem Zk4{u un yn1 yn0:Nat}(hi:u=q*yn1+r)(hc:q*yn0≤b*r+un):q*(yn1*b+yn0)≤u*b+un:=by
 subst hi
 rw[Yq4,Yp0,←Yse,Yps r b]
 omega
theorem Zus{u un yn1 yn0:Nat}(hi:u=q*yn1+r)(hc:b*r+un<q*yn0):u*b+un<q*(yn1*b+yn0):=by
 subst hi
 rw[Yq4,Yp0,←Yse,Yps r b]
 omega
theorem Zqx{a y:Nat}(h:a<q*y):a/y<q:=by
 rcases Yrz y with rfl|hy
 ·simp at h
 ·exact(Ypu hy).2 h
theorem Zfa{a y:Nat}(hy:0<y)(h:q*y≤a):q≤a/y:=(Yr0 hy).2 h
theorem Yh7{P u1 u2 U' v1 v2 V' s:Nat}(hv1:0<v1)(hV':V'<P)(ht:s≤b)(hinv:u1=(s+1)*v1+r)(hc:(s+1)*v2≤r*b+u2):
  s*(V'+P*(v2+b*v1))≤U'+P*(u2+b*u1):=by
 have h1:s*V'≤b*P:=Yq0 ht (by omega)
 have h2:b*P*1≤b*P*v1:=Ypg _ hv1
 have h3:P*((s+1)*v2)≤P*(r*b+u2):=Ypg _ hc
 have h4:P*((s+1)*v2)=P*(s*v2)+P*v2:=by grind
 have h5:s*(V'+P*(v2+b*v1))=s*V'+P*(s*v2)+b*(P*(s*v1)):=by grind
 have h6:U'+P*(u2+b*u1)=U'+P*(r*b+u2)+b*(P*(s*v1))+b*P*v1:=by subst hinv;grind
 omega
theorem Yh6{P u1 u2 U' v1 v2 V' t:Nat}(hU':U'<P)(hinv:u1=t*v1+r)(hc:r*b+u2<t*v2):
  U'+P*(u2+b*u1)<t*(V'+P*(v2+b*v1)):=by
 have h3:P*(r*b+u2+1)≤P*(t*v2):=Ypg _ hc
 have h5:t*(V'+P*(v2+b*v1))=t*V'+P*(t*v2)+b*(P*(t*v1)):=by grind
 have h6:U'+P*(u2+b*u1)+P=U'+P*(r*b+u2+1)+b*(P*(t*v1)):=by subst hinv;grind
 omega
end Go.Mx
