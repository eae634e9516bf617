/-num-/
import Derived.Test.YtgnadghjglamaaaGreatDoorRcK
set_option linter.all false
set_option maxHeartbeats 4000000
namespace Go.Mx
noncomputable section
open Go Go.Proofs
set_option maxRecDepth 1000000
def A.w223:=A.q Tryz.f223
def A.lb223_0:=A.ql A.w223 0 []
def A.b223:=(fun x0=>A.qb A.w223 [x0]) A.lb223_0
def A.k223:=@A.kk 223 41 [.tmp 4] A.b223 (by kernel_rfl) rfl
def Zuj(x y:Int):Int:=if x<y then -1 else if y<x then 1 else 0
def Yhr{x y:Nat}(h:(wds x).length<(wds y).length):x<y:=by
 apply Ys6
 intro hc
 have:=Zc9 hc
 omega
def Zlo{b:Nat}{l:List Nat}{k d:Nat}(h:l[k]?=some d):val b (l.drop k)=d+b*val b (l.drop (k+1)):=by
 have hk:k<l.length:=by
  apply Ys6;intro hc;rw[Yr6 hc]at h;cases h
 rw[Yt2 hk]
 rw[Yrx hk]at h
 simp only[Yrs]at h
 rw[h];rfl
def Zqh(b:Nat)(l:List Nat)(k:Nat)(hk:k≤l.length):val b l=val b (l.take k)+b^k*val b (l.drop k):=by
 have:=Zhq b (l.take k) (l.drop k)
 rw[Ytj,Ysi,Ysz hk]at this
 exact this
def Yhe{x y:List Nat}{k:Nat}(gx:Dg x)(hx:k≤x.length)(hy:k≤y.length)(h:val B (x.drop k)<val B (y.drop k)):val B x<val B y:=by
 rw[Zqh B x k hx,Zqh B y k hy]
 have h1:val B (x.take k)<B^k:=by
  have:=Zk4 (b:=B) (l:=x.take k) fun d hd=>gx d (Ytx hd)
  rwa [Ysi,Ysz hx]at this
 have h2:B^k*(val B (x.drop k)+1)≤B^k*val B (y.drop k):=Yr9 _ h
 rw[Ys8]at h2
 omega
structure Yp5 (h:T O) (N x y m:Nat) (r:T V) (st:St):Prop where
 hm:m≤(wds x).length
 r5:r.get 5=some (.int .i64 ((m:Int)-1))
 n:st.n=N
 w:st.w=[]
 keep:Keeps h N st.h N
 top:(wds x).drop m=(wds y).drop m
def Zhi{h:T O}{N:Nat}{vx vy:V}{x y:Nat}(hx:Wn h N vx x)(hy:Wn h N vy y)(hxl:(wds x).length<1099511627776)(hyl:(wds y).length<1099511627776):Fn A.C 223 [vx,vy] h N (fun v' h' N'=>v'=.int .i64 (Zuj x y)):=by
 intro w
 have lx:=hx.len
 have ly:=hy.len
 rw[Zab]at lx ly
 rw[Zaf,A.k223 (by simp)]
 by_cases hne:(wds x).length=(wds y).length
 ·have hne':((wds x).length:Int)=((wds y).length:Int):=by omega
  simp(disch:=first|(simp;done)|omega|(simp only[Zab,Zaa,Yrr];omega)|rfl) [-getElem?_pos,A.b223,lx,ly,hne]
  refine Zak [(4,5),(19,40)] (fun e r st=>(e=.exit 0∧Yp5 h N x y 0 r st)∨(e=.ret∧r.get 4=some (.int .i64 (Zuj x y))∧st.n=N∧st.w=[]∧Keeps h N st.h N)) (Yp5 h N x y) (wds x).length ?_ ?_ ?_
  ·exact⟨by omega,by simp[hne],rfl,rfl,Keeps.refl,by rw[Yt1,hne,Yt1]⟩
  ·rintro m r ⟨H,n1,W⟩ hr hf ⟨hm,h5,hn,hW,hK,ht⟩
   simp only at hn hW hK
   subst hn;subst hW
   rw[Zai]
   cases m with
   |zero=>
    simp(disch:=first|(simp;done)|omega|(simp only[Zab,Zaa,Yrr];omega)|rfl) [-getElem?_pos,A.lb223_0,h5,hr,hf]
    exact⟨by omega,by simp[h5],rfl,rfl,hK,ht⟩
   |succ m=>
    have hmx:m<(wds x).length:=by omega
    have hmy:m<(wds y).length:=by omega
    have h5':r.get 5=some (.int .i64 (m:Int)):=by rw[h5];congr 2;omega
    have gx:=Yrx hmx
    have gy:=Yrx hmy
    obtain⟨i1,o1,c1,e1,w1,p1,p2,p3,p4⟩:=hx.at (Za9 gx)
    have p3:=(hK.get _ p2).trans p3
    obtain⟨i2,o2,c2,e2,w2,q1,q2,q3,q4⟩:=hy.at (Za9 gy)
    have q3:=(hK.get _ q2).trans q3
    rcases Nat.lt_trichotomy (wds x)[m] (wds y)[m]with hlt|heq|hgt
    ·have hlt2:x<y:=by
      have:=Yhe (x:=wds x) (y:=wds y) (k:=m) (Zdh x) (by omega) (by omega) (by rw[Zlo gx,Zlo gy,ht];omega)
      rwa [Zbq,Zbq]at this
     have hne2:¬(wds x)[m]=(wds y)[m]:=by omega
     simp(disch:=first|(simp;done)|omega|(simp only[Zab,Zaa,Yrr];omega)|rfl) [-getElem?_pos,A.lb223_0,h5',hr,hf,lx,ly,p1,p2,p3,p4,q1,q2,q3,q4,Zag,hne2,hlt]
     exact⟨by simp[Zuj,hlt2],hK⟩
    ·have ht':(wds x).drop m=(wds y).drop m:=by rw[Yt2 hmx,Yt2 hmy,ht,heq]
     simp(disch:=first|(simp;done)|omega|(simp only[Zab,Zaa,Yrr];omega)|rfl) [-getElem?_pos,A.lb223_0,h5',hr,hf,lx,ly,p1,p2,p3,p4,q1,q2,q3,q4,Zag,heq]
     exact⟨m,by omega,⟨by omega,by simp,rfl,rfl,hK,ht'⟩⟩
    ·have hlt2:y<x:=by
      have:=Yhe (x:=wds y) (y:=wds x) (k:=m) (Zdh y) (by omega) (by omega) (by rw[Zlo gx,Zlo gy,ht];omega)
      rwa [Zbq,Zbq]at this
     have hne2:¬(wds x)[m]=(wds y)[m]:=by omega
     have hlt:¬(wds x)[m]<(wds y)[m]:=by omega
     have hlt3:¬x<y:=by omega
     simp(disch:=first|(simp;done)|omega|(simp only[Zab,Zaa,Yrr];omega)|rfl) [-getElem?_pos,A.lb223_0,h5',hr,hf,lx,ly,p1,p2,p3,p4,q1,q2,q3,q4,Zag,hne2,hlt]
     exact⟨by simp[Zuj,hlt2,hlt3],hK⟩
  ·rintro e r ⟨H,n1,W⟩ hr (⟨rfl,hm,h5,hn,hW,hK,ht⟩|⟨rfl,h4,hn,hW,hK⟩)
   ·simp only at hn hW hK
    subst hn;subst hW
    simp only[Yun]at ht
    have:x=y:=by rw[←Zbq x,ht,Zbq]
    subst this
    simp(disch:=first|(simp;done)|omega|(simp only[Zab,Zaa,Yrr];omega)|rfl) [-getElem?_pos,hr,Ret]
    exact⟨hK,by simp[Zuj]⟩
   ·simp only at hn hW hK
    subst hn;subst hW
    simp(disch:=first|(simp;done)|omega|(simp only[Zab,Zaa,Yrr];omega)|rfl) [-getElem?_pos,h4,Ret]
    exact hK
 ·have hne':¬((wds x).length:Int)=((wds y).length:Int):=by omega
  by_cases hlt:(wds x).length<(wds y).length
  ·have:=Yhr hlt
   simp(disch:=first|(simp;done)|omega|(simp only[Zab,Zaa,Yrr];omega)|rfl) [-getElem?_pos,A.b223,lx,ly,hne,hlt,Zag,Ret]
   exact⟨Keeps.refl,by simp[Zuj,this]⟩
  ·have h1:=Yhr (x:=y) (y:=x) (by omega)
   have h2:¬x<y:=by omega
   simp(disch:=first|(simp;done)|omega|(simp only[Zab,Zaa,Yrr];omega)|rfl) [-getElem?_pos,A.b223,lx,ly,hne,hlt,Zag,Ret]
   exact⟨Keeps.refl,by simp[Zuj,h1,h2]⟩
def A.w214:=A.q Tryz.f214
def A.lb214_0:=A.ql A.w214 1 []
def A.lb214_1:=(fun x0=>A.ql A.w214 0 [x0]) A.lb214_0
def A.b214:=(fun x0=>A.qb A.w214 [x0]) A.lb214_1
def A.k214:=@A.kk 214 80 [.tmp 4] A.b214 (by kernel_rfl) rfl
def Zma{b:Nat}:∀{l:List Nat} {k old v:Nat},l[k]?=some old→val b (l.set k v)+b^k*old=val b l+b^k*v
 |[],k,old,v,h=>by simp at h
 |d::l,0,old,v,h=>by simp at h;subst h;simp[val];omega
 |d::l,k+1,old,v,h=>by
  have ih:=Zma (b:=b) (l:=l) (k:=k) (old:=old) (v:=v) (by simpa using h)
  simp only[List.set_cons_succ,val,Ysg]
  generalize val b (l.set k v)=p at*
  generalize val b l=q at*
  generalize b^k=z at*
  have:b*(p+z*old)=b*(q+z*v):=by rw[ih]
  grind
def Dg.set{l:List Nat}(h:Dg l){k v:Nat}(hv:v<B):Dg (l.set k v):=by
 intro d hd
 rcases Ytn hd with hd|hd
 ·exact h d hd
 ·subst hd;exact hv
def mulNew(x y o c:Nat):Nat:=lo64 (lo64 (lo64 (x*y)+o)+c)
def mulCar(x y o c:Nat):Nat:=addu (addu (hi64 (x*y)) (hi64 (lo64 (x*y)+o))) (hi64 (lo64 (lo64 (x*y)+o)+c))
def Yfm{x y o c:Nat}(hx:x<B)(hy:y<B)(ho:o<B)(hc:c<B):mulNew x y o c+B*mulCar x y o c=x*y+o+c∧mulNew x y o c<B∧mulCar x y o c<B:=by
 have:x*y≤18446744073709551615*18446744073709551615:=Ysp (by unfold B at*;omega) (by unfold B at*;omega)
 unfold mulNew mulCar lo64 hi64 addu
 unfold B at*
 generalize x*y=p at*
 omega
structure Yp4 (h:T O) (N x y i j:Nat) (o:List Nat) (c xi:Nat) (r:T V) (st:St):Prop where
 hj:j≤(wds y).length
 r29:r.get 29=some (.int .i64 j)
 r8:r.get 8=some (.int .u64 c)
 n:st.n=N+1
 w:Zae N st.w=[]
 keep:Keeps h N st.h (N+1)
 row:st.h.get N=some (.cells (dg o) 217 true)
 len:o.length=(wds x).length+(wds y).length
 dg:Dg o
 zero:∀t,i+(wds y).length≤t→t<o.length→o[t]?=some 0
 lc:c<B
 ex:val B o+B^(i+j)*c=val B ((wds x).take i)*y+B^i*(xi*val B ((wds y).take j))
def Yrm(h:T O)(N x y i xi m:Nat)(r:T V)(st:St):Prop:=∃j o c,m=(wds y).length-j∧Yp4 h N x y i j o c xi r st
def Yrn(h:T O)(N x y i xi:Nat)(r:T V)(st:St):Prop:=∃o c,Yp4 h N x y i (wds y).length o c xi r st
structure Ynq (h:T O) (N x y i:Nat) (o:List Nat) (r:T V) (st:St):Prop where
 hi:i≤(wds x).length
 r22:r.get 22=some (.int .i64 i)
 n:st.n=N+1
 w:Zae N st.w=[]
 keep:Keeps h N st.h (N+1)
 row:st.h.get N=some (.cells (Go.Mx.dg o) 217 true)
 len:o.length=(wds x).length+(wds y).length
 dg:Dg o
 zero:∀t,i+(wds y).length≤t→t<o.length→o[t]?=some 0
 ex:val B o=val B ((wds x).take i)*y
def Ypw(h:T O)(N x y m:Nat)(r:T V)(st:St):Prop:=∃i o,m=(wds x).length-i∧Ynq h N x y i o r st
def Ypx(h:T O)(N x y:Nat)(r:T V)(st:St):Prop:=∃o,Ynq h N x y (wds x).length o r st
def Ztn{h:T O}{N:Nat}{vx vy:V}{x y:Nat}(hx:Wn h N vx x)(hy:Wn h N vy y)(hxl:(wds x).length<1099511627776)(hyl:(wds y).length<1099511627776):Fn A.C 214 [vx,vy] h N (fun v' h' N'=>Wn h' N' v' (x*y)):=by
 intro w
 have lx:=hx.len
 have ly:=hy.len
 rw[Zab]at lx ly
 rw[Zaf,A.k214 (by simp)]
 simp(disch:=first|(simp;done)|omega|(simp only[Zab,Zaa,Yrr];omega)|rfl) [-getElem?_pos,A.b214,lx,ly]
 refine Zak [(6,13),(22,77)] (fun e r st=>e=.exit 0∧Ypx h N x y r st) (Ypw h N x y) (wds x).length ?_ ?_ ?_
 ·refine⟨0,List.replicate ((wds x).length+(wds y).length) 0,by omega,⟨by omega,by simp,by simp,by simp,Keeps.refl.set (Yru _) |>.up (by omega),?_,by simp,?_,?_,by simp[val,Zqg]⟩⟩
  ·simp[Zgj]
  ·intro d hd
   rw[Yu5]at hd
   rw[hd.2];decide
  ·intro t _ ht
   simp at ht
   simp[ht]
 ·rintro m r ⟨H,n1,W⟩ hr hf ⟨i,o,rfl,hi,h22,hn,hW,hK,hN,ho,hd,hz,he⟩
  simp only at hn hW hK hN
  subst hn
  rw[Zai]
  by_cases hlt:i<(wds x).length
  ·obtain⟨i1,o1,c1,e1,w1,p1,p2,p3,p4⟩:=hx.at (Za9 (Yrx hlt))
   have p3:=(hK.get _ p2).trans p3
   have gx:=Yrx hlt
   generalize (wds x)[i]=xi at*
   simp(disch:=first|(simp;done)|omega|(simp only[Zab,Zaa,Yrr];omega)|rfl) [-getElem?_pos,A.lb214_1,hr,h22,hlt,lx,ly,p1,p3,p4]
   refine Zak [(8,13),(29,69)] (fun e r st=>e=.exit 2∧Yrn h N x y i xi r st) (Yrm h N x y i xi) (wds y).length ?_ ?_ ?_
   ·exact⟨0,o,0,by omega,⟨by omega,by simp,by simp,rfl,hW,hK,hN,ho,hd,hz,by decide,by simp[val,he]⟩⟩
   ·rintro m r2 ⟨H2,n2,W2⟩ hr2 hf2 ⟨j,o2,c,rfl,hj,h29,h8,hn2,hW2,hK2,hN2,ho2,hd2,hz2,hc2,he2⟩
    simp only at hn2 hW2 hK2 hN2
    subst hn2
    rw[Zai]
    have hi:xi<B:=(Zdh x).get gx
    by_cases hlt2:j<(wds y).length
    ·obtain⟨i2,o3,c3,e3,w3,q1,q2,q3,q4⟩:=hy.at (Za9 (Yrx hlt2))
     have q3:=(hK2.get _ q2).trans q3
     have gy:=Yrx hlt2
     generalize (wds y)[j]=yj at*
     have hyj:yj<B:=(Zdh y).get gy
     have go:=Yrx (l:=o2) (i:=i+j) (by omega)
     generalize o2[i+j]'(by omega)=ov at*
     simp(disch:=first|(simp;done)|omega|(simp only[Zab,Zaa,Yrr];omega)|rfl) [-getElem?_pos,A.lb214_0,hr,hr2,h29,h8,hlt2,lx,ly,q1,q3,q4,hf2]
     refine Zac (Zjy hi hyj) ?_
     rintro _ _ _ hk3 ⟨rfl,rfl,rfl⟩
     simp(disch:=first|(simp;done)|omega|(simp only[Zab,Zaa,Yrr];omega)|rfl) [-getElem?_pos,hr,hr2,h29,h8,hlt2,lx,ly,q1,q3,q4,hf2,hN2,Za9 go,Zcx]
     obtain⟨m1,m2,m3⟩:=Yfm hi hyj (hd2.get go) hc2
     refine⟨_,by omega,j+1,o2.set (i+j) (mulNew xi yj ov c),mulCar xi yj ov c,rfl,⟨by omega,by simp,?_,rfl,by simp[hW2],hK2.set (Yru _),?_,by simp[ho2],hd2.set m2,?_,m3,?_⟩⟩
     ·simp[mulCar]
     ·simp[mulNew]
     ·intro t t1 t2
      rw[Yry (by omega)]
      exact hz2 t t1 (by simpa using t2)
     ·have v1:=Zma (b:=B) (v:=mulNew xi yj ov c) go
      rw[Zby gy]
      have e1:B^(i+(j+1))=B^(i+j)*B:=by rw[show i+(j+1)=(i+j)+1 by omega,Ysg]
      have e2:B^i*(xi*(B^j*yj))=B^(i+j)*(xi*yj):=by rw[Ysr];grind
      have e3:B^(i+j)*(mulNew xi yj ov c+B*mulCar xi yj ov c)=B^(i+j)*(xi*yj+ov+c):=by rw[m1]
      rw[e1]
      generalize val B (List.set o2 (i+j) (mulNew xi yj ov c))=z1 at*
      generalize val B o2=z2 at*
      generalize mulNew xi yj ov c=z3 at*
      generalize mulCar xi yj ov c=z4 at*
      generalize val B (List.take j (wds y))=z5 at*
      generalize B^(i+j)=z6 at*
      grind
    ·have:j=(wds y).length:=by omega
     subst this
     simp(disch:=first|(simp;done)|omega|(simp only[Zab,Zaa,Yrr];omega)|rfl) [-getElem?_pos,A.lb214_0,hr,hr2,h29,h8,hf2]
     exact⟨o2,c,⟨by omega,by simp[h29],by simp[h8],rfl,hW2,hK2,hN2,ho2,hd2,hz2,hc2,he2⟩⟩
   ·rintro e r2 ⟨H2,n2,W2⟩ hr2 ⟨rfl,o2,c,hj,h29,h8,hn2,hW2,hK2,hN2,ho2,hd2,hz2,hc2,he2⟩
    simp only at hn2 hW2 hK2 hN2
    subst hn2
    have hf2:=hf.inner (D':=[(8,13),(29,69)]) rfl (by simp) hr2
    simp(disch:=first|(simp;done)|omega|(simp only[Zab,Zaa,Yrr];omega)|rfl) [-getElem?_pos,hr,hr2,h22,h8,ly,hN2,Zcx,hf2]
    have hz0:o2[i+(wds y).length]?=some 0:=hz2 _ (Yru _) (by omega)
    refine⟨_,by omega,i+1,o2.set (i+(wds y).length) c,rfl,⟨by omega,by simp,rfl,by simp[hW2],hK2.set (Yru _),by simp,by simp[ho2],hd2.set hc2,?_,?_⟩⟩
    ·intro t t1 t2
     rw[Yry (by omega)]
     exact hz2 t (by omega) (by simpa using t2)
    ·have v1:=Zma (b:=B) (v:=c) hz0
     rw[Yr2 (Yru _),Zbq]at he2
     rw[Zby gx]
     simp only[Nat.mul_zero,Yty]at v1
     rw[v1,he2]
     grind
  ·have:i=(wds x).length:=by omega
   subst this
   simp(disch:=first|(simp;done)|omega|(simp only[Zab,Zaa,Yrr];omega)|rfl) [-getElem?_pos,A.lb214_1,hr,h22,hf]
   exact⟨o,⟨by omega,by simp[h22],rfl,hW,hK,hN,ho,hd,hz,he⟩⟩
 ·rintro _ r ⟨H,n1,W⟩ hr ⟨rfl,o,hi,h22,hn,hW,hK,hN,ho,hd,hz,he⟩
  simp only at hn hW hK hN
  subst hn
  simp(disch:=first|(simp;done)|omega|(simp only[Zab,Zaa,Yrr];omega)|rfl) [-getElem?_pos,hr,hN]
  refine Zac (Zfy (l:=o) (Sl.row (e:=217) (rw:=true) (by omega) (by simp[hN]) (by simp[ho]) (by simp)) (by simp[ho];omega)) ?_
  intro v' h' n' hk' hs
  simp(disch:=first|(simp;done)|omega|(simp only[Zab,Zaa,Yrr];omega)|rfl) [-getElem?_pos,Ret]
  refine⟨hW,hK.trans hk',?_⟩
  rw[Yr2 (Yru _),Zbq]at he
  rw[Zdi hd,he]at hs
  exact hs
variable {n:Nat}
def Ymv:List UInt8:=[0,1,2,2,3,3,3,3,4,4,4,4,4,4,4,4,5,5,5,5,5,5,5,5,5,5,5,5,5,5,5,5,6,6,6,6,6,6,6,6,6,6,6,6,6,6,6,6,6,6,6,6,6,6,6,6,6,6,6,6,6,6,6,6,7,7,7,7,7,7,7,7,7,7,7,7,7,7,7,7,7,7,7,7,7,7,7,7,7,7,7,7,7,7,7,7,7,7,7,7,7,7,7,7,7,7,7,7,7,7,7,7,7,7,7,7,7,7,7,7,7,7,7,7,7,7,7,7,8,8,8,8,8,8,8,8,8,8,8,8,8,8,8,8,8,8,8,8,8,8,8,8,8,8,8,8,8,8,8,8,8,8,8,8,8,8,8,8,8,8,8,8,8,8,8,8,8,8,8,8,8,8,8,8,8,8,8,8,8,8,8,8,8,8,8,8,8,8,8,8,8,8,8,8,8,8,8,8,8,8,8,8,8,8,8,8,8,8,8,8,8,8,8,8,8,8,8,8,8,8,8,8,8,8,8,8,8,8,8,8,8,8,8,8,8,8,8,8,8,8,8,8,8,8,8,8]
def A.b273:Zaw:=sr [mc 2 0]
 (.seq (sr [mv 3 0,ge 4 (.bin .geq (.node []) false (tq 3) (.const (.int .u64 4294967296)))]
 (cd 4
 (sr [mv 5 0,ge 6 (.bin .shr (.node []) false (tq 5) (.const (.int .u64 32))),mv 0 6]
 (.reg [mc 2 32]))
 (.skip)))
 (.seq (sr [mv 7 0,ge 8 (.bin .geq (.node []) false (tq 7) (.const (.int .u64 65536)))]
 (cd 8
 (sr [mv 9 0,ge 10 (.bin .shr (.node []) false (tq 9) (.const (.int .u64 16))),mv 0 10]
 (.reg [mv 11 2,bc 12 .add 11 16,mv 2 12]))
 (.skip)))
 (.seq (sr [mv 13 0,ge 14 (.bin .geq (.node []) false (tq 13) (.const (.int .u64 256)))]
 (cd 14
 (sr [mv 15 0,ge 16 (.bin .shr (.node []) false (tq 15) (.const (.int .u64 8))),mv 0 16]
 (.reg [mv 17 2,bc 18 .add 17 8,mv 2 18]))
 (.skip)))
 (sr [mv 19 2,mv 20 0,ge 21 (.convInt .u8 (tq 20)),ge 22 (.idxStr (.const (.str Ymv)) (tq 21)),ge 23 (.convInt .i64 (tq 22)),bi 24 .add 19 23,mv 2 24]
 (.ret)))))
def A.k273:=@A.kk 273 25 [.tmp 2] A.b273 (by kernel_rfl) rfl
def A.b251:=A.q Tryz.f251
def A.k251:=@A.kk 251 6 [.tmp 2] A.b251 (by kernel_rfl) rfl
def blen(n:Nat):Nat:=if n=0 then 0 else Nat.log2 n+1
def Zp6(n:Nat):n<2^blen n:=by
 unfold blen
 split
 ·simp[*]
 ·exact Nat.lt_log2_self
def Zk1(h:n≠0):2^(blen n-1)≤n:=by
 unfold blen
 rw[Yrt h]
 exact Nat.log2_self_le h
def Yle{k:Nat}(h1:2^k≤n)(h2:n<2^(k+1)):blen n=k+1:=by
 have hn:n≠0:=by have:=Ys7 k;omega
 unfold blen
 rw[Yrt hn]
 congr 1
 have h3:Nat.log2 n<k+1:=(Nat.log2_lt hn).2 h2
 have h4:k≤Nat.log2 n:=(Nat.le_log2 hn).2 h1
 omega
def Zc1{k:Nat}(h:2^k≤n):blen (shr64 n k)+k=blen n:=by
 unfold shr64
 have h0:n/2^k≠0:=by
  have:=Nat.div_pos h (Ys7 k);omega
 have h1:=Zp6 (n/2^k)
 have h2:=Zk1 h0
 have hp:0<blen (n/2^k):=by unfold blen;rw[Yrt h0];omega
 have e:blen (n/2^k)+k=(blen (n/2^k)-1+k)+1:=by omega
 rw[e]
 symm
 apply Yle
 ·rw[Ysr]
  exact Ytp (Ysb _ h2) (Nat.div_mul_le_self n _)
 ·rw[show blen (n/2^k)-1+k+1=blen (n/2^k)+k by omega,Ysr]
  exact(Ysm (Ys7 k)).1 h1
def Yhs:∀{n:Nat},n<256→Ymv[n]?=some (UInt8.ofNat (blen n)):=by decide+kernel
def Zp7:∀{n:Nat},n<256→blen n<9:=by decide+kernel
def Zgw(h:n<256):u8I (UInt8.ofNat (blen n))=(blen n:Int):=by
 have:=Zp7 h
 unfold u8I
 simp;omega
def Zpu{h:T O}{N:Nat}{x:Nat}(hx:x<18446744073709551616):Fn A.C 273 [.int .u64 x] h N (fun v' h' N'=>h'=h∧N'=N∧v'=.int .i64 (blen x:Nat)):=by
 intro w
 rw[Zaf,A.k273 (by simp)]
 by_cases h0:4294967296≤x
 ·have h0':(4294967296:Int)≤((x:Nat):Int):=by omega
  by_cases h1:65536≤shr64 (x) 32
  ·have h1':(65536:Int)≤((shr64 (x) 32:Nat):Int):=by omega
   by_cases h2:256≤shr64 (shr64 (x) 32) 16
   ·have h2':(256:Int)≤((shr64 (shr64 (x) 32) 16:Nat):Int):=by omega
    have hb:shr64 (shr64 (shr64 (x) 32) 16) 8<256:=by (try simp only[shr64]at*);omega
    have ht:=Yhs hb
    have hv:u8I (UInt8.ofNat (blen (shr64 (shr64 (shr64 (x) 32) 16) 8)))=(blen (shr64 (shr64 (shr64 (x) 32) 16) 8):Int):=Zgw hb
    have hl:=Zp7 hb
    simp(disch:=first|(simp;done)|omega|(simp only[Zab,Zaa,Yrr];omega)|rfl) [-getElem?_pos,A.b273,h0',h1',h2',Zd6,ht,hv,Ret]
    have:=Zc1 (k:=32) (n:=x) h0
    have:=Zc1 (k:=16) (n:=shr64 (x) 32) h1
    have:=Zc1 (k:=8) (n:=shr64 (shr64 (x) 32) 16) h2
    first|exact Keeps.refl|exact And.intro Keeps.refl (by omega)
   ·have h2':¬(256:Int)≤((shr64 (shr64 (x) 32) 16:Nat):Int):=by omega
    have hb:shr64 (shr64 (x) 32) 16<256:=by (try simp only[shr64]at*);omega
    have ht:=Yhs hb
    have hv:u8I (UInt8.ofNat (blen (shr64 (shr64 (x) 32) 16)))=(blen (shr64 (shr64 (x) 32) 16):Int):=Zgw hb
    have hl:=Zp7 hb
    simp(disch:=first|(simp;done)|omega|(simp only[Zab,Zaa,Yrr];omega)|rfl) [-getElem?_pos,A.b273,h0',h1',h2',Zd6,ht,hv,Ret]
    have:=Zc1 (k:=32) (n:=x) h0
    have:=Zc1 (k:=16) (n:=shr64 (x) 32) h1
    first|exact Keeps.refl|exact And.intro Keeps.refl (by omega)
  ·have h1':¬(65536:Int)≤((shr64 (x) 32:Nat):Int):=by omega
   by_cases h2:256≤shr64 (x) 32
   ·have h2':(256:Int)≤((shr64 (x) 32:Nat):Int):=by omega
    have hb:shr64 (shr64 (x) 32) 8<256:=by (try simp only[shr64]at*);omega
    have ht:=Yhs hb
    have hv:u8I (UInt8.ofNat (blen (shr64 (shr64 (x) 32) 8)))=(blen (shr64 (shr64 (x) 32) 8):Int):=Zgw hb
    have hl:=Zp7 hb
    simp(disch:=first|(simp;done)|omega|(simp only[Zab,Zaa,Yrr];omega)|rfl) [-getElem?_pos,A.b273,h0',h1',h2',Zd6,ht,hv,Ret]
    have:=Zc1 (k:=32) (n:=x) h0
    have:=Zc1 (k:=8) (n:=shr64 (x) 32) h2
    first|exact Keeps.refl|exact And.intro Keeps.refl (by omega)
   ·have h2':¬(256:Int)≤((shr64 (x) 32:Nat):Int):=by omega
    have hb:shr64 (x) 32<256:=by (try simp only[shr64]at*);omega
    have ht:=Yhs hb
    have hv:u8I (UInt8.ofNat (blen (shr64 (x) 32)))=(blen (shr64 (x) 32):Int):=Zgw hb
    have hl:=Zp7 hb
    simp(disch:=first|(simp;done)|omega|(simp only[Zab,Zaa,Yrr];omega)|rfl) [-getElem?_pos,A.b273,h0',h1',h2',Zd6,ht,hv,Ret]
    have:=Zc1 (k:=32) (n:=x) h0
    first|exact Keeps.refl|exact And.intro Keeps.refl (by omega)
 ·have h0':¬(4294967296:Int)≤((x:Nat):Int):=by omega
  by_cases h1:65536≤x
  ·have h1':(65536:Int)≤((x:Nat):Int):=by omega
   by_cases h2:256≤shr64 (x) 16
   ·have h2':(256:Int)≤((shr64 (x) 16:Nat):Int):=by omega
    have hb:shr64 (shr64 (x) 16) 8<256:=by (try simp only[shr64]at*);omega
    have ht:=Yhs hb
    have hv:u8I (UInt8.ofNat (blen (shr64 (shr64 (x) 16) 8)))=(blen (shr64 (shr64 (x) 16) 8):Int):=Zgw hb
    have hl:=Zp7 hb
    simp(disch:=first|(simp;done)|omega|(simp only[Zab,Zaa,Yrr];omega)|rfl) [-getElem?_pos,A.b273,h0',h1',h2',Zd6,ht,hv,Ret]
    have:=Zc1 (k:=16) (n:=x) h1
    have:=Zc1 (k:=8) (n:=shr64 (x) 16) h2
    first|exact Keeps.refl|exact And.intro Keeps.refl (by omega)
   ·have h2':¬(256:Int)≤((shr64 (x) 16:Nat):Int):=by omega
    have hb:shr64 (x) 16<256:=by (try simp only[shr64]at*);omega
    have ht:=Yhs hb
    have hv:u8I (UInt8.ofNat (blen (shr64 (x) 16)))=(blen (shr64 (x) 16):Int):=Zgw hb
    have hl:=Zp7 hb
    simp(disch:=first|(simp;done)|omega|(simp only[Zab,Zaa,Yrr];omega)|rfl) [-getElem?_pos,A.b273,h0',h1',h2',Zd6,ht,hv,Ret]
    have:=Zc1 (k:=16) (n:=x) h1
    first|exact Keeps.refl|exact And.intro Keeps.refl (by omega)
  ·have h1':¬(65536:Int)≤((x:Nat):Int):=by omega
   by_cases h2:256≤x
   ·have h2':(256:Int)≤((x:Nat):Int):=by omega
    have hb:shr64 (x) 8<256:=by (try simp only[shr64]at*);omega
    have ht:=Yhs hb
    have hv:u8I (UInt8.ofNat (blen (shr64 (x) 8)))=(blen (shr64 (x) 8):Int):=Zgw hb
    have hl:=Zp7 hb
    simp(disch:=first|(simp;done)|omega|(simp only[Zab,Zaa,Yrr];omega)|rfl) [-getElem?_pos,A.b273,h0',h1',h2',Zd6,ht,hv,Ret]
    have:=Zc1 (k:=8) (n:=x) h2
    first|exact Keeps.refl|exact And.intro Keeps.refl (by omega)
   ·have h2':¬(256:Int)≤((x:Nat):Int):=by omega
    have hb:x<256:=by (try simp only[shr64]at*);omega
    have ht:=Yhs hb
    have hv:u8I (UInt8.ofNat (blen (x)))=(blen (x):Int):=Zgw hb
    have hl:=Zp7 hb
    simp(disch:=first|(simp;done)|omega|(simp only[Zab,Zaa,Yrr];omega)|rfl) [-getElem?_pos,A.b273,h0',h1',h2',Zd6,ht,hv,Ret]
    first|exact Keeps.refl|exact And.intro Keeps.refl (by omega)
def Ybv{h:T O}{N:Nat}{x:Nat}(hx:x<18446744073709551616):Fn A.C 251 [.int .u64 x] h N (fun v' h' N'=>h'=h∧N'=N∧v'=.int .i64 ((64-blen x:Nat))):=by
 intro w
 have hl:blen x≤64:=by
  by_cases h0:x=0
  ·subst h0;decide
  ·apply Ytr
   intro hc
   have:=Zk1 h0
   have:2^64≤2^(blen x-1):=Ysu (by decide) (by omega)
   omega
 rw[Zaf,A.k251 (by simp)]
 simp(disch:=first|(simp;done)|omega|(simp only[Zab,Zaa,Yrr];omega)|rfl) [-getElem?_pos,A.b251]
 refine Zac (Zpu hx) ?_
 rintro _ _ _ hk ⟨rfl,rfl,rfl⟩
 simp(disch:=first|(simp;done)|omega|(simp only[Zab,Zaa,Yrr];omega)|rfl) [-getElem?_pos,Ret]
 exact⟨hk,by omega⟩
variable {s x:Nat}
def A.w252:=A.q Tryz.f252
def A.lb252_0:=A.ql A.w252 0 []
def A.b252:=(fun x0=>A.qb A.w252 [x0]) A.lb252_0
def A.k252:=@A.kk 252 40 [.tmp 4] A.b252 (by kernel_rfl) rfl
def Zvh{c:Nat}(hs:s<64)(hc:c<2^s):or64 c (shl64 x s)=c+shl64 x s:=by
 unfold or64 shl64
 have e:x*2^s%18446744073709551616=(x%2^(64-s))<<<s:=by
  rw[Nat.shiftLeft_eq]
  have:(18446744073709551616:Nat)=2^(64-s)*2^s:=by rw[←Ysr,show 64-s+s=64 by omega]
  rw[this,Yu7]
 rw[e,Nat.or_comm,Nat.add_comm,Nat.shiftLeft_add_eq_or_of_lt hc]
def Zzz(hs:s≤64):shl64 x s+B*shr64 x (64-s)=x*2^s:=by
 unfold shl64 shr64
 have e:x/2^(64-s)=x*2^s/18446744073709551616:=by
  have:(18446744073709551616:Nat)=2^(64-s)*2^s:=by rw[←Ysr,show 64-s+s=64 by omega]
  rw[this,Yvm _ _ (Ys7 s)]
 rw[e]
 have:=Ytc (x*2^s) 18446744073709551616
 unfold B
 omega
def Yhg(hx:x<B)(hs:s≤64):shr64 x (64-s)<2^s:=by
 unfold shr64
 apply (Ysm (Ys7 _)).2
 rw[←Ysr,show s+(64-s)=64 by omega]
 exact hx
def Zoh{c:Nat}(hs:s<64)(hc:c<2^s):c+shl64 x s<B:=by
 rw[←Zvh hs hc]
 unfold or64
 apply Nat.or_lt_two_pow (n:=64)
 ·exact Nat.lt_trans hc (Nat.pow_lt_pow_right (by decide) hs)
 ·exact Zpg
structure ShJ (h:T O) (N:Nat) (l:List Nat) (s k:Nat) (o:List Nat) (c:Nat) (r:T V) (st:St):Prop where
 hk:k≤l.length
 r14:r.get 14=some (.int .i64 k)
 n:st.n=N+1
 w:Zae N st.w=[]
 keep:Keeps h N st.h (N+1)
 row:st.h.get N=some (.cells (dg o) 217 true)
 len:o.length=l.length+1
 dg:Dg o
 zero:∀t,k<t→t<o.length→o[t]?=some 0
 top:o[k]?=some c
 lc:c<2^s
 ex:val B o=val B (l.take k)*2^s
def ShI(h:T O)(N:Nat)(l:List Nat)(s m:Nat)(r:T V)(st:St):Prop:=∃k o c,m=l.length-k∧ShJ h N l s k o c r st
def ShE(h:T O)(N:Nat)(l:List Nat)(s:Nat)(r:T V)(st:St):Prop:=∃o c,ShJ h N l s l.length o c r st
def Zoj{h:T O}{N:Nat}{v:V}{l:List Nat}(hv:Sl h N v (Go.Mx.dg l))(hd:Dg l)(hs:s<64)(hl:l.length<1099511627776):Fn A.C 252 [v,.int .i64 s] h N (fun v' h' N'=>∃i o,N≤i∧i<N'∧v'=.slice i 0 (l.length+1) (some (l.length+1)) 1∧h'.get i=some (.cells (dg o) 217 true)∧o.length=l.length+1∧Dg o∧val B o=val B l*2^s):=by
 intro w
 have lx:=hv.len
 rw[Zab]at lx
 rw[Zaf,A.k252 (by simp)]
 simp(disch:=first|(simp;done)|omega|(simp only[Zab,Zaa,Yrr];omega)|rfl) [-getElem?_pos,A.b252,lx]
 refine Zak [(6,7),(14,38)] (fun e r st=>e=.exit 0∧ShE h N l s r st) (ShI h N l s) l.length ?_ ?_ ?_
 ·refine⟨0,List.replicate (l.length+1) 0,0,by omega,⟨by omega,by simp,by simp,by simp,Keeps.refl.set (Yru _) |>.up (by omega),by simp[Zgj],by simp,?_,?_,by simp,Ys7 s,by simp[val,Zqg]⟩⟩
  ·intro d hd
   rw[Yu5]at hd
   rw[hd.2];decide
  ·intro t _ ht
   simp at ht
   simp[ht]
 ·rintro m r ⟨H,n1,W⟩ hr hf ⟨k,o,c,rfl,hk,h14,hn,hW,hK,hN,ho,hdo,hz,hc,hlc,he⟩
  simp only at hn hW hK hN
  subst hn
  rw[Zai]
  by_cases hlt:k<l.length
  ·obtain⟨i1,o1,c1,e1,w1,p1,p2,p3,p4⟩:=hv.at (Za9 (Yrx hlt))
   have p3:=(hK.get _ p2).trans p3
   have gx:=Yrx hlt
   generalize l[k]=x at*
   have hx:x<B:=hd.get gx
   have hcB:c<18446744073709551616:=hdo.get hc
   have hsum:=Zvh (x:=x) hs hlc
   have hlt2:=Zoh (x:=x) hs hlc
   obtain⟨z,hzz⟩:∃z,c+shl64 x s=z:=⟨_,rfl⟩
   rw[hzz]at hsum hlt2
   have hlen1:(o.set k z).length=l.length+1:=by simp[ho]
   have hss:=Zzz (x:=x) (s:=s) (by omega)
   have hsl:=Yhg hx (s:=s) (by omega)
   have v1:=Zma (b:=B) (v:=z) hc
   have hz1:(o.set k z)[k+1]?=some 0:=by
    rw[Yry (by omega)];exact hz _ (by omega) (by omega)
   have v2:=Zma (b:=B) (v:=shr64 x (64-s)) hz1
   by_cases h0:0<s
   ·have h0':(0:Int)<(s:Int):=by omega
    simp(disch:=first|(simp;done)|omega|(simp only[Zab,Zaa,Yrr];omega)|rfl) [-getElem?_pos,A.lb252_0,hr,h14,hlt,lx,p1,p3,p4,hN,Za9 hc,hsum,Zcx,h0,hf]
    refine⟨_,by omega,k+1,(o.set k z).set (k+1) (shr64 x (64-s)),shr64 x (64-s),rfl,⟨by omega,by simp,rfl,by simp[hW],(hK.set (Yru _)).set (Yru _),by simp,by simp[ho],(hdo.set hlt2).set (Yr5 hsl (Ysu (by decide) (by omega):2^s≤2^64)),?_,Ysf (by omega),hsl,?_⟩⟩
    ·intro t t1 t2
     rw[Yry (by omega),Yry (by omega)]
     exact hz t (by omega) (by simpa using t2)
    ·rw[Zby gx,Ysv,←he]
     rw[←hzz]at v1 v2 ⊢
     have e3:B^k*(shl64 x s+B*shr64 x (64-s))=B^k*(x*2^s):=by rw[hss]
     rw[Ysg]at v2
     generalize val B ((o.set k (c+shl64 x s)).set (k+1) (shr64 x (64-s)))=z1 at*
     generalize val B (o.set k (c+shl64 x s))=z2 at*
     generalize val B o=z3 at*
     generalize shl64 x s=z4 at*
     generalize shr64 x (64-s)=z5 at*
     generalize B^k=z6 at*
     grind
   ·have h0':¬(0:Int)<(s:Int):=by omega
    simp(disch:=first|(simp;done)|omega|(simp only[Zab,Zaa,Yrr];omega)|rfl) [-getElem?_pos,A.lb252_0,hr,h14,hlt,lx,p1,p3,p4,hN,Za9 hc,hsum,Zcx,h0,hf]
    have hs0:s=0:=by omega
    subst hs0
    have hc0:c=0:=by simpa using hlc
    subst hc0
    have e0:shl64 x 0=x:=by unfold shl64;unfold B at hx;simp;omega
    have hzx:z=x:=by rw[←hzz,e0];omega
    subst hzx
    refine⟨_,by omega,k+1,o.set k z,0,rfl,⟨by omega,by simp,rfl,by simp[hW],hK.set (Yru _),by simp,by simp[ho],hdo.set hx,?_,?_,by decide,?_⟩⟩
    ·intro t t1 t2
     rw[Yry (by omega)]
     exact hz t (by omega) (by simpa using t2)
    ·rw[Yry (by omega)];exact hz _ (by omega) (by omega)
    ·rw[Zby gx,Ysv,←he]
     simpa using v1
  ·have:k=l.length:=by omega
   subst this
   simp(disch:=first|(simp;done)|omega|(simp only[Zab,Zaa,Yrr];omega)|rfl) [-getElem?_pos,A.lb252_0,hr,h14,hf]
   exact⟨o,c,⟨by omega,by simp[h14],rfl,hW,hK,hN,ho,hdo,hz,hc,hlc,he⟩⟩
 ·rintro _ r ⟨H,n1,W⟩ hr ⟨rfl,o,c,hk,h14,hn,hW,hK,hN,ho,hdo,hz,hc,hlc,he⟩
  simp only at hn hW hK hN
  subst hn
  simp(disch:=first|(simp;done)|omega|(simp only[Zab,Zaa,Yrr];omega)|rfl) [-getElem?_pos,hr,hN,Ret]
  rw[Yr2 (Yru _)]at he
  exact⟨hW,hK,N,Yru _,by omega,rfl,o,hN,ho,hdo,he⟩
open Go
variable {b r:Nat}
def Zl1{u un yn1 yn0 q:Nat}(hi:u=q*yn1+r)(hc:q*yn0≤b*r+un):q*(yn1*b+yn0)≤u*b+un:=by
 subst hi
 rw[Ys8,Ysv,←Yt3,Ysk r b]
 omega
def Zwc{u un yn1 yn0 q:Nat}(hi:u=q*yn1+r)(hc:b*r+un<q*yn0):u*b+un<q*(yn1*b+yn0):=by
 subst hi
 rw[Ys8,Ysv,←Yt3,Ysk r b]
 omega
def Zrw{a y q:Nat}(h:a<q*y):a/y<q:=by
 rcases Yu4 y with rfl|hy
 ·simp at h
 ·exact(Ysm hy).2 h
def Zfo{a y q:Nat}(hy:0<y)(h:q*y≤a):q≤a/y:=(Yuz hy).2 h
def Ykg{P u1 u2 U' v1 v2 V' s:Nat}(hv1:0<v1)(hV':V'<P)(ht:s≤b)(hinv:u1=(s+1)*v1+r)(hc:(s+1)*v2≤r*b+u2):
  s*(V'+P*(v2+b*v1))≤U'+P*(u2+b*u1):=by
 have h1:s*V'≤b*P:=Ysp ht (by omega)
 have h2:b*P*1≤b*P*v1:=Yr9 _ hv1
 have h3:P*((s+1)*v2)≤P*(r*b+u2):=Yr9 _ hc
 have h4:P*((s+1)*v2)=P*(s*v2)+P*v2:=by grind
 have h5:s*(V'+P*(v2+b*v1))=s*V'+P*(s*v2)+b*(P*(s*v1)):=by grind
 have h6:U'+P*(u2+b*u1)=U'+P*(r*b+u2)+b*(P*(s*v1))+b*P*v1:=by subst hinv;grind
 omega
def Ykf{P u1 u2 U' v1 v2 V' t:Nat}(hU':U'<P)(hinv:u1=t*v1+r)(hc:r*b+u2<t*v2):
  U'+P*(u2+b*u1)<t*(V'+P*(v2+b*v1)):=by
 have h3:P*(r*b+u2+1)≤P*(t*v2):=Yr9 _ hc
 have h5:t*(V'+P*(v2+b*v1))=t*V'+P*(t*v2)+b*(P*(t*v1)):=by grind
 have h6:U'+P*(u2+b*u1)+P=U'+P*(r*b+u2+1)+b*(P*(t*v1)):=by subst hinv;grind
 omega
end
end Go.Mx
