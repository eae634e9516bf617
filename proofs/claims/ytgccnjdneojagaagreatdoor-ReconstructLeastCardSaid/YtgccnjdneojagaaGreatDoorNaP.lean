/-num-/
import Derived.Test.YtgccnjdneojagaaGreatDoorRcJ
set_option linter.all false
set_option maxHeartbeats 4000000
namespace Go.Mx
noncomputable section
open Go Go.Proofs
set_option maxRecDepth 1000000
def A.Qi:=A.q Tryz.f222
def A.me:=A.ql A.Qi 0 []
def A.b222:=(fun x0=>A.qb A.Qi [x0]) A.me
def A.k222:=@A.kk 222 41 [.tmp 4] A.b222 (by kernel_rfl) rfl
def ya(x y:Int):Int:=if x<y then -1 else if y<x then 1 else 0
def Yp2{x y:Nat}(h:(aJ x).length<(aJ y).length):x<y:=by apply vC;intro hc;have:=Hk hc;omega
def Vd{b:Nat}{l:List Nat}{k d:Nat}(h:l[k]?=some d):val b (l.drop k)=d+b*val b (l.drop (k+1)):=by
 have hk:k<l.length:=by apply vC;intro hc;rw[fy hc]at h;cases h
 rw[IZ hk];rw[ct hk]at h;simp only[au]at h;rw[h];rfl
def Zun(b:Nat)(l:List Nat)(k:Nat)(hk:k<=l.length):val b l=val b (l.take k)+b^k*val b (l.drop k):=by have:=UQ b (l.take k) (l.drop k);rw[Df,ik,ry hk]at this;exact this
def Ypa{x y:List Nat}{k:Nat}(gx:Dg x)(hx:k<=x.length)(hy:k<=y.length)(h:val B (x.drop k)<val B (y.drop k)):val B x<val B y:=by
 rw[Zun B x k hx,Zun B y k hy];have h1:val B (x.take k)<B^k:=by have:=Hf (b:=B) (l:=x.take k) fun d hd=>gx d (wy hd);rwa [ik,ry hx]at this
 have h2:B^k*(val B (x.drop k)+1)<=B^k*val B (y.drop k):=lF _ h;rw[vF]at h2;omega
structure Xbk (h:T O) (N x y m:Nat) (r:T V) (st:St):Prop where
 hm:m<=(aJ x).length
 r5:r.get 5=some (.int .i64 ((m:Int)-1))
 n:st.n=N
 w:st.w=[]
 ad:ab h N st.h N
 top:(aJ x).drop m=(aJ y).drop m
def Zi9{h:T O}{N:Nat}{vx vy:V}{x y:Nat}(hx:Wn h N vx x)(hy:Wn h N vy y)(rM:(aJ x).length<1099511627776)(O3:(aJ y).length<1099511627776):Fn A.C 222 [vx,vy] h N (fun v' h' N'=>v'=.int .i64 (ya x y)):=by
 intro w;have lx:=hx.len;have ly:=hy.len;rw[bz]at lx ly;rw[aQ,A.k222 (by simp)];by_cases aZ:(aJ x).length=(aJ y).length
 ·have zaE:((aJ x).length:Int)=((aJ y).length:Int):=by omega
  simp(disch:=omega) [A.b222,lx,ly,aZ];refine b_ [(4,5),(19,40)] (fun e r st=>(e=.exit 0/\Xbk h N x y 0 r st)\/(e=.ret/\r.get 4=some (.int .i64 (ya x y))/\st.n=N/\st.w=[]/\ab h N st.h N)) (Xbk h N x y) (aJ x).length ?_ ?_ ?_
  ·exact⟨by omega,by simp[aZ],rfl,rfl,ab.refl,by rw[qZ,aZ,qZ]⟩
  ·rintro m r ⟨H,n1,W⟩ hr hf ⟨hm,h5,hn,hW,hK,ht⟩;simp only at hn hW hK;subst hn;subst hW;rw[bu];cases m with
   |zero=> simp[A.me,h5,hf];exact⟨by omega,by simp[h5],rfl,rfl,hK,ht⟩
   |succ m=>
    have cU:m<(aJ x).length:=by omega
    have hmy:m<(aJ y).length:=by omega
    have h5':r.get 5=some (.int .i64 (m:Int)):=by rw[h5];congr 2;omega
    have gx:=ct cU;have gy:=ct hmy;obtain⟨i1,o1,c1,e1,w1,p1,p2,p3,p4⟩:=hx.at (fZ gx);have p3:=(hK.get _ p2).trans p3;obtain⟨i2,o2,c2,e2,w2,q1,q2,q3,q4⟩:=hy.at (fZ gy);have q3:=(hK.get _ q2).trans q3;rcases Nat.lt_trichotomy (aJ x)[m] (aJ y)[m]with aE|heq|Mp
    ·have fb:x<y:=by have:=Ypa (x:=aJ x) (y:=aJ y) (k:=m) (tK x) (by omega) (by omega) (by rw[Vd gx,Vd gy,ht];omega);rwa [oO,oO]at this
     have np:¬(aJ x)[m]=(aJ y)[m]:=by omega
     simp(disch:=first|(simp;done)|omega|(simp only[bz,cm,bl];omega)|rfl) [A.me,h5',hr,hf,lx,ly,p1,p2,p3,p4,q1,q2,q3,q4,bA,np,aE];exact⟨by simp[ya,fb],hK⟩
    ·have Qg:(aJ x).drop m=(aJ y).drop m:=by rw[IZ cU,IZ hmy,ht,heq]
     simp(disch:=first|(simp;done)|omega|(simp only[bz,cm,bl];omega)|rfl) [A.me,h5',hr,hf,lx,ly,p1,p2,p3,p4,q1,q2,q3,q4,bA,heq];exact⟨m,by omega,⟨by omega,by simp,rfl,rfl,hK,Qg⟩⟩
    have fb:y<x:=by have:=Ypa (x:=aJ y) (y:=aJ x) (k:=m) (tK y) (by omega) (by omega) (by rw[Vd gx,Vd gy,ht];omega);rwa [oO,oO]at this
    have np:¬(aJ x)[m]=(aJ y)[m]:=by omega
    have aE:¬(aJ x)[m]<(aJ y)[m]:=by omega
    have Ce:¬x<y:=by omega
    simp(disch:=first|(simp;done)|omega|(simp only[bz,cm,bl];omega)|rfl) [A.me,h5',hr,hf,lx,ly,p1,p2,p3,p4,q1,q2,q3,q4,bA,np,aE];exact⟨by simp[ya,fb,Ce],hK⟩
  rintro e r ⟨H,n1,W⟩ hr (⟨rfl,hm,h5,hn,hW,hK,ht⟩|⟨rfl,h4,hn,hW,hK⟩)
  ·simp only at hn hW hK;subst hn;subst hW;simp only[BB]at ht;have:x=y:=by rw[<-oO x,ht,oO]
   subst this;simp[az];exact⟨hK,by simp[ya]⟩
  simp only at hn hW hK;subst hn;subst hW;simp[h4,az];exact hK
 have zaE:¬((aJ x).length:Int)=((aJ y).length:Int):=by omega
 by_cases aE:(aJ x).length<(aJ y).length
 ·have:=Yp2 aE;simp[A.b222,lx,ly,aZ,aE,az];exact⟨ab.refl,by simp[ya,this]⟩
 have h1:=Yp2 (x:=y) (y:=x) (by omega);have h2:¬x<y:=by omega
 simp[A.b222,lx,ly,aZ,aE,az];exact⟨ab.refl,by simp[ya,h1,h2]⟩
def A.J9:=A.q Tryz.f207
def A.tM:=A.ql A.J9 1 []
def A.tN:=(fun x0=>A.ql A.J9 0 [x0]) A.tM
def A.b207:=(fun x0=>A.qb A.J9 [x0]) A.tN
def A.k207:=@A.kk 207 80 [.tmp 4] A.b207 (by kernel_rfl) rfl
def Qj{b:Nat}:∀{l:List Nat} {k old v:Nat},l[k]?=some old->val b (l.set k v)+b^k*old=val b l+b^k*v
 |[],k,old,v,h=>by simp at h
 |d::l,0,old,v,h=>by simp at h;subst h;simp[val];omega
 |d::l,k+1,old,v,h=>by
  have ih:=Qj (b:=b) (l:=l) (k:=k) (old:=old) (v:=v) (by simpa using h)
  simp only[List.set_cons_succ,val,im]
  generalize val b (l.set k v)=p at*
  generalize val b l=q at*
  generalize b^k=z at*
  have:b*(p+z*old)=b*(q+z*v):=by rw[ih]
  grind
def Dg.set{l:List Nat}(h:Dg l){k v:Nat}(hv:v<B):Dg (l.set k v):=by
 intro d hd;rcases FU hd with hd|hd
 ·exact h d hd
 subst hd;exact hv
def gW(x y o c:Nat):Nat:=bC (bC (bC (x*y)+o)+c)
def kp(x y o c:Nat):Nat:=cQ (cQ (cE (x*y)) (cE (bC (x*y)+o))) (cE (bC (bC (x*y)+o)+c))
def Ymo{x y o c:Nat}(hx:x<B)(hy:y<B)(ho:o<B)(hc:c<B):gW x y o c+B*kp x y o c=x*y+o+c/\gW x y o c<B/\kp x y o c<B:=by have:x*y<=18446744073709551615*18446744073709551615:=mI (by unfold B at*;omega) (by unfold B at*;omega);unfold gW kp bC cE cQ;unfold B at*;generalize x*y=p at*;omega
structure Xbj (h:T O) (N x y i j:Nat) (o:List Nat) (c xi:Nat) (r:T V) (st:St):Prop where
 hj:j<=(aJ y).length
 r29:r.get 29=some (.int .i64 j)
 r8:r.get 8=some (.int .u64 c)
 n:st.n=N+1
 w:ay N st.w=[]
 ad:ab h N st.h (N+1)
 row:st.h.get N=some (.cells (dg o) 199 true)
 len:o.length=(aJ x).length+(aJ y).length
 dg:Dg o
 zero:∀t,i+(aJ y).length<=t->t<o.length->o[t]?=some 0
 lc:c<B
 ex:val B o+B^(i+j)*c=val B ((aJ x).take i)*y+B^i*(xi*val B ((aJ y).take j))
def Xc1(h:T O)(N x y i xi m:Nat)(r:T V)(st:St):Prop:=∃j o c,m=(aJ y).length-j/\Xbj h N x y i j o c xi r st
def Xc2(h:T O)(N x y i xi:Nat)(r:T V)(st:St):Prop:=∃o c,Xbj h N x y i (aJ y).length o c xi r st
structure Yy3 (h:T O) (N x y i:Nat) (o:List Nat) (r:T V) (st:St):Prop where
 hi:i<=(aJ x).length
 r22:r.get 22=some (.int .i64 i)
 n:st.n=N+1
 w:ay N st.w=[]
 ad:ab h N st.h (N+1)
 row:st.h.get N=some (.cells (Go.Mx.dg o) 199 true)
 len:o.length=(aJ x).length+(aJ y).length
 dg:Dg o
 zero:∀t,i+(aJ y).length<=t->t<o.length->o[t]?=some 0
 ex:val B o=val B ((aJ x).take i)*y
def Xa7(h:T O)(N x y m:Nat)(r:T V)(st:St):Prop:=∃i o,m=(aJ x).length-i/\Yy3 h N x y i o r st
def Xa8(h:T O)(N x y:Nat)(r:T V)(st:St):Prop:=∃o,Yy3 h N x y (aJ x).length o r st
def Zx6{h:T O}{N:Nat}{vx vy:V}{x y:Nat}(hx:Wn h N vx x)(hy:Wn h N vy y)(rM:(aJ x).length<1099511627776)(O3:(aJ y).length<1099511627776):Fn A.C 207 [vx,vy] h N (fun v' h' N'=>Wn h' N' v' (x*y)):=by
 intro w;have lx:=hx.len;have ly:=hy.len;rw[bz]at lx ly;rw[aQ,A.k207 (by simp)];simp(disch:=first|(simp;done)|omega|(simp only[bz,cm,bl];omega)|rfl) [A.b207,lx,ly];refine b_ [(6,13),(22,77)] (fun e r st=>e=.exit 0/\Xa8 h N x y r st) (Xa7 h N x y) (aJ x).length ?_ ?_ ?_
 ·refine⟨0,List.replicate ((aJ x).length+(aJ y).length) 0,by omega,⟨by omega,by simp,by simp,by simp,ab.refl.set (aM _) |>.up (by omega),?_,by simp,?_,?_,by simp[val,Zum]⟩⟩
  ·simp[JU]
  ·intro d hd;rw[Im]at hd;rw[hd.2];decide
  intro t _ ht;simp at ht;simp[ht]
 ·rintro m r ⟨H,n1,W⟩ hr hf ⟨i,o,rfl,hi,qo,hn,hW,hK,hN,ho,hd,hz,he⟩;simp only at hn hW hK hN;subst hn;rw[bu];by_cases aE:i<(aJ x).length
  ·obtain⟨i1,o1,c1,e1,w1,p1,p2,p3,p4⟩:=hx.at (fZ (ct aE));have p3:=(hK.get _ p2).trans p3;have gx:=ct aE;generalize (aJ x)[i]=xi at*;simp[A.tN,hr,qo,aE,lx,ly,p1,p3,p4];refine b_ [(8,13),(29,69)] (fun e r st=>e=.exit 2/\Xc2 h N x y i xi r st) (Xc1 h N x y i xi) (aJ y).length ?_ ?_ ?_
   ·exact⟨0,o,0,by omega,⟨by omega,by simp,by simp,rfl,hW,hK,hN,ho,hd,hz,by decide,by simp[val,he]⟩⟩
   ·rintro m r2 ⟨H2,n2,W2⟩ dJ ef ⟨j,o2,c,rfl,hj,Qk,h8,fV,fY,qj,yc,zX,ew,eQ,zU,xP⟩;simp only at fV fY qj yc;subst fV;rw[bu];have hi:xi<B:=(tK x).get gx;by_cases fb:j<(aJ y).length
    ·obtain⟨i2,o3,c3,e3,w3,q1,q2,q3,q4⟩:=hy.at (fZ (ct fb));have q3:=(qj.get _ q2).trans q3;have gy:=ct fb;generalize (aJ y)[j]=yj at*;have hyj:yj<B:=(tK y).get gy;have go:=ct (l:=o2) (i:=i+j) (by omega);generalize o2[i+j]'(by omega)=ov at*;simp[A.tM,dJ,Qk,fb,ly,q1,q3,q4];refine ar (Qa hi hyj) ?_;rintro _ _ _ DL ⟨rfl,rfl,rfl⟩;simp(disch:=first|(simp;done)|omega|(simp only[bz,cm,bl];omega)|rfl) [-getElem?_pos,hr,dJ,Qk,h8,fb,lx,ly,q1,q3,q4,ef,yc,fZ go,rF];obtain⟨m1,m2,m3⟩:=Ymo hi hyj (ew.get go) zU;refine⟨_,by omega,j+1,o2.set (i+j) (gW xi yj ov c),kp xi yj ov c,rfl,⟨by omega,by simp,?_,rfl,by simp[fY],qj.set (aM _),?_,by simp[zX],ew.set m2,?_,m3,?_⟩⟩
     ·simp[kp]
     ·simp[gW]
     ·intro t t1 t2;rw[eW (by omega)];exact eQ t t1 (by simpa using t2)
     have v1:=Qj (b:=B) (v:=gW xi yj ov c) go;rw[He gy];have e1:B^(i+(j+1))=B^(i+j)*B:=by rw[show i+(j+1)=(i+j)+1 by omega,im]
     have e2:B^i*(xi*(B^j*yj))=B^(i+j)*(xi*yj):=by rw[mJ];grind
     have e3:B^(i+j)*(gW xi yj ov c+B*kp xi yj ov c)=B^(i+j)*(xi*yj+ov+c):=by rw[m1]
     rw[e1];generalize val B (List.set o2 (i+j) (gW xi yj ov c))=z1 at*;generalize val B o2=z2 at*;generalize gW xi yj ov c=z3 at*;generalize kp xi yj ov c=z4 at*;generalize val B (List.take j (aJ y))=z5 at*;generalize B^(i+j)=z6 at*;grind
    have:j=(aJ y).length:=by omega
    subst this;simp[A.tM,dJ,Qk,ef];exact⟨o2,c,⟨by omega,by simp[Qk],by simp[h8],rfl,fY,qj,yc,zX,ew,eQ,zU,xP⟩⟩
   rintro e r2 ⟨H2,n2,W2⟩ dJ ⟨rfl,o2,c,hj,Qk,h8,fV,fY,qj,yc,zX,ew,eQ,zU,xP⟩;simp only at fV fY qj yc;subst fV;have ef:=hf.inner (D':=[(8,13),(29,69)]) rfl (by simp) dJ;simp(disch:=first|(simp;done)|omega|(simp only[bz,cm,bl];omega)|rfl) [hr,dJ,qo,h8,ly,yc,rF,ef];have pN:o2[i+(aJ y).length]?=some 0:=eQ _ (aM _) (by omega);refine⟨_,by omega,i+1,o2.set (i+(aJ y).length) c,rfl,⟨by omega,by simp,rfl,by simp[fY],qj.set (aM _),by simp,by simp[zX],ew.set zU,?_,?_⟩⟩
   ·intro t t1 t2;rw[eW (by omega)];exact eQ t (by omega) (by simpa using t2)
   have v1:=Qj (b:=B) (v:=c) pN;rw[fU (aM _),oO]at xP;rw[He gx];simp only[Nat.mul_zero,gE]at v1;rw[v1,xP];grind
  have:i=(aJ x).length:=by omega
  subst this;simp[A.tN,hr,qo,hf];exact⟨o,⟨by omega,by simp[qo],rfl,hW,hK,hN,ho,hd,hz,he⟩⟩
 rintro _ r ⟨H,n1,W⟩ hr ⟨rfl,o,hi,qo,hn,hW,hK,hN,ho,hd,hz,he⟩;simp only at hn hW hK hN;subst hn;simp[hr];refine ar (Fo (l:=o) (Sl.row (e:=199) (rw:=true) (by omega) (by simp[hN]) (by simp[ho]) (by simp)) (by simp[ho];omega)) ?_;intro v' h' n' iE hs;simp[az];refine⟨hW,hK.trans iE,?_⟩;rw[fU (aM _),oO]at he;rw[Fk hd,he]at hs;exact hs
variable {n:Nat}
def Yxq:List UInt8:=[0,1,2,2,3,3,3,3,4,4,4,4,4,4,4,4,5,5,5,5,5,5,5,5,5,5,5,5,5,5,5,5,6,6,6,6,6,6,6,6,6,6,6,6,6,6,6,6,6,6,6,6,6,6,6,6,6,6,6,6,6,6,6,6,7,7,7,7,7,7,7,7,7,7,7,7,7,7,7,7,7,7,7,7,7,7,7,7,7,7,7,7,7,7,7,7,7,7,7,7,7,7,7,7,7,7,7,7,7,7,7,7,7,7,7,7,7,7,7,7,7,7,7,7,7,7,7,7,8,8,8,8,8,8,8,8,8,8,8,8,8,8,8,8,8,8,8,8,8,8,8,8,8,8,8,8,8,8,8,8,8,8,8,8,8,8,8,8,8,8,8,8,8,8,8,8,8,8,8,8,8,8,8,8,8,8,8,8,8,8,8,8,8,8,8,8,8,8,8,8,8,8,8,8,8,8,8,8,8,8,8,8,8,8,8,8,8,8,8,8,8,8,8,8,8,8,8,8,8,8,8,8,8,8,8,8,8,8,8,8,8,8,8,8,8,8,8,8,8,8,8,8,8,8,8,8]
def A.b237:cF:=sr [mc 2 0] (.seq (sr [mv 3 0,ge 4 (.bin .geq (.node []) false (tq 3) (.const (.int .u64 4294967296)))] (cd 4 (sr [mv 5 0,ge 6 (.bin .shr (.node []) false (tq 5) (.const (.int .u64 32))),mv 0 6] (.gw [mc 2 32])) (.skip))) (.seq (sr [mv 7 0,ge 8 (.bin .geq (.node []) false (tq 7) (.const (.int .u64 65536)))] (cd 8 (sr [mv 9 0,ge 10 (.bin .shr (.node []) false (tq 9) (.const (.int .u64 16))),mv 0 10] (.gw [mv 11 2,bc 12 .add 11 16,mv 2 12])) (.skip))) (.seq (sr [mv 13 0,ge 14 (.bin .geq (.node []) false (tq 13) (.const (.int .u64 256)))] (cd 14 (sr [mv 15 0,ge 16 (.bin .shr (.node []) false (tq 15) (.const (.int .u64 8))),mv 0 16] (.gw [mv 17 2,bc 18 .add 17 8,mv 2 18])) (.skip))) (sr [mv 19 2,mv 20 0,ge 21 (.dE .u8 (tq 20)),ge 22 (.bN (.const (.str Yxq)) (tq 21)),ge 23 (.dE .i64 (tq 22)),bi 24 .add 19 23,mv 2 24] (.ret)))))
def A.k237:=@A.kk 237 25 [.tmp 2] A.b237 (by kernel_rfl) rfl
def A.b241:=A.q Tryz.f241
def A.k241:=@A.kk 241 6 [.tmp 2] A.b241 (by kernel_rfl) rfl
def ba(n:Nat):Nat:=if n=0 then 0 else Nat.log2 n+1
def Ve(n:Nat):n<2^ba n:=by
 unfold ba;split
 ·simp[*]
 exact Nat.lt_log2_self
def MJ(h:n≠0):2^(ba n-1)<=n:=by unfold ba;rw[ak h];exact Nat.log2_self_le h
def Yvm{k:Nat}(h1:2^k<=n)(h2:n<2^(k+1)):ba n=k+1:=by
 have hn:n≠0:=by have:=s_ k;omega
 unfold ba;rw[ak hn];congr 1;have h3:Nat.log2 n<k+1:=(Nat.log2_lt hn).2 h2;have h4:k<=Nat.log2 n:=(Nat.le_log2 hn).2 h1;omega
def AU{k:Nat}(h:2^k<=n):ba (ax n k)+k=ba n:=by
 unfold ax;have h0:n/2^k≠0:=by have:=Nat.div_pos h (s_ k);omega
 have h1:=Ve (n/2^k);have h2:=MJ h0;have hp:0<ba (n/2^k):=by unfold ba;rw[ak h0];omega
 have e:ba (n/2^k)+k=(ba (n/2^k)-1+k)+1:=by omega
 rw[e];symm;apply Yvm
 ·rw[mJ];exact iZ (jz _ h2) (Nat.div_mul_le_self n _)
 rw[show ba (n/2^k)-1+k+1=ba (n/2^k)+k by omega,mJ];exact(su (s_ k)).1 h1
def Hq:∀{n:Nat},n<256->Yxq[n]?=some (UInt8.ofNat (ba n)):=by decide+kernel
def Fs:∀{n:Nat},n<256->ba n<9:=by decide+kernel
def Hr(h:n<256):cX (UInt8.ofNat (ba n))=(ba n:Int):=by have:=Fs h;unfold cX;simp;omega
def Ztn{h:T O}{N:Nat}{x:Nat}(hx:x<18446744073709551616):Fn A.C 237 [.int .u64 x] h N (fun v' h' N'=>h'=h/\N'=N/\v'=.int .i64 (ba x:Nat)):=by
 intro w;rw[aQ,A.k237 (by simp)];by_cases h0:4294967296<=x
 ·have jJ:(4294967296:Int)<=((x:Nat):Int):=by omega
  by_cases h1:65536<=ax (x) 32
  ·have g_:(65536:Int)<=((ax (x) 32:Nat):Int):=by omega
   by_cases h2:256<=ax (ax (x) 32) 16
   ·have mW:(256:Int)<=((ax (ax (x) 32) 16:Nat):Int):=by omega
    have hb:ax (ax (ax (x) 32) 16) 8<256:=by (try simp only[ax]at*);omega
    have ht:=Hq hb;have hv:cX (UInt8.ofNat (ba (ax (ax (ax (x) 32) 16) 8)))=(ba (ax (ax (ax (x) 32) 16) 8):Int):=Hr hb;have hl:=Fs hb;simp(disch:=omega) [A.b237,jJ,g_,mW,Dz,ht,hv,az];have:=AU (k:=32) (n:=x) h0;have:=AU (k:=16) (n:=ax (x) 32) h1;have:=AU (k:=8) (n:=ax (ax (x) 32) 16) h2;first|exact ab.refl|exact And.intro ab.refl (by omega)
   have mW:¬(256:Int)<=((ax (ax (x) 32) 16:Nat):Int):=by omega
   have hb:ax (ax (x) 32) 16<256:=by (try simp only[ax]at*);omega
   have ht:=Hq hb;have hv:cX (UInt8.ofNat (ba (ax (ax (x) 32) 16)))=(ba (ax (ax (x) 32) 16):Int):=Hr hb;have hl:=Fs hb;simp(disch:=omega) [A.b237,jJ,g_,mW,Dz,ht,hv,az];have:=AU (k:=32) (n:=x) h0;have:=AU (k:=16) (n:=ax (x) 32) h1;first|exact ab.refl|exact And.intro ab.refl (by omega)
  have g_:¬(65536:Int)<=((ax (x) 32:Nat):Int):=by omega
  by_cases h2:256<=ax (x) 32
  ·have mW:(256:Int)<=((ax (x) 32:Nat):Int):=by omega
   have hb:ax (ax (x) 32) 8<256:=by (try simp only[ax]at*);omega
   have ht:=Hq hb;have hv:cX (UInt8.ofNat (ba (ax (ax (x) 32) 8)))=(ba (ax (ax (x) 32) 8):Int):=Hr hb;have hl:=Fs hb;simp(disch:=omega) [A.b237,jJ,g_,mW,Dz,ht,hv,az];have:=AU (k:=32) (n:=x) h0;have:=AU (k:=8) (n:=ax (x) 32) h2;first|exact ab.refl|exact And.intro ab.refl (by omega)
  have mW:¬(256:Int)<=((ax (x) 32:Nat):Int):=by omega
  have hb:ax (x) 32<256:=by (try simp only[ax]at*);omega
  have ht:=Hq hb;have hv:cX (UInt8.ofNat (ba (ax (x) 32)))=(ba (ax (x) 32):Int):=Hr hb;have hl:=Fs hb;simp(disch:=omega) [A.b237,jJ,g_,mW,Dz,ht,hv,az];have:=AU (k:=32) (n:=x) h0;first|exact ab.refl|exact And.intro ab.refl (by omega)
 have jJ:¬(4294967296:Int)<=((x:Nat):Int):=by omega
 by_cases h1:65536<=x
 ·have g_:(65536:Int)<=((x:Nat):Int):=by omega
  by_cases h2:256<=ax (x) 16
  ·have mW:(256:Int)<=((ax (x) 16:Nat):Int):=by omega
   have hb:ax (ax (x) 16) 8<256:=by (try simp only[ax]at*);omega
   have ht:=Hq hb;have hv:cX (UInt8.ofNat (ba (ax (ax (x) 16) 8)))=(ba (ax (ax (x) 16) 8):Int):=Hr hb;have hl:=Fs hb;simp(disch:=omega) [A.b237,jJ,g_,mW,Dz,ht,hv,az];have:=AU (k:=16) (n:=x) h1;have:=AU (k:=8) (n:=ax (x) 16) h2;first|exact ab.refl|exact And.intro ab.refl (by omega)
  have mW:¬(256:Int)<=((ax (x) 16:Nat):Int):=by omega
  have hb:ax (x) 16<256:=by (try simp only[ax]at*);omega
  have ht:=Hq hb;have hv:cX (UInt8.ofNat (ba (ax (x) 16)))=(ba (ax (x) 16):Int):=Hr hb;have hl:=Fs hb;simp(disch:=omega) [A.b237,jJ,g_,mW,Dz,ht,hv,az];have:=AU (k:=16) (n:=x) h1;first|exact ab.refl|exact And.intro ab.refl (by omega)
 have g_:¬(65536:Int)<=((x:Nat):Int):=by omega
 by_cases h2:256<=x
 ·have mW:(256:Int)<=((x:Nat):Int):=by omega
  have hb:ax (x) 8<256:=by (try simp only[ax]at*);omega
  have ht:=Hq hb;have hv:cX (UInt8.ofNat (ba (ax (x) 8)))=(ba (ax (x) 8):Int):=Hr hb;have hl:=Fs hb;simp(disch:=omega) [A.b237,jJ,g_,mW,Dz,ht,hv,az];have:=AU (k:=8) (n:=x) h2;first|exact ab.refl|exact And.intro ab.refl (by omega)
 have mW:¬(256:Int)<=((x:Nat):Int):=by omega
 have hb:x<256:=by (try simp only[ax]at*);omega
 have ht:=Hq hb;have hv:cX (UInt8.ofNat (ba (x)))=(ba (x):Int):=Hr hb;have hl:=Fs hb;simp(disch:=omega) [A.b237,jJ,g_,mW,Dz,ht,hv,az];first|exact ab.refl|exact And.intro ab.refl (by omega)
def Yhx{h:T O}{N:Nat}{x:Nat}(hx:x<18446744073709551616):Fn A.C 241 [.int .u64 x] h N (fun v' h' N'=>h'=h/\N'=N/\v'=.int .i64 ((64-ba x:Nat))):=by
 intro w;have hl:ba x<=64:=by
  by_cases h0:x=0
  ·subst h0;decide
  apply AG;intro hc;have:=MJ h0;have:2^64<=2^(ba x-1):=rO (by decide) (by omega);omega
 rw[aQ,A.k241 (by simp)];simp[A.b241];refine ar (Ztn hx) ?_;rintro _ _ _ hk ⟨rfl,rfl,rfl⟩;simp(disch:=omega) [az];exact⟨hk,by omega⟩
variable {s x:Nat}
def A.Ql:=A.q Tryz.f242
def A.oS:=A.ql A.Ql 0 []
def A.b242:=(fun x0=>A.qb A.Ql [x0]) A.oS
def A.k242:=@A.kk 242 40 [.tmp 4] A.b242 (by kernel_rfl) rfl
def UT{c:Nat}(hs:s<64)(hc:c<2^s):ko c (bR x s)=c+bR x s:=by
 unfold ko bR;have e:x*2^s%18446744073709551616=(x%2^(64-s))<<<s:=by
  rw[Nat.shiftLeft_eq];have:(18446744073709551616:Nat)=2^(64-s)*2^s:=by rw[<-mJ,show 64-s+s=64 by omega]
  rw[this,Ov]
 rw[e,Nat.or_comm,Nat.add_comm,Nat.shiftLeft_add_eq_or_of_lt hc]
def Yfs(hs:s<=64):bR x s+B*ax x (64-s)=x*2^s:=by
 unfold bR ax;have e:x/2^(64-s)=x*2^s/18446744073709551616:=by
  have:(18446744073709551616:Nat)=2^(64-s)*2^s:=by rw[<-mJ,show 64-s+s=64 by omega]
  rw[this,TS _ _ (s_ s)]
 rw[e];have:=wI (x*2^s) 18446744073709551616;unfold B;omega
def Yph(hx:x<B)(hs:s<=64):ax x (64-s)<2^s:=by unfold ax;apply (su (s_ _)).2;rw[<-mJ,show s+(64-s)=64 by omega];exact hx
def Zrq{c:Nat}(hs:s<64)(hc:c<2^s):c+bR x s<B:=by
 rw[<-UT hs hc];unfold ko;apply Nat.or_lt_two_pow (n:=64)
 ·exact Nat.lt_trans hc (Nat.pow_lt_pow_right (by decide) hs)
 exact Zs2
structure ShJ (h:T O) (N:Nat) (l:List Nat) (s k:Nat) (o:List Nat) (c:Nat) (r:T V) (st:St):Prop where
 hk:k<=l.length
 MK:r.get 14=some (.int .i64 k)
 n:st.n=N+1
 w:ay N st.w=[]
 ad:ab h N st.h (N+1)
 row:st.h.get N=some (.cells (dg o) 199 true)
 len:o.length=l.length+1
 dg:Dg o
 zero:∀t,k<t->t<o.length->o[t]?=some 0
 top:o[k]?=some c
 lc:c<2^s
 ex:val B o=val B (l.take k)*2^s
def ShI(h:T O)(N:Nat)(l:List Nat)(s m:Nat)(r:T V)(st:St):Prop:=∃k o c,m=l.length-k/\ShJ h N l s k o c r st
def ShE(h:T O)(N:Nat)(l:List Nat)(s:Nat)(r:T V)(st:St):Prop:=∃o c,ShJ h N l s l.length o c r st
def Zrs{h:T O}{N:Nat}{v:V}{l:List Nat}(hv:Sl h N v (Go.Mx.dg l))(hd:Dg l)(hs:s<64)(hl:l.length<1099511627776):Fn A.C 242 [v,.int .i64 s] h N (fun v' h' N'=>∃i o,N<=i/\i<N'/\v'=.slice i 0 (l.length+1) (some (l.length+1)) 1/\h'.get i=some (.cells (dg o) 199 true)/\o.length=l.length+1/\Dg o/\val B o=val B l*2^s):=by
 intro w;have lx:=hv.len;rw[bz]at lx;rw[aQ,A.k242 (by simp)];simp(disch:=first|(simp;done)|omega|(simp only[bz,cm,bl];omega)|rfl) [A.b242,lx];refine b_ [(6,7),(14,38)] (fun e r st=>e=.exit 0/\ShE h N l s r st) (ShI h N l s) l.length ?_ ?_ ?_
 ·refine⟨0,List.replicate (l.length+1) 0,0,by omega,⟨by omega,by simp,by simp,by simp,ab.refl.set (aM _) |>.up (by omega),by simp[JU],by simp,?_,?_,by simp,s_ s,by simp[val,Zum]⟩⟩
  ·intro d hd;rw[Im]at hd;rw[hd.2];decide
  intro t _ ht;simp at ht;simp[ht]
 ·rintro m r ⟨H,n1,W⟩ hr hf ⟨k,o,c,rfl,hk,qV,hn,hW,hK,hN,ho,ML,hz,hc,Ay,he⟩;simp only at hn hW hK hN;subst hn;rw[bu];by_cases aE:k<l.length
  ·obtain⟨i1,o1,c1,e1,w1,p1,p2,p3,p4⟩:=hv.at (fZ (ct aE));have p3:=(hK.get _ p2).trans p3;have gx:=ct aE;generalize l[k]=x at*;have hx:x<B:=hd.get gx;have hcB:c<18446744073709551616:=ML.get hc;have wZ:=UT (x:=x) hs Ay;have fb:=Zrq (x:=x) hs Ay;obtain⟨z,hzz⟩:∃z,c+bR x s=z:=⟨_,rfl⟩;rw[hzz]at wZ fb;have zbz:(o.set k z).length=l.length+1:=by simp[ho]
   have GO:=Yfs (x:=x) (s:=s) (by omega);have cC:=Yph hx (s:=s) (by omega);have v1:=Qj (b:=B) (v:=z) hc;have zT:(o.set k z)[k+1]?=some 0:=by rw[eW (by omega)];exact hz _ (by omega) (by omega)
   have v2:=Qj (b:=B) (v:=ax x (64-s)) zT;by_cases h0:0<s
   ·have jJ:(0:Int)<(s:Int):=by omega
    simp(disch:=first|(simp;done)|omega|(simp only[bz,cm,bl];omega)|rfl) [-getElem?_pos,A.oS,hr,qV,aE,lx,p1,p3,p4,hN,fZ hc,wZ,rF,h0,hf];refine⟨_,by omega,k+1,(o.set k z).set (k+1) (ax x (64-s)),ax x (64-s),rfl,⟨by omega,by simp,rfl,by simp[hW],(hK.set (aM _)).set (aM _),by simp,by simp[ho],(ML.set fb).set (fg cC (rO (by decide) (by omega):2^s<=2^64)),?_,jW (by omega),cC,?_⟩⟩
    ·intro t t1 t2;rw[eW (by omega),eW (by omega)];exact hz t (by omega) (by simpa using t2)
    rw[He gx,js,<-he];rw[<-hzz]at v1 v2 ⊢;have e3:B^k*(bR x s+B*ax x (64-s))=B^k*(x*2^s):=by rw[GO]
    rw[im]at v2;generalize val B ((o.set k (c+bR x s)).set (k+1) (ax x (64-s)))=z1 at*;generalize val B (o.set k (c+bR x s))=z2 at*;generalize val B o=z3 at*;generalize bR x s=z4 at*;generalize ax x (64-s)=z5 at*;generalize B^k=z6 at*;grind
   have jJ:¬(0:Int)<(s:Int):=by omega
   simp(disch:=first|(simp;done)|omega|(simp only[bz,cm,bl];omega)|rfl) [-getElem?_pos,A.oS,hr,qV,aE,lx,p1,p3,p4,hN,fZ hc,wZ,rF,h0,hf];have iN:s=0:=by omega
   subst iN;have iy:c=0:=by simpa using Ay
   subst iy;have e0:bR x 0=x:=by unfold bR;unfold B at hx;simp;omega
   have sH:z=x:=by rw[<-hzz,e0];omega
   subst sH;refine⟨_,by omega,k+1,o.set k z,0,rfl,⟨by omega,by simp,rfl,by simp[hW],hK.set (aM _),by simp,by simp[ho],ML.set hx,?_,?_,by decide,?_⟩⟩
   ·intro t t1 t2;rw[eW (by omega)];exact hz t (by omega) (by simpa using t2)
   ·rw[eW (by omega)];exact hz _ (by omega) (by omega)
   rw[He gx,js,<-he];simpa using v1
  have:k=l.length:=by omega
  subst this;simp[A.oS,hr,qV,hf];exact⟨o,c,⟨by omega,by simp[qV],rfl,hW,hK,hN,ho,ML,hz,hc,Ay,he⟩⟩
 rintro _ r ⟨H,n1,W⟩ hr ⟨rfl,o,c,hk,qV,hn,hW,hK,hN,ho,ML,hz,hc,Ay,he⟩;simp only at hn hW hK hN;subst hn;simp[hr,az];rw[fU (aM _)]at he;exact⟨hW,hK,N,aM _,by omega,rfl,o,hN,ho,ML,he⟩
open Go
variable {b r:Nat}
def Vg{u un cI nv q:Nat}(hi:u=q*cI+r)(hc:q*nv<=b*r+un):q*(cI*b+nv)<=u*b+un:=by subst hi;rw[vF,js,<-Gm,kg r b];omega
def Ybn{u un cI nv q:Nat}(hi:u=q*cI+r)(hc:b*r+un<q*nv):u*b+un<q*(cI*b+nv):=by subst hi;rw[vF,js,<-Gm,kg r b];omega
def Zv9{a y q:Nat}(h:a<q*y):a/y<q:=by
 rcases Gb y with rfl|hy
 ·simp at h
 exact(su hy).2 h
def MM{a y q:Nat}(hy:0<y)(h:q*y<=a):q<=a/y:=(LK hy).2 h
def Yt6{P u1 u2 U' v1 v2 V' s:Nat}(nT:0<v1)(EN:V'<P)(ht:s<=b)(hinv:u1=(s+1)*v1+r)(hc:(s+1)*v2<=r*b+u2):
  s*(V'+P*(v2+b*v1))<=U'+P*(u2+b*u1):=by
 have h1:s*V'<=b*P:=mI ht (by omega);have h2:b*P*1<=b*P*v1:=lF _ nT;have h3:P*((s+1)*v2)<=P*(r*b+u2):=lF _ hc;have h4:P*((s+1)*v2)=P*(s*v2)+P*v2:=by grind
 have h5:s*(V'+P*(v2+b*v1))=s*V'+P*(s*v2)+b*(P*(s*v1)):=by grind
 have h6:U'+P*(u2+b*u1)=U'+P*(r*b+u2)+b*(P*(s*v1))+b*P*v1:=by subst hinv;grind
 omega
def Yt5{P u1 u2 U' v1 v2 V' t:Nat}(EM:U'<P)(hinv:u1=t*v1+r)(hc:r*b+u2<t*v2):
  U'+P*(u2+b*u1)<t*(V'+P*(v2+b*v1)):=by
 have h3:P*(r*b+u2+1)<=P*(t*v2):=lF _ hc;have h5:t*(V'+P*(v2+b*v1))=t*V'+P*(t*v2)+b*(P*(t*v1)):=by grind
 have h6:U'+P*(u2+b*u1)+P=U'+P*(r*b+u2+1)+b*(P*(t*v1)):=by subst hinv;grind
 omega
end
end Go.Mx
