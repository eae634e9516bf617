/-num-/
import Derived.Test.YtokjleejipaidaaGreatDoorRcJ
set_option linter.all false
namespace Go.Mx
noncomputable section
open Go Go.Proofs
set_option maxHeartbeats 2000000
set_option maxRecDepth 1000000
def A.NG:=A.q Tryz.f199
def A.jW:=A.ql A.NG 0 []
def A.b199:=(fun x0=>A.qb A.NG [x0]) A.jW
def A.k199:=@A.kk 199 41 [.tmp 4] A.b199 (by kernel_rfl) rfl
def wF(x y:Int):Int:=if x<y then -1 else if y<x then 1 else 0
def Yme{x y:Nat}(h:(aG x).length<(aG y).length):x<y:=by
 apply tW
 intro hc
 have:=FR hc
 omega
def Se{b:Nat}{l:List Nat}{k d:Nat}(h:l[k]?=some d):val b (l.drop k)=d+b*val b (l.drop (k+1)):=by
 have hk:k<l.length:=by
  apply tW;intro hc;rw[fv hc]at h;cases h
 rw[GZ hk]
 rw[cF hk]at h
 simp only[an]at h
 rw[h];rfl
def Zsy(b:Nat)(l:List Nat)(k:Nat)(hk:k<=l.length):val b l=val b (l.take k)+b^k*val b (l.drop k):=by
 have:=RW b (l.take k) (l.drop k)
 rw[CT,gO,qt hk]at this
 exact this
def Yls{x y:List Nat}{k:Nat}(gx:Dg x)(hx:k<=x.length)(hy:k<=y.length)(h:val B (x.drop k)<val B (y.drop k)):val B x<val B y:=by
 rw[Zsy B x k hx,Zsy B y k hy]
 have h1:val B (x.take k)<B^k:=by
  have:=FN (b:=B) (l:=x.take k) fun d hd=>gx d (yJ hd)
  rwa [gO,qt hx]at this
 have h2:B^k*(val B (x.drop k)+1)<=B^k*val B (y.drop k):=kO _ h
 rw[tV]at h2
 omega
structure Ywn (h:T O) (N x y m:Nat) (r:T V) (st:St):Prop where
 hm:m<=(aG x).length
 r5:r.get 5=some (.int .i64 ((m:Int)-1))
 n:st.n=N
 w:st.w=[]
 ad:ab h N st.h N
 top:(aG x).drop m=(aG y).drop m
def Zih{h:T O}{N:Nat}{vx vy:V}{x y:Nat}(hx:Wn h N vx x)(hy:Wn h N vy y)(zL:(aG x).length<1099511627776)(Mw:(aG y).length<1099511627776):Fn A.C 199 [vx,vy] h N (fun v' h' N'=>v'=.int .i64 (wF x y)):=by
 intro w
 have lx:=hx.len
 have ly:=hy.len
 rw[bB]at lx ly
 rw[aM,A.k199 (by simp)]
 by_cases aW:(aG x).length=(aG y).length
 ·have Zb:((aG x).length:Int)=((aG y).length:Int):=by omega
  simp(disch:=omega) [A.b199,lx,ly,aW]
  refine bA [(4,5),(19,40)] (fun e r st=>(e=.exit 0/\Ywn h N x y 0 r st)\/(e=.ret/\r.get 4=some (.int .i64 (wF x y))/\st.n=N/\st.w=[]/\ab h N st.h N)) (Ywn h N x y) (aG x).length ?_ ?_ ?_
  ·exact⟨by omega,by simp[aW],rfl,rfl,ab.refl,by rw[mK,aW,mK]⟩
  ·rintro m r ⟨H,n1,W⟩ hr hf ⟨hm,h5,hn,hW,hK,ht⟩
   simp only at hn hW hK
   subst hn;subst hW
   rw[bb]
   cases m with
   |zero=>
    simp[A.jW,h5,hf]
    exact⟨by omega,by simp[h5],rfl,rfl,hK,ht⟩
   |succ m=>
    have dm:m<(aG x).length:=by omega
    have XX:m<(aG y).length:=by omega
    have Zc:r.get 5=some (.int .i64 (m:Int)):=by rw[h5];congr 2;omega
    have gx:=cF dm
    have gy:=cF XX
    obtain⟨i1,o1,c1,e1,w1,p1,p2,p3,p4⟩:=hx.at (fz gx)
    have p3:=(hK.get _ p2).trans p3
    obtain⟨i2,o2,c2,e2,w2,q1,q2,q3,q4⟩:=hy.at (fz gy)
    have q3:=(hK.get _ q2).trans q3
    rcases Nat.lt_trichotomy (aG x)[m] (aG y)[m]with au|heq|Kk
    ·have cX:x<y:=by
      have:=Yls (x:=aG x) (y:=aG y) (k:=m) (rW x) (by omega) (by omega) (by rw[Se gx,Se gy,ht];omega)
      rwa [m7,m7]at this
     have jV:¬(aG x)[m]=(aG y)[m]:=by omega
     simp(disch:=first|(simp;done)|omega|(simp only[bB,cC,bo];omega)|rfl) [A.jW,Zc,hr,hf,lx,ly,p1,p2,p3,p4,q1,q2,q3,q4,jV,au]
     exact⟨by simp[wF,cX],hK⟩
    ·have NC:(aG x).drop m=(aG y).drop m:=by rw[GZ dm,GZ XX,ht,heq]
     simp(disch:=first|(simp;done)|omega|(simp only[bB,cC,bo];omega)|rfl) [A.jW,Zc,hr,hf,lx,ly,p1,p2,p3,p4,q1,q2,q3,q4,heq]
     exact⟨m,by omega,⟨by omega,by simp,rfl,rfl,hK,NC⟩⟩
    ·have cX:y<x:=by
      have:=Yls (x:=aG y) (y:=aG x) (k:=m) (rW y) (by omega) (by omega) (by rw[Se gx,Se gy,ht];omega)
      rwa [m7,m7]at this
     have jV:¬(aG x)[m]=(aG y)[m]:=by omega
     have au:¬(aG x)[m]<(aG y)[m]:=by omega
     have Iq:¬x<y:=by omega
     simp(disch:=first|(simp;done)|omega|(simp only[bB,cC,bo];omega)|rfl) [A.jW,Zc,hr,hf,lx,ly,p1,p2,p3,p4,q1,q2,q3,q4,jV,au]
     exact⟨by simp[wF,cX,Iq],hK⟩
  ·rintro e r ⟨H,n1,W⟩ hr (⟨rfl,hm,h5,hn,hW,hK,ht⟩|⟨rfl,h4,hn,hW,hK⟩)
   ·simp only at hn hW hK
    subst hn;subst hW
    simp only[zq]at ht
    have:x=y:=by rw[<-m7 x,ht,m7]
    subst this
    simp[az]
    exact⟨hK,by simp[wF]⟩
   ·simp only at hn hW hK
    subst hn;subst hW
    simp[h4,az]
    exact hK
 ·have Zb:¬((aG x).length:Int)=((aG y).length:Int):=by omega
  by_cases au:(aG x).length<(aG y).length
  ·have:=Yme au
   simp[A.b199,lx,ly,aW,au,az]
   exact⟨ab.refl,by simp[wF,this]⟩
  ·have h1:=Yme (x:=y) (y:=x) (by omega)
   have h2:¬x<y:=by omega
   simp[A.b199,lx,ly,aW,au,az]
   exact⟨ab.refl,by simp[wF,h1,h2]⟩
set_option maxHeartbeats 4000000
def A.Is:=A.q Tryz.f204
def A.rX:=A.ql A.Is 1 []
def A.rY:=(fun x0=>A.ql A.Is 0 [x0]) A.rX
def A.b204:=(fun x0=>A.qb A.Is [x0]) A.rY
def A.k204:=@A.kk 204 80 [.tmp 4] A.b204 (by kernel_rfl) rfl
def NH{b:Nat}:∀{l:List Nat} {k old v:Nat},l[k]?=some old->val b (l.set k v)+b^k*old=val b l+b^k*v
 |[],k,old,v,h=>by simp at h
 |d::l,0,old,v,h=>by simp at h;subst h;simp[val];omega
 |d::l,k+1,old,v,h=>by
  have ih:=NH (b:=b) (l:=l) (k:=k) (old:=old) (v:=v) (by simpa using h)
  simp only[List.set_cons_succ,val,gw]
  generalize val b (l.set k v)=p at*
  generalize val b l=q at*
  generalize b^k=z at*
  have:b*(p+z*old)=b*(q+z*v):=by rw[ih]
  grind
def Dg.set{l:List Nat}(h:Dg l){k v:Nat}(hv:v<B):Dg (l.set k v):=by
 intro d hd
 rcases Gx hd with hd|hd
 ·exact h d hd
 ·subst hd;exact hv
def fU(x y o c:Nat):Nat:=bu (bu (bu (x*y)+o)+c)
def jo(x y o c:Nat):Nat:=cJ (cJ (cm (x*y)) (cm (bu (x*y)+o))) (cm (bu (bu (x*y)+o)+c))
def Yjh{x y o c:Nat}(hx:x<B)(hy:y<B)(ho:o<B)(hc:c<B):fU x y o c+B*jo x y o c=x*y+o+c/\fU x y o c<B/\jo x y o c<B:=by
 have:x*y<=18446744073709551615*18446744073709551615:=oL (by unfold B at*;omega) (by unfold B at*;omega)
 unfold fU jo bu cm cJ
 unfold B at*
 generalize x*y=p at*
 omega
structure Ywm (h:T O) (N x y i j:Nat) (o:List Nat) (c xi:Nat) (r:T V) (st:St):Prop where
 hj:j<=(aG y).length
 r29:r.get 29=some (.int .i64 j)
 r8:r.get 8=some (.int .u64 c)
 n:st.n=N+1
 w:ar N st.w=[]
 ad:ab h N st.h (N+1)
 row:st.h.get N=some (.cells (dg o) 200 true)
 len:o.length=(aG x).length+(aG y).length
 dg:Dg o
 zero:∀t,i+(aG y).length<=t->t<o.length->o[t]?=some 0
 lc:c<B
 ex:val B o+B^(i+j)*c=val B ((aG x).take i)*y+B^i*(xi*val B ((aG y).take j))
def Yx2(h:T O)(N x y i xi m:Nat)(r:T V)(st:St):Prop:=∃j o c,m=(aG y).length-j/\Ywm h N x y i j o c xi r st
def Yx3(h:T O)(N x y i xi:Nat)(r:T V)(st:St):Prop:=∃o c,Ywm h N x y i (aG y).length o c xi r st
structure Yug (h:T O) (N x y i:Nat) (o:List Nat) (r:T V) (st:St):Prop where
 hi:i<=(aG x).length
 r22:r.get 22=some (.int .i64 i)
 n:st.n=N+1
 w:ar N st.w=[]
 ad:ab h N st.h (N+1)
 row:st.h.get N=some (.cells (Go.Mx.dg o) 200 true)
 len:o.length=(aG x).length+(aG y).length
 dg:Dg o
 zero:∀t,i+(aG y).length<=t->t<o.length->o[t]?=some 0
 ex:val B o=val B ((aG x).take i)*y
def Ywd(h:T O)(N x y m:Nat)(r:T V)(st:St):Prop:=∃i o,m=(aG x).length-i/\Yug h N x y i o r st
def Ywe(h:T O)(N x y:Nat)(r:T V)(st:St):Prop:=∃o,Yug h N x y (aG x).length o r st
def Zv7{h:T O}{N:Nat}{vx vy:V}{x y:Nat}(hx:Wn h N vx x)(hy:Wn h N vy y)(zL:(aG x).length<1099511627776)(Mw:(aG y).length<1099511627776):Fn A.C 204 [vx,vy] h N (fun v' h' N'=>Wn h' N' v' (x*y)):=by
 intro w
 have lx:=hx.len
 have ly:=hy.len
 rw[bB]at lx ly
 rw[aM,A.k204 (by simp)]
 simp(disch:=first|(simp;done)|omega|(simp only[bB,cC,bo];omega)|rfl) [A.b204,lx,ly]
 refine bA [(6,13),(22,77)] (fun e r st=>e=.exit 0/\Ywe h N x y r st) (Ywd h N x y) (aG x).length ?_ ?_ ?_
 ·refine⟨0,List.replicate ((aG x).length+(aG y).length) 0,by omega,⟨by omega,by simp,by simp,by simp,ab.refl.set (aO _) |>.up (by omega),?_,by simp,?_,?_,by simp[val,Zsx]⟩⟩
  ·simp[HY]
  ·intro d hd
   rw[GK]at hd
   rw[hd.2];decide
  ·intro t _ ht
   simp at ht
   simp[ht]
 ·rintro m r ⟨H,n1,W⟩ hr hf ⟨i,o,rfl,hi,pg,hn,hW,hK,hN,ho,hd,hz,he⟩
  simp only at hn hW hK hN
  subst hn
  rw[bb]
  by_cases au:i<(aG x).length
  ·obtain⟨i1,o1,c1,e1,w1,p1,p2,p3,p4⟩:=hx.at (fz (cF au))
   have p3:=(hK.get _ p2).trans p3
   have gx:=cF au
   generalize (aG x)[i]=xi at*
   simp[A.rY,hr,pg,au,lx,ly,p1,p3,p4]
   refine bA [(8,13),(29,69)] (fun e r st=>e=.exit 2/\Yx3 h N x y i xi r st) (Yx2 h N x y i xi) (aG y).length ?_ ?_ ?_
   ·exact⟨0,o,0,by omega,⟨by omega,by simp,by simp,rfl,hW,hK,hN,ho,hd,hz,by decide,by simp[val,he]⟩⟩
   ·rintro m r2 ⟨H2,n2,W2⟩ dt cG ⟨j,o2,c,rfl,hj,NI,h8,fg,dZ,eQ,wH,yO,du,eg,Dr,vD⟩
    simp only at fg dZ eQ wH
    subst fg
    rw[bb]
    have hi:xi<B:=(rW x).get gx
    by_cases cX:j<(aG y).length
    ·obtain⟨i2,o3,c3,e3,w3,q1,q2,q3,q4⟩:=hy.at (fz (cF cX))
     have q3:=(eQ.get _ q2).trans q3
     have gy:=cF cX
     generalize (aG y)[j]=yj at*
     have hyj:yj<B:=(rW y).get gy
     have go:=cF (l:=o2) (i:=i+j) (by omega)
     generalize o2[i+j]'(by omega)=ov at*
     simp[A.rX,hr,dt,NI,h8,cX,lx,ly,q1,q3,q4,cG]
     refine ay (Nz hi hyj) ?_
     rintro _ _ _ Ci ⟨rfl,rfl,rfl⟩
     simp(disch:=first|(simp;done)|omega|(simp only[bB,cC,bo];omega)|rfl) [-getElem?_pos,hr,dt,NI,h8,cX,lx,ly,q1,q3,q4,cG,wH,fz go,qe]
     obtain⟨m1,m2,m3⟩:=Yjh hi hyj (du.get go) Dr
     refine⟨_,by omega,j+1,o2.set (i+j) (fU xi yj ov c),jo xi yj ov c,rfl,⟨by omega,by simp,?_,rfl,by simp[dZ],eQ.set (aO _),?_,by simp[yO],du.set m2,?_,m3,?_⟩⟩
     ·simp[jo]
     ·simp[fU]
     ·intro t t1 t2
      rw[eH (by omega)]
      exact eg t t1 (by simpa using t2)
     ·have v1:=NH (b:=B) (v:=fU xi yj ov c) go
      rw[FM gy]
      have e1:B^(i+(j+1))=B^(i+j)*B:=by rw[show i+(j+1)=(i+j)+1 by omega,gw]
      have e2:B^i*(xi*(B^j*yj))=B^(i+j)*(xi*yj):=by rw[kj];grind
      have e3:B^(i+j)*(fU xi yj ov c+B*jo xi yj ov c)=B^(i+j)*(xi*yj+ov+c):=by rw[m1]
      rw[e1]
      generalize val B (List.set o2 (i+j) (fU xi yj ov c))=z1 at*
      generalize val B o2=z2 at*
      generalize fU xi yj ov c=z3 at*
      generalize jo xi yj ov c=z4 at*
      generalize val B (List.take j (aG y))=z5 at*
      generalize B^(i+j)=z6 at*
      grind
    ·have:j=(aG y).length:=by omega
     subst this
     simp[A.rX,hr,dt,NI,h8,cG]
     exact⟨o2,c,⟨by omega,by simp[NI],by simp[h8],rfl,dZ,eQ,wH,yO,du,eg,Dr,vD⟩⟩
   ·rintro e r2 ⟨H2,n2,W2⟩ dt ⟨rfl,o2,c,hj,NI,h8,fg,dZ,eQ,wH,yO,du,eg,Dr,vD⟩
    simp only at fg dZ eQ wH
    subst fg
    have cG:=hf.inner (D':=[(8,13),(29,69)]) rfl (by simp) dt
    simp(disch:=first|(simp;done)|omega|(simp only[bB,cC,bo];omega)|rfl) [hr,dt,pg,h8,ly,wH,qe,cG]
    have tr:o2[i+(aG y).length]?=some 0:=eg _ (aO _) (by omega)
    refine⟨_,by omega,i+1,o2.set (i+(aG y).length) c,rfl,⟨by omega,by simp,rfl,by simp[dZ],eQ.set (aO _),by simp,by simp[yO],du.set Dr,?_,?_⟩⟩
    ·intro t t1 t2
     rw[eH (by omega)]
     exact eg t (by omega) (by simpa using t2)
    ·have v1:=NH (b:=B) (v:=c) tr
     rw[fb (aO _),m7]at vD
     rw[FM gx]
     simp only[Nat.mul_zero,iX]at v1
     rw[v1,vD]
     grind
  ·have:i=(aG x).length:=by omega
   subst this
   simp[A.rY,hr,pg,hf]
   exact⟨o,⟨by omega,by simp[pg],rfl,hW,hK,hN,ho,hd,hz,he⟩⟩
 ·rintro _ r ⟨H,n1,W⟩ hr ⟨rfl,o,hi,pg,hn,hW,hK,hN,ho,hd,hz,he⟩
  simp only at hn hW hK hN
  subst hn
  simp[hr,hN]
  refine ay (DK (l:=o) (Sl.row (e:=200) (rw:=true) (by omega) (by simp[hN]) (by simp[ho]) (by simp)) (by simp[ho];omega)) ?_
  intro v' h' n' gS hs
  simp[az]
  refine⟨hW,hK.trans gS,?_⟩
  rw[fb (aO _),m7]at he
  rw[DG hd,he]at hs
  exact hs
variable {n:Nat}
set_option maxHeartbeats 2000000
def Ys9:List UInt8:=[0,1,2,2,3,3,3,3,4,4,4,4,4,4,4,4,5,5,5,5,5,5,5,5,5,5,5,5,5,5,5,5,6,6,6,6,6,6,6,6,6,6,6,6,6,6,6,6,6,6,6,6,6,6,6,6,6,6,6,6,6,6,6,6,7,7,7,7,7,7,7,7,7,7,7,7,7,7,7,7,7,7,7,7,7,7,7,7,7,7,7,7,7,7,7,7,7,7,7,7,7,7,7,7,7,7,7,7,7,7,7,7,7,7,7,7,7,7,7,7,7,7,7,7,7,7,7,7,8,8,8,8,8,8,8,8,8,8,8,8,8,8,8,8,8,8,8,8,8,8,8,8,8,8,8,8,8,8,8,8,8,8,8,8,8,8,8,8,8,8,8,8,8,8,8,8,8,8,8,8,8,8,8,8,8,8,8,8,8,8,8,8,8,8,8,8,8,8,8,8,8,8,8,8,8,8,8,8,8,8,8,8,8,8,8,8,8,8,8,8,8,8,8,8,8,8,8,8,8,8,8,8,8,8,8,8,8,8,8,8,8,8,8,8,8,8,8,8,8,8,8,8,8,8,8,8]
def A.b247:bN:=sr [mc 2 0]
 (.seq (sr [mv 3 0,ge 4 (.bin .geq (.node []) false (tq 3) (.const (.int .u64 4294967296)))]
 (cd 4
 (sr [mv 5 0,ge 6 (.bin .shr (.node []) false (tq 5) (.const (.int .u64 32))),mv 0 6]
 (.dN [mc 2 32]))
 (.skip)))
 (.seq (sr [mv 7 0,ge 8 (.bin .geq (.node []) false (tq 7) (.const (.int .u64 65536)))]
 (cd 8
 (sr [mv 9 0,ge 10 (.bin .shr (.node []) false (tq 9) (.const (.int .u64 16))),mv 0 10]
 (.dN [mv 11 2,bc 12 .add 11 16,mv 2 12]))
 (.skip)))
 (.seq (sr [mv 13 0,ge 14 (.bin .geq (.node []) false (tq 13) (.const (.int .u64 256)))]
 (cd 14
 (sr [mv 15 0,ge 16 (.bin .shr (.node []) false (tq 15) (.const (.int .u64 8))),mv 0 16]
 (.dN [mv 17 2,bc 18 .add 17 8,mv 2 18]))
 (.skip)))
 (sr [mv 19 2,mv 20 0,ge 21 (.cR .u8 (tq 20)),ge 22 (.bJ (.const (.str Ys9)) (tq 21)),ge 23 (.cR .i64 (tq 22)),bi 24 .add 19 23,mv 2 24]
 (.ret)))))
def A.k247:=@A.kk 247 25 [.tmp 2] A.b247 (by kernel_rfl) rfl
def A.b250:=A.q Tryz.f250
def A.k250:=@A.kk 250 6 [.tmp 2] A.b250 (by kernel_rfl) rfl
def aX(n:Nat):Nat:=if n=0 then 0 else Nat.log2 n+1
def Sf(n:Nat):n<2^aX n:=by
 unfold aX
 split
 ·simp[*]
 ·exact Nat.lt_log2_self
def KE(h:n≠0):2^(aX n-1)<=n:=by
 unfold aX
 rw[ak h]
 exact Nat.log2_self_le h
def Yrc{k:Nat}(h1:2^k<=n)(h2:n<2^(k+1)):aX n=k+1:=by
 have hn:n≠0:=by have:=rL k;omega
 unfold aX
 rw[ak hn]
 congr 1
 have h3:Nat.log2 n<k+1:=(Nat.log2_lt hn).2 h2
 have h4:k<=Nat.log2 n:=(Nat.le_log2 hn).2 h1
 omega
def zT{k:Nat}(h:2^k<=n):aX (av n k)+k=aX n:=by
 unfold av
 have h0:n/2^k≠0:=by
  have:=Nat.div_pos h (rL k);omega
 have h1:=Sf (n/2^k)
 have h2:=KE h0
 have hp:0<aX (n/2^k):=by unfold aX;rw[ak h0];omega
 have e:aX (n/2^k)+k=(aX (n/2^k)-1+k)+1:=by omega
 rw[e]
 symm
 apply Yrc
 ·rw[kj]
  exact p9 (ki _ h2) (Nat.div_mul_le_self n _)
 ·rw[show aX (n/2^k)-1+k+1=aX (n/2^k)+k by omega,kj]
  exact(qs (rL k)).1 h1
def FW:∀{n:Nat},n<256->Ys9[n]?=some (UInt8.ofNat (aX n)):=by decide+kernel
def DN:∀{n:Nat},n<256->aX n<9:=by decide+kernel
def FX(h:n<256):cK (UInt8.ofNat (aX n))=(aX n:Int):=by
 have:=DN h
 unfold cK
 simp;omega
def Zd{h:T O}{N:Nat}{x:Nat}(hx:x<18446744073709551616):Fn A.C 247 [.int .u64 x] h N (fun v' h' N'=>h'=h/\N'=N/\v'=.int .i64 (aX x:Nat)):=by
 intro w
 rw[aM,A.k247 (by simp)]
 by_cases h0:4294967296<=x
 ·have fZ:(4294967296:Int)<=((x:Nat):Int):=by omega
  by_cases h1:65536<=av (x) 32
  ·have fO:(65536:Int)<=((av (x) 32:Nat):Int):=by omega
   by_cases h2:256<=av (av (x) 32) 16
   ·have mB:(256:Int)<=((av (av (x) 32) 16:Nat):Int):=by omega
    have hb:av (av (av (x) 32) 16) 8<256:=by (try simp only[av]at*);omega
    have ht:=FW hb
    have hv:cK (UInt8.ofNat (aX (av (av (av (x) 32) 16) 8)))=(aX (av (av (av (x) 32) 16) 8):Int):=FX hb
    have hl:=DN hb
    simp(disch:=omega) [A.b247,fZ,fO,mB,B6,ht,hv,az]
    have:=zT (k:=32) (n:=x) h0
    have:=zT (k:=16) (n:=av (x) 32) h1
    have:=zT (k:=8) (n:=av (av (x) 32) 16) h2
    first|exact ab.refl|exact And.intro ab.refl (by omega)
   ·have mB:¬(256:Int)<=((av (av (x) 32) 16:Nat):Int):=by omega
    have hb:av (av (x) 32) 16<256:=by (try simp only[av]at*);omega
    have ht:=FW hb
    have hv:cK (UInt8.ofNat (aX (av (av (x) 32) 16)))=(aX (av (av (x) 32) 16):Int):=FX hb
    have hl:=DN hb
    simp(disch:=omega) [A.b247,fZ,fO,mB,B6,ht,hv,az]
    have:=zT (k:=32) (n:=x) h0
    have:=zT (k:=16) (n:=av (x) 32) h1
    first|exact ab.refl|exact And.intro ab.refl (by omega)
  ·have fO:¬(65536:Int)<=((av (x) 32:Nat):Int):=by omega
   by_cases h2:256<=av (x) 32
   ·have mB:(256:Int)<=((av (x) 32:Nat):Int):=by omega
    have hb:av (av (x) 32) 8<256:=by (try simp only[av]at*);omega
    have ht:=FW hb
    have hv:cK (UInt8.ofNat (aX (av (av (x) 32) 8)))=(aX (av (av (x) 32) 8):Int):=FX hb
    have hl:=DN hb
    simp(disch:=omega) [A.b247,fZ,fO,mB,B6,ht,hv,az]
    have:=zT (k:=32) (n:=x) h0
    have:=zT (k:=8) (n:=av (x) 32) h2
    first|exact ab.refl|exact And.intro ab.refl (by omega)
   ·have mB:¬(256:Int)<=((av (x) 32:Nat):Int):=by omega
    have hb:av (x) 32<256:=by (try simp only[av]at*);omega
    have ht:=FW hb
    have hv:cK (UInt8.ofNat (aX (av (x) 32)))=(aX (av (x) 32):Int):=FX hb
    have hl:=DN hb
    simp(disch:=omega) [A.b247,fZ,fO,mB,B6,ht,hv,az]
    have:=zT (k:=32) (n:=x) h0
    first|exact ab.refl|exact And.intro ab.refl (by omega)
 ·have fZ:¬(4294967296:Int)<=((x:Nat):Int):=by omega
  by_cases h1:65536<=x
  ·have fO:(65536:Int)<=((x:Nat):Int):=by omega
   by_cases h2:256<=av (x) 16
   ·have mB:(256:Int)<=((av (x) 16:Nat):Int):=by omega
    have hb:av (av (x) 16) 8<256:=by (try simp only[av]at*);omega
    have ht:=FW hb
    have hv:cK (UInt8.ofNat (aX (av (av (x) 16) 8)))=(aX (av (av (x) 16) 8):Int):=FX hb
    have hl:=DN hb
    simp(disch:=omega) [A.b247,fZ,fO,mB,B6,ht,hv,az]
    have:=zT (k:=16) (n:=x) h1
    have:=zT (k:=8) (n:=av (x) 16) h2
    first|exact ab.refl|exact And.intro ab.refl (by omega)
   ·have mB:¬(256:Int)<=((av (x) 16:Nat):Int):=by omega
    have hb:av (x) 16<256:=by (try simp only[av]at*);omega
    have ht:=FW hb
    have hv:cK (UInt8.ofNat (aX (av (x) 16)))=(aX (av (x) 16):Int):=FX hb
    have hl:=DN hb
    simp(disch:=omega) [A.b247,fZ,fO,mB,B6,ht,hv,az]
    have:=zT (k:=16) (n:=x) h1
    first|exact ab.refl|exact And.intro ab.refl (by omega)
  ·have fO:¬(65536:Int)<=((x:Nat):Int):=by omega
   by_cases h2:256<=x
   ·have mB:(256:Int)<=((x:Nat):Int):=by omega
    have hb:av (x) 8<256:=by (try simp only[av]at*);omega
    have ht:=FW hb
    have hv:cK (UInt8.ofNat (aX (av (x) 8)))=(aX (av (x) 8):Int):=FX hb
    have hl:=DN hb
    simp(disch:=omega) [A.b247,fZ,fO,mB,B6,ht,hv,az]
    have:=zT (k:=8) (n:=x) h2
    first|exact ab.refl|exact And.intro ab.refl (by omega)
   ·have mB:¬(256:Int)<=((x:Nat):Int):=by omega
    have hb:x<256:=by (try simp only[av]at*);omega
    have ht:=FW hb
    have hv:cK (UInt8.ofNat (aX (x)))=(aX (x):Int):=FX hb
    have hl:=DN hb
    simp(disch:=omega) [A.b247,fZ,fO,mB,B6,ht,hv,az]
    first|exact ab.refl|exact And.intro ab.refl (by omega)
def Ye0{h:T O}{N:Nat}{x:Nat}(hx:x<18446744073709551616):Fn A.C 250 [.int .u64 x] h N (fun v' h' N'=>h'=h/\N'=N/\v'=.int .i64 ((64-aX x:Nat))):=by
 intro w
 have hl:aX x<=64:=by
  by_cases h0:x=0
  ·subst h0;decide
  ·apply zB
   intro hc
   have:=KE h0
   have:2^64<=2^(aX x-1):=rJ (by decide) (by omega)
   omega
 rw[aM,A.k250 (by simp)]
 simp[A.b250]
 refine ay (Zd hx) ?_
 rintro _ _ _ hk ⟨rfl,rfl,rfl⟩
 simp(disch:=omega) [az]
 exact⟨hk,by omega⟩
variable {s x:Nat}
set_option maxHeartbeats 2000000
def A.NJ:=A.q Tryz.f251
def A.nj:=A.ql A.NJ 0 []
def A.b251:=(fun x0=>A.qb A.NJ [x0]) A.nj
def A.k251:=@A.kk 251 40 [.tmp 4] A.b251 (by kernel_rfl) rfl
def RZ{c:Nat}(hs:s<64)(hc:c<2^s):jm c (bL x s)=c+bL x s:=by
 unfold jm bL
 have e:x*2^s%18446744073709551616=(x%2^(64-s))<<<s:=by
  rw[Nat.shiftLeft_eq]
  have:(18446744073709551616:Nat)=2^(64-s)*2^s:=by rw[<-kj,show 64-s+s=64 by omega]
  rw[this,LQ]
 rw[e,Nat.or_comm,Nat.add_comm,Nat.shiftLeft_add_eq_or_of_lt hc]
def Yc3(hs:s<=64):bL x s+B*av x (64-s)=x*2^s:=by
 unfold bL av
 have e:x/2^(64-s)=x*2^s/18446744073709551616:=by
  have:(18446744073709551616:Nat)=2^(64-s)*2^s:=by rw[<-kj,show 64-s+s=64 by omega]
  rw[this,QY _ _ (rL s)]
 rw[e]
 have:=uZ (x*2^s) 18446744073709551616
 unfold B
 omega
def Ylw(hx:x<B)(hs:s<=64):av x (64-s)<2^s:=by
 unfold av
 apply (qs (rL _)).2
 rw[<-kj,show s+(64-s)=64 by omega]
 exact hx
def Zqb{c:Nat}(hs:s<64)(hc:c<2^s):c+bL x s<B:=by
 rw[<-RZ hs hc]
 unfold jm
 apply Nat.or_lt_two_pow (n:=64)
 ·exact Nat.lt_trans hc (Nat.pow_lt_pow_right (by decide) hs)
 ·exact YG
structure ShJ (h:T O) (N:Nat) (l:List Nat) (s k:Nat) (o:List Nat) (c:Nat) (r:T V) (st:St):Prop where
 hk:k<=l.length
 KF:r.get 14=some (.int .i64 k)
 n:st.n=N+1
 w:ar N st.w=[]
 ad:ab h N st.h (N+1)
 row:st.h.get N=some (.cells (dg o) 200 true)
 len:o.length=l.length+1
 dg:Dg o
 zero:∀t,k<t->t<o.length->o[t]?=some 0
 top:o[k]?=some c
 lc:c<2^s
 ex:val B o=val B (l.take k)*2^s
def ShI(h:T O)(N:Nat)(l:List Nat)(s m:Nat)(r:T V)(st:St):Prop:=∃k o c,m=l.length-k/\ShJ h N l s k o c r st
def ShE(h:T O)(N:Nat)(l:List Nat)(s:Nat)(r:T V)(st:St):Prop:=∃o c,ShJ h N l s l.length o c r st
def Zqd{h:T O}{N:Nat}{v:V}{l:List Nat}(hv:Sl h N v (Go.Mx.dg l))(hd:Dg l)(hs:s<64)(hl:l.length<1099511627776):Fn A.C 251 [v,.int .i64 s] h N (fun v' h' N'=>∃i o,N<=i/\i<N'/\v'=.slice i 0 (l.length+1) (some (l.length+1)) 1/\h'.get i=some (.cells (dg o) 200 true)/\o.length=l.length+1/\Dg o/\val B o=val B l*2^s):=by
 intro w
 have lx:=hv.len
 rw[bB]at lx
 rw[aM,A.k251 (by simp)]
 simp(disch:=first|(simp;done)|omega|(simp only[bB,cC,bo];omega)|rfl) [A.b251,lx]
 refine bA [(6,7),(14,38)] (fun e r st=>e=.exit 0/\ShE h N l s r st) (ShI h N l s) l.length ?_ ?_ ?_
 ·refine⟨0,List.replicate (l.length+1) 0,0,by omega,⟨by omega,by simp,by simp,by simp,ab.refl.set (aO _) |>.up (by omega),by simp[HY],by simp,?_,?_,by simp,rL s,by simp[val,Zsx]⟩⟩
  ·intro d hd
   rw[GK]at hd
   rw[hd.2];decide
  ·intro t _ ht
   simp at ht
   simp[ht]
 ·rintro m r ⟨H,n1,W⟩ hr hf ⟨k,o,c,rfl,hk,oG,hn,hW,hK,hN,ho,KG,hz,hc,zv,he⟩
  simp only at hn hW hK hN
  subst hn
  rw[bb]
  by_cases au:k<l.length
  ·obtain⟨i1,o1,c1,e1,w1,p1,p2,p3,p4⟩:=hv.at (fz (cF au))
   have p3:=(hK.get _ p2).trans p3
   have gx:=cF au
   generalize l[k]=x at*
   have hx:x<B:=hd.get gx
   have Za:c<18446744073709551616:=KG.get hc
   have wI:=RZ (x:=x) hs zv
   have cX:=Zqb (x:=x) hs zv
   obtain⟨z,Ze⟩:∃z,c+bL x s=z:=⟨_,rfl⟩
   rw[Ze]at wI cX
   have zaB:(o.set k z).length=l.length+1:=by simp[ho]
   have FA:=Yc3 (x:=x) (s:=s) (by omega)
   have cD:=Ylw hx (s:=s) (by omega)
   have v1:=NH (b:=B) (v:=z) hc
   have wD:(o.set k z)[k+1]?=some 0:=by
    rw[eH (by omega)];exact hz _ (by omega) (by omega)
   have v2:=NH (b:=B) (v:=av x (64-s)) wD
   by_cases h0:0<s
   ·have fZ:(0:Int)<(s:Int):=by omega
    simp(disch:=first|(simp;done)|omega|(simp only[bB,cC,bo];omega)|rfl) [-getElem?_pos,A.nj,hr,oG,au,lx,p1,p3,p4,hN,fz hc,wI,qe,h0,hf]
    refine⟨_,by omega,k+1,(o.set k z).set (k+1) (av x (64-s)),av x (64-s),rfl,⟨by omega,by simp,rfl,by simp[hW],(hK.set (aO _)).set (aO _),by simp,by simp[ho],(KG.set cX).set (e_ cD (rJ (by decide) (by omega):2^s<=2^64)),?_,jB (by omega),cD,?_⟩⟩
    ·intro t t1 t2
     rw[eH (by omega),eH (by omega)]
     exact hz t (by omega) (by simpa using t2)
    ·rw[FM gx,iY,<-he]
     rw[<-Ze]at v1 v2 ⊢
     have e3:B^k*(bL x s+B*av x (64-s))=B^k*(x*2^s):=by rw[FA]
     rw[gw]at v2
     generalize val B ((o.set k (c+bL x s)).set (k+1) (av x (64-s)))=z1 at*
     generalize val B (o.set k (c+bL x s))=z2 at*
     generalize val B o=z3 at*
     generalize bL x s=z4 at*
     generalize av x (64-s)=z5 at*
     generalize B^k=z6 at*
     grind
   ·have fZ:¬(0:Int)<(s:Int):=by omega
    simp(disch:=first|(simp;done)|omega|(simp only[bB,cC,bo];omega)|rfl) [-getElem?_pos,A.nj,hr,oG,au,lx,p1,p3,p4,hN,fz hc,wI,qe,h0,hf]
    have fh:s=0:=by omega
    subst fh
    have gl:c=0:=by simpa using zv
    subst gl
    have e0:bL x 0=x:=by unfold bL;unfold B at hx;simp;omega
    have qF:z=x:=by rw[<-Ze,e0];omega
    subst qF
    refine⟨_,by omega,k+1,o.set k z,0,rfl,⟨by omega,by simp,rfl,by simp[hW],hK.set (aO _),by simp,by simp[ho],KG.set hx,?_,?_,by decide,?_⟩⟩
    ·intro t t1 t2
     rw[eH (by omega)]
     exact hz t (by omega) (by simpa using t2)
    ·rw[eH (by omega)];exact hz _ (by omega) (by omega)
    ·rw[FM gx,iY,<-he]
     simpa using v1
  ·have:k=l.length:=by omega
   subst this
   simp[A.nj,hr,oG,hf]
   exact⟨o,c,⟨by omega,by simp[oG],rfl,hW,hK,hN,ho,KG,hz,hc,zv,he⟩⟩
 ·rintro _ r ⟨H,n1,W⟩ hr ⟨rfl,o,c,hk,oG,hn,hW,hK,hN,ho,KG,hz,hc,zv,he⟩
  simp only at hn hW hK hN
  subst hn
  simp[hr,hN,az]
  rw[fb (aO _)]at he
  exact⟨hW,hK,N,aO _,by omega,rfl,o,hN,ho,KG,he⟩
open Go
variable {b r:Nat}
def Sg{u un cA kX q:Nat}(hi:u=q*cA+r)(hc:q*kX<=b*r+un):q*(cA*b+kX)<=u*b+un:=by
 subst hi
 rw[tV,iY,<-EO,jg r b]
 omega
def Zyz{u un cA kX q:Nat}(hi:u=q*cA+r)(hc:b*r+un<q*kX):u*b+un<q*(cA*b+kX):=by
 subst hi
 rw[tV,iY,<-EO,jg r b]
 omega
def Zum{a y q:Nat}(h:a<q*y):a/y<q:=by
 rcases G6 y with rfl|hy
 ·simp at h
 ·exact(qs hy).2 h
def KH{a y q:Nat}(hy:0<y)(h:q*y<=a):q<=a/y:=(JO hy).2 h
def Ypz{P u1 u2 U' v1 v2 V' s:Nat}(oP:0<v1)(Dc:V'<P)(ht:s<=b)(hinv:u1=(s+1)*v1+r)(hc:(s+1)*v2<=r*b+u2):
  s*(V'+P*(v2+b*v1))<=U'+P*(u2+b*u1):=by
 have h1:s*V'<=b*P:=oL ht (by omega)
 have h2:b*P*1<=b*P*v1:=kO _ oP
 have h3:P*((s+1)*v2)<=P*(r*b+u2):=kO _ hc
 have h4:P*((s+1)*v2)=P*(s*v2)+P*v2:=by grind
 have h5:s*(V'+P*(v2+b*v1))=s*V'+P*(s*v2)+b*(P*(s*v1)):=by grind
 have h6:U'+P*(u2+b*u1)=U'+P*(r*b+u2)+b*(P*(s*v1))+b*P*v1:=by subst hinv;grind
 omega
def Ypy{P u1 u2 U' v1 v2 V' t:Nat}(Db:U'<P)(hinv:u1=t*v1+r)(hc:r*b+u2<t*v2):
  U'+P*(u2+b*u1)<t*(V'+P*(v2+b*v1)):=by
 have h3:P*(r*b+u2+1)<=P*(t*v2):=kO _ hc
 have h5:t*(V'+P*(v2+b*v1))=t*V'+P*(t*v2)+b*(P*(t*v1)):=by grind
 have h6:U'+P*(u2+b*u1)+P=U'+P*(r*b+u2+1)+b*(P*(t*v1)):=by subst hinv;grind
 omega
end
end Go.Mx
