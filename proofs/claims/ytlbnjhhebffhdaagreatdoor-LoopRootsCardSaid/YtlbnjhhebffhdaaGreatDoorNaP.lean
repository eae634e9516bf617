/-num-/
import Derived.Test.YtlbnjhhebffhdaaGreatDoorRcJ
set_option linter.all false
set_option maxHeartbeats 8000000
namespace Go.Mx
noncomputable section
open Go Go.Proofs
set_option maxRecDepth 1000000
def A.RE:=A.q Tryz.f208
def A.jK:=A.ql A.RE 0 []
def A.b208:=(fun x0=>A.qb A.RE [x0]) A.jK
def A.k208:=@A.kk 208 41 [.tmp 4] A.b208 (by kernel_rfl) rfl
def uT(x y:Int):Int:=if x<y then -1 else if y<x then 1 else 0
def Yk1{x y:Nat}(h:(aQ x).length<(aQ y).length):x<y:=by
 apply Yxf
 intro hc
 have:=Ep hc
 omega
def Vq{b:Nat}{l:List Nat}{k d:Nat}(h:l[k]?=some d):val b (l.drop k)=d+b*val b (l.drop (k+1)):=by
 have hk:k<l.length:=by
  apply Yxf;intro hc;rw[kc hc]at h;cases h
 rw[IC hk]
 rw[Yv8 hk]at h
 simp only[au]at h
 rw[h];rfl
def Zrp(b:Nat)(l:List Nat)(k:Nat)(hk:k<=l.length):val b l=val b (l.take k)+b^k*val b (l.drop k):=by
 have:=Ue b (l.take k) (l.drop k)
 rw[AO,j9,oW hk]at this
 exact this
def Ykh{x y:List Nat}{k:Nat}(gx:Dg x)(hx:k<=x.length)(hy:k<=y.length)(h:val B (x.drop k)<val B (y.drop k)):val B x<val B y:=by
 rw[Zrp B x k hx,Zrp B y k hy]
 have h1:val B (x.take k)<B^k:=by
  have:=Em (b:=B) (l:=x.take k) fun d hd=>gx d (BR hd)
  rwa [j9,oW hx]at this
 have h2:B^k*(val B (x.drop k)+1)<=B^k*val B (y.drop k):=jh _ h
 rw[rX]at h2
 omega
structure Yt5 (h:T O) (N x y m:Nat) (r:T V) (st:St):Prop where
 hm:m<=(aQ x).length
 r5:r.get 5=some (.int .i64 ((m:Int)-1))
 n:st.n=N
 w:st.w=[]
 ai:ah h N st.h N
 top:(aQ x).drop m=(aQ y).drop m
def Zhx{h:T O}{N:Nat}{vx vy:V}{x y:Nat}(hx:Wn h N vx x)(hy:Wn h N vy y)(Cs:(aQ x).length<1099511627776)(OV:(aQ y).length<1099511627776):Fn A.C 208 [vx,vy] h N (fun v' h' N'=>v'=.int .i64 (uT x y)):=by
 intro w
 have lx:=hx.len
 have ly:=hy.len
 rw[bH]at lx ly
 rw[aZ,A.k208 (by simp)]
 by_cases cv:(aQ x).length=(aQ y).length
 ·have zeT:((aQ x).length:Int)=((aQ y).length:Int):=by omega
  simp(disch:=omega) [A.b208,lx,ly,cv]
  refine Zal [(4,5),(19,40)] (fun e r st=>(e=.exit 0/\Yt5 h N x y 0 r st)\/(e=.ret/\r.get 4=some (.int .i64 (uT x y))/\st.n=N/\st.w=[]/\ah h N st.h N)) (Yt5 h N x y) (aQ x).length ?_ ?_ ?_
  ·exact⟨by omega,by simp[cv],rfl,rfl,ah.refl,by rw[xD,cv,xD]⟩
  ·rintro m r ⟨H,n1,W⟩ hr hf ⟨hm,h5,hn,hW,hK,ht⟩
   simp only at hn hW hK
   subst hn;subst hW
   rw[cn]
   cases m with
   |zero=>
    simp[A.jK,h5,hf]
    exact⟨by omega,by simp[h5],rfl,rfl,hK,ht⟩
   |succ m=>
    have dT:m<(aQ x).length:=by omega
    have hmy:m<(aQ y).length:=by omega
    have h5':r.get 5=some (.int .i64 (m:Int)):=by rw[h5];congr 2;omega
    have gx:=Yv8 dT
    have gy:=Yv8 hmy
    obtain⟨i1,o1,c1,e1,w1,p1,p2,p3,p4⟩:=hx.at (Za8 gx)
    have p3:=(hK.get _ p2).trans p3
    obtain⟨i2,o2,c2,e2,w2,q1,q2,q3,q4⟩:=hy.at (Za8 gy)
    have q3:=(hK.get _ q2).trans q3
    rcases Nat.lt_trichotomy (aQ x)[m] (aQ y)[m]with aW|heq|Ml
    ·have zik:x<y:=by
      have:=Ykh (x:=aQ x) (y:=aQ y) (k:=m) (qP x) (by omega) (by omega) (by rw[Vq gx,Vq gy,ht];omega)
      rwa [mj,mj]at this
     have kj:¬(aQ x)[m]=(aQ y)[m]:=by omega
     simp(disch:=first|(simp;done)|omega|(simp only[bH,cy,bC];omega)|rfl) [A.jK,h5',hr,hf,lx,ly,p1,p2,p3,p4,q1,q2,q3,q4,a_,kj,aW]
     exact⟨by simp[uT,zik],hK⟩
    ·have PZ:(aQ x).drop m=(aQ y).drop m:=by rw[IC dT,IC hmy,ht,heq]
     simp(disch:=first|(simp;done)|omega|(simp only[bH,cy,bC];omega)|rfl) [A.jK,h5',hr,hf,lx,ly,p1,p2,p3,p4,q1,q2,q3,q4,a_,heq]
     exact⟨m,by omega,⟨by omega,by simp,rfl,rfl,hK,PZ⟩⟩
    ·have zik:y<x:=by
      have:=Ykh (x:=aQ y) (y:=aQ x) (k:=m) (qP y) (by omega) (by omega) (by rw[Vq gx,Vq gy,ht];omega)
      rwa [mj,mj]at this
     have kj:¬(aQ x)[m]=(aQ y)[m]:=by omega
     have aW:¬(aQ x)[m]<(aQ y)[m]:=by omega
     have zZ:¬x<y:=by omega
     simp(disch:=first|(simp;done)|omega|(simp only[bH,cy,bC];omega)|rfl) [A.jK,h5',hr,hf,lx,ly,p1,p2,p3,p4,q1,q2,q3,q4,a_,kj,aW]
     exact⟨by simp[uT,zik,zZ],hK⟩
  ·rintro e r ⟨H,n1,W⟩ hr (⟨rfl,hm,h5,hn,hW,hK,ht⟩|⟨rfl,h4,hn,hW,hK⟩)
   ·simp only at hn hW hK
    subst hn;subst hW
    simp only[Au]at ht
    have:x=y:=by rw[<-mj x,ht,mj]
    subst this
    simp[Ret]
    exact⟨hK,by simp[uT]⟩
   ·simp only at hn hW hK
    subst hn;subst hW
    simp[h4,Ret]
    exact hK
 ·have zeT:¬((aQ x).length:Int)=((aQ y).length:Int):=by omega
  by_cases aW:(aQ x).length<(aQ y).length
  ·have:=Yk1 aW
   simp[A.b208,lx,ly,cv,aW,Ret]
   exact⟨ah.refl,by simp[uT,this]⟩
  ·have h1:=Yk1 (x:=y) (y:=x) (by omega)
   have h2:¬x<y:=by omega
   simp[A.b208,lx,ly,cv,aW,Ret]
   exact⟨ah.refl,by simp[uT,h1,h2]⟩
def A.KH:=A.q Tryz.f206
def A.rk:=A.ql A.KH 1 []
def A.ziL:=(fun x0=>A.ql A.KH 0 [x0]) A.rk
def A.b206:=(fun x0=>A.qb A.KH [x0]) A.ziL
def A.k206:=@A.kk 206 80 [.tmp 4] A.b206 (by kernel_rfl) rfl
def P4{b:Nat}:∀{l:List Nat} {k old v:Nat},l[k]?=some old->val b (l.set k v)+b^k*old=val b l+b^k*v
 |[],k,old,v,h=>by simp at h
 |d::l,0,old,v,h=>by simp at h;subst h;simp[val];omega
 |d::l,k+1,old,v,h=>by
  have ih:=P4 (b:=b) (l:=l) (k:=k) (old:=old) (v:=v) (by simpa using h)
  simp only[List.set_cons_succ,val,fV]
  generalize val b (l.set k v)=p at*
  generalize val b l=q at*
  generalize b^k=z at*
  have:b*(p+z*old)=b*(q+z*v):=by rw[ih]
  grind
def Dg.set{l:List Nat}(h:Dg l){k v:Nat}(hv:v<B):Dg (l.set k v):=by
 intro d hd
 rcases Aw hd with hd|hd
 ·exact h d hd
 ·subst hd;exact hv
def fT(x y o c:Nat):Nat:=bJ (bJ (bJ (x*y)+o)+c)
def iZ(x y o c:Nat):Nat:=cW (cW (cG (x*y)) (cG (bJ (x*y)+o))) (cG (bJ (bJ (x*y)+o)+c))
def Yif{x y o c:Nat}(hx:x<B)(hy:y<B)(ho:o<B)(hc:c<B):fT x y o c+B*iZ x y o c=x*y+o+c/\fT x y o c<B/\iZ x y o c<B:=by
 have:x*y<=18446744073709551615*18446744073709551615:=tU (by unfold B at*;omega) (by unfold B at*;omega)
 unfold fT iZ bJ cG cW
 unfold B at*
 generalize x*y=p at*
 omega
structure Yt4 (h:T O) (N x y i j:Nat) (o:List Nat) (c xi:Nat) (r:T V) (st:St):Prop where
 hj:j<=(aQ y).length
 r29:r.get 29=some (.int .i64 j)
 r8:r.get 8=some (.int .u64 c)
 n:st.n=N+1
 w:aL N st.w=[]
 ai:ah h N st.h (N+1)
 row:st.h.get N=some (.cells (dg o) 215 true)
 len:o.length=(aQ x).length+(aQ y).length
 dg:Dg o
 zero:∀t,i+(aQ y).length<=t->t<o.length->o[t]?=some 0
 lc:c<B
 ex:val B o+B^(i+j)*c=val B ((aQ x).take i)*y+B^i*(xi*val B ((aQ y).take j))
def Yvv(h:T O)(N x y i xi m:Nat)(r:T V)(st:St):Prop:=∃j o c,m=(aQ y).length-j/\Yt4 h N x y i j o c xi r st
def Yvw(h:T O)(N x y i xi:Nat)(r:T V)(st:St):Prop:=∃o c,Yt4 h N x y i (aQ y).length o c xi r st
structure Yrq (h:T O) (N x y i:Nat) (o:List Nat) (r:T V) (st:St):Prop where
 hi:i<=(aQ x).length
 r22:r.get 22=some (.int .i64 i)
 n:st.n=N+1
 w:aL N st.w=[]
 ai:ah h N st.h (N+1)
 row:st.h.get N=some (.cells (Go.Mx.dg o) 215 true)
 len:o.length=(aQ x).length+(aQ y).length
 dg:Dg o
 zero:∀t,i+(aQ y).length<=t->t<o.length->o[t]?=some 0
 ex:val B o=val B ((aQ x).take i)*y
def Ytp(h:T O)(N x y m:Nat)(r:T V)(st:St):Prop:=∃i o,m=(aQ x).length-i/\Yrq h N x y i o r st
def Ytq(h:T O)(N x y:Nat)(r:T V)(st:St):Prop:=∃o,Yrq h N x y (aQ x).length o r st
def Zu1{h:T O}{N:Nat}{vx vy:V}{x y:Nat}(hx:Wn h N vx x)(hy:Wn h N vy y)(Cs:(aQ x).length<1099511627776)(OV:(aQ y).length<1099511627776):Fn A.C 206 [vx,vy] h N (fun v' h' N'=>Wn h' N' v' (x*y)):=by
 intro w
 have lx:=hx.len
 have ly:=hy.len
 rw[bH]at lx ly
 rw[aZ,A.k206 (by simp)]
 simp(disch:=first|(simp;done)|omega|(simp only[bH,cy,bC];omega)|rfl) [A.b206,lx,ly]
 refine Zal [(6,13),(22,77)] (fun e r st=>e=.exit 0/\Ytq h N x y r st) (Ytp h N x y) (aQ x).length ?_ ?_ ?_
 ·refine⟨0,List.replicate ((aQ x).length+(aQ y).length) 0,by omega,⟨by omega,by simp,by simp,by simp,ah.refl.set (Yv5 _) |>.up (by omega),?_,by simp,?_,?_,by simp[val,Zro]⟩⟩
  ·simp[JK]
  ·intro d hd
   rw[LA]at hd
   rw[hd.2];decide
  ·intro t _ ht
   simp at ht
   simp[ht]
 ·rintro m r ⟨H,n1,W⟩ hr hf ⟨i,o,rfl,hi,h22,hn,hW,hK,hN,ho,hd,hz,he⟩
  simp only at hn hW hK hN
  subst hn
  rw[cn]
  by_cases aW:i<(aQ x).length
  ·obtain⟨i1,o1,c1,e1,w1,p1,p2,p3,p4⟩:=hx.at (Za8 (Yv8 aW))
   have p3:=(hK.get _ p2).trans p3
   have gx:=Yv8 aW
   generalize (aQ x)[i]=xi at*
   simp[A.ziL,hr,h22,aW,lx,ly,p1,p3,p4]
   refine Zal [(8,13),(29,69)] (fun e r st=>e=.exit 2/\Yvw h N x y i xi r st) (Yvv h N x y i xi) (aQ y).length ?_ ?_ ?_
   ·exact⟨0,o,0,by omega,⟨by omega,by simp,by simp,rfl,hW,hK,hN,ho,hd,hz,by decide,by simp[val,he]⟩⟩
   ·rintro m r2 ⟨H2,n2,W2⟩ dw ik ⟨j,o2,c,rfl,hj,RF,h8,eP,dX,hK2,uZ,wX,yd,fK,yX,he2⟩
    simp only at eP dX hK2 uZ
    subst eP
    rw[cn]
    have hi:xi<B:=(qP x).get gx
    by_cases zik:j<(aQ y).length
    ·obtain⟨i2,o3,c3,e3,w3,q1,q2,q3,q4⟩:=hy.at (Za8 (Yv8 zik))
     have q3:=(hK2.get _ q2).trans q3
     have gy:=Yv8 zik
     generalize (aQ y)[j]=yj at*
     have hyj:yj<B:=(qP y).get gy
     have go:=Yv8 (l:=o2) (i:=i+j) (by omega)
     generalize o2[i+j]'(by omega)=ov at*
     simp[A.rk,dw,RF,zik,ly,q1,q3,q4]
     refine av (PU hi hyj) ?_
     rintro _ _ _ CL ⟨rfl,rfl,rfl⟩
     simp(disch:=first|(simp;done)|omega|(simp only[bH,cy,bC];omega)|rfl) [-getElem?_pos,hr,dw,RF,h8,zik,lx,ly,q1,q3,q4,ik,uZ,Za8 go,oT]
     obtain⟨m1,m2,m3⟩:=Yif hi hyj (yd.get go) yX
     refine⟨_,by omega,j+1,o2.set (i+j) (fT xi yj ov c),iZ xi yj ov c,rfl,⟨by omega,by simp,?_,rfl,by simp[dX],hK2.set (Yv5 _),?_,by simp[wX],yd.set m2,?_,m3,?_⟩⟩
     ·simp[iZ]
     ·simp[fT]
     ·intro t t1 t2
      rw[eJ (by omega)]
      exact fK t t1 (by simpa using t2)
     ·have v1:=P4 (b:=B) (v:=fT xi yj ov c) go
      rw[El gy]
      have e1:B^(i+(j+1))=B^(i+j)*B:=by rw[show i+(j+1)=(i+j)+1 by omega,fV]
      have e2:B^i*(xi*(B^j*yj))=B^(i+j)*(xi*yj):=by rw[Yw8];grind
      have e3:B^(i+j)*(fT xi yj ov c+B*iZ xi yj ov c)=B^(i+j)*(xi*yj+ov+c):=by rw[m1]
      rw[e1]
      generalize val B (List.set o2 (i+j) (fT xi yj ov c))=z1 at*
      generalize val B o2=z2 at*
      generalize fT xi yj ov c=z3 at*
      generalize iZ xi yj ov c=z4 at*
      generalize val B (List.take j (aQ y))=z5 at*
      generalize B^(i+j)=z6 at*
      grind
    ·have:j=(aQ y).length:=by omega
     subst this
     simp[A.rk,dw,RF,ik]
     exact⟨o2,c,⟨by omega,by simp[RF],by simp[h8],rfl,dX,hK2,uZ,wX,yd,fK,yX,he2⟩⟩
   ·rintro e r2 ⟨H2,n2,W2⟩ dw ⟨rfl,o2,c,hj,RF,h8,eP,dX,hK2,uZ,wX,yd,fK,yX,he2⟩
    simp only at eP dX hK2 uZ
    subst eP
    have ik:=hf.inner (D':=[(8,13),(29,69)]) rfl (by simp) dw
    simp(disch:=first|(simp;done)|omega|(simp only[bH,cy,bC];omega)|rfl) [hr,dw,h22,h8,ly,uZ,oT,ik]
    have tI:o2[i+(aQ y).length]?=some 0:=fK _ (Yv5 _) (by omega)
    refine⟨_,by omega,i+1,o2.set (i+(aQ y).length) c,rfl,⟨by omega,by simp,rfl,by simp[dX],hK2.set (Yv5 _),by simp,by simp[wX],yd.set yX,?_,?_⟩⟩
    ·intro t t1 t2
     rw[eJ (by omega)]
     exact fK t (by omega) (by simpa using t2)
    ·have v1:=P4 (b:=B) (v:=c) tI
     rw[jP (Yv5 _),mj]at he2
     rw[El gx]
     simp only[Nat.mul_zero,mY]at v1
     rw[v1,he2]
     grind
  ·have:i=(aQ x).length:=by omega
   subst this
   simp[A.ziL,hr,h22,hf]
   exact⟨o,⟨by omega,by simp[h22],rfl,hW,hK,hN,ho,hd,hz,he⟩⟩
 ·rintro _ r ⟨H,n1,W⟩ hr ⟨rfl,o,hi,h22,hn,hW,hK,hN,ho,hd,hz,he⟩
  simp only at hn hW hK hN
  subst hn
  simp[hr]
  refine av (CM (l:=o) (Sl.row (e:=215) (rw:=true) (by omega) (by simp[hN]) (by simp[ho]) (by simp)) (by simp[ho];omega)) ?_
  intro v' h' n' jO hs
  simp[Ret]
  refine⟨hW,hK.trans jO,?_⟩
  rw[jP (Yv5 _),mj]at he
  rw[CI hd,he]at hs
  exact hs
variable {n:Nat}
def Yqw:List UInt8:=[0,1,2,2,3,3,3,3,4,4,4,4,4,4,4,4,5,5,5,5,5,5,5,5,5,5,5,5,5,5,5,5,6,6,6,6,6,6,6,6,6,6,6,6,6,6,6,6,6,6,6,6,6,6,6,6,6,6,6,6,6,6,6,6,7,7,7,7,7,7,7,7,7,7,7,7,7,7,7,7,7,7,7,7,7,7,7,7,7,7,7,7,7,7,7,7,7,7,7,7,7,7,7,7,7,7,7,7,7,7,7,7,7,7,7,7,7,7,7,7,7,7,7,7,7,7,7,7,8,8,8,8,8,8,8,8,8,8,8,8,8,8,8,8,8,8,8,8,8,8,8,8,8,8,8,8,8,8,8,8,8,8,8,8,8,8,8,8,8,8,8,8,8,8,8,8,8,8,8,8,8,8,8,8,8,8,8,8,8,8,8,8,8,8,8,8,8,8,8,8,8,8,8,8,8,8,8,8,8,8,8,8,8,8,8,8,8,8,8,8,8,8,8,8,8,8,8,8,8,8,8,8,8,8,8,8,8,8,8,8,8,8,8,8,8,8,8,8,8,8,8,8,8,8,8,8]
def A.b273:cC:=sr [mc 2 0]
 (.seq (sr [mv 3 0,ge 4 (.bin .geq (.node []) false (tq 3) (.const (.int .u64 4294967296)))]
 (cd 4
 (sr [mv 5 0,ge 6 (.bin .shr (.node []) false (tq 5) (.const (.int .u64 32))),mv 0 6]
 (.fk [mc 2 32]))
 (.skip)))
 (.seq (sr [mv 7 0,ge 8 (.bin .geq (.node []) false (tq 7) (.const (.int .u64 65536)))]
 (cd 8
 (sr [mv 9 0,ge 10 (.bin .shr (.node []) false (tq 9) (.const (.int .u64 16))),mv 0 10]
 (.fk [mv 11 2,bc 12 .add 11 16,mv 2 12]))
 (.skip)))
 (.seq (sr [mv 13 0,ge 14 (.bin .geq (.node []) false (tq 13) (.const (.int .u64 256)))]
 (cd 14
 (sr [mv 15 0,ge 16 (.bin .shr (.node []) false (tq 15) (.const (.int .u64 8))),mv 0 16]
 (.fk [mv 17 2,bc 18 .add 17 8,mv 2 18]))
 (.skip)))
 (sr [mv 19 2,mv 20 0,ge 21 (.zig .u8 (tq 20)),ge 22 (.bP (.const (.str Yqw)) (tq 21)),ge 23 (.zig .i64 (tq 22)),bi 24 .add 19 23,mv 2 24]
 (.ret)))))
def A.k273:=@A.kk 273 25 [.tmp 2] A.b273 (by kernel_rfl) rfl
def A.b240:=A.q Tryz.f240
def A.k240:=@A.kk 240 6 [.tmp 2] A.b240 (by kernel_rfl) rfl
def zgd(n:Nat):Nat:=if n=0 then 0 else Nat.log2 n+1
def Ur(n:Nat):n<2^zgd n:=by
 unfold zgd
 split
 ·simp[*]
 ·exact Nat.lt_log2_self
def MD(h:n≠0):2^(zgd n-1)<=n:=by
 unfold zgd
 rw[aA h]
 exact Nat.log2_self_le h
def Yox{k:Nat}(h1:2^k<=n)(h2:n<2^(k+1)):zgd n=k+1:=by
 have hn:n≠0:=by have:=rY k;omega
 unfold zgd
 rw[aA hn]
 congr 1
 have h3:Nat.log2 n<k+1:=(Nat.log2_lt hn).2 h2
 have h4:k<=Nat.log2 n:=(Nat.le_log2 hn).2 h1
 omega
def yi{k:Nat}(h:2^k<=n):zgd (zid n k)+k=zgd n:=by
 unfold zid
 have h0:n/2^k≠0:=by
  have:=Nat.div_pos h (rY k);omega
 have h1:=Ur (n/2^k)
 have h2:=MD h0
 have hp:0<zgd (n/2^k):=by unfold zgd;rw[aA h0];omega
 have e:zgd (n/2^k)+k=(zgd (n/2^k)-1+k)+1:=by omega
 rw[e]
 symm
 apply Yox
 ·rw[Yw8]
  exact p9 (ot _ h2) (Nat.div_mul_le_self n _)
 ·rw[show zgd (n/2^k)-1+k+1=zgd (n/2^k)+k by omega,Yw8]
  exact(pd (rY k)).1 h1
def Ew:∀{n:Nat},n<256->Yqw[n]?=some (UInt8.ofNat (zgd n)):=by decide+kernel
def CP:∀{n:Nat},n<256->zgd n<9:=by decide+kernel
def Ey(h:n<256):cX (UInt8.ofNat (zgd n))=(zgd n:Int):=by
 have:=CP h
 unfold cX
 simp;omega
def Zqx{h:T O}{N:Nat}{x:Nat}(hx:x<18446744073709551616):Fn A.C 273 [.int .u64 x] h N (fun v' h' N'=>h'=h/\N'=N/\v'=.int .i64 (zgd x:Nat)):=by
 intro w
 rw[aZ,A.k273 (by simp)]
 by_cases h0:4294967296<=x
 ·have rQ:(4294967296:Int)<=((x:Nat):Int):=by omega
  by_cases h1:65536<=zid (x) 32
  ·have iE:(65536:Int)<=((zid (x) 32:Nat):Int):=by omega
   by_cases h2:256<=zid (zid (x) 32) 16
   ·have h2':(256:Int)<=((zid (zid (x) 32) 16:Nat):Int):=by omega
    have hb:zid (zid (zid (x) 32) 16) 8<256:=by (try simp only[zid]at*);omega
    have ht:=Ew hb
    have hv:cX (UInt8.ofNat (zgd (zid (zid (zid (x) 32) 16) 8)))=(zgd (zid (zid (zid (x) 32) 16) 8):Int):=Ey hb
    have hl:=CP hb
    simp(disch:=omega) [A.b273,rQ,iE,h2',A4,ht,hv,Ret]
    have:=yi (k:=32) (n:=x) h0
    have:=yi (k:=16) (n:=zid (x) 32) h1
    have:=yi (k:=8) (n:=zid (zid (x) 32) 16) h2
    first|exact ah.refl|exact And.intro ah.refl (by omega)
   ·have h2':¬(256:Int)<=((zid (zid (x) 32) 16:Nat):Int):=by omega
    have hb:zid (zid (x) 32) 16<256:=by (try simp only[zid]at*);omega
    have ht:=Ew hb
    have hv:cX (UInt8.ofNat (zgd (zid (zid (x) 32) 16)))=(zgd (zid (zid (x) 32) 16):Int):=Ey hb
    have hl:=CP hb
    simp(disch:=omega) [A.b273,rQ,iE,h2',A4,ht,hv,Ret]
    have:=yi (k:=32) (n:=x) h0
    have:=yi (k:=16) (n:=zid (x) 32) h1
    first|exact ah.refl|exact And.intro ah.refl (by omega)
  ·have iE:¬(65536:Int)<=((zid (x) 32:Nat):Int):=by omega
   by_cases h2:256<=zid (x) 32
   ·have h2':(256:Int)<=((zid (x) 32:Nat):Int):=by omega
    have hb:zid (zid (x) 32) 8<256:=by (try simp only[zid]at*);omega
    have ht:=Ew hb
    have hv:cX (UInt8.ofNat (zgd (zid (zid (x) 32) 8)))=(zgd (zid (zid (x) 32) 8):Int):=Ey hb
    have hl:=CP hb
    simp(disch:=omega) [A.b273,rQ,iE,h2',A4,ht,hv,Ret]
    have:=yi (k:=32) (n:=x) h0
    have:=yi (k:=8) (n:=zid (x) 32) h2
    first|exact ah.refl|exact And.intro ah.refl (by omega)
   ·have h2':¬(256:Int)<=((zid (x) 32:Nat):Int):=by omega
    have hb:zid (x) 32<256:=by (try simp only[zid]at*);omega
    have ht:=Ew hb
    have hv:cX (UInt8.ofNat (zgd (zid (x) 32)))=(zgd (zid (x) 32):Int):=Ey hb
    have hl:=CP hb
    simp(disch:=omega) [A.b273,rQ,iE,h2',A4,ht,hv,Ret]
    have:=yi (k:=32) (n:=x) h0
    first|exact ah.refl|exact And.intro ah.refl (by omega)
 ·have rQ:¬(4294967296:Int)<=((x:Nat):Int):=by omega
  by_cases h1:65536<=x
  ·have iE:(65536:Int)<=((x:Nat):Int):=by omega
   by_cases h2:256<=zid (x) 16
   ·have h2':(256:Int)<=((zid (x) 16:Nat):Int):=by omega
    have hb:zid (zid (x) 16) 8<256:=by (try simp only[zid]at*);omega
    have ht:=Ew hb
    have hv:cX (UInt8.ofNat (zgd (zid (zid (x) 16) 8)))=(zgd (zid (zid (x) 16) 8):Int):=Ey hb
    have hl:=CP hb
    simp(disch:=omega) [A.b273,rQ,iE,h2',A4,ht,hv,Ret]
    have:=yi (k:=16) (n:=x) h1
    have:=yi (k:=8) (n:=zid (x) 16) h2
    first|exact ah.refl|exact And.intro ah.refl (by omega)
   ·have h2':¬(256:Int)<=((zid (x) 16:Nat):Int):=by omega
    have hb:zid (x) 16<256:=by (try simp only[zid]at*);omega
    have ht:=Ew hb
    have hv:cX (UInt8.ofNat (zgd (zid (x) 16)))=(zgd (zid (x) 16):Int):=Ey hb
    have hl:=CP hb
    simp(disch:=omega) [A.b273,rQ,iE,h2',A4,ht,hv,Ret]
    have:=yi (k:=16) (n:=x) h1
    first|exact ah.refl|exact And.intro ah.refl (by omega)
  ·have iE:¬(65536:Int)<=((x:Nat):Int):=by omega
   by_cases h2:256<=x
   ·have h2':(256:Int)<=((x:Nat):Int):=by omega
    have hb:zid (x) 8<256:=by (try simp only[zid]at*);omega
    have ht:=Ew hb
    have hv:cX (UInt8.ofNat (zgd (zid (x) 8)))=(zgd (zid (x) 8):Int):=Ey hb
    have hl:=CP hb
    simp(disch:=omega) [A.b273,rQ,iE,h2',A4,ht,hv,Ret]
    have:=yi (k:=8) (n:=x) h2
    first|exact ah.refl|exact And.intro ah.refl (by omega)
   ·have h2':¬(256:Int)<=((x:Nat):Int):=by omega
    have hb:x<256:=by (try simp only[zid]at*);omega
    have ht:=Ew hb
    have hv:cX (UInt8.ofNat (zgd (x)))=(zgd (x):Int):=Ey hb
    have hl:=CP hb
    simp(disch:=omega) [A.b273,rQ,iE,h2',A4,ht,hv,Ret]
    first|exact ah.refl|exact And.intro ah.refl (by omega)
def Yee{h:T O}{N:Nat}{x:Nat}(hx:x<18446744073709551616):Fn A.C 240 [.int .u64 x] h N (fun v' h' N'=>h'=h/\N'=N/\v'=.int .i64 ((64-zgd x:Nat))):=by
 intro w
 have hl:zgd x<=64:=by
  by_cases h0:x=0
  ·subst h0;decide
  ·apply vD
   intro hc
   have:=MD h0
   have:2^64<=2^(zgd x-1):=Ywo (by decide) (by omega)
   omega
 rw[aZ,A.k240 (by simp)]
 simp[A.b240]
 refine av (Zqx hx) ?_
 rintro _ _ _ hk ⟨rfl,rfl,rfl⟩
 simp(disch:=omega) [Ret]
 exact⟨hk,by omega⟩
variable {s x:Nat}
def A.P3:=A.q Tryz.f241
def A.mr:=A.ql A.P3 0 []
def A.b241:=(fun x0=>A.qb A.P3 [x0]) A.mr
def A.k241:=@A.kk 241 40 [.tmp 4] A.b241 (by kernel_rfl) rfl
def Uh{c:Nat}(hs:s<64)(hc:c<2^s):iY c (bS x s)=c+bS x s:=by
 unfold iY bS
 have e:x*2^s%18446744073709551616=(x%2^(64-s))<<<s:=by
  rw[Nat.shiftLeft_eq]
  have:(18446744073709551616:Nat)=2^(64-s)*2^s:=by rw[<-Yw8,show 64-s+s=64 by omega]
  rw[this,NU]
 rw[e,Nat.or_comm,Nat.add_comm,Nat.shiftLeft_add_eq_or_of_lt hc]
def Yb8(hs:s<=64):bS x s+B*zid x (64-s)=x*2^s:=by
 unfold bS zid
 have e:x/2^(64-s)=x*2^s/18446744073709551616:=by
  have:(18446744073709551616:Nat)=2^(64-s)*2^s:=by rw[<-Yw8,show 64-s+s=64 by omega]
  rw[this,Tf _ _ (rY s)]
 rw[e]
 have:=tA (x*2^s) 18446744073709551616
 unfold B
 omega
def Ykm(hx:x<B)(hs:s<=64):zid x (64-s)<2^s:=by
 unfold zid
 apply (pd (rY _)).2
 rw[<-Yw8,show s+(64-s)=64 by omega]
 exact hx
def Zpe{c:Nat}(hs:s<64)(hc:c<2^s):c+bS x s<B:=by
 rw[<-Uh hs hc]
 unfold iY
 apply Nat.or_lt_two_pow (n:=64)
 ·exact Nat.lt_trans hc (Nat.pow_lt_pow_right (by decide) hs)
 ·exact Zqg
structure ShJ (h:T O) (N:Nat) (l:List Nat) (s k:Nat) (o:List Nat) (c:Nat) (r:T V) (st:St):Prop where
 hk:k<=l.length
 ME:r.get 14=some (.int .i64 k)
 n:st.n=N+1
 w:aL N st.w=[]
 ai:ah h N st.h (N+1)
 row:st.h.get N=some (.cells (dg o) 215 true)
 len:o.length=l.length+1
 dg:Dg o
 zero:∀t,k<t->t<o.length->o[t]?=some 0
 top:o[k]?=some c
 lc:c<2^s
 ex:val B o=val B (l.take k)*2^s
def ShI(h:T O)(N:Nat)(l:List Nat)(s m:Nat)(r:T V)(st:St):Prop:=∃k o c,m=l.length-k/\ShJ h N l s k o c r st
def ShE(h:T O)(N:Nat)(l:List Nat)(s:Nat)(r:T V)(st:St):Prop:=∃o c,ShJ h N l s l.length o c r st
def Zpg{h:T O}{N:Nat}{v:V}{l:List Nat}(hv:Sl h N v (Go.Mx.dg l))(hd:Dg l)(hs:s<64)(hl:l.length<1099511627776):Fn A.C 241 [v,.int .i64 s] h N (fun v' h' N'=>∃i o,N<=i/\i<N'/\v'=.slice i 0 (l.length+1) (some (l.length+1)) 1/\h'.get i=some (.cells (dg o) 215 true)/\o.length=l.length+1/\Dg o/\val B o=val B l*2^s):=by
 intro w
 have lx:=hv.len
 rw[bH]at lx
 rw[aZ,A.k241 (by simp)]
 simp(disch:=first|(simp;done)|omega|(simp only[bH,cy,bC];omega)|rfl) [A.b241,lx]
 refine Zal [(6,7),(14,38)] (fun e r st=>e=.exit 0/\ShE h N l s r st) (ShI h N l s) l.length ?_ ?_ ?_
 ·refine⟨0,List.replicate (l.length+1) 0,0,by omega,⟨by omega,by simp,by simp,by simp,ah.refl.set (Yv5 _) |>.up (by omega),by simp[JK],by simp,?_,?_,by simp,rY s,by simp[val,Zro]⟩⟩
  ·intro d hd
   rw[LA]at hd
   rw[hd.2];decide
  ·intro t _ ht
   simp at ht
   simp[ht]
 ·rintro m r ⟨H,n1,W⟩ hr hf ⟨k,o,c,rfl,hk,wA,hn,hW,hK,hN,ho,MF,hz,hc,Bg,he⟩
  simp only at hn hW hK hN
  subst hn
  rw[cn]
  by_cases aW:k<l.length
  ·obtain⟨i1,o1,c1,e1,w1,p1,p2,p3,p4⟩:=hv.at (Za8 (Yv8 aW))
   have p3:=(hK.get _ p2).trans p3
   have gx:=Yv8 aW
   generalize l[k]=x at*
   have hx:x<B:=hd.get gx
   have hcB:c<18446744073709551616:=MF.get hc
   have Ab:=Uh (x:=x) hs Bg
   have zik:=Zpe (x:=x) hs Bg
   obtain⟨z,hzz⟩:∃z,c+bS x s=z:=⟨_,rfl⟩
   rw[hzz]at Ab zik
   have zfs:(o.set k z).length=l.length+1:=by simp[ho]
   have D8:=Yb8 (x:=x) (s:=s) (by omega)
   have de:=Ykm hx (s:=s) (by omega)
   have v1:=P4 (b:=B) (v:=z) hc
   have zT:(o.set k z)[k+1]?=some 0:=by
    rw[eJ (by omega)];exact hz _ (by omega) (by omega)
   have v2:=P4 (b:=B) (v:=zid x (64-s)) zT
   by_cases h0:0<s
   ·have rQ:(0:Int)<(s:Int):=by omega
    simp(disch:=first|(simp;done)|omega|(simp only[bH,cy,bC];omega)|rfl) [-getElem?_pos,A.mr,hr,wA,aW,lx,p1,p3,p4,hN,Za8 hc,Ab,oT,h0,hf]
    refine⟨_,by omega,k+1,(o.set k z).set (k+1) (zid x (64-s)),zid x (64-s),rfl,⟨by omega,by simp,rfl,by simp[hW],(hK.set (Yv5 _)).set (Yv5 _),by simp,by simp[ho],(MF.set zik).set (iL de (Ywo (by decide) (by omega):2^s<=2^64)),?_,lM (by omega),de,?_⟩⟩
    ·intro t t1 t2
     rw[eJ (by omega),eJ (by omega)]
     exact hz t (by omega) (by simpa using t2)
    ·rw[El gx,ku,<-he]
     rw[<-hzz]at v1 v2 ⊢
     have e3:B^k*(bS x s+B*zid x (64-s))=B^k*(x*2^s):=by rw[D8]
     rw[fV]at v2
     generalize val B ((o.set k (c+bS x s)).set (k+1) (zid x (64-s)))=z1 at*
     generalize val B (o.set k (c+bS x s))=z2 at*
     generalize val B o=z3 at*
     generalize bS x s=z4 at*
     generalize zid x (64-s)=z5 at*
     generalize B^k=z6 at*
     grind
   ·have rQ:¬(0:Int)<(s:Int):=by omega
    simp(disch:=first|(simp;done)|omega|(simp only[bH,cy,bC];omega)|rfl) [-getElem?_pos,A.mr,hr,wA,aW,lx,p1,p3,p4,hN,Za8 hc,Ab,oT,h0,hf]
    have vY:s=0:=by omega
    subst vY
    have iM:c=0:=by simpa using Bg
    subst iM
    have e0:bS x 0=x:=by unfold bS;unfold B at hx;simp;omega
    have py:z=x:=by rw[<-hzz,e0];omega
    subst py
    refine⟨_,by omega,k+1,o.set k z,0,rfl,⟨by omega,by simp,rfl,by simp[hW],hK.set (Yv5 _),by simp,by simp[ho],MF.set hx,?_,?_,by decide,?_⟩⟩
    ·intro t t1 t2
     rw[eJ (by omega)]
     exact hz t (by omega) (by simpa using t2)
    ·rw[eJ (by omega)];exact hz _ (by omega) (by omega)
    ·rw[El gx,ku,<-he]
     simpa using v1
  ·have:k=l.length:=by omega
   subst this
   simp[A.mr,hr,wA,hf]
   exact⟨o,c,⟨by omega,by simp[wA],rfl,hW,hK,hN,ho,MF,hz,hc,Bg,he⟩⟩
 ·rintro _ r ⟨H,n1,W⟩ hr ⟨rfl,o,c,hk,wA,hn,hW,hK,hN,ho,MF,hz,hc,Bg,he⟩
  simp only at hn hW hK hN
  subst hn
  simp[hr,Ret]
  rw[jP (Yv5 _)]at he
  exact⟨hW,hK,N,Yv5 _,by omega,rfl,o,hN,ho,MF,he⟩
open Go
variable {b r:Nat}
def Us{u un cL kl q:Nat}(hi:u=q*cL+r)(hc:q*kl<=b*r+un):q*(cL*b+kl)<=u*b+un:=by
 subst hi
 rw[rX,ku,<-AG,iz r b]
 omega
def Zx5{u un cL kl q:Nat}(hi:u=q*cL+r)(hc:b*r+un<q*kl):u*b+un<q*(cL*b+kl):=by
 subst hi
 rw[rX,ku,<-AG,iz r b]
 omega
def Zta{a y q:Nat}(h:a<q*y):a/y<q:=by
 rcases NY y with rfl|hy
 ·simp at h
 ·exact(pd hy).2 h
def MG{a y q:Nat}(hy:0<y)(h:q*y<=a):q<=a/y:=(Ly hy).2 h
def Yns{P u1 u2 U' v1 v2 V' s:Nat}(nv:0<v1)(Cc:V'<P)(ht:s<=b)(hinv:u1=(s+1)*v1+r)(hc:(s+1)*v2<=r*b+u2):
  s*(V'+P*(v2+b*v1))<=U'+P*(u2+b*u1):=by
 have h1:s*V'<=b*P:=tU ht (by omega)
 have h2:b*P*1<=b*P*v1:=jh _ nv
 have h3:P*((s+1)*v2)<=P*(r*b+u2):=jh _ hc
 have h4:P*((s+1)*v2)=P*(s*v2)+P*v2:=by grind
 have h5:s*(V'+P*(v2+b*v1))=s*V'+P*(s*v2)+b*(P*(s*v1)):=by grind
 have h6:U'+P*(u2+b*u1)=U'+P*(r*b+u2)+b*(P*(s*v1))+b*P*v1:=by subst hinv;grind
 omega
def Ynr{P u1 u2 U' v1 v2 V' t:Nat}(hU':U'<P)(hinv:u1=t*v1+r)(hc:r*b+u2<t*v2):
  U'+P*(u2+b*u1)<t*(V'+P*(v2+b*v1)):=by
 have h3:P*(r*b+u2+1)<=P*(t*v2):=jh _ hc
 have h5:t*(V'+P*(v2+b*v1))=t*V'+P*(t*v2)+b*(P*(t*v1)):=by grind
 have h6:U'+P*(u2+b*u1)+P=U'+P*(r*b+u2+1)+b*(P*(t*v1)):=by subst hinv;grind
 omega
variable {b u y:Nat}
def A.J1:=A.q Tryz.f239
def A.g_:=A.ql A.J1 1 []
def A.h_:=A.ql A.J1 0 []
def A.b239:=(fun x0 x1=>A.qb A.J1 [x0,x1]) A.h_ A.g_
def A.k239:=@A.kk 239 135 [.tmp 6,.tmp 7] A.b239 (by kernel_rfl) rfl
structure DvI (h:T O) (N:Nat) (k1 u cL D m:Nat) (r:T V) (st:St):Prop where
 st:st=⟨h,N,[]⟩
 ex:∃rh:Nat,r.get k1=some (.int .u64 m)/\r.get 16=some (.int .u64 rh)/\u=m*cL+rh/\D<=m/\m<=4294967297/\rh<4294967296
def Yky(h0:¬y=0)(h:y<18446744073709551616):9223372036854775808<=y*2^(64-zgd y)/\y*2^(64-zgd y)<18446744073709551616/\64-zgd y<64:=by
 have h1:=Ur y
 have h2:=MD h0
 have hp:0<zgd y:=by unfold zgd;rw[aA h0];omega
 have hl:zgd y<=64:=by
  apply vD
  intro hc
  have:2^64<=2^(zgd y-1):=Ywo (by decide) (by omega)
  omega
 refine⟨?_,?_,by omega⟩
 ·have:=ot (2^(64-zgd y)) h2
  rw[<-Yw8,show zgd y-1+(64-zgd y)=63 by omega]at this
  exact this
 ·have:=NT h1 (rY (64-zgd y))
  rw[<-Yw8,show zgd y+(64-zgd y)=64 by omega]at this
  exact this
def Zlk{a:Nat}(h:a<18446744073709551616):bA .u64 ((a:Int)/(b:Int))=(lF a b:Nat):=by
 have e:((a:Int)/(b:Int))=((a/b:Nat):Int):=rfl
 have:=th a b
 rw[e,Ej (Int.natCast_nonneg _) (Int.ofNat_lt.2 (show a/b<18446744073709551616 by omega))]
 rfl
def Zru{a c:Nat}(h:c<=a)(hr:a-c<18446744073709551616):zgg (a%18446744073709551616) (c%18446744073709551616)=a-c:=by
 unfold zgg
 split<;>omega
def Ya3{c u1 u0 z Y:Nat}(hc:c=b*b)(hY:0<Y):(u1*c+u0*b+z)/Y=(u1*b+u0)/Y*b+((u1*b+u0)%Y*b+z)/Y/\(u1*c+u0*b+z)%Y=((u1*b+u0)%Y*b+z)%Y:=by
 subst hc
 have h:=tA (u1*b+u0) Y
 have e:u1*(b*b)+u0*b+z=Y*((u1*b+u0)/Y*b)+((u1*b+u0)%Y*b+z):=by
  generalize (u1*b+u0)/Y=D at*
  generalize (u1*b+u0)%Y=R at*
  have:(Y*D+R)*b=(u1*b+u0)*b:=by rw[h]
  grind
 rw[e,Nat.mul_add_div hY,Nat.mul_add_mod]
 exact⟨rfl,rfl⟩
def Zs1:u=u/y*y+u%y:=by
 have:=tA u y
 rw[iz]at this
 exact this.symm
def Zxv(h:0<y)(hb:y<=b):u%y<b:=iL (kf _ h) hb
def Zxx{un cL kl:Nat}(h:0<cL)(hn:un<4294967296):(u*4294967296+un)/(cL*4294967296+kl)<=u/cL:=by
 have h1:(u*4294967296+un)/(cL*4294967296+kl)<=(u*4294967296+un)/(cL*4294967296):=Nat.div_le_div_left (by omega) (by omega)
 have h2:(u*4294967296+un)/(cL*4294967296)=u/cL:=by
  rw[iz cL,<-ID,show (u*4294967296+un)/4294967296=u by omega]
 rw[h2]at h1
 exact h1
def Zxw{cL kl:Nat}(h0:kl<4294967296)(h:2147483648<=cL)(hu:u<cL*4294967296+kl):u/cL<=4294967297:=by
 apply Nat.le_of_lt_succ
 apply (pd (by omega)).2
 omega
def Zx3{h:T O}{N:Nat}{hi lo:Nat}(hy:hi<y)(JO:y<18446744073709551616)(fO:lo<18446744073709551616):Fn A.C 239 [.int .u64 hi,.int .u64 lo,.int .u64 y] h N (fun v h' N'=>h'=h/\N'=N/\v=.aX [.int .u64 ((hi*18446744073709551616+lo)/y:Nat),.int .u64 ((hi*18446744073709551616+lo)%y:Nat)]):=by
 intro w
 have tK:¬y=0:=by omega
 have hle:¬y<=hi:=by omega
 rw[aZ,A.k239 (by simp)]
 by_cases h0:hi=0
 ·subst h0
  have hq:=Zlk (b:=y) fO
  simp[A.b239,tK,b_.chk,Ret,hq,PC,lF]
  exact ah.refl
 ·simp[A.b239,tK,hle,h0]
  refine av (Yee JO) ?_
  rintro _ h N hk ⟨rfl,rfl,rfl⟩
  obtain⟨n1,n2,n3⟩:=Yky tK JO
  generalize 64-zgd y=s at*
  have hw:bA .u64 (s:Int)=(s:Int):=Ej (by omega) (by omega)
  have hw2:bA .u64 (64-(s:Int))=((64-s:Nat):Int):=by rw[Ej (by omega) (by omega)];omega
  obtain⟨Y,hY⟩:∃Y,bS y s=Y:=⟨_,rfl⟩
  have hYe:Y=y*2^s:=by rw[<-hY];unfold bS;omega
  obtain⟨cL,P6⟩:∃x,zid Y 32=x:=⟨_,rfl⟩
  obtain⟨kl,P7⟩:∃x,ff Y=x:=⟨_,rfl⟩
  obtain⟨U,hU⟩:∃x,iY (bS hi s) (zid lo (64-s))=x:=⟨_,rfl⟩
  obtain⟨L,hL⟩:∃x,bS lo s=x:=⟨_,rfl⟩
  obtain⟨wC,P9⟩:∃x,zid L 32=x:=⟨_,rfl⟩
  obtain⟨uW,Qa⟩:∃x,ff L=x:=⟨_,rfl⟩
  have hYB:Y<18446744073709551616:=by omega
  have hLB:L<18446744073709551616:=by rw[<-hL];exact Zqg
  have Ut:Y=cL*4294967296+kl/\kl<4294967296:=by
   rw[<-P6,<-P7];unfold zid ff;omega
  have hLd:L=wC*4294967296+uW/\uW<4294967296:=by
   rw[<-P9,<-Qa];unfold zid ff;omega
  have hA:U*18446744073709551616+L=(hi*18446744073709551616+lo)*2^s:=by
   have e1:=Uh (x:=hi) n3 (Ykm (x:=lo) (s:=s) fO (by omega))
   have e2:=Yb8 (x:=lo) (s:=s) (by omega)
   have e3:bS hi s=hi*2^s:=by
    unfold bS
    have:=NT hy (rY s)
    omega
   have e4:U=zid lo (64-s)+hi*2^s:=by
    rw[<-hU,<-e3,<-e1];unfold iY;exact Nat.or_comm _ _
   rw[hL]at e2
   unfold B at e2
   rw[e4,ku (hi*18446744073709551616),<-e2]
   have:hi*18446744073709551616*2^s=hi*2^s*18446744073709551616:=by grind
   omega
  have hUY:U<Y:=by
   have h1:hi*18446744073709551616+lo<y*18446744073709551616:=by omega
   have h2:=NT h1 (rY s)
   have h3:y*18446744073709551616*2^s=y*2^s*18446744073709551616:=by grind
   omega
  have hsr:zid lo (64-s)<18446744073709551616:=Zwt fO
  have hyp:0<cL:=by omega
  have hyb:cL<=4294967296:=by omega
  have Bp:0<cL*4294967296+kl:=by omega
  have hq:=Zlk (b:=cL) (show U<18446744073709551616 by omega)
  have hr:zgg U (c_ (lF U cL) cL)=U%cL:=by
   have h1:=tA U cL
   rw[iz]at h1
   have h2:c_ (lF U cL) cL=U/cL*cL:=by unfold c_ lF;omega
   rw[h2,Ek (by omega) (by omega)];omega
  simp(disch:=first|(simp;done)|omega|(simp only[bH,cy,bC];omega)|rfl) [hq,hr,hw,hw2,hY,P6,P7,hU,hL,P9,Qa]
  obtain⟨D1,Ac⟩:∃D,(U*4294967296+wC)/(cL*4294967296+kl)=D:=⟨_,rfl⟩
  refine Zal [(15,16),(67,85)] (fun e r st=>e=.exit 0/\st=⟨h,N,[]⟩/\r.get 15=some (.int .u64 D1)) (DvI h N 15 U cL D1) (U/cL) ?_ ?_ ?_
  ·exact⟨rfl,U%cL,by simp[lF],by simp,Zs1,Ac▸Zxx hyp (by omega),Zxw Ut.2 (by omega) (by omega),Zxv hyp hyb⟩
  ·rintro q r _ hr hf ⟨rfl,rh,hq,Ad,hu,hD,Ic,hrb⟩
   rw[cn]
   obtain⟨P,hP⟩:∃P,P=q*kl:=⟨_,rfl⟩
   obtain⟨R2,hR2⟩:∃P,P=4294967296*rh:=⟨_,rfl⟩
   obtain⟨R3,hR3⟩:∃P,P=4294967296*rh+wC:=⟨_,rfl⟩
   have m2:c_ 4294967296 rh=R2:=by unfold c_;omega
   have m3:cW R2 wC=R3:=by unfold cW;omega
   have sJ:(4294967296<=q\/R3<P)->0<q/\D1<=q-1:=by
    intro hc
    have:D1<q:=by
     rcases hc with hc|hc
     ·have:D1<4294967296:=by rw[<-Ac];exact(pd Bp).2 (by omega)
      omega
     ·rw[<-Ac];exact Zta (Zx5 (b:=4294967296) hu (by omega))
    omega
   have qQ:0<q->U=(q-1)*cL+(rh+cL):=by
    intro hc
    obtain⟨s,rfl⟩:∃s,q=s+1:=⟨q-1,by omega⟩
    rw[hu,ku];simp;omega
   have e_:∀J2,U=(q-1)*cL+J2->4294967296<=J2->(q-1)*(cL*4294967296+kl)<=U*4294967296+wC:=by
    intro J2 h1 h2
    refine Us h1 ?_
    have:=tU (show q-1<=4294967296 by omega) (show kl<=4294967296 by omega)
    omega
   by_cases c1:4294967296<=q
   ·have c1':(4294967296:Int)<=(q:Int):=by omega
    obtain⟨g1,g2⟩:=sJ (.inl c1)
    have s1:zgg q 1=q-1:=Ek g1 (by omega)
    have s2:cW rh cL=rh+cL:=by unfold cW;omega
    by_cases c3:4294967296<=rh+cL
    ·have c3':(4294967296:Int)<=(rh:Int)+(cL:Int):=by omega
     simp[A.h_,hr,hq,Ad,c1',c3',s1,s2,hf]
     have hd:=MG Bp (e_ _ (qQ g1) c3)
     rw[Ac]at hd;omega
    ·have c3':¬(4294967296:Int)<=(rh:Int)+(cL:Int):=by omega
     simp[A.h_,hr,hq,Ad,c1',c3',s1,s2,hf]
     exact⟨q-1,by omega,rfl,rh+cL,by simp,by simp,qQ g1,g2,by omega,by omega⟩
   ·have c1':¬(4294967296:Int)<=(q:Int):=by omega
    have m1:c_ q kl=P:=by
     have:=tU (show q<=4294967296 by omega) (show kl<=4294967295 by omega)
     unfold c_;omega
    by_cases c2:R3<P
    ·obtain⟨g1,g2⟩:=sJ (.inr c2)
     have s1:zgg q 1=q-1:=Ek g1 (by omega)
     have s2:cW rh cL=rh+cL:=by unfold cW;omega
     by_cases c3:4294967296<=rh+cL
     ·have c3':(4294967296:Int)<=(rh:Int)+(cL:Int):=by omega
      simp[A.h_,hr,hq,Ad,c1',c2,c3',m1,m2,m3,s1,s2,hf]
      have hd:=MG Bp (e_ _ (qQ g1) c3)
      rw[Ac]at hd;omega
     ·have c3':¬(4294967296:Int)<=(rh:Int)+(cL:Int):=by omega
      simp[A.h_,hr,hq,Ad,c1',c2,c3',m1,m2,m3,s1,s2,hf]
      exact⟨q-1,by omega,rfl,rh+cL,by simp,by simp,qQ g1,g2,by omega,by omega⟩
    ·simp[A.h_,hr,hq,Ad,c1',c2,m1,m2,m3,hf]
     have hd:=MG Bp (Us (b:=4294967296) (un:=wC) hu (by omega))
     rw[Ac]at hd;omega
  rintro _ r _ kh ⟨rfl,rfl,CQ⟩
  obtain⟨R1,Uu⟩:∃R,(U*4294967296+wC)%Y=R:=⟨_,rfl⟩
  rw[<-Ut.1]at Ac
  have uK:zgg (cW (c_ U 4294967296) wC) (c_ D1 Y)=R1:=by
   have h1:=tA (U*4294967296+wC) Y
   rw[Ac,Uu,iz Y]at h1
   have h2:cW (c_ U 4294967296) wC=(U*4294967296+wC)%18446744073709551616:=by unfold cW c_;omega
   rw[h2]
   have h3:=kf (U*4294967296+wC) (show 0<Y by omega)
   unfold c_
   rw[Zru (by omega) (by omega)];omega
  have zfM:R1<Y:=by rw[<-Uu];exact kf _ (by omega)
  have kK:=Zlk (b:=cL) (show R1<18446744073709551616 by omega)
  have dw:zgg R1 (c_ (lF R1 cL) cL)=R1%cL:=by
   have h1:=tA R1 cL
   rw[iz]at h1
   have h2:c_ (lF R1 cL) cL=R1/cL*cL:=by unfold c_ lF;omega
   rw[h2,Ek (by omega) (by omega)];omega
  simp(disch:=first|(simp;done)|omega|(simp only[bH,cy,bC];omega)|rfl) [kh,CQ,uK,kK,dw]
  obtain⟨D0,yk⟩:∃D,(R1*4294967296+uW)/(cL*4294967296+kl)=D:=⟨_,rfl⟩
  refine Zal [(16,16),(18,18),(102,120)] (fun e r st=>e=.exit 2/\st=⟨h,N,[]⟩/\r.get 18=some (.int .u64 D0)) (DvI h N 18 R1 cL D0) (R1/cL) ?_ ?_ ?_
  ·exact⟨rfl,R1%cL,by simp[lF],by simp,Zs1,yk▸Zxx hyp (by omega),Zxw Ut.2 (by omega) (by omega),Zxv hyp hyb⟩
  ·rintro q r _ hr hf ⟨rfl,rh,hq,Ad,hu,hD,Ic,hrb⟩
   rw[cn]
   obtain⟨P,hP⟩:∃P,P=q*kl:=⟨_,rfl⟩
   obtain⟨R2,hR2⟩:∃P,P=4294967296*rh:=⟨_,rfl⟩
   obtain⟨R3,hR3⟩:∃P,P=4294967296*rh+uW:=⟨_,rfl⟩
   have m2:c_ 4294967296 rh=R2:=by unfold c_;omega
   have m3:cW R2 uW=R3:=by unfold cW;omega
   have sJ:(4294967296<=q\/R3<P)->0<q/\D0<=q-1:=by
    intro hc
    have:D0<q:=by
     rcases hc with hc|hc
     ·have:D0<4294967296:=by rw[<-yk];exact(pd Bp).2 (by omega)
      omega
     ·rw[<-yk];exact Zta (Zx5 (b:=4294967296) hu (by omega))
    omega
   have qQ:0<q->R1=(q-1)*cL+(rh+cL):=by
    intro hc
    obtain⟨s,rfl⟩:∃s,q=s+1:=⟨q-1,by omega⟩
    rw[hu,ku];simp;omega
   have e_:∀J2,R1=(q-1)*cL+J2->4294967296<=J2->(q-1)*(cL*4294967296+kl)<=R1*4294967296+uW:=by
    intro J2 h1 h2
    refine Us h1 ?_
    have:=tU (show q-1<=4294967296 by omega) (show kl<=4294967296 by omega)
    omega
   by_cases c1:4294967296<=q
   ·have c1':(4294967296:Int)<=(q:Int):=by omega
    obtain⟨g1,g2⟩:=sJ (.inl c1)
    have s1:zgg q 1=q-1:=Ek g1 (by omega)
    have s2:cW rh cL=rh+cL:=by unfold cW;omega
    by_cases c3:4294967296<=rh+cL
    ·have c3':(4294967296:Int)<=(rh:Int)+(cL:Int):=by omega
     simp[A.g_,hr,kh,hq,Ad,c1',c3',s1,s2,hf]
     have hd:=MG Bp (e_ _ (qQ g1) c3)
     rw[yk]at hd;omega
    ·have c3':¬(4294967296:Int)<=(rh:Int)+(cL:Int):=by omega
     simp[A.g_,hr,kh,hq,Ad,c1',c3',s1,s2,hf]
     exact⟨q-1,by omega,rfl,rh+cL,by simp,by simp,qQ g1,g2,by omega,by omega⟩
   ·have c1':¬(4294967296:Int)<=(q:Int):=by omega
    have m1:c_ q kl=P:=by
     have:=tU (show q<=4294967296 by omega) (show kl<=4294967295 by omega)
     unfold c_;omega
    by_cases c2:R3<P
    ·obtain⟨g1,g2⟩:=sJ (.inr c2)
     have s1:zgg q 1=q-1:=Ek g1 (by omega)
     have s2:cW rh cL=rh+cL:=by unfold cW;omega
     by_cases c3:4294967296<=rh+cL
     ·have c3':(4294967296:Int)<=(rh:Int)+(cL:Int):=by omega
      simp[A.g_,hr,kh,hq,Ad,c1',c2,c3',m1,m2,m3,s1,s2,hf]
      have hd:=MG Bp (e_ _ (qQ g1) c3)
      rw[yk]at hd;omega
     ·have c3':¬(4294967296:Int)<=(rh:Int)+(cL:Int):=by omega
      simp[A.g_,hr,kh,hq,Ad,c1',c2,c3',m1,m2,m3,s1,s2,hf]
      exact⟨q-1,by omega,rfl,rh+cL,by simp,by simp,qQ g1,g2,by omega,by omega⟩
    ·simp[A.g_,hr,kh,hq,Ad,c1',c2,m1,m2,m3,hf]
     have hd:=MG Bp (Us (b:=4294967296) (un:=uW) hu (by omega))
     rw[yk]at hd;omega
  rintro _ r2 _ Bq ⟨rfl,rfl,h18⟩
  obtain⟨R0,J3⟩:∃R,(R1*4294967296+uW)%Y=R:=⟨_,rfl⟩
  rw[<-Ut.1]at yk
  have hs2:zgg (cW (c_ R1 4294967296) uW) (c_ D0 Y)=R0:=by
   have h1:=tA (R1*4294967296+uW) Y
   rw[yk,J3,iz Y]at h1
   have h2:cW (c_ R1 4294967296) uW=(R1*4294967296+uW)%18446744073709551616:=by unfold cW c_;omega
   rw[h2]
   have h3:=kf (R1*4294967296+uW) (show 0<Y by omega)
   unfold c_
   rw[Zru (by omega) (by omega)];omega
  have rW:D1<4294967296:=by rw[<-Ac];exact(pd (by omega)).2 (by omega)
  have lK:D0<4294967296:=by rw[<-yk];exact(pd (by omega)).2 (by omega)
  have ha:cW (c_ D1 4294967296) D0=D1*4294967296+D0:=by unfold cW c_;omega
  obtain⟨e1,e2⟩:=Ya3 (b:=4294967296) (c:=18446744073709551616) (by decide) (u1:=U) (u0:=wC) (z:=uW) (show 0<Y by omega)
  rw[Uu,Ac,yk]at e1
  rw[Uu,J3]at e2
  have e3:U*18446744073709551616+wC*4294967296+uW=(hi*18446744073709551616+lo)*2^s:=by
   rw[<-hA,hLd.1,oZ]
  rw[e3,hYe,Tf _ _ (rY s)]at e1
  rw[e3,hYe,NU]at e2
  have Uv:zid R0 s=(hi*18446744073709551616+lo)%y:=by
   unfold zid
   rw[<-e2,Nat.mul_div_cancel _ (rY s)]
  simp(disch:=first|(simp;done)|omega|(simp only[bH,cy,bC];omega)|rfl) [kh,Bq,CQ,h18,hs2,ha,Ret]
  have e5:(hi:Int)*18446744073709551616+lo=((hi*18446744073709551616+lo:Nat):Int):=by omega
  refine⟨ah.refl,?_,?_⟩
  ·rw[e5,<-Int.natCast_ediv,e1];omega
  ·rw[e5,<-Int.natCast_emod,Uv]
end
end Go.Mx
