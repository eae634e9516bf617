/-num-/
import Derived.Test.YtjjmkflbfpeagaaGreatDoorRcK
set_option linter.all false
set_option maxHeartbeats 4000000
namespace Go.Mx
noncomputable section
open Go Go.Proofs
set_option maxRecDepth 1000000
def A.Kp:=A.q Tryz.f190
def A.jq:=A.ql A.Kp 0 []
def A.b190:=(fun x0=>A.qb A.Kp [x0]) A.jq
def A.k190:=@A.kk 190 41 [.tmp 4] A.b190 (by kernel_rfl) rfl
def ti(x y:Int):Int:=if x<y then -1 else if y<x then 1 else 0
def Yh3{x y:Nat}(h:(aH x).length<(aH y).length):x<y:=by
 apply qZ
 intro hc
 have:=Cv hc
 omega
def OB{b:Nat}{l:List Nat}{k d:Nat}(h:l[k]?=some d):val b (l.drop k)=d+b*val b (l.drop (k+1)):=by
 have hk:k<l.length:=by
  apply qZ;intro hc;rw[jC hc]at h;cases h
 rw[Ds hk]
 rw[dT hk]at h
 simp only[ak]at h
 rw[h];rfl
def Zqk(b:Nat)(l:List Nat)(k:Nat)(hk:k<=l.length):val b l=val b (l.take k)+b^k*val b (l.drop k):=by
 have:=Ol b (l.take k) (l.drop k)
 rw[yW,jH,nU hk]at this
 exact this
def Yhn{x y:List Nat}{k:Nat}(gx:Dg x)(hx:k<=x.length)(hy:k<=y.length)(h:val B (x.drop k)<val B (y.drop k)):val B x<val B y:=by
 rw[Zqk B x k hx,Zqk B y k hy]
 have h1:val B (x.take k)<B^k:=by
  have:=Cr (b:=B) (l:=x.take k) fun d hd=>gx d (Ae hd)
  rwa [jH,nU hx]at this
 have h2:B^k*(val B (x.drop k)+1)<=B^k*val B (y.drop k):=iT _ h
 rw[my]at h2
 omega
structure Yqw (h:T O) (N x y m:Nat) (r:T V) (st:St):Prop where
 hm:m<=(aH x).length
 r5:r.get 5=some (.int .i64 ((m:Int)-1))
 n:st.n=N
 w:st.w=[]
 ae:ad h N st.h N
 top:(aH x).drop m=(aH y).drop m
def Zho{h:T O}{N:Nat}{vx vy:V}{x y:Nat}(hx:Wn h N vx x)(hy:Wn h N vy y)(AL:(aH x).length<1099511627776)(Ji:(aH y).length<1099511627776):Fn A.C 190 [vx,vy] h N (fun v' h' N'=>v'=.int .i64 (ti x y)):=by
 intro w
 have lx:=hx.len
 have ly:=hy.len
 rw[bn]at lx ly
 rw[aQ,A.k190 (by simp)]
 by_cases bK:(aH x).length=(aH y).length
 ·have UF:((aH x).length:Int)=((aH y).length:Int):=by omega
  simp(disch:=omega) [A.b190,lx,ly,bK]
  refine cX [(4,5),(19,40)] (fun e r st=>(e=.exit 0/\Yqw h N x y 0 r st)\/(e=.ret/\r.get 4=some (.int .i64 (ti x y))/\st.n=N/\st.w=[]/\ad h N st.h N)) (Yqw h N x y) (aH x).length ?_ ?_ ?_
  ·exact⟨by omega,by simp[bK],rfl,rfl,ad.refl,by rw[vS,bK,vS]⟩
  ·rintro m r ⟨H,n1,W⟩ hr hf ⟨hm,h5,hn,hW,hK,ht⟩
   simp only at hn hW hK
   subst hn;subst hW
   rw[cm]
   cases m with
   |zero=>
    simp[A.jq,h5,hf]
    exact⟨by omega,by simp[h5],rfl,rfl,hK,ht⟩
   |succ m=>
    have dJ:m<(aH x).length:=by omega
    have Te:m<(aH y).length:=by omega
    have UG:r.get 5=some (.int .i64 (m:Int)):=by rw[h5];congr 2;omega
    have gx:=dT dJ
    have gy:=dT Te
    obtain⟨i1,o1,c1,e1,w1,p1,p2,p3,p4⟩:=hx.at (eY gx)
    have p3:=(hK.get _ p2).trans p3
    obtain⟨i2,o2,c2,e2,w2,q1,q2,q3,q4⟩:=hy.at (eY gy)
    have q3:=(hK.get _ q2).trans q3
    rcases Nat.lt_trichotomy (aH x)[m] (aH y)[m]with aO|heq|FW
    ·have eJ:x<y:=by
      have:=Yhn (x:=aH x) (y:=aH y) (k:=m) (pC x) (by omega) (by omega) (by rw[OB gx,OB gy,ht];omega)
      rwa [kP,kP]at this
     have jR:¬(aH x)[m]=(aH y)[m]:=by omega
     simp(disch:=first|(simp;done)|omega|(simp only[bn,bW,bf];omega)|rfl) [A.jq,UG,hr,hf,lx,ly,p1,p2,p3,p4,q1,q2,q3,q4,aW,jR,aO]
     exact⟨by simp[ti,eJ],hK⟩
    ·have Km:(aH x).drop m=(aH y).drop m:=by rw[Ds dJ,Ds Te,ht,heq]
     simp(disch:=first|(simp;done)|omega|(simp only[bn,bW,bf];omega)|rfl) [A.jq,UG,hr,hf,lx,ly,p1,p2,p3,p4,q1,q2,q3,q4,aW,heq]
     exact⟨m,by omega,⟨by omega,by simp,rfl,rfl,hK,Km⟩⟩
    ·have eJ:y<x:=by
      have:=Yhn (x:=aH y) (y:=aH x) (k:=m) (pC y) (by omega) (by omega) (by rw[OB gx,OB gy,ht];omega)
      rwa [kP,kP]at this
     have jR:¬(aH x)[m]=(aH y)[m]:=by omega
     have aO:¬(aH x)[m]<(aH y)[m]:=by omega
     have yn:¬x<y:=by omega
     simp(disch:=first|(simp;done)|omega|(simp only[bn,bW,bf];omega)|rfl) [A.jq,UG,hr,hf,lx,ly,p1,p2,p3,p4,q1,q2,q3,q4,aW,jR,aO]
     exact⟨by simp[ti,eJ,yn],hK⟩
  ·rintro e r ⟨H,n1,W⟩ hr (⟨rfl,hm,h5,hn,hW,hK,ht⟩|⟨rfl,h4,hn,hW,hK⟩)
   ·simp only at hn hW hK
    subst hn;subst hW
    simp only[yO]at ht
    have:x=y:=by rw[<-kP x,ht,kP]
    subst this
    simp[aA]
    exact⟨hK,by simp[ti]⟩
   ·simp only at hn hW hK
    subst hn;subst hW
    simp[h4,aA]
    exact hK
 ·have UF:¬((aH x).length:Int)=((aH y).length:Int):=by omega
  by_cases aO:(aH x).length<(aH y).length
  ·have:=Yh3 aO
   simp[A.b190,lx,ly,bK,aO,aA]
   exact⟨ad.refl,by simp[ti,this]⟩
  ·have h1:=Yh3 (x:=y) (y:=x) (by omega)
   have h2:¬x<y:=by omega
   simp[A.b190,lx,ly,bK,aO,aA]
   exact⟨ad.refl,by simp[ti,h1,h2]⟩
def A.EV:=A.q Tryz.f182
def A.pE:=A.ql A.EV 1 []
def A.pF:=(fun x0=>A.ql A.EV 0 [x0]) A.pE
def A.b182:=(fun x0=>A.qb A.EV [x0]) A.pF
def A.k182:=@A.kk 182 80 [.tmp 4] A.b182 (by kernel_rfl) rfl
def Kq{b:Nat}:∀{l:List Nat} {k old v:Nat},l[k]?=some old->val b (l.set k v)+b^k*old=val b l+b^k*v
 |[],k,old,v,h=>by simp at h
 |d::l,0,old,v,h=>by simp at h;subst h;simp[val];omega
 |d::l,k+1,old,v,h=>by
  have ih:=Kq (b:=b) (l:=l) (k:=k) (old:=old) (v:=v) (by simpa using h)
  simp only[List.set_cons_succ,val,fv]
  generalize val b (l.set k v)=p at*
  generalize val b l=q at*
  generalize b^k=z at*
  have:b*(p+z*old)=b*(q+z*v):=by rw[ih]
  grind
def Dg.set{l:List Nat}(h:Dg l){k v:Nat}(hv:v<B):Dg (l.set k v):=by
 intro d hd
 rcases BE hd with hd|hd
 ·exact h d hd
 ·subst hd;exact hv
def fF(x y o c:Nat):Nat:=bs (bs (bs (x*y)+o)+c)
def iM(x y o c:Nat):Nat:=cI (cI (bZ (x*y)) (bZ (bs (x*y)+o))) (bZ (bs (bs (x*y)+o)+c))
def Yfx{x y o c:Nat}(hx:x<B)(hy:y<B)(ho:o<B)(hc:c<B):fF x y o c+B*iM x y o c=x*y+o+c/\fF x y o c<B/\iM x y o c<B:=by
 have:x*y<=18446744073709551615*18446744073709551615:=jL (by unfold B at*;omega) (by unfold B at*;omega)
 unfold fF iM bs bZ cI
 unfold B at*
 generalize x*y=p at*
 omega
structure Yqv (h:T O) (N x y i j:Nat) (o:List Nat) (c xi:Nat) (r:T V) (st:St):Prop where
 hj:j<=(aH y).length
 r29:r.get 29=some (.int .i64 j)
 r8:r.get 8=some (.int .u64 c)
 n:st.n=N+1
 w:aB N st.w=[]
 ae:ad h N st.h (N+1)
 row:st.h.get N=some (.cells (dg o) 212 true)
 len:o.length=(aH x).length+(aH y).length
 dg:Dg o
 zero:∀t,i+(aH y).length<=t->t<o.length->o[t]?=some 0
 lc:c<B
 ex:val B o+B^(i+j)*c=val B ((aH x).take i)*y+B^i*(xi*val B ((aH y).take j))
def Ysd(h:T O)(N x y i xi m:Nat)(r:T V)(st:St):Prop:=∃j o c,m=(aH y).length-j/\Yqv h N x y i j o c xi r st
def Yse(h:T O)(N x y i xi:Nat)(r:T V)(st:St):Prop:=∃o c,Yqv h N x y i (aH y).length o c xi r st
structure Yoi (h:T O) (N x y i:Nat) (o:List Nat) (r:T V) (st:St):Prop where
 hi:i<=(aH x).length
 r22:r.get 22=some (.int .i64 i)
 n:st.n=N+1
 w:aB N st.w=[]
 ae:ad h N st.h (N+1)
 row:st.h.get N=some (.cells (Go.Mx.dg o) 212 true)
 len:o.length=(aH x).length+(aH y).length
 dg:Dg o
 zero:∀t,i+(aH y).length<=t->t<o.length->o[t]?=some 0
 ex:val B o=val B ((aH x).take i)*y
def Yqj(h:T O)(N x y m:Nat)(r:T V)(st:St):Prop:=∃i o,m=(aH x).length-i/\Yoi h N x y i o r st
def Yqk(h:T O)(N x y:Nat)(r:T V)(st:St):Prop:=∃o,Yoi h N x y (aH x).length o r st
def Ztr{h:T O}{N:Nat}{vx vy:V}{x y:Nat}(hx:Wn h N vx x)(hy:Wn h N vy y)(AL:(aH x).length<1099511627776)(Ji:(aH y).length<1099511627776):Fn A.C 182 [vx,vy] h N (fun v' h' N'=>Wn h' N' v' (x*y)):=by
 intro w
 have lx:=hx.len
 have ly:=hy.len
 rw[bn]at lx ly
 rw[aQ,A.k182 (by simp)]
 simp(disch:=first|(simp;done)|omega|(simp only[bn,bW,bf];omega)|rfl) [A.b182,lx,ly]
 refine cX [(6,13),(22,77)] (fun e r st=>e=.exit 0/\Yqk h N x y r st) (Yqj h N x y) (aH x).length ?_ ?_ ?_
 ·refine⟨0,List.replicate ((aH x).length+(aH y).length) 0,by omega,⟨by omega,by simp,by simp,by simp,ad.refl.set (aR _) |>.up (by omega),?_,by simp,?_,?_,by simp[val,Zqj]⟩⟩
  ·simp[EC]
  ·intro d hd
   rw[GD]at hd
   rw[hd.2];decide
  ·intro t _ ht
   simp at ht
   simp[ht]
 ·rintro m r ⟨H,n1,W⟩ hr hf ⟨i,o,rfl,hi,m_,hn,hW,hK,hN,ho,hd,hz,he⟩
  simp only at hn hW hK hN
  subst hn
  rw[cm]
  by_cases aO:i<(aH x).length
  ·obtain⟨i1,o1,c1,e1,w1,p1,p2,p3,p4⟩:=hx.at (eY (dT aO))
   have p3:=(hK.get _ p2).trans p3
   have gx:=dT aO
   generalize (aH x)[i]=xi at*
   simp[A.pF,hr,m_,aO,lx,ly,p1,p3,p4]
   refine cX [(8,13),(29,69)] (fun e r st=>e=.exit 2/\Yse h N x y i xi r st) (Ysd h N x y i xi) (aH y).length ?_ ?_ ?_
   ·exact⟨0,o,0,by omega,⟨by omega,by simp,by simp,rfl,hW,hK,hN,ho,hd,hz,by decide,by simp[val,he]⟩⟩
   ·rintro m r2 ⟨H2,n2,W2⟩ dW jU ⟨j,o2,c,rfl,hj,Kr,h8,eZ,ft,kO,tm,vt,wN,fm,wi,vH⟩
    simp only at eZ ft kO tm
    subst eZ
    rw[cm]
    have hi:xi<B:=(pC x).get gx
    by_cases eJ:j<(aH y).length
    ·obtain⟨i2,o3,c3,e3,w3,q1,q2,q3,q4⟩:=hy.at (eY (dT eJ))
     have q3:=(kO.get _ q2).trans q3
     have gy:=dT eJ
     generalize (aH y)[j]=yj at*
     have hyj:yj<B:=(pC y).get gy
     have go:=dT (l:=o2) (i:=i+j) (by omega)
     generalize o2[i+j]'(by omega)=ov at*
     simp[A.pE,dW,Kr,eJ,ly,q1,q3,q4]
     refine au (Kh hi hyj) ?_
     rintro _ _ _ zZ ⟨rfl,rfl,rfl⟩
     simp(disch:=first|(simp;done)|omega|(simp only[bn,bW,bf];omega)|rfl) [-getElem?_pos,hr,dW,Kr,h8,eJ,lx,ly,q1,q3,q4,jU,tm,eY go,nR]
     obtain⟨m1,m2,m3⟩:=Yfx hi hyj (wN.get go) wi
     refine⟨_,by omega,j+1,o2.set (i+j) (fF xi yj ov c),iM xi yj ov c,rfl,⟨by omega,by simp,?_,rfl,by simp[ft],kO.set (aR _),?_,by simp[vt],wN.set m2,?_,m3,?_⟩⟩
     ·simp[iM]
     ·simp[fF]
     ·intro t t1 t2
      rw[eB (by omega)]
      exact fm t t1 (by simpa using t2)
     ·have v1:=Kq (b:=B) (v:=fF xi yj ov c) go
      rw[Cq gy]
      have e1:B^(i+(j+1))=B^(i+j)*B:=by rw[show i+(j+1)=(i+j)+1 by omega,fv]
      have e2:B^i*(xi*(B^j*yj))=B^(i+j)*(xi*yj):=by rw[gL];grind
      have e3:B^(i+j)*(fF xi yj ov c+B*iM xi yj ov c)=B^(i+j)*(xi*yj+ov+c):=by rw[m1]
      rw[e1]
      generalize val B (List.set o2 (i+j) (fF xi yj ov c))=z1 at*
      generalize val B o2=z2 at*
      generalize fF xi yj ov c=z3 at*
      generalize iM xi yj ov c=z4 at*
      generalize val B (List.take j (aH y))=z5 at*
      generalize B^(i+j)=z6 at*
      grind
    ·have:j=(aH y).length:=by omega
     subst this
     simp[A.pE,dW,Kr,jU]
     exact⟨o2,c,⟨by omega,by simp[Kr],by simp[h8],rfl,ft,kO,tm,vt,wN,fm,wi,vH⟩⟩
   ·rintro e r2 ⟨H2,n2,W2⟩ dW ⟨rfl,o2,c,hj,Kr,h8,eZ,ft,kO,tm,vt,wN,fm,wi,vH⟩
    simp only at eZ ft kO tm
    subst eZ
    have jU:=hf.inner (D':=[(8,13),(29,69)]) rfl (by simp) dW
    simp(disch:=first|(simp;done)|omega|(simp only[bn,bW,bf];omega)|rfl) [hr,dW,m_,h8,ly,tm,nR,jU]
    have rF:o2[i+(aH y).length]?=some 0:=fm _ (aR _) (by omega)
    refine⟨_,by omega,i+1,o2.set (i+(aH y).length) c,rfl,⟨by omega,by simp,rfl,by simp[ft],kO.set (aR _),by simp,by simp[vt],wN.set wi,?_,?_⟩⟩
    ·intro t t1 t2
     rw[eB (by omega)]
     exact fm t (by omega) (by simpa using t2)
    ·have v1:=Kq (b:=B) (v:=c) rF
     rw[gI (aR _),kP]at vH
     rw[Cq gx]
     simp only[Nat.mul_zero,ri]at v1
     rw[v1,vH]
     grind
  ·have:i=(aH x).length:=by omega
   subst this
   simp[A.pF,hr,m_,hf]
   exact⟨o,⟨by omega,by simp[m_],rfl,hW,hK,hN,ho,hd,hz,he⟩⟩
 ·rintro _ r ⟨H,n1,W⟩ hr ⟨rfl,o,hi,m_,hn,hW,hK,hN,ho,hd,hz,he⟩
  simp only at hn hW hK hN
  subst hn
  simp[hr]
  refine au (Ba (l:=o) (Sl.row (e:=212) (rw:=true) (by omega) (by simp[hN]) (by simp[ho]) (by simp)) (by simp[ho];omega)) ?_
  intro v' h' n' jE hs
  simp[aA]
  refine⟨hW,hK.trans jE,?_⟩
  rw[gI (aR _),kP]at he
  rw[A5 hd,he]at hs
  exact hs
variable {n:Nat}
def Ynm:List UInt8:=[0,1,2,2,3,3,3,3,4,4,4,4,4,4,4,4,5,5,5,5,5,5,5,5,5,5,5,5,5,5,5,5,6,6,6,6,6,6,6,6,6,6,6,6,6,6,6,6,6,6,6,6,6,6,6,6,6,6,6,6,6,6,6,6,7,7,7,7,7,7,7,7,7,7,7,7,7,7,7,7,7,7,7,7,7,7,7,7,7,7,7,7,7,7,7,7,7,7,7,7,7,7,7,7,7,7,7,7,7,7,7,7,7,7,7,7,7,7,7,7,7,7,7,7,7,7,7,7,8,8,8,8,8,8,8,8,8,8,8,8,8,8,8,8,8,8,8,8,8,8,8,8,8,8,8,8,8,8,8,8,8,8,8,8,8,8,8,8,8,8,8,8,8,8,8,8,8,8,8,8,8,8,8,8,8,8,8,8,8,8,8,8,8,8,8,8,8,8,8,8,8,8,8,8,8,8,8,8,8,8,8,8,8,8,8,8,8,8,8,8,8,8,8,8,8,8,8,8,8,8,8,8,8,8,8,8,8,8,8,8,8,8,8,8,8,8,8,8,8,8,8,8,8,8,8,8]
def A.b229:cj:=sr [mc 2 0]
 (.seq (sr [mv 3 0,ge 4 (.bin .geq (.node []) false (tq 3) (.const (.int .u64 4294967296)))]
 (cd 4
 (sr [mv 5 0,ge 6 (.bin .shr (.node []) false (tq 5) (.const (.int .u64 32))),mv 0 6]
 (.fL [mc 2 32]))
 (.skip)))
 (.seq (sr [mv 7 0,ge 8 (.bin .geq (.node []) false (tq 7) (.const (.int .u64 65536)))]
 (cd 8
 (sr [mv 9 0,ge 10 (.bin .shr (.node []) false (tq 9) (.const (.int .u64 16))),mv 0 10]
 (.fL [mv 11 2,bc 12 .add 11 16,mv 2 12]))
 (.skip)))
 (.seq (sr [mv 13 0,ge 14 (.bin .geq (.node []) false (tq 13) (.const (.int .u64 256)))]
 (cd 14
 (sr [mv 15 0,ge 16 (.bin .shr (.node []) false (tq 15) (.const (.int .u64 8))),mv 0 16]
 (.fL [mv 17 2,bc 18 .add 17 8,mv 2 18]))
 (.skip)))
 (sr [mv 19 2,mv 20 0,ge 21 (.cR .u8 (tq 20)),ge 22 (.bG (.const (.str Ynm)) (tq 21)),ge 23 (.cR .i64 (tq 22)),bi 24 .add 19 23,mv 2 24]
 (.ret)))))
def A.k229:=@A.kk 229 25 [.tmp 2] A.b229 (by kernel_rfl) rfl
def A.b259:=A.q Tryz.f259
def A.k259:=@A.kk 259 6 [.tmp 2] A.b259 (by kernel_rfl) rfl
def aV(n:Nat):Nat:=if n=0 then 0 else Nat.log2 n+1
def OC(n:Nat):n<2^aV n:=by
 unfold aV
 split
 ·simp[*]
 ·exact Nat.lt_log2_self
def Hj(h:n≠0):2^(aV n-1)<=n:=by
 unfold aV
 rw[aq h]
 exact Nat.log2_self_le h
def Yl0{k:Nat}(h1:2^k<=n)(h2:n<2^(k+1)):aV n=k+1:=by
 have hn:n≠0:=by have:=qA k;omega
 unfold aV
 rw[aq hn]
 congr 1
 have h3:Nat.log2 n<k+1:=(Nat.log2_lt hn).2 h2
 have h4:k<=Nat.log2 n:=(Nat.le_log2 hn).2 h1
 omega
def wU{k:Nat}(h:2^k<=n):aV (al n k)+k=aV n:=by
 unfold al
 have h0:n/2^k≠0:=by
  have:=Nat.div_pos h (qA k);omega
 have h1:=OC (n/2^k)
 have h2:=Hj h0
 have hp:0<aV (n/2^k):=by unfold aV;rw[aq h0];omega
 have e:aV (n/2^k)+k=(aV (n/2^k)-1+k)+1:=by omega
 rw[e]
 symm
 apply Yl0
 ·rw[gL]
  exact qz (kp _ h2) (Nat.div_mul_le_self n _)
 ·rw[show aV (n/2^k)-1+k+1=aV (n/2^k)+k by omega,gL]
  exact(oh (qA k)).1 h1
def CC:∀{n:Nat},n<256->Ynm[n]?=some (UInt8.ofNat (aV n)):=by decide+kernel
def Be:∀{n:Nat},n<256->aV n<9:=by decide+kernel
def CD(h:n<256):cJ (UInt8.ofNat (aV n))=(aV n:Int):=by
 have:=Be h
 unfold cJ
 simp;omega
def UH{h:T O}{N:Nat}{x:Nat}(hx:x<18446744073709551616):Fn A.C 229 [.int .u64 x] h N (fun v' h' N'=>h'=h/\N'=N/\v'=.int .i64 (aV x:Nat)):=by
 intro w
 rw[aQ,A.k229 (by simp)]
 by_cases h0:4294967296<=x
 ·have qk:(4294967296:Int)<=((x:Nat):Int):=by omega
  by_cases h1:65536<=al (x) 32
  ·have h_:(65536:Int)<=((al (x) 32:Nat):Int):=by omega
   by_cases h2:256<=al (al (x) 32) 16
   ·have ks:(256:Int)<=((al (al (x) 32) 16:Nat):Int):=by omega
    have hb:al (al (al (x) 32) 16) 8<256:=by (try simp only[al]at*);omega
    have ht:=CC hb
    have hv:cJ (UInt8.ofNat (aV (al (al (al (x) 32) 16) 8)))=(aV (al (al (al (x) 32) 16) 8):Int):=CD hb
    have hl:=Be hb
    simp(disch:=omega) [A.b229,qk,h_,ks,zN,ht,hv,aA]
    have:=wU (k:=32) (n:=x) h0
    have:=wU (k:=16) (n:=al (x) 32) h1
    have:=wU (k:=8) (n:=al (al (x) 32) 16) h2
    first|exact ad.refl|exact And.intro ad.refl (by omega)
   ·have ks:¬(256:Int)<=((al (al (x) 32) 16:Nat):Int):=by omega
    have hb:al (al (x) 32) 16<256:=by (try simp only[al]at*);omega
    have ht:=CC hb
    have hv:cJ (UInt8.ofNat (aV (al (al (x) 32) 16)))=(aV (al (al (x) 32) 16):Int):=CD hb
    have hl:=Be hb
    simp(disch:=omega) [A.b229,qk,h_,ks,zN,ht,hv,aA]
    have:=wU (k:=32) (n:=x) h0
    have:=wU (k:=16) (n:=al (x) 32) h1
    first|exact ad.refl|exact And.intro ad.refl (by omega)
  ·have h_:¬(65536:Int)<=((al (x) 32:Nat):Int):=by omega
   by_cases h2:256<=al (x) 32
   ·have ks:(256:Int)<=((al (x) 32:Nat):Int):=by omega
    have hb:al (al (x) 32) 8<256:=by (try simp only[al]at*);omega
    have ht:=CC hb
    have hv:cJ (UInt8.ofNat (aV (al (al (x) 32) 8)))=(aV (al (al (x) 32) 8):Int):=CD hb
    have hl:=Be hb
    simp(disch:=omega) [A.b229,qk,h_,ks,zN,ht,hv,aA]
    have:=wU (k:=32) (n:=x) h0
    have:=wU (k:=8) (n:=al (x) 32) h2
    first|exact ad.refl|exact And.intro ad.refl (by omega)
   ·have ks:¬(256:Int)<=((al (x) 32:Nat):Int):=by omega
    have hb:al (x) 32<256:=by (try simp only[al]at*);omega
    have ht:=CC hb
    have hv:cJ (UInt8.ofNat (aV (al (x) 32)))=(aV (al (x) 32):Int):=CD hb
    have hl:=Be hb
    simp(disch:=omega) [A.b229,qk,h_,ks,zN,ht,hv,aA]
    have:=wU (k:=32) (n:=x) h0
    first|exact ad.refl|exact And.intro ad.refl (by omega)
 ·have qk:¬(4294967296:Int)<=((x:Nat):Int):=by omega
  by_cases h1:65536<=x
  ·have h_:(65536:Int)<=((x:Nat):Int):=by omega
   by_cases h2:256<=al (x) 16
   ·have ks:(256:Int)<=((al (x) 16:Nat):Int):=by omega
    have hb:al (al (x) 16) 8<256:=by (try simp only[al]at*);omega
    have ht:=CC hb
    have hv:cJ (UInt8.ofNat (aV (al (al (x) 16) 8)))=(aV (al (al (x) 16) 8):Int):=CD hb
    have hl:=Be hb
    simp(disch:=omega) [A.b229,qk,h_,ks,zN,ht,hv,aA]
    have:=wU (k:=16) (n:=x) h1
    have:=wU (k:=8) (n:=al (x) 16) h2
    first|exact ad.refl|exact And.intro ad.refl (by omega)
   ·have ks:¬(256:Int)<=((al (x) 16:Nat):Int):=by omega
    have hb:al (x) 16<256:=by (try simp only[al]at*);omega
    have ht:=CC hb
    have hv:cJ (UInt8.ofNat (aV (al (x) 16)))=(aV (al (x) 16):Int):=CD hb
    have hl:=Be hb
    simp(disch:=omega) [A.b229,qk,h_,ks,zN,ht,hv,aA]
    have:=wU (k:=16) (n:=x) h1
    first|exact ad.refl|exact And.intro ad.refl (by omega)
  ·have h_:¬(65536:Int)<=((x:Nat):Int):=by omega
   by_cases h2:256<=x
   ·have ks:(256:Int)<=((x:Nat):Int):=by omega
    have hb:al (x) 8<256:=by (try simp only[al]at*);omega
    have ht:=CC hb
    have hv:cJ (UInt8.ofNat (aV (al (x) 8)))=(aV (al (x) 8):Int):=CD hb
    have hl:=Be hb
    simp(disch:=omega) [A.b229,qk,h_,ks,zN,ht,hv,aA]
    have:=wU (k:=8) (n:=x) h2
    first|exact ad.refl|exact And.intro ad.refl (by omega)
   ·have ks:¬(256:Int)<=((x:Nat):Int):=by omega
    have hb:x<256:=by (try simp only[al]at*);omega
    have ht:=CC hb
    have hv:cJ (UInt8.ofNat (aV (x)))=(aV (x):Int):=CD hb
    have hl:=Be hb
    simp(disch:=omega) [A.b229,qk,h_,ks,zN,ht,hv,aA]
    first|exact ad.refl|exact And.intro ad.refl (by omega)
def Yb5{h:T O}{N:Nat}{x:Nat}(hx:x<18446744073709551616):Fn A.C 259 [.int .u64 x] h N (fun v' h' N'=>h'=h/\N'=N/\v'=.int .i64 ((64-aV x:Nat))):=by
 intro w
 have hl:aV x<=64:=by
  by_cases h0:x=0
  ·subst h0;decide
  ·apply wB
   intro hc
   have:=Hj h0
   have:2^64<=2^(aV x-1):=nY (by decide) (by omega)
   omega
 rw[aQ,A.k259 (by simp)]
 simp[A.b259]
 refine au (UH hx) ?_
 rintro _ _ _ hk ⟨rfl,rfl,rfl⟩
 simp(disch:=omega) [aA]
 exact⟨hk,by omega⟩
variable {s x:Nat}
def A.Ks:=A.q Tryz.f260
def A.lI:=A.ql A.Ks 0 []
def A.b260:=(fun x0=>A.qb A.Ks [x0]) A.lI
def A.k260:=@A.kk 260 40 [.tmp 4] A.b260 (by kernel_rfl) rfl
def Oq{c:Nat}(hs:s<64)(hc:c<2^s):iK c (bJ x s)=c+bJ x s:=by
 unfold iK bJ
 have e:x*2^s%18446744073709551616=(x%2^(64-s))<<<s:=by
  rw[Nat.shiftLeft_eq]
  have:(18446744073709551616:Nat)=2^(64-s)*2^s:=by rw[<-gL,show 64-s+s=64 by omega]
  rw[this,IG]
 rw[e,Nat.or_comm,Nat.add_comm,Nat.shiftLeft_add_eq_or_of_lt hc]
def Yad(hs:s<=64):bJ x s+B*al x (64-s)=x*2^s:=by
 unfold bJ al
 have e:x/2^(64-s)=x*2^s/18446744073709551616:=by
  have:(18446744073709551616:Nat)=2^(64-s)*2^s:=by rw[<-gL,show 64-s+s=64 by omega]
  rw[this,Nd _ _ (qA s)]
 rw[e]
 have:=rz (x*2^s) 18446744073709551616
 unfold B
 omega
def Yhp(hx:x<B)(hs:s<=64):al x (64-s)<2^s:=by
 unfold al
 apply (oh (qA _)).2
 rw[<-gL,show s+(64-s)=64 by omega]
 exact hx
def Zoj{c:Nat}(hs:s<64)(hc:c<2^s):c+bJ x s<B:=by
 rw[<-Oq hs hc]
 unfold iK
 apply Nat.or_lt_two_pow (n:=64)
 ·exact Nat.lt_trans hc (Nat.pow_lt_pow_right (by decide) hs)
 ·exact T1
structure ShJ (h:T O) (N:Nat) (l:List Nat) (s k:Nat) (o:List Nat) (c:Nat) (r:T V) (st:St):Prop where
 hk:k<=l.length
 Hk:r.get 14=some (.int .i64 k)
 n:st.n=N+1
 w:aB N st.w=[]
 ae:ad h N st.h (N+1)
 row:st.h.get N=some (.cells (dg o) 212 true)
 len:o.length=l.length+1
 dg:Dg o
 zero:∀t,k<t->t<o.length->o[t]?=some 0
 top:o[k]?=some c
 lc:c<2^s
 ex:val B o=val B (l.take k)*2^s
def ShI(h:T O)(N:Nat)(l:List Nat)(s m:Nat)(r:T V)(st:St):Prop:=∃k o c,m=l.length-k/\ShJ h N l s k o c r st
def ShE(h:T O)(N:Nat)(l:List Nat)(s:Nat)(r:T V)(st:St):Prop:=∃o c,ShJ h N l s l.length o c r st
def Zol{h:T O}{N:Nat}{v:V}{l:List Nat}(hv:Sl h N v (Go.Mx.dg l))(hd:Dg l)(hs:s<64)(hl:l.length<1099511627776):Fn A.C 260 [v,.int .i64 s] h N (fun v' h' N'=>∃i o,N<=i/\i<N'/\v'=.slice i 0 (l.length+1) (some (l.length+1)) 1/\h'.get i=some (.cells (dg o) 212 true)/\o.length=l.length+1/\Dg o/\val B o=val B l*2^s):=by
 intro w
 have lx:=hv.len
 rw[bn]at lx
 rw[aQ,A.k260 (by simp)]
 simp(disch:=first|(simp;done)|omega|(simp only[bn,bW,bf];omega)|rfl) [A.b260,lx]
 refine cX [(6,7),(14,38)] (fun e r st=>e=.exit 0/\ShE h N l s r st) (ShI h N l s) l.length ?_ ?_ ?_
 ·refine⟨0,List.replicate (l.length+1) 0,0,by omega,⟨by omega,by simp,by simp,by simp,ad.refl.set (aR _) |>.up (by omega),by simp[EC],by simp,?_,?_,by simp,qA s,by simp[val,Zqj]⟩⟩
  ·intro d hd
   rw[GD]at hd
   rw[hd.2];decide
  ·intro t _ ht
   simp at ht
   simp[ht]
 ·rintro m r ⟨H,n1,W⟩ hr hf ⟨k,o,c,rfl,hk,rY,hn,hW,hK,hN,ho,Hl,hz,hc,zD,he⟩
  simp only at hn hW hK hN
  subst hn
  rw[cm]
  by_cases aO:k<l.length
  ·obtain⟨i1,o1,c1,e1,w1,p1,p2,p3,p4⟩:=hv.at (eY (dT aO))
   have p3:=(hK.get _ p2).trans p3
   have gx:=dT aO
   generalize l[k]=x at*
   have hx:x<B:=hd.get gx
   have UE:c<18446744073709551616:=Hl.get hc
   have yr:=Oq (x:=x) hs zD
   have eJ:=Zoj (x:=x) hs zD
   obtain⟨z,UI⟩:∃z,c+bJ x s=z:=⟨_,rfl⟩
   rw[UI]at yr eJ
   have zab:(o.set k z).length=l.length+1:=by simp[ho]
   have Cf:=Yad (x:=x) (s:=s) (by omega)
   have cO:=Yhp hx (s:=s) (by omega)
   have v1:=Kq (b:=B) (v:=z) hc
   have yd:(o.set k z)[k+1]?=some 0:=by
    rw[eB (by omega)];exact hz _ (by omega) (by omega)
   have v2:=Kq (b:=B) (v:=al x (64-s)) yd
   by_cases h0:0<s
   ·have qk:(0:Int)<(s:Int):=by omega
    simp(disch:=first|(simp;done)|omega|(simp only[bn,bW,bf];omega)|rfl) [-getElem?_pos,A.lI,hr,rY,aO,lx,p1,p3,p4,hN,eY hc,yr,nR,h0,hf]
    refine⟨_,by omega,k+1,(o.set k z).set (k+1) (al x (64-s)),al x (64-s),rfl,⟨by omega,by simp,rfl,by simp[hW],(hK.set (aR _)).set (aR _),by simp,by simp[ho],(Hl.set eJ).set (ic cO (nY (by decide) (by omega):2^s<=2^64)),?_,nF (by omega),cO,?_⟩⟩
    ·intro t t1 t2
     rw[eB (by omega),eB (by omega)]
     exact hz t (by omega) (by simpa using t2)
    ·rw[Cq gx,jF,<-he]
     rw[<-UI]at v1 v2 ⊢
     have e3:B^k*(bJ x s+B*al x (64-s))=B^k*(x*2^s):=by rw[Cf]
     rw[fv]at v2
     generalize val B ((o.set k (c+bJ x s)).set (k+1) (al x (64-s)))=z1 at*
     generalize val B (o.set k (c+bJ x s))=z2 at*
     generalize val B o=z3 at*
     generalize bJ x s=z4 at*
     generalize al x (64-s)=z5 at*
     generalize B^k=z6 at*
     grind
   ·have qk:¬(0:Int)<(s:Int):=by omega
    simp(disch:=first|(simp;done)|omega|(simp only[bn,bW,bf];omega)|rfl) [-getElem?_pos,A.lI,hr,rY,aO,lx,p1,p3,p4,hN,eY hc,yr,nR,h0,hf]
    have uI:s=0:=by omega
    subst uI
    have ga:c=0:=by simpa using zD
    subst ga
    have e0:bJ x 0=x:=by unfold bJ;unfold B at hx;simp;omega
    have oF:z=x:=by rw[<-UI,e0];omega
    subst oF
    refine⟨_,by omega,k+1,o.set k z,0,rfl,⟨by omega,by simp,rfl,by simp[hW],hK.set (aR _),by simp,by simp[ho],Hl.set hx,?_,?_,by decide,?_⟩⟩
    ·intro t t1 t2
     rw[eB (by omega)]
     exact hz t (by omega) (by simpa using t2)
    ·rw[eB (by omega)];exact hz _ (by omega) (by omega)
    ·rw[Cq gx,jF,<-he]
     simpa using v1
  ·have:k=l.length:=by omega
   subst this
   simp[A.lI,hr,rY,hf]
   exact⟨o,c,⟨by omega,by simp[rY],rfl,hW,hK,hN,ho,Hl,hz,hc,zD,he⟩⟩
 ·rintro _ r ⟨H,n1,W⟩ hr ⟨rfl,o,c,hk,rY,hn,hW,hK,hN,ho,Hl,hz,hc,zD,he⟩
  simp only at hn hW hK hN
  subst hn
  simp[hr,aA]
  rw[gI (aR _)]at he
  exact⟨hW,hK,N,aR _,by omega,rfl,o,hN,ho,Hl,he⟩
open Go
variable {b r:Nat}
def OD{u un cB jS q:Nat}(hi:u=q*cB+r)(hc:q*jS<=b*r+un):q*(cB*b+jS)<=u*b+un:=by
 subst hi
 rw[my,jF,<-tZ,fR r b]
 omega
def Zwl{u un cB jS q:Nat}(hi:u=q*cB+r)(hc:b*r+un<q*jS):u*b+un<q*(cB*b+jS):=by
 subst hi
 rw[my,jF,<-tZ,fR r b]
 omega
def Zr6{a y q:Nat}(h:a<q*y):a/y<q:=by
 rcases IE y with rfl|hy
 ·simp at h
 ·exact(oh hy).2 h
def Hm{a y q:Nat}(hy:0<y)(h:q*y<=a):q<=a/y:=(GC hy).2 h
def Yk0{P u1 u2 U' v1 v2 V' s:Nat}(mY:0<v1)(A2:V'<P)(ht:s<=b)(hinv:u1=(s+1)*v1+r)(hc:(s+1)*v2<=r*b+u2):
  s*(V'+P*(v2+b*v1))<=U'+P*(u2+b*u1):=by
 have h1:s*V'<=b*P:=jL ht (by omega)
 have h2:b*P*1<=b*P*v1:=iT _ mY
 have h3:P*((s+1)*v2)<=P*(r*b+u2):=iT _ hc
 have h4:P*((s+1)*v2)=P*(s*v2)+P*v2:=by grind
 have h5:s*(V'+P*(v2+b*v1))=s*V'+P*(s*v2)+b*(P*(s*v1)):=by grind
 have h6:U'+P*(u2+b*u1)=U'+P*(r*b+u2)+b*(P*(s*v1))+b*P*v1:=by subst hinv;grind
 omega
def Ykz{P u1 u2 U' v1 v2 V' t:Nat}(A1:U'<P)(hinv:u1=t*v1+r)(hc:r*b+u2<t*v2):
  U'+P*(u2+b*u1)<t*(V'+P*(v2+b*v1)):=by
 have h3:P*(r*b+u2+1)<=P*(t*v2):=iT _ hc
 have h5:t*(V'+P*(v2+b*v1))=t*V'+P*(t*v2)+b*(P*(t*v1)):=by grind
 have h6:U'+P*(u2+b*u1)+P=U'+P*(r*b+u2+1)+b*(P*(t*v1)):=by subst hinv;grind
 omega
end
end Go.Mx
