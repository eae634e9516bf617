/-A certified span-/
import Derived.Test.YtlbnjhhebffhdaaGreatDoorLvD
set_option linter.all false
namespace Go.Mx
noncomputable section
open Go Go.Proofs
variable {D i:Nat} {a b d g hi l lo m x y:Rat}
set_option maxRecDepth 1000000
structure BO (x y:Rat×Rat):Prop where
 lo:y.1<=x.1
 ne:x.1<=x.2
 hi:x.2<=y.2
def Dr{l:List Rat}:∀{n j:Nat},j<=n->mX l n<=pg l j
 |0,j,h=>by
  obtain rfl:j=0:=by omega
  exact Rat.le_refl
 |n+1,j,h=>by
  unfold mX
  by_cases e:j=n+1
  ·subst e
   split<;>grind
  ·have:=Dr (l:=l) (n:=n) (j:=j) (by omega)
   split<;>grind
def Io{l:List Rat}:∀{n j:Nat},j<=n->pg l j<=pY l n
 |0,j,h=>by
  obtain rfl:j=0:=by omega
  exact Rat.le_refl
 |n+1,j,h=>by
  unfold pY
  by_cases e:j=n+1
  ·subst e
   split<;>grind
  ·have:=Io (l:=l) (n:=n) (j:=j) (by omega)
   split<;>grind
def SV{l:List Rat}{b:Rat}:∀{n:Nat},(∀j,j<=n->b<=pg l j)->b<=mX l n
 |0,h=>h 0 (by omega)
 |n+1,h=>by
  unfold mX
  split
  ·exact h _ (Yv5 _)
  ·exact SV fun j hj=>h j (by omega)
def Zve{l:List Rat}{b:Rat}:∀{n:Nat},(∀j,j<=n->pg l j<=b)->pY l n<=b
 |0,h=>h 0 (by omega)
 |n+1,h=>by
  unfold pY
  split
  ·exact h _ (Yv5 _)
  ·exact Zve fun j hj=>h j (by omega)
def Ys3{a b c d:Rat}:(yF a b c d<=a*c/\yF a b c d<=a*d/\yF a b c d<=b*c/\yF a b c d<=b*d)/\(a*c<=yG a b c d/\a*d<=yG a b c d/\b*c<=yG a b c d/\b*d<=yG a b c d):=
 ⟨⟨Dr (j:=0) (by decide),Dr (j:=1) (by decide),Dr (j:=2) (by decide),Dr (j:=3) (by decide)⟩,Io (j:=0) (by decide),Io (j:=1) (by decide),Io (j:=2) (by decide),Io (j:=3) (by decide)⟩
def Ydr{c:Rat}(h0:m<=a*c)(h1:m<=a*d)(h2:m<=b*c)(h3:m<=b*d):m<=yF a b c d:=
 SV fun j hj=>by
  match j,hj with
  |0,_=>exact h0
  |1,_=>exact h1
  |2,_=>exact h2
  |3,_=>exact h3
def Ydq{c:Rat}(h0:a*c<=m)(h1:a*d<=m)(h2:b*c<=m)(h3:b*d<=m):yG a b c d<=m:=
 Zve fun j hj=>by
  match j,hj with
  |0,_=>exact h0
  |1,_=>exact h1
  |2,_=>exact h2
  |3,_=>exact h3
def Zse(hd:d<=0)(h:x<=y):y*d<=x*d:=by
 have:=iK (d:= -d) (by grind) h
 grind
def Ych(h1:a<=x)(h2:x<=b)(ha:m<=a*y)(hb:m<=b*y):m<=x*y:=by
 by_cases hy:0<=y
 ·exact Rat.le_trans ha (iK hy h1)
 ·exact Rat.le_trans hb (Zse (by grind) h2)
def Ycg(h1:a<=x)(h2:x<=b)(ha:a*y<=m)(hb:b*y<=m):x*y<=m:=by
 by_cases hy:0<=y
 ·exact Rat.le_trans (iK hy h2) hb
 ·exact Rat.le_trans (Zse (by grind) h1) ha
def SW{c:Rat}(h1:a<=x)(h2:x<=b)(h3:c<=y)(h4:y<=d):yF a b c d<=x*y/\x*y<=yG a b c d:=by
 obtain⟨⟨l1,l2,l3,l4⟩,u1,u2,u3,u4⟩:=@Ys3 a b c d
 constructor
 ·refine Ych h1 h2 ?_ ?_
  ·rw[Rat.mul_comm]
   exact Ych h3 h4 (by rw[Rat.mul_comm];exact l1) (by rw[Rat.mul_comm];exact l2)
  ·rw[Rat.mul_comm]
   exact Ych h3 h4 (by rw[Rat.mul_comm];exact l3) (by rw[Rat.mul_comm];exact l4)
 ·refine Ycg h1 h2 ?_ ?_
  ·rw[Rat.mul_comm]
   exact Ycg h3 h4 (by rw[Rat.mul_comm];exact u1) (by rw[Rat.mul_comm];exact u2)
  ·rw[Rat.mul_comm]
   exact Ycg h3 h4 (by rw[Rat.mul_comm];exact u3) (by rw[Rat.mul_comm];exact u4)
def mul_sub{x y X Y:Rat×Rat}(hx:BO x X)(hy:BO y Y):BO (Ii x y) (Ii X Y):=by
 have a1:=hx.lo
 have a2:=hx.ne
 have a3:=hx.hi
 have b1:=hy.lo
 have b2:=hy.ne
 have b3:=hy.hi
 have c1:=SW (a:=X.1) (b:=X.2) (c:=Y.1) (d:=Y.2) (x:=x.1) (y:=y.1) a1 (by grind) b1 (by grind)
 have c2:=SW (a:=X.1) (b:=X.2) (c:=Y.1) (d:=Y.2) (x:=x.1) (y:=y.2) a1 (by grind) (show Y.1<=y.2 by grind) b3
 have c3:=SW (a:=X.1) (b:=X.2) (c:=Y.1) (d:=Y.2) (x:=x.2) (y:=y.1) (show X.1<=x.2 by grind) a3 b1 (by grind)
 have c4:=SW (a:=X.1) (b:=X.2) (c:=Y.1) (d:=Y.2) (x:=x.2) (y:=y.2) (show X.1<=x.2 by grind) a3 (show Y.1<=y.2 by grind) b3
 have m:=@Ys3 x.1 x.2 y.1 y.2
 exact⟨Ydr c1.1 c2.1 c3.1 c4.1,Rat.le_trans m.1.1 m.2.1,Ydq c1.2 c2.2 c3.2 c4.2⟩
def sub_sub{x y X Y:Rat×Rat}(hx:BO x X)(hy:BO y Y):BO (Nt x y) (Nt X Y):=by
 have a1:=hx.lo
 have a2:=hx.ne
 have a3:=hx.hi
 have b1:=hy.lo
 have b2:=hy.ne
 have b3:=hy.hi
 constructor<;>simp only[Nt]<;>grind
def Ydt{a b:Rat}:zgb a<=s_ a b/\zgb b<=s_ a b:=⟨Io (l:=[zgb a,zgb b]) (j:=0) (by decide),Io (l:=[zgb a,zgb b]) (j:=1) (by decide)⟩
def Ym7(h1:zgb a<=m)(h2:zgb b<=m):s_ a b<=m:=
 Zve fun j hj=>by
  match j,hj with
  |0,_=>exact h1
  |1,_=>exact h2
def Yig{x X:Rat×Rat}(h:BO x X):s_ x.1 x.2<=s_ X.1 X.2:=by
 obtain⟨m1,m2⟩:=@Ydt X.1 X.2
 have a1:=h.lo
 have a2:=h.ne
 have a3:=h.hi
 have q1:=@Nw X.1
 have q2:=@Nw X.2
 exact Ym7 (Zwd (by grind) (by grind)) (Zwd (by grind) (by grind))
def Yen{x X:Rat×Rat}(h:BO x X):mZ X.1 X.2<=mZ x.1 x.2:=by
 have a1:=h.lo
 have a2:=h.ne
 have a3:=h.hi
 by_cases hz:AD X.1 X.2=true
 ·rw[mZ,aR hz]
  unfold mZ
  split
  ·exact Rat.le_refl
  ·exact SV fun j hj=>by
    match j,hj with
    |0,_=>exact Zb2
    |1,_=>exact Zb2
 ·have Sa:¬AD x.1 x.2=true:=fun hc=>hz (by
   simp only[AD,decide_eq_true_eq]at hc ⊢
   exact⟨by grind,by grind⟩)
  rw[mZ,aA hz,mZ,aA Sa]
  have hs:¬(X.1<=0/\0<=X.2):=fun hc=>hz (by simpa[AD]using hc)
  have l1:mX [zgb X.1,zgb X.2] 1<=zgb X.1:=Dr (l:=[zgb X.1,zgb X.2]) (j:=0) (by decide)
  have l2:mX [zgb X.1,zgb X.2] 1<=zgb X.2:=Dr (l:=[zgb X.1,zgb X.2]) (j:=1) (by decide)
  have k:∀v,X.1<=v->v<=X.2->mX [zgb X.1,zgb X.2] 1<=zgb v:=fun v v1 v2=>by
   by_cases hp:X.1<=0
   ·have:X.2<0:=by grind
    refine Rat.le_trans l2 ?_
    unfold zgb
    split<;>split<;>grind
   ·refine Rat.le_trans l1 ?_
    unfold zgb
    split<;>split<;>grind
  exact SV fun j hj=>by
   match j,hj with
   |0,_=>exact k x.1 (by grind) (by grind)
   |1,_=>exact k x.2 (by grind) (by grind)
def Zvw:∀{n:Nat} {p q:List (Rat×Rat)},p.length=q.length->(∀i,i<p.length->BO (pgI p i) (pgI q i))->Zo0 n q=true->Zo0 n p=true
 |0,_,_,_,_,_=>rfl
 |n+1,p,q,hl,hs,h=>by
  unfold Zo0 at h ⊢
  by_cases h1:p.length<=1
  ·rw[aR h1]
  ·rw[aA h1]
   rw[aA (by omega)]at h
   split at h
   ·cases h
   ·rename_i hc
    have m0:=Yig (hs 0 (by omega))
    have m1:=Yen (hs (p.length-1) (by omega))
    rw[<-hl]at hc
    rw[aA (fun hd=>hc (Rat.le_trans m1 (Rat.le_trans hd m0)))]
    refine Zvw (by rw[Sp,Sp,hl]) (fun i hi=>?_) h
    rw[Sp]at hi
    rw[Zn1 hi,Zn1 (by omega)]
    unfold Nu
    rw[<-hl]
    exact sub_sub (mul_sub (hs _ (by omega)) (hs _ (by omega))) (mul_sub (hs _ (by omega)) (hs _ (by omega)))
def Ds{l:List Rat}(h:i<l.length):pgI (tZ l) i=(pg l i,pg l i):=by
 unfold pgI tZ
 rw[jT,iy h]
 rfl
def Ydn:Ii (a,a) (b,b)=(a*b,a*b):=by
 have m:=@Ys3 a a b b
 have h1:yF a a b b=a*b:=Rat.le_antisymm m.1.1 (Ydr Rat.le_refl Rat.le_refl Rat.le_refl Rat.le_refl)
 have h2:yG a a b b=a*b:=Rat.le_antisymm (Ydq Rat.le_refl Rat.le_refl Rat.le_refl Rat.le_refl) m.2.1
 rw[Ii,h1,h2]
def yV(c:Rat)(p:List Rat):List Rat:=p.map fun x=>c*x
def Ip{c:Rat}{p:List Rat}:(yV c p).length=p.length:=by simp[yV]
def NI{c:Rat}{p:List Rat}{i:Nat}:pg (yV c p) i=c*pg p i:=by
 unfold pg yV
 rw[jT]
 cases p[i]?<;>simp[Rat.mul_zero]
def Yc4{p q:List Rat}(hl:p.length=q.length)(h:∀i,i<p.length->pg p i=pg q i):p=q:=by
 apply o8 
 intro i
 by_cases hi:i<p.length
 ·rw[iy hi,iy (by omega),h i hi]
 ·rw[kc (by omega),kc (by omega)]
def Zwv{c:Rat}{p:List Rat}(hc:c≠0):ratio (yV c p)=ratio p:=by
 unfold ratio
 rw[Ip,NI,NI]
 by_cases h:pg p (p.length-1)=0
 ·rw[h,Rat.mul_zero,Rat.div_def,Rat.div_def,Rat.inv_zero,Rat.mul_zero,Rat.mul_zero]
 ·have h2:c*pg p (p.length-1)≠0:=fun e=>by rcases Rat.mul_eq_zero.1 e with h'|h';exact hc h';exact h h'
  grind
def Yl8{c:Rat}{p:List Rat}(hc:c≠0):gh (yV c p)=yV c (gh p):=by
 refine Yc4 (by rw[BK,Ip,Ip,BK]) fun i hi=>?_
 rw[BK,Ip]at hi
 rw[La (by rw[Ip];omega),Zwv hc,Ip,@NI c p (i+1),@NI c p (p.length-1-1-i),@NI c (gh p) i,La (by omega)]
 grind
def Yci{c:Rat}(hc:c≠0):∀{n:Nat} {p:List Rat},mW n (yV c p)=mW n p
 |0,_=>rfl
 |n+1,p=>by
  unfold mW
  rw[Ip,Zwv hc,Yl8 hc,Yci hc]
def Yhd{p:List Rat}(h:1<p.length)(hz:pg p (p.length-1)≠0):vt (tZ p)=tZ (yV (pg p (p.length-1)) (gh p)):=by
 unfold vt
 rw[Dj]
 show _=(yV (pg p (p.length-1)) (gh p)).map fun q=>(q,q)
 unfold yV
 rw[gh,List.map_map,List.map_map]
 refine Nj fun k hk=>?_
 have hk:=Dh.1 hk
 simp only[Function.comp,Nu,Dj]
 rw[Ds (by omega),Ds (by omega),Ds (by omega),Ds (by omega),Ydn,Ydn]
 have e:pg p (p.length-1)*pg p (k+1)-pg p 0*pg p (p.length-1-1-k)=pg p (p.length-1)*(pg p (k+1)-ratio p*pg p (p.length-1-1-k)):=by
  unfold ratio
  generalize pg p (p.length-1)=z at*
  grind
 unfold Nt
 rw[e]
def Zx6:∀{n:Nat} {p:List Rat},Zo0 n (tZ p)=true->mW n p=true
 |0,_,_=>rfl
 |n+1,p,h=>by
  unfold Zo0 at h
  unfold mW
  rw[Dj]at h
  by_cases h1:p.length<=1
  ·rw[aR h1]
  ·rw[aA h1]at h ⊢
   rw[Ds (by omega),Ds (by omega)]at h
   split at h
   ·cases h
   ·rename_i hc
    have hm:zgb (pg p 0)<=s_ (pg p 0) (pg p 0):=Ydt.1
    have hl:mZ (pg p (p.length-1)) (pg p (p.length-1))<=zgb (pg p (p.length-1)):=by
     unfold mZ
     split
     ·exact Zb2
     ·exact Dr (l:=[zgb (pg p (p.length-1)),zgb (pg p (p.length-1))]) (j:=0) (by decide)
    have aW:zgb (pg p 0)<zgb (pg p (p.length-1)):=by simp only at hc;grind
    have hz:pg p (p.length-1)≠0:=fun e=>by
     rw[e]at aW
     have:=@Zb2 (pg p 0)
     have z:zgb 0=0:=by decide+kernel
     grind
    rw[Yhd (by omega) hz]at h
    have ih:=Zx6 h
    rw[Yci hz]at ih
    have hr:¬1<=zgb (ratio p):=fun hd=>by
     have e:pg p 0=ratio p*pg p (p.length-1):=by unfold ratio;exact(Rat.div_mul_cancel hz).symm
     have:=iK (@Zb2 (pg p (p.length-1))) hd
     rw[<-BJ,<-e]at this
     grind
    rw[aA hr]
    exact ih
def Zv8{p:Rat}(h:i<D+3):pgI (jg l p D lo hi) i=if i=1 then (pg (aJ 0 l p D) 1+lo,pg (aJ 0 l p D) 1+hi) else (pg (aJ 0 l p D) i,pg (aJ 0 l p D) i):=by
 have cl:=(@xG 0 l p D).1
 unfold jg pgI
 by_cases e:i=1
 ·subst e
  rw[lM (by rw[Dj,cl];omega),aR rfl]
  rfl
 ·rw[eJ (by omega),aA e]
  exact Ds (by rw[cl];omega)
def Zv0{p:Rat}(h:i<D+3):pg (aJ g l p D) i=pg (aJ 0 l p D) i+if i=1 then g else 0:=by
 obtain⟨k,rfl,hk⟩:∃k,i=D+2-k/\k<=D+2:=⟨D+2-i,by omega,by omega⟩
 rw[Sq hk,Sq hk]
 by_cases e:k=D+1
 ·rw[aR (show D+2-k=1 by omega),aR e,aR e];grind
 ·rw[aA (show ¬D+2-k=1 by omega),aA e,aA e];grind
def Yf7{p lo2 BL:Rat}{n:Nat}(h1:lo<=lo2)(h2:lo2<=BL)(h3:BL<=hi)(h:Zo0 n (jg l p D lo hi)=true):Zo0 n (jg l p D lo2 BL)=true:=by
 refine Zvw (by rw[Nv,Nv]) (fun i hi=>?_) h
 rw[Nv]at hi
 rw[Zv8 hi,Zv8 hi]
 split
 ·constructor<;>simp only<;>grind
 ·exact⟨Rat.le_refl,Rat.le_refl,Rat.le_refl⟩
def Yf6{p:Rat}(h1:lo<=g)(h2:g<=hi)(h:Zo0 (D+3) (jg l p D lo hi)=true):Ax g l p D=true:=by
 have cl:=(@xG g l p D).1
 refine Zx6 (n:=D+3) (Zvw (by rw[Nv,Dj,cl]) (fun i hi=>?_) h)
 rw[Dj,cl]at hi
 rw[Ds (by rw[cl];omega),Zv8 hi,Zv0 hi]
 split
 ·constructor<;>simp only<;>grind
 ·constructor<;>simp only<;>grind
def Zt6{g l:Rat}:Ax g l 0 0=true↔zgb (l-g)<1:=by
 have e:aJ g l 0 0=[0,g-l,1]:=by
  refine Yc4 (by rw[(@xG g l 0 0).1];rfl) fun i hi=>?_
  rw[(@xG g l 0 0).1]at hi
  obtain⟨k,rfl,hk⟩:∃k,i=0+2-k/\k<=0+2:=⟨2-i,by omega,by omega⟩
  rw[Sq hk]
  match k,hk with
  |0,_=>simp[pg];grind
  |1,_=>simp[pg];grind
  |2,_=>simp[pg];grind
 have r1:ratio [0,g-l,1]=0:=by simp[ratio,pg];grind
 have n1:gh [0,g-l,1]=[g-l,1]:=by
  refine Yc4 (by rw[BK];rfl) fun i hi=>?_
  rw[BK]at hi
  rw[La hi,r1]
  match i,hi with
  |0,_=>simp[pg];grind
  |1,_=>simp[pg];grind
 have r2:ratio [g-l,1]=g-l:=by simp[ratio,pg];grind
 have ab:zgb (l-g)=zgb (g-l):=by unfold zgb;split<;>split<;>grind
 have z:¬1<=zgb 0:=by decide+kernel
 rw[Ax,e,mW,aA (by simp),r1,aA z,n1,mW,aA (by simp),r2,ab]
 by_cases h:1<=zgb (g-l)
 ·rw[aR h]
  constructor
  ·intro h';cases h'
  ·intro h';grind
 ·rw[aA h]
  have:mW 1 (gh [g-l,1])=true:=Ypz (by rw[BK];simp)
  rw[this]
  exact⟨fun _=>by grind,fun _=>rfl⟩
def Yqv{p:Rat}{n:Nat}(hl:l<=1)(hp:0<=p)(hD:D<=2)(h:Su (Dk l p D 10) n):n<=51:=by
 apply vD
 intro hc
 have:=Ykj hl hp (by omega) (h.2.2 ((D+3)*10+1) (by omega) (by omega))
 omega
def Yih{K:Nat}{a b:Rat}(qa:Qb K a)(qb:Qb K b):Qb K (s_ a b):=Sj (fun y hy=>by
 simp at hy
 rcases hy with rfl|rfl
 ·exact yH qa
 ·exact yH qb) (by simp)
def Yeo{K:Nat}{a b:Rat}(hK:1<=K)(qa:Qb K a)(qb:Qb K b):Qb K (mZ a b):=by
 unfold mZ
 split
 ·exact(Qb.int (z:=0) (k:=1) (by decide) (by decide)).mono hK
 ·exact Si (fun y hy=>by
   simp at hy
   rcases hy with rfl|rfl
   ·exact yH qa
   ·exact yH qb) (by simp)
variable {N N':Nat} {h h':T O} {v:V}
def A.SX:=A.q Tryz.f31
def A.ue:=A.ql A.SX 2 []
def A.uc:=(fun x0=>A.ql A.SX 1 [x0]) A.ue
def A.t_:=A.ql A.SX 0 []
def A.b31:=(fun x0 x1=>A.qb A.SX [x0,x1]) A.t_ A.uc
def A.k31:=@A.kk 31 96 [.tmp 4,.tmp 5] A.b31 (by kernel_rfl) rfl
def rG(h:T O)(N:Nat)(c:List V)(x:Rat×Rat):Prop:=Bc h N (.agg c) x.1 x.2
def Bc.c{x:V}{a b:Rat}(s:Bc h N x a b):∃c,x=.agg c/\rG h N c (a,b):=by
 have s0:=s
 obtain⟨n1,u1,n2,u2,n3,u3,n4,u4,rfl,_⟩:=s
 exact⟨_,rfl,s0⟩
def rG.ai{c:List V}{x:Rat×Rat}(s:rG h N c x)(k:ah h N h' N'):rG h' N' c x:=Bc.ai s k
def rG.len{c:List V}{x:Rat×Rat}(s:rG h N c x):c.length=8/\c.all V.one=true/\∀y∈c,NW y:=by
 obtain⟨n1,u1,n2,u2,n3,u3,n4,u4,e,s1,s2,s3,s4⟩:=s
 simp only[V.agg.injEq]at e
 subst e
 have o1:=Zaj s1
 have o2:=Zaj s2
 have o3:=Zaj s3
 have o4:=Zaj s4
 refine⟨rfl,by simp only[List.all_cons,List.all_nil,o1,o2,o3,o4,Bool.and_true];rfl,fun y hy m=>?_⟩
 simp at hy
 rcases hy with rfl|rfl|rfl|rfl|rfl|rfl|rfl|rfl
 ·simp
 ·exact Ll s1 m
 ·simp
 ·exact Ll s2 m
 ·simp
 ·exact Ll s3 m
 ·simp
 ·exact Ll s4 m
def rG.ay{i:Nat}{c c0 c1:List V}{x:Rat×Rat}{e0 e1:TypeId}{w0 w1:Bool}(s:rG h N c x)(g:h.get i=some (.cells c0 e0 w0))(hn:sY c0)(hc:c1.length=c0.length):rG (h.set i (.cells c1 e1 w1)) N c x:=by
 obtain⟨n1,u1,n2,u2,n3,u3,n4,u4,e,s1,s2,s3,s4⟩:=s
 exact⟨n1,u1,n2,u2,n3,u3,n4,u4,e,s1.ay g hn hc,s2.ay g hn hc,s3.ay g hn hc,s4.ay g hn hc⟩
def rG.fv{n n':Nat}{c:List V}{x:Rat×Rat}{e:TypeId}(s:rG h n c x)(k:wS (fun i=>i∈jU v) h n h' n')(hd:Lm e NW h v):rG h' n' c x:=by
 obtain⟨n1,u1,n2,u2,n3,u3,n4,u4,ee,s1,s2,s3,s4⟩:=s
 exact⟨n1,u1,n2,u2,n3,u3,n4,u4,ee,s1.fv k hd,s2.fv k hd,s3.fv k hd,s4.fv k hd⟩
def Ytv{c:List V}(h:c.length=8):aK c 0 8=some c:=by unfold aK;rw[h];simp;exact jP (by omega)
def Sv{c d:List V}(h:c.length=8)(hd:d.length=8):aj d 0 c=c:=by unfold aj;rw[h];simp[h,hd]
def yI(h:T O)(N:Nat)(v:V)(l:List (Rat×Rat)):Prop:=∃cs:List (List V),Sn 8 h N v cs/\cs.length=l.length/\∀j,j<l.length->∃c,cs[j]?=some c/\rG h N c (pgI l j)
def yI.ai{l:List (Rat×Rat)}(s:yI h N v l)(k:ah h N h' N'):yI h' N' v l:=by
 obtain⟨cs,s1,s2,s3⟩:=s
 exact⟨cs,s1.ai k,s2,fun j hj=>by
  obtain⟨c,c1,c2⟩:=s3 j hj
  exact⟨c,c1,c2.ai k⟩⟩
def yI.len{l:List (Rat×Rat)}(s:yI h N v l):rH v=some l.length:=by
 obtain⟨cs,s1,s2,_⟩:=s
 rw[s1.len,s2]
def yI.at{l:List (Rat×Rat)}(s:yI h N v l){j:Nat}(hj:j<l.length):∃i o x e rw c,wQ v=some (i,o)/\i<N/\h.get i=some (.cells x e rw)/\aK x (o+j*8) 8=some c/\rG h N c (pgI l j):=by
 obtain⟨cs,s1,s2,s3⟩:=s
 obtain⟨c,c1,c2⟩:=s3 j hj
 obtain⟨i,o,x,e,rw,q1,q2,q3,q4⟩:=s1.at c1
 exact⟨i,o,x,e,rw,c,q1,q2,q3,q4,c2⟩
structure rE (N0:Nat) (h:T O) (N:Nat) (v:V) (f:Nat->Rat×Rat) (t:Nat) (out:List (List V)):Prop where
 own:Own 8 142 N0 h N v out
 len:out.length=t
 nil:out=[]->v=.ziA
 nw:∀c∈out,∀y∈c,NW y
 bc:∀j,j<t->∃c,out[j]?=some c/\rG h N c (f j)
def rE.zero{N0:Nat}{f:Nat->Rat×Rat}:rE N0 h N .ziA f 0 []:=⟨Own.nil,rfl,fun _=>rfl,by simp,fun j hj=>by omega⟩
def rE.fin{N0:Nat}{l:List (Rat×Rat)}{out:List (List V)}(s:rE N0 h N v (pgI l) l.length out):yI h N v l:=⟨out,s.own.sn,s.len,s.bc⟩
def rE.push{N0:Nat}{t:Nat}{f:Nat->Rat×Rat}{out:List (List V)}{c:List V}{w:List Nat}(s:rE N0 h N v f t out)(hN:N0<=N)(ht:t<1000)(hc:rG h N c (f t)):
  ∃v' h' w',tf ⟨h.set N (.cells c 142 true),N+1,w⟩ 8 128 142 v (.slice N 0 1 (some 1) 8)=some (v',⟨h',N+1+1,w'⟩)/\aL N0 w'=aL N0 w/\ah h N0 h' (N+1+1)/\rE N0 h' (N+1+1) v' f (t+1) (out++[c]):=by
 obtain⟨f1,f2,f3⟩:=hc.len
 have kk:ah h N (h.set N (.cells c 142 true)) (N+1):=ah.refl.new _
 obtain⟨u',h',w',j1,j2,j3,j4,jD,j5⟩:=Zou (Y:=NW) (x:=c) (u:=.slice N 0 1 (some 1) 8) (bytes:=128) (w:=w) (s.own.ai kk) s.nil s.nw (by omega) (by decide) f1 (by simp only[oL,St.row,T.al,if_true];unfold aK;simp[f1];exact jP (by omega)) (by have:=s.len;omega)
 refine⟨u',h',w',j1,j2,⟨by have:=j3.le;omega,fun i hi=>(j3.get i hi).trans (kk.get i (by omega))⟩,j5,by simp[s.len],by simp,fun x hx y hy=>?_,fun j hj=>?_⟩
 ·rcases tg.1 hx with hx|hx
  ·exact s.nw x hx y hy
  ·simp only[yW]at hx;subst hx;exact f3 y hy
 ·by_cases hjt:j<t
  ·obtain⟨x,e1,e2⟩:=s.bc j hjt
   exact⟨x,by rw[xJ (by have:=s.len;omega)];exact e1,(e2.ai kk).fv j4 jD⟩
  ·obtain rfl:j=t:=by omega
   exact⟨c,by rw[Ig (by have:=s.len;omega),s.len];simp,(hc.ai kk).fv j4 jD⟩
def rE.ai{N0:Nat}{t:Nat}{f:Nat->Rat×Rat}{out:List (List V)}(s:rE N0 h N v f t out)(k:ah h N h' N'):rE N0 h' N' v f t out:=⟨s.own.ai k,s.len,s.nil,s.nw,fun j hj=>by
 obtain⟨c,e1,e2⟩:=s.bc j hj
 exact⟨c,e1,e2.ai k⟩⟩
def rE.zdZ{N0:Nat}{l:List (Rat×Rat)}{out:List (List V)}(s0:rE N0 h N v (pgI l) l.length out)(h1:1<l.length):∃i FL c1,wQ v=some (i,0)/\N0<=i/\i<N/\h.get i=some (.cells FL 142 true)/\aK FL 8 8=some c1/\rG h N c1 (pgI l 1)/\16<=FL.length/\∀h' N' c x,ah h N h' N'->rG h' N' c x->yI (h'.set i (.cells (aj FL 8 c) 142 true)) N' v (l.set 1 x):=by
 have s:=s0
 obtain⟨⟨hl,⟨h0,_⟩|⟨i,rfl,a1,a2,a3⟩⟩,ol,zfD,onw,obc⟩:=s
 ·rw[h0]at ol
  simp at ol
  omega
 ·have fl:=Zbj hl
  obtain⟨c1,d1,d2⟩:=obc 1 h1
  have sc:=NJ hl d1
  rw[Nat.one_mul]at sc
  refine⟨i,_,c1,rfl,a1,a2,a3,sc,d2,by omega,fun h' N' c x k hc=>?_⟩
  have NK:=(k.get i a2).trans a3
  obtain⟨f1,f2,f3⟩:=hc.len
  have e1:aj out.flatten 8 c=(out.set 1 c).flatten:=by
   have:=Zxy (z:=8) (x:=c) f1 hl (k:=1) (by omega)
   rw[Nat.one_mul]at this
   exact this
  have oG:∀y∈out.set 1 c,y.length=8:=fun y hy=>by
   rcases Aw hy with h|rfl
   ·exact hl y h
   ·exact f1
  have nu:sY out.flatten:=fun y hy=>by
   obtain⟨z,hz,hyz⟩:=List.mem_flatten.1 hy
   exact onw z hz y hyz
  have fl2:=Zbj oG
  rw[xL]at fl2
  rw[e1]
  have ow:Own 8 142 N0 (h'.set i (.cells (out.set 1 c).flatten 142 true)) N' (.slice i 0 out.length none 8) (out.set 1 c):=⟨oG,.inr ⟨i,by simp,a1,iL a2 k.le,by rw[T.al,aR rfl]⟩⟩
  refine⟨out.set 1 c,ow.sn,by rw[xL,xL,ol],fun j hj=>?_⟩
  rw[xL]at hj
  by_cases e:j=1
  ·subst e
   have ep:pgI (l.set 1 x) 1=x:=by unfold pgI;rw[lM (by omega)];rfl
   rw[ep]
   exact⟨c,by rw[lM (by omega)],hc.ay NK nu (by omega)⟩
  ·obtain⟨y,y1,y2⟩:=obc j hj
   have ep:pgI (l.set 1 x) j=pgI l j:=by unfold pgI;rw[eJ (Ne.symm e)]
   rw[ep]
   exact⟨y,by rw[eJ (Ne.symm e)];exact y1,(y2.ai k).ay NK nu (by omega)⟩
set_option maxHeartbeats 8000000
structure CpI (h:T O) (N:Nat) (l:List (Rat×Rat)) (k m:Nat) (r:T V) (st:St):Prop where
 w:aL N st.w=[]
 ai:ah h N st.h st.n
 ex:∃(v:V) (p:List (Rat×Rat)),r.get 7=some v/\yI st.h st.n v p/\p.length=m+1/\m+1<=l.length/\(∀x∈p,Ij (k*5^(l.length-1-m)) x)/\Zo0 (m+1) p=Zo0 l.length l
def Dl(E:Int)(b:Bool):V:=if E≠0 then .aX [.bool false,.int .i64 E] else .aX [.bool b,.int .i64 0]
def Yhz{h:T O}{N k:Nat}{g l' p' rC rD:bj}{D':Int}(lg:g.length<=40)(ll:l'.length<=40)(lp:p'.length<=40)(s1:rC.length<=40)(s2:rD.length<=40)(hk:1<=k)(hk1:k<=1000)(hB:cN [gT g l' p' D',nY rC rD]=0->∃(l p lo hi:Rat) (D:Nat),l'=Zao l/\p'=Zao p/\rC=Zao lo/\rD=Zao hi/\D'=(D:Int)/\aY l'=l/\aY p'=p/\aY rC=lo/\aY rD=hi/\Qb k l/\Qb k p/\Qb k lo/\Qb k hi/\D<=6/\(4*k+3)*5^(D+2)<=40000000):Fn A.C 31 [.agg [.str g,.str l',.str p',.int .i64 D'],.agg [.str rC,.str rD]] h N (fun x _ _=>x=Dl (cN [gT g l' p' D',nY rC rD]) (Zo0 (D'.toNat+3) (jg (aY l') (aY p') D'.toNat (aY rC) (aY rD)))):=by
 intro w
 have lO:∀c:List V,(V.agg c).cells=c:=fun _=>rfl
 have z0:zF=[V.int .i64 0,.ziA,.int .i64 0,.ziA]:=rfl
 have kB:ah h N ((h.set N (.cells [.str g,.str l',.str p',.int .i64 D'] 48 true)).set (N+1) (.cells [.str rC,.str rD] 32 true)) (N+1+1):=(ah.refl.new _).new _
 have b0:((h.set N (.cells [.str g,.str l',.str p',.int .i64 D'] 48 true)).set (N+1) (.cells [.str rC,.str rD] 32 true)).get N=some (.cells [.str g,.str l',.str p',.int .i64 D'] 48 true):=by simp
 have b1:((h.set N (.cells [.str g,.str l',.str p',.int .i64 D'] 48 true)).set (N+1) (.cells [.str rC,.str rD] 32 true)).get (N+1)=some (.cells [.str rC,.str rD] 32 true):=by simp
 rw[aZ,A.k31 (by simp)]
 simp(disch:=first|(simp;done)|omega|rfl) [-getElem?_pos,A.b31,aI,aK]
 generalize (h.set N (.cells [.str g,.str l',.str p',.int .i64 D'] 48 true)).set (N+1) (.cells [.str rC,.str rD] 32 true)=HB at*
 refine av (Yf3 lg ll lp (by omega)) ?_
 rintro _ h1 n1 k1 rfl
 have l1:=k1.le
 have b01:=(k1.get N (by omega)).trans b0
 have b11:=(k1.get (N+1) (by omega)).trans b1
 have e01:N<n1:=by omega
 have e11:N+1<n1:=by omega
 simp(disch:=first|(simp;done)|omega|rfl) [-getElem?_pos,b11,e11,aI,aK]
 refine av (Yc3 s1 s2 (by omega)) ?_
 rintro _ h2 n2 k2 rfl
 have l2:=k2.le
 have BL:n2<n2+1:=by omega
 have kS:=aO (ah.refl (h:=h2) (n:=n2)) (.cells [.int .i64 (gT g l' p' D'),.int .i64 (nY rC rD)] 26 true)
 have b03:=(kS.get N (by omega)).trans ((k2.get N (by omega)).trans b01)
 have b13:=(kS.get (N+1) (by omega)).trans ((k2.get (N+1) (by omega)).trans b11)
 have K3:=((kB.trans k1).trans k2).trans kS
 have e03:N<n2+1:=by omega
 have Ns:N+1<n2+1:=by omega
 simp(disch:=first|(simp;done)|omega|rfl) [-getElem?_pos,aj,b_.chk,Zup BL]
 generalize h2.set n2 (.cells [.int .i64 (gT g l' p' D'),.int .i64 (nY rC rD)] 26 true)=H3 at*
 by_cases c:cN [gT g l' p' D',nY rC rD]=0
 ·obtain⟨l,p,lo,hi,D,rfl,rfl,rfl,rfl,rfl,el,ep,elo,ehi,ql,qp,q1,q2,hD,jZ⟩:=hB c
  rw[c,el,ep,elo,ehi,Int.toNat_natCast]
  have q0:Qb k 0:=(Qb.int (z:=0) (k:=1) (by decide) (by decide)).mono hk
  simp(disch:=first|(simp;done)|omega|rfl) [-getElem?_pos,c,a_,b03,e03,aI,aK]
  refine av (BI (z:=0) (by decide) (by decide)) ?_
  rintro v4 h4 n4 k4 f4
  simp(disch:=first|(simp;done)|omega|rfl) [-getElem?_pos,]
  refine av (Zoj (gs:=g) (g:=0) f4 q0 ql qp (by omega) hD) ?_
  rintro v5 h5 n5 k5 t5
  have k45:=k4.trans k5
  have l45:=k45.le
  have K5:=K3.trans k45
  have b15:=(k45.get (N+1) Ns).trans b13
  have e15:N+1<n5:=by omega
  have lv:=t5.1.len
  have cl:=(@xG 0 l p D).1
  have qB:=Yrm (D:=D) ql qp q1 q2 hk
  have bl:=@Nv l p lo hi D
  have eB:jg l p D lo hi=(tZ (aJ 0 l p D)).set 1 (pg (aJ 0 l p D) 1+lo,pg (aJ 0 l p D) 1+hi):=rfl
  have qc:=C9 (d:=D) q0 ql qp hk
  rw[cl]at lv
  have sl:=@Dj (aJ 0 l p D)
  rw[cl]at sl
  have sg:∀j,j<D+3->pgI (tZ (aJ 0 l p D)) j=(pg (aJ 0 l p D) j,pg (aJ 0 l p D) j):=fun j hj=>by
   unfold pgI tZ;rw[jT,iy (by omega)];rfl
  generalize aJ 0 l p D=base at*
  simp(disch:=first|(simp;done)|omega|rfl) [-getElem?_pos,lv]
  refine Zal [(7,7),(9,9),(28,37)] (fun e r st=>e=.exit 0/\aL N st.w=[]/\ah h5 n5 st.h st.n/\∃u out,r.get 7=some u/\rE n5 st.h st.n u (pgI (tZ base)) (D+3) out) (fun m r st=>aL N st.w=[]/\ah h5 n5 st.h st.n/\∃t,t+m=D+3/\r.get 28=some (.int .i64 t)/\∃u out,r.get 7=some u/\rE n5 st.h st.n u (pgI (tZ base)) t out) (D+3) ?_ ?_ ?_
  ·exact⟨by simp,ah.refl,0,by omega,by simp,.ziA,[],by simp,rE.zero⟩
  ·rintro m r ⟨H,n,W⟩ hr hf ⟨hW,hK,t,ht,h28,u,out,h7,ou⟩
   simp only at hW hK ou
   rw[cn]
   have Nx:=hK.le
   cases m with
   |zero=>
    obtain rfl:t=D+3:=by omega
    simp(disch:=first|(simp;done)|omega|rfl) [-getElem?_pos,A.t_,hr,hf,h28,h7,lv,hW,hK]
    exact⟨out,ou⟩
   |succ m=>
    have aW:t<D+3:=by omega
    have zij:(t:Int)<(D:Int)+3:=by omega
    have zik:(t:Int)<((D+3:Nat):Int):=by omega
    obtain⟨i0,o0,y0,z0',q0',cx,a1,a2,a3,a4,a5⟩:=(t5.ai hK).1.at (iy (p:=base) (i:=t) (by omega))
    obtain⟨f1,f2⟩:=a5.len
    have ex:=BD (d:=zF) f1 rfl
    rw[z0]at ex
    have sx:=Ia f1
    have kX:ah H n ((H.set n (.cells [.int .i64 0,.ziA,.int .i64 0,.ziA] 102 true)).set n (.cells cx 102 true)) (n+1):=(ah.refl.new _).set (Yv5 _)
    simp(disch:=first|(simp;done)|omega|rfl) [-getElem?_pos, -V.cells, -V.one,A.t_,hr,hf,h28,h7,aW,zij,zik,lv,a1,a2,a3,a4,lO,f1,f2,bM,ex,sx,aI]
    generalize (H.set n (.cells [.int .i64 0,.ziA,.int .i64 0,.ziA] 102 true)).set n (.cells cx 102 true)=HX at*
    refine av (Yay (a5.ai kX).fc) ?_
    rintro _ h9 n9 k9 hx9
    obtain⟨c9,rfl,Ik⟩:=hx9.c
    obtain⟨g1,g2,g3⟩:=Ik.len
    have e8:aj [V.int .i64 0,.ziA,.int .i64 0,.ziA,.int .i64 0,.ziA,.int .i64 0,.ziA] 0 c9=c9:=Sv g1 rfl
    have K9:=kX.trans k9
    have le9:=K9.le
    rw[<-sg t aW]at Ik
    obtain⟨u',h',w',j1,j2,j3,j4⟩:=(ou.ai K9).push (w:=n::W) (by omega) (by omega) Ik
    have nN:¬n<N:=by have:=K5.le;omega
    have ow:aL N w'=[]:=Zqo j2 (by have:=K5.le;omega) (by simp[aL,nN,hW])
    simp(disch:=first|(simp;done)|omega|rfl) [-getElem?_pos, -aL, -V.cells, -V.one,hr,hf,h28,h7,lO,g1,g2,e8,j1]
    refine⟨m,by omega,ow,(hK.trans K9).then ⟨by have:=j3.le;omega,fun i hi=>j3.get i (by omega)⟩,t+1,by omega,by simp,out++[c9],j4⟩
  ·rintro _ r ⟨H,n,W⟩ hr ⟨rfl,hW,hK,u,out,h7,ou⟩
   simp only at hW hK ou
   have Nx:=hK.le
   have ou':rE n5 H n u (pgI (tZ base)) (tZ base).length out:=by rw[sl];exact ou
   obtain⟨i,FL,cA,e1,e2,e3,e4,e5,e6,e7,e8⟩:=ou'.zdZ (by omega)
   have lu:=ou.own.len
   rw[ou.len]at lu
   rw[sg 1 (by omega)]at e6
   obtain⟨Sw,Sx,gA3⟩:=e6.len
   have b16:=(hK.get (N+1) e15).trans b15
   have Sy:N+1<n:=by omega
   have c1:(1:Int)<(D:Int)+3:=by omega
   have c2:(1:Int)<((D+3:Nat):Int):=by omega
   have c3:1<D+3:=by omega
   have qb1:=qc _ (eI (iy (p:=base) (i:=1) (by omega)))
   simp(disch:=first|(simp;done)|omega|rfl) [-getElem?_pos, -V.cells, -V.one,hr,h7,lu,e1,e3,e4,e5,e7,b16,Sy,c1,c2,c3,aI]
   refine av (AB q1 (by omega)) ?_
   rintro _ h6 n6 k6 ⟨a1,x1,a2,x2,rfl,r1,r2⟩
   have b17:=(k6.get (N+1) Sy).trans b16
   have l17:N+1<n6:=by have:=k6.le;omega
   simp(disch:=first|(simp;done)|omega|rfl) [-getElem?_pos, -V.cells, -V.one,hr,b17,l17]
   refine av (AB q2 (by omega)) ?_
   rintro _ h7' n7 k7 ⟨a3,x3,a4,x4,rfl,r3,r4⟩
   have k67:=k6.trans k7
   have o1:=Zaj r1
   have o2:=Zaj r2
   have o3:=Zaj r3
   have o4:=Zaj r4
   unfold V.one at o1 o2 o3 o4
   have hG:Bc h7' n7 (.agg [.int .i64 a1,x1,.int .i64 a2,x2,.int .i64 a3,x3,.int .i64 a4,x4]) lo hi:=⟨a1,x1,a2,x2,a3,x3,a4,x4,rfl,r1.ai k7,r2.ai k7,r3,r4⟩
   simp(disch:=first|(simp;done)|omega|rfl) [-getElem?_pos,o1,o2,o3,o4,aj,b_.chk]
   refine av (Yoz (K:=4*k+3) (e6.ai k67) hG (qb1.mono (by omega)) (qb1.mono (by omega)) (q1.mono (by omega)) (q2.mono (by omega)) (by omega)) ?_
   rintro _ h8 n8 k8 hx8
   obtain⟨c8,rfl,hc8⟩:=hx8.c
   obtain⟨f81,f82,f83⟩:=hc8.len
   have k68:=k67.trans k8
   have zfz:=k68.le
   have e48:=(k68.get i e3).trans e4
   have e38:i<n8:=by omega
   have e98:=e8 h8 n8 c8 _ k68 hc8
   rw[<-eB]at e98
   have iN:¬i<N:=by have:=K5.le;omega
   have K8:ah h N (h8.set i (.cells (aj FL 8 c8) 142 true)) n8:=((K5.trans hK).trans k68).set (by omega)
   simp(disch:=first|(simp;done)|omega|rfl) [-getElem?_pos, -V.cells, -V.one,hr,h7,lu,e1,e38,e48,e7,c1,c2,c3,lO,f81,f82,bM]
   generalize h8.set i (.cells (aj FL 8 c8) 142 true)=H9 at*
   generalize jg l p D lo hi=P0 at*
   refine Zal [(4,5),(7,7),(10,14),(51,95)] (fun e r st=>aL N st.w=[]/\ah h N st.h st.n/\((e=.exit 2/\Zo0 (D+3) P0=true)\/(e=.ret/\r.get 4=some (.bool false)/\r.get 5=some (.int .i64 0)/\Zo0 (D+3) P0=false))) (CpI h N P0 (4*k+3)) (D+2) ?_ ?_ ?_
   ·refine⟨by simp[iN,hW],K8,u,P0,by simp[h7],e98,by rw[bl],by rw[bl];omega,fun x hx=>?_,by rw[bl]⟩
    rw[bl,show D+3-1-(D+2)=0 by omega,AF,wP]
    exact qB x hx
   ·rintro m r' ⟨H,n1,W⟩ lV rF ⟨pZ,k_,v,p,r7,hp,pl,pll,pq,ps⟩
    simp only at pZ k_ hp
    have lp:=hp.len
    rw[pl]at lp
    rw[bl]at pll pq ps
    rw[cn]
    cases m with
    |zero=>
     rw[Yvj (by omega)]at ps
     simp(disch:=first|(simp;done)|omega|rfl) [-getElem?_pos,A.uc,lV,rF,r7,lp,pZ,k_,<-ps]
    |succ m=>
     obtain⟨i0,o0,x0,y0,w0,cs,a1,a2,a3,a4,a5⟩:=hp.at (j:=0) (by omega)
     obtain⟨i1,o1,x1,y1,w1,ct,d1,d2,d3,d4,d5⟩:=hp.at (j:=m+1) (by omega)
     rw[a1]at d1
     obtain⟨rfl,rfl⟩:i0=i1/\o0=o1:=by simpa using d1
     rw[a3]at d3
     obtain⟨rfl,rfl,rfl⟩:x0=x1/\y0=y1/\w0=w1:=by simpa using d3
     rw[Nat.zero_mul,mY]at a4
     obtain⟨fs1,fs2,fs3⟩:=a5.len
     obtain⟨ft1,ft2,ft3⟩:=d5.len
     have ud:(4*k+3)*5^(D+3-1-(m+1))*5=(4*k+3)*5^(D+3-1-m):=by
      rw[AG,<-fV];congr 2;omega
     have hB1:(4*k+3)*5^(D+3-1-m)<=40000000:=p9 (jh _ (Ywo (by omega) (by omega))) jZ
     have Sz:1<=(4*k+3)*5^(D+3-1-(m+1)):=xM (by omega) (vu (by omega))
     generalize (4*k+3)*5^(D+3-1-(m+1))=KB at*
     have qs:=pq _ (eI (Df (p:=p) (i:=0) (by omega)))
     have qt:=pq _ (eI (Df (p:=p) (i:=m+1) (by omega)))
     have qn:=Yic Sz pq
     have g1:(1:Int)<((m+1+1:Nat):Int):=by omega
     have g2:(1:Int)<(m:Int)+1+1:=by omega
     have g3:((m:Int)+1+1-1).toNat=m+1:=by omega
     have g4:(0:Int)<(m:Int)+1+1:=by omega
     have g5:(0:Int)<=(m:Int)+1+1-1:=by omega
     have g6:(m:Int)+1+1-1<(m:Int)+1+1:=by omega
     have zfA:=k_.le
     have kS:ah H n1 ((((H.set n1 (.cells [.int .i64 0,.ziA,.int .i64 0,.ziA,.int .i64 0,.ziA,.int .i64 0,.ziA] 142 true)).set (n1+1) (.cells [.int .i64 0,.ziA,.int .i64 0,.ziA,.int .i64 0,.ziA,.int .i64 0,.ziA] 142 true)).set n1 (.cells cs 142 true)).set (n1+1) (.cells ct 142 true)) (n1+1+1):=(((ah.refl.new _).new _).set (by omega)).set (by omega)
     have s0:((((H.set n1 (.cells [.int .i64 0,.ziA,.int .i64 0,.ziA,.int .i64 0,.ziA,.int .i64 0,.ziA] 142 true)).set (n1+1) (.cells [.int .i64 0,.ziA,.int .i64 0,.ziA,.int .i64 0,.ziA,.int .i64 0,.ziA] 142 true)).set n1 (.cells cs 142 true)).set (n1+1) (.cells ct 142 true)).get n1=some (.cells cs 142 true):=by simp
     have s1:((((H.set n1 (.cells [.int .i64 0,.ziA,.int .i64 0,.ziA,.int .i64 0,.ziA,.int .i64 0,.ziA] 142 true)).set (n1+1) (.cells [.int .i64 0,.ziA,.int .i64 0,.ziA,.int .i64 0,.ziA,.int .i64 0,.ziA] 142 true)).set n1 (.cells cs 142 true)).set (n1+1) (.cells ct 142 true)).get (n1+1)=some (.cells ct 142 true):=by simp
     have ss:=Ytv fs1
     have SA:=Ytv ft1
     have es:aj [V.int .i64 0,.ziA,.int .i64 0,.ziA,.int .i64 0,.ziA,.int .i64 0,.ziA] 0 cs=cs:=Sv fs1 rfl
     have et:aj [V.int .i64 0,.ziA,.int .i64 0,.ziA,.int .i64 0,.ziA,.int .i64 0,.ziA] 0 ct=ct:=Sv ft1 rfl
     have ne1:¬i0=n1:=by omega
     have ne2:¬i0=n1+1:=by omega
     have ne3:¬n1=i0:=by omega
     have ne4:¬n1+1=i0:=by omega
     simp(disch:=first|(simp;done)|omega|rfl) [-getElem?_pos, -V.cells, -V.one,A.uc,lV,rF,r7,lp,a1,a2,a3,a4,d4,g1,g2,g3,g4,g5,g6,bM,aI,ne1,ne2,ne3,ne4,b_.chk,lO,fs1,fs2,ft1,ft2,es,et]
     refine(Ny (by simp[gY,b_,b_.go,b_.chk,FP.free,Nat.testBit,ne1,ne2,ne3,ne4])).2 ?_
     simp(disch:=first|(simp;done)|omega|rfl) [-getElem?_pos, -V.cells, -V.one,ss,SA,aI]
     generalize ((((H.set n1 (.cells [.int .i64 0,.ziA,.int .i64 0,.ziA,.int .i64 0,.ziA,.int .i64 0,.ziA] 142 true)).set (n1+1) (.cells [.int .i64 0,.ziA,.int .i64 0,.ziA,.int .i64 0,.ziA,.int .i64 0,.ziA] 142 true)).set n1 (.cells cs 142 true)).set (n1+1) (.cells ct 142 true))=HS at*
     refine av (Yjx (a5.ai kS) qs.1 qs.2 (by omega)) ?_
     rintro v7 h7' n7' k7' f7
     have s17:=(k7'.get (n1+1) (by omega)).trans s1
     have zd0:n1+1<n7':=by have:=k7'.le;omega
     simp(disch:=first|(simp;done)|omega|rfl) [-getElem?_pos, -V.cells, -V.one,s17,zd0,SA,aI]
     refine av (Ygd ((d5.ai kS).ai k7') qt.1 qt.2 (by omega)) ?_
     rintro v8 h8' n8' k8' f8
     have qm:=Yih qs.1 qs.2
     have qn':=Yeo Sz qt.1 qt.2
     have wm:=qm.eX
     have wn:=qn'.eX
     simp(disch:=first|(simp;done)|omega|rfl) [-getElem?_pos, -V.cells, -V.one]
     refine av (KW (f7.ai k8') f8 (by omega) (by omega) (by omega) (by omega)) ?_
     rintro _ h9 n9 k9 rfl
     have k79:=(k7'.trans k8').trans k9
     have l79:=k79.le
     have s09:=(k79.get n1 (by omega)).trans s0
     have s19:=(k79.get (n1+1) (by omega)).trans s1
     have K9:=(k_.trans kS).trans k79
     have hp9:=(hp.ai kS).ai k79
     have bs9:=(a5.ai kS).ai k79
     have bt9:=(d5.ai kS).ai k79
     have ec:sg3 ((s_ (pgI p 0).1 (pgI p 0).2).num*((mZ (pgI p (m+1)).1 (pgI p (m+1)).2).den:Nat)-(mZ (pgI p (m+1)).1 (pgI p (m+1)).2).num*((s_ (pgI p 0).1 (pgI p 0).2).den:Nat))<0↔¬mZ (pgI p (m+1)).1 (pgI p (m+1)).2<=s_ (pgI p 0).1 (pgI p 0).2:=by
      rw[Ye7,Rat.not_le]
     generalize sg3 ((s_ (pgI p 0).1 (pgI p 0).2).num*((mZ (pgI p (m+1)).1 (pgI p (m+1)).2).den:Nat)-(mZ (pgI p (m+1)).1 (pgI p (m+1)).2).num*((s_ (pgI p 0).1 (pgI p 0).2).den:Nat))=cz at*
     have ps2:Zo0 (m+1+1) p=if mZ (pgI p (m+1)).1 (pgI p (m+1)).2<=s_ (pgI p 0).1 (pgI p 0).2 then false else Zo0 (m+1) (vt p):=by
      conv=>lhs;unfold Zo0
      rw[aA (by omega),pl,show m+1+1-1=m+1 from rfl]
     rw[ps2]at ps
     have nN1:¬n1<N:=by omega
     have nN2:¬n1+1<N:=by omega
     by_cases cc:mZ (pgI p (m+1)).1 (pgI p (m+1)).2<=s_ (pgI p 0).1 (pgI p 0).2
     ·have c1':0<=cz:=by
       apply Int.not_lt.1
       intro hx
       exact(ec.1 hx) cc
      rw[aR cc]at ps
      simp(disch:=first|(simp;done)|omega|rfl) [-getElem?_pos,lV,rF,c1',nN1,nN2,pZ,<-ps]
      exact K9
     ·have c1':¬0<=cz:=by have:=ec.2 cc;omega
      rw[aA cc]at ps
      have nl:(vt p).length=m+1:=by rw[Sp,pl];rfl
      simp(disch:=first|(simp;done)|omega|rfl) [-getElem?_pos,lV,rF,c1']
      refine Zal [(13,14),(71,94)] (fun e r st=>e=.exit 4/\aL N st.w=[]/\ah h9 n9 st.h st.n/\∃u,r.get 13=some u/\yI st.h st.n u (vt p)) (fun i r st=>aL N st.w=[]/\ah h9 n9 st.h st.n/\∃t u out,t+i=m+1/\r.get 71=some (.int .i64 t)/\r.get 13=some u/\rE n9 st.h st.n u (pgI (vt p)) t out) (m+1) ?_ ?_ ?_
      ·exact⟨by simp[aL,nN1,nN2,pZ],ah.refl,0,.ziA,[],by omega,by simp,by simp,rE.zero⟩
      ·rintro i2 r2 ⟨HI,nI,WI⟩ dw ik ⟨vw,n_,t,u2,lf,hti,SB,Lb,SC⟩
       simp only at vw n_ SC
       rw[cn]
       have leI:=n_.le
       cases i2 with
       |zero=>
        obtain rfl:t=m+1:=by omega
        rw[<-nl]at SC
        simp(disch:=first|(simp;done)|omega|rfl) [-getElem?_pos,A.ue,dw,ik,lV,rF,SB,Lb,vw,n_]
        exact SC.fin
       |succ i2=>
        have aW:t<m+1:=by omega
        have zij:(t:Int)<(m:Int)+1:=by omega
        have hpI:=hp9.ai n_
        have lpI:=hpI.len
        rw[pl]at lpI
        obtain⟨j0,u0,y0',z0',w0',d0,b1',b2',b3',b4',b5'⟩:=hpI.at (j:=t+1) (by omega)
        obtain⟨j1,u1,Nz,z1,w1',dd1,Lc,x2',Ld,SD,x5'⟩:=hpI.at (j:=m-t) (by omega)
        rw[b1']at Lc
        obtain⟨rfl,rfl⟩:j0=j1/\u0=u1:=by simpa using Lc
        rw[b3']at Ld
        obtain⟨rfl,rfl,rfl⟩:y0'=Nz/\z0'=z1/\w0'=w1':=by simpa using Ld
        have i1':(0:Int)<=(t:Int)+1:=by omega
        have i2':(t:Int)+1<(m:Int)+1+1:=by omega
        have i3':((t:Int)+1).toNat=t+1:=by omega
        have i4':(0:Int)<=(m:Int)-t:=by omega
        have i5':(m:Int)-t<(m:Int)+1+1:=by omega
        have i6':((m:Int)-t).toNat=m-t:=by omega
        have i7':(t:Int)<=(m:Int):=by omega
        have sI0:=(n_.get n1 (by omega)).trans s09
        have sI1:=(n_.get (n1+1) (by omega)).trans s19
        have lI1:n1+1<nI:=by omega
        have lI0:n1<nI:=by omega
        have qx:=pq _ (eI (Df (p:=p) (i:=t+1) (by omega)))
        have qy:=pq _ (eI (Df (p:=p) (i:=m-t) (by omega)))
        have qX:=So qt qx
        have qY:=So qs qy
        simp(disch:=first|(simp;done)|omega|rfl) [-getElem?_pos, -V.cells, -V.one,A.ue,dw,ik,lV,rF,r7,SB,Lb,zij,lpI,b1',b2',b3',b4',SD,sI0,sI1,lI0,lI1,i1',i2',i3',i4',i5',i6',i7',aI,ss,SA]
        refine av (Zyh (bt9.ai n_) b5' qt.1 qt.2 qx.1 qx.2 (by omega)) ?_
        rintro vA hA nA kA hvA
        have b3A:=(kA.get j0 b2').trans b3'
        have lA:=kA.le
        have b2A:j0<nA:=by omega
        have sA0:=(kA.get n1 lI0).trans sI0
        have lA0:n1<nA:=by omega
        simp(disch:=first|(simp;done)|omega|rfl) [-getElem?_pos, -V.cells, -V.one,dw,ik,lV,rF,r7,SB,Lb,zij,lpI,b1',b2A,b3A,b4',SD,sA0,lA0,i1',i2',i3',i4',i5',i6',i7',aI,ss,SA]
        refine av (Zyh ((bs9.ai n_).ai kA) (x5'.ai kA) qs.1 qs.2 qy.1 qy.2 (by omega)) ?_
        rintro vC hC nC kC hvC
        simp(disch:=first|(simp;done)|omega|rfl) [-getElem?_pos, -V.cells, -V.one]
        refine av (Yot (hvA.ai kC) hvC qX.1 qX.2 qY.1 qY.2 (by omega)) ?_
        rintro _ hE nE kE hvE
        obtain⟨cE,rfl,hcE⟩:=hvE.c
        obtain⟨fE1,fE2,fE3⟩:=hcE.len
        have kAE:=(kA.trans kC).trans kE
        have lE:=kAE.le
        have en:pgI (vt p) t=(yF (pgI p (m+1)).1 (pgI p (m+1)).2 (pgI p (t+1)).1 (pgI p (t+1)).2-yG (pgI p 0).1 (pgI p 0).2 (pgI p (m-t)).1 (pgI p (m-t)).2,yG (pgI p (m+1)).1 (pgI p (m+1)).2 (pgI p (t+1)).1 (pgI p (t+1)).2-yF (pgI p 0).1 (pgI p 0).2 (pgI p (m-t)).1 (pgI p (m-t)).2):=by
         rw[Zn1 (by omega),Nu,pl,show m+1+1-1=m+1 from rfl,show m+1-1-t=m-t by omega]
         rfl
        rw[<-en]at hcE
        have e8':aj [V.int .i64 0,.ziA,.int .i64 0,.ziA,.int .i64 0,.ziA,.int .i64 0,.ziA] 0 cE=cE:=Sv fE1 rfl
        obtain⟨u',h',w',j1',j2',SE,SG⟩:=(SC.ai kAE).push (w:=[]) (by omega) (by omega) hcE
        have ow:aL N w'=[]:=Zqo j2' (by omega) rfl
        simp(disch:=first|(simp;done)|omega|rfl) [-getElem?_pos, -aL, -V.cells, -V.one,dw,ik,lV,rF,SB,Lb,lO,fE1,fE2,e8',j1']
        exact⟨i2,by omega,Ydc ow vw,(n_.trans kAE).then ⟨by have:=SE.le;omega,fun i hi=>SE.get i (by omega)⟩,t+1,by omega,by simp,_,SG⟩
      ·rintro _ r2 ⟨HI,nI,WI⟩ dw ⟨rfl,vw,n_,u2,Lb,fi⟩
       simp only at vw n_ fi
       have Dm:=rF.inner (D':=[(13,14),(71,94)]) rfl (fun hh=>by simpa using hh) dw
       rw[iz KB 5]at ud
       simp(disch:=first|(simp;done)|omega|rfl) [-getElem?_pos,dw,Lb,lV,rF]
       exact⟨by simpa using Dm,m,by omega,vw,K9.trans n_,u2,vt p,by simp,fi,nl,by rw[bl];omega,by rw[bl,<-ud];exact qn,by rw[bl];exact ps⟩
   ·rintro _ r' ⟨H,n1,W⟩ lV ⟨pZ,k_,⟨rfl,hc⟩|⟨rfl,h4,h5,hc⟩⟩
    ·simp only at pZ k_
     rw[hc]
     simp(disch:=first|(simp;done)|omega|rfl) [-getElem?_pos,lV,Ret,pZ,k_,Dl]
    ·simp only at pZ k_
     rw[hc]
     simp(disch:=first|(simp;done)|omega|rfl) [-getElem?_pos,lV,h4,h5,Ret,pZ,k_,Dl]
 ·have e1:Dl (cN [gT g l' p' D',nY rC rD]) (Zo0 (D'.toNat+3) (jg (aY l') (aY p') D'.toNat (aY rC) (aY rD)))=.aX [.bool false,.int .i64 (cN [gT g l' p' D',nY rC rD])]:=by unfold Dl;rw[aR c]
  rw[e1]
  simp(disch:=first|(simp;done)|omega|rfl) [-getElem?_pos,c,a_,Ret]
  exact K3
def A.b11:=A.q Tryz.f11
def A.k11:=@A.kk 11 13 [.tmp 2,.tmp 3] A.b11 (by kernel_rfl) rfl
def Zza{h:T O}{N k:Nat}{u:V}{a:List bj}(hu:Sl h N u (strs a))(la:a.length<100000)(fa:∀s∈a,s.length<=20000)(hk:1<=k)(hk1:k<=4000)(hq:ks a=0->(∀q∈ziB a,Qb k q)/\k*5^(a.length-1)<=400000000):Fn A.C 11 [u] h N (fun x _ _=>x=Dl (ks a) (mW a.length (ziB a))):=by
 intro w
 rw[aZ,A.k11 (by simp)]
 simp(disch:=first|(simp;done)|omega|rfl) [-getElem?_pos,A.b11]
 refine av (Yqd hu la fun s hs=>by have:=fa s hs;omega) ?_
 rintro _ h1 n1 k1 rfl
 by_cases c:ks a=0
 ·obtain⟨a0,a1,a2,a3⟩:=Yti c
  obtain⟨q1,q2⟩:=hq c
  have ta:=Ymk a2
  have lra:=@Yht a
  have Il:Sl h1 n1 u (tx (ziB a)):=by rw[<-ta];exact hu.ai k1
  rw[c]
  rw[<-lra]at a0 a1 a3 q2 ⊢
  generalize ziB a=p at*
  simp(disch:=first|(simp;done)|omega|rfl) [-getElem?_pos,a_]
  refine av (Yhs Il (by omega) q1 hk1) ?_
  rintro _ h2 n2 k2 ⟨rfl,rq⟩
  simp(disch:=first|(simp;done)|omega|rfl) [-getElem?_pos,]
  refine av (Zrw (k:=k) rq.frt (by omega) (by omega) a3 q1 hk q2) ?_
  rintro _ h3 n3 k3 rfl
  simp(disch:=first|(simp;done)|omega|rfl) [-getElem?_pos,Ret,Dl]
  exact(k1.trans k2).trans k3
 ·simp(disch:=first|(simp;done)|omega|rfl) [-getElem?_pos,c,a_,Dl,Ret]
  exact k1
end
end Go.Mx
