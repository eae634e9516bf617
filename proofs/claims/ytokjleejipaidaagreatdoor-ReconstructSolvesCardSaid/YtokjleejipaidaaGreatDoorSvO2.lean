/-lensletref05-/
import Derived.Test.YtokjleejipaidaaGreatDoorSpE
set_option linter.all false
namespace Go.Mx
open Go Go.Proofs
variable {n:Nat}
set_option maxHeartbeats 2000000
set_option maxRecDepth 1000000
noncomputable def A.b51:=A.q Tryz.f51
def A.k51:=@A.kk 51 33 [.tmp 6,.tmp 7] A.b51 (by kernel_rfl) rfl
def Yv1:bZ (fE n) 1:=fun r hr q hq=>by
 obtain⟨i,_,rfl⟩:=eC.1 hr
 obtain⟨j,_,rfl⟩:=eC.1 hq
 split
 ·exact⟨by decide,by decide⟩
 ·exact Qb.zero
def Yte{G H:List (List Rat)}{Z:Nat}{B:Nat->Nat}(hG:bp G n)(hl:G.length=n)(BM:∀k,bZ (aK (cj G (fE n)) k).1 (B (aK (cj G (fE n)) k).2.1))(hZ:B n<=Z)(hs:uT G n=some H):bZ H Z/\H.length=n/\bp H n:=by
 have hW:=uU hG (Jz (n:=n)) (by rw[JA,hl];exact aO _)
 unfold uT at hs
 split at hs
 ·rename_i hc
  obtain rfl:=mJ hs
  refine⟨fun r ko q hq=>?_,by rw[gY,xz hW];exact hc.1,fun r ko=>?_⟩
  ·obtain⟨z,hz,rfl⟩:=eC.1 ko
   exact(BM (n+n) z (yJ hz) q (JP hq)).mono (by rw[hc.1];exact hZ)
  ·obtain⟨z,hz,rfl⟩:=eC.1 ko
   rw[xF,CJ hW z hz]
   omega
 ·cases hs
def Ydi{h:T O}{N J K L:Nat}{u v y:V}{D M:List (List Rat)}{w:List Rat}(hu:fA h N u D)(hv:Tx h N v w)(hy:fA h N y M)(hD:bp D n)(hM:bp M n)(hw:w.length=D.length)(jE:0<n)(hn:n<50)(fh:0<D.length)(hs:D.length<50)(kg:0<M.length)(hk:M.length<50)(qD:bZ D K)(qM:bZ M J)(qw:∀x∈w,Qb L x)(hJ:1<=J)(hK:1<=K)(hL:1<=L)(hS:D.length*(n*(J+K+1)+1+(n*(J+K+1)+1+L)+1)+1+2*(n*(J+K+1)+1+L+1)<=400000000){B:Nat->Nat}{Z:Nat}(Ww:∀i,1<=B i)(BM:∀k,bZ (aK (cj (pE D M w) (fE M.length)) k).1 (B (aK (cj (pE D M w) (fE M.length)) k).2.1))(Wx:∀i,i<M.length->3*B i<=400000000)(hZ:B M.length<=Z)(wD:1<=Z)(Zg:(M.length+1)*(Z+(n*(J+K+1)+1+L)+1)<=400000000):Fn A.C 51 [u,v,y] h N (fun x h' n'=>(xH D M w=none/\x=.aV [.aa,.bool false])\/∃H z,xH D M w=some H/\x=.aV [z,.bool true]/\fA h' n' z H):=by
 intro W
 have qS:=QL hM qD qM hJ hK
 have lS:(gk D M).length=D.length:=Ew
 have rS:bp (gk D M) M.length:=LJ
 have tt:=Wg hM
 have ts:=Wg rS
 rw[lS]at ts
 have rR:bp (pD D M w) D.length:=by rw[<-hw];exact ED
 have pY:J+K+1<=n*(J+K+1):=Nat.le_mul_of_pos_left _ jE
 have hinv:=Ylu (X:=pD D M w) (yM (D:=D) (M:=M) (w:=w)) xI kg rR vL
 have hinv:xH D M w=(uT (pE D M w) M.length).map fun H=>gk H (dq (pD D M w) D.length):=hinv
 obtain⟨b1,EE⟩:∃b1,b1=n*(J+K+1)+1:=⟨_,rfl⟩
 rw[<-EE]at qS hS Zg
 have qR:=QM qS qw (by omega) hL
 rw[aM,A.k51 (by simp)]
 simp[A.b51]
 refine ay (PN hy hM (by omega) (by omega) kg) ?_
 rintro x1 H1 n1 k1 tS
 simp[]
 refine ay (Td (c:=M.length) (j:=J) (k:=K) (hu.ad k1) tS.tI (fun r hr=>by rw[lO,hD r hr];exact aO _) GL (by rw[lO];exact jE) (by omega) (by rw[lO];omega) (by omega) qD (fun r hr=>(zy qM hJ r hr).2) hJ hK (by rw[lO];omega)) ?_
 rw[tt]
 rintro x2 H2 n2 k2 pZ
 have k02:=k1.trans k2
 simp[]
 refine ay (PN (n:=M.length) pZ rS (by omega) (by omega) (by omega)) ?_
 rintro x3 H3 n3 k3 BN
 have k03:=k02.trans k3
 simp[]
 refine ay (Zzx (j:=b1) (k:=L) BN.tI (hv.ad k03) (fun r hr=>by have:=zy (c:=M.length) qS (by omega) r hr;rw[lS,<-hw]at this;exact this) qw (by omega) (by omega) (by rw[lO];omega) (by omega)) ?_
 rintro x4 H4 n4 k4 Ai
 have k04:=k03.trans k4
 have CM:fA H4 n4 x4 (pD D M w):=Ai.tI
 simp[]
 refine ay (PN (n:=D.length) (BN.tI.ad k4) (fun r hr=>by rw[GL r hr,lS]) (by rw[lO];omega) (by omega) (by rw[lO];exact kg)) ?_
 rw[ts]
 rintro x5 H5 n5 k5 BO
 simp[]
 refine ay (Td (c:=M.length) (j:=b1) (k:=b1+L) (CM.ad k5) BO.tI (fun r hr=>by rw[lS,rR r hr];exact aO _) rS (by rw[lS];exact fh) (by rw[vL];omega) (by rw[lS];omega) (by omega) qR qS (by omega) (by omega) (by rw[lS];omega)) ?_
 rintro x6 H6 n6 k6 Og
 have zar:fA H6 n6 x6 (pE D M w):=Og
 simp[]
 refine ay (Yoc (B:=B) zar yM xI kg (by omega) Ww BM Wx) ?_
 rintro x7 H7 n7 k7 Jb
 have k57:=(k5.trans k6).trans k7
 have k07:=k04.trans k57
 rcases Jb with⟨a1,rfl⟩|⟨Hc,z,a1,rfl,a2⟩
 ·rw[a1]at hinv
  simp[az,cn.cr]
  exact⟨k07,hinv⟩
 ·obtain⟨i1,i2,i3⟩:=Yte yM xI BM hZ a1
  rw[a1]at hinv
  simp[cn.cr]
  have hmul:(M.length+1)*(Z+(b1+L)+1)=M.length*(Z+(b1+L)+1)+(Z+(b1+L)+1):=by rw[iY,Nat.one_mul]
  have y8:b1+L+Z+1=Z+(b1+L)+1:=by omega
  refine ay (Td (c:=D.length) (j:=b1+L) (k:=Z) a2 (CM.ad k57) (fun r hr=>by rw[vL,i3 r hr];exact aO _) rR (by rw[vL];exact kg) (by omega) (by rw[vL];omega) (by omega) i1 qR (by omega) wD (by rw[vL,y8];omega)) ?_
  rintro x8 H8 n8 k8 hx8
  simp[az]
  exact⟨k07.trans k8,_,hinv,hx8⟩
variable {n:Nat}
def Yl0{f:Nat->Rat}{n:Nat}:∀{c:Nat},sN f (n+c)=sN f n+sN (fun j=>f (n+j)) c
 |0=>by rw[iX];show sN f n=sN f n+0;rw[Rat.add_zero]
 |c+1=>by
  rw[<-pF]
  show sN f (n+c)+f (n+c)=sN f n+(sN (fun j=>f (n+j)) c+f (n+c))
  rw[Yl0,Rat.add_assoc]
def Yg1{G X:List (List Rat)}{i j:Nat}(hG:bp G n)(hi:i<G.length):aD (cj G X) i j=if j<n then aD G i j else aD X i (j-n):=by
 have hl:=hG.at hi
 unfold aD
 rw[Wp hi,jz]
 by_cases hj:j<n
 ·rw[ax hj,iS (by omega)]
 ·rw[ak hj,lD (by omega),hl]
def Yrh{m:List (List Rat)}{i j:Nat}(hi:i<m.length):aD (m.map (List.drop n)) i j=aD m i (n+j):=by
 unfold aD
 rw[fm,cF hi]
 simp only[ti,jz,ff]
def Yc0{G X H:List (List Rat)}{c:Nat}(hG:bp G n)(hl:G.length=n)(hX:bp X c)(hx:X.length=n)(h0:0<n)(hs:vK G X n c=some H):H.length=n/\bp H c/\∀i j,i<n->j<c->sN (fun l=>aD G i l*aD H l j) n=aD X i j:=by
 have hW:=uU hG hX (by omega)
 have I:=ry hW (n:=n+c)
 have hle:=(lF hW (n:=n+c)).2
 rw[tv,hl]at hle
 unfold vK at hs
 split at hs
 ·cases hs
 ·rename_i hn
  have hd:(aK (cj G X) (n+c)).2.1=n:=by omega
  have P0:(aK (cj G X) (n+c)).2.2[n-1]?.getD 0=n-1:=by omega
  have hr:=xz (n:=n+c) hW
  rw[hd]at hr
  obtain rfl:=mJ hs
  have I2:yI (aK (cj G X) (n+c)).1 n (aK (cj G X) (n+c)).2.2 n:=by
   rw[hd]at I
   refine⟨I.len,I.le,fun i hi=>?_,I.Ak,I.one,I.lead,fun i k h1 h2 h3=>I.rest i k h1 h2 (by omega)⟩
   by_cases e:i=n-1
   ·rw[e,P0];omega
   ·have:=I.Ak i (n-1) (by omega) (by omega)
    omega
  have hp:∀i,i<n->(aK (cj G X) (n+c)).2.2[i]?.getD 0=i:=fun i hi=>QF I2 hi
  have oS:∀l,l∈(aK (cj G X) (n+c)).2.2↔l<n:=fun l=>by
   constructor
   ·intro hm
    obtain⟨i,hi⟩:=uR hm
    have zt:i<n:=by rw[<-I2.len];exact(xB.1 hi).1
    have:=hp i zt
    rw[hi]at this
    simp at this
    omega
   ·intro au
    have:=hp l au
    rw[cF (by rw[I2.len];exact au)]at this
    simp only[jz]at this
    rw[<-this]
    exact List.getElem_mem _
  refine⟨by rw[gY,hr],fun r ko=>?_,fun i j hi hj=>?_⟩
  ·obtain⟨a,ha,rfl⟩:=eC.1 ko
   rw[xF,CJ (n:=n+c) hW a ha]
   omega
  ·obtain⟨V,hV⟩:∃V:Nat->Rat,∀l,V l=if l<n then aD ((bY (cj G X) (n+c)).map (List.drop n)) l j else if l=n+j then -1 else 0:=⟨_,fun _=>rfl⟩
   have hk:oD (cj G X) (n+c) V:=by
    rw[<-Wd hW]
    intro a ha
    rw[hr]at ha
    rw[Ydg hW (by rw[hd];exact ha),hp a ha,hV,ax ha,Yrh (by rw[hr];exact ha),Al (i:=n+j) (by omega)]
    ·rw[ak (fun h=>by have:=(oS _).1 h;omega),hV,ak (by omega),ax rfl]
     grind
    ·intro l _ aW
     by_cases e:l<n
     ·rw[ax ((oS l).2 e)]
     ·rw[ak (fun h=>e ((oS l).1 h)),hV,ak e,ak aW,Rat.mul_zero]
   have h:=hk i (by rw[tv];omega)
   rw[Yl0,Al (i:=j) (n:=c) hj]at h
   ·rw[Yg1 hG (by omega),ak (by omega),hV,ak (by omega),ax rfl,Nat.add_sub_cancel_left]at h
    rw[fx (g:=fun l=>aD G i l*aD ((bY (cj G X) (n+c)).map (List.drop n)) l j) fun l jf=>by rw[Yg1 hG (by omega),ax jf,hV,ax jf]]at h
    grind
   ·intro l _ aW
    rw[hV,ak (by omega),ak (by omega),Rat.mul_zero]
variable {b i j n:Nat}
def lh(i r:Nat):Nat:=if r<i then r else r+1
def iR(i:Nat):Rat:=if i%2=0 then 1 else -1
def cP:Nat->(Nat->Nat->Rat)->Rat
 |0,_=>1
 |n+1,A=>sN (fun i=>iR i*(A i 0*cP n (fun r u=>A (lh i r) (u+1)))) (n+1)
def bg(A:Nat->Nat->Rat)(t:Nat)(a:Nat->Rat):Nat->Nat->Rat:=fun r u=>if r=t then a u else A r u
def ze:∀{n:Nat} {A B:Nat->Nat->Rat},(∀r u,r<n->u<n->A r u=B r u)->cP n A=cP n B
 |0,_,_,_=>rfl
 |n+1,A,B,h=>by
  unfold cP
  apply fx
  intro i hi
  rw[h i 0 hi (by omega),ze fun r u hr hu=>h (lh i r) (u+1) (by unfold lh;split<;>omega) (by omega)]
def Yg4:iR (i+1)= -iR i:=by
 unfold iR
 by_cases h:i%2=0
 ·rw[ax h,ak (by omega)]
 ·rw[ak h,ax (by omega)]
  rfl
def Ysi{r:Nat}:lh i r≠i:=by unfold lh;split<;>omega
def Tj{x y:Rat}{a b:Nat->Rat}:∀{n t:Nat} {A:Nat->Nat->Rat},t<n->cP n (bg A t fun u=>x*a u+y*b u)=x*cP n (bg A t a)+y*cP n (bg A t b)
 |0,t,A,h=>by omega
 |n+1,t,A,h=>by
  unfold cP
  rw[<-oC,<-oC,<-Ev]
  apply fx
  intro i hi
  by_cases e:i=t
  ·subst e
   have hm:∀v:Nat->Rat,cP n (fun r u=>bg A i v (lh i r) (u+1))=cP n (fun r u=>A (lh i r) (u+1)):=fun v=>ze fun r u _ _=>by
    unfold bg
    rw[ak Ysi]
   rw[hm,hm,hm]
   unfold bg
   rw[ax rfl,ax rfl,ax rfl]
   grind
  ·obtain⟨s,hs,IX⟩:∃s,(∀r,lh i r=t↔r=s)/\s<n:=by
    unfold lh
    by_cases c:t<i
    ·exact⟨t,fun r=>by split<;>omega,by omega⟩
    ·exact⟨t-1,fun r=>by split<;>omega,by omega⟩
   have hm:∀v:Nat->Rat,cP n (fun r u=>bg A t v (lh i r) (u+1))=cP n (bg (fun r u=>A (lh i r) (u+1)) s fun u=>v (u+1)):=fun v=>ze fun r u _ _=>by
    unfold bg
    by_cases hr:r=s
    ·rw[ax ((hs r).2 hr),ax hr]
    ·rw[ak fun h=>hr ((hs r).1 h),ak hr]
   rw[hm,hm,hm,Tj (n:=n) IX]
   unfold bg
   rw[ak e,ak e,ak e]
   grind
def Tk:∀{n t:Nat} {A:Nat->Nat->Rat},t+1<n->(∀u,u<n->A t u=A (t+1) u)->cP n A=0
 |0,t,A,h,_=>by omega
 |n+1,t,A,h,he=>by
  unfold cP
  have hz:∀i,i<n+1->iR i*(A i 0*cP n (fun r u=>A (lh i r) (u+1)))=(if i=t then iR t*(A t 0*cP n (fun r u=>A (lh t r) (u+1))) else 0)+(if i=t+1 then iR (t+1)*(A (t+1) 0*cP n (fun r u=>A (lh (t+1) r) (u+1))) else 0):=fun i hi=>by
   by_cases e1:i=t
   ·subst e1
    rw[ax rfl,ak (by omega),Rat.add_zero]
   ·by_cases e2:i=t+1
    ·subst e2
     rw[ax rfl,ak (by omega),Rat.zero_add]
    ·rw[ak e1,ak e2,Rat.add_zero]
     have:cP n (fun r u=>A (lh i r) (u+1))=0:=by
      by_cases c:i<t
      ·refine Tk (t:=t-1) (by omega) fun u hu=>?_
       simp only[lh]
       rw[ak (by omega),ak (by omega),show t-1+1=t by omega]
       exact he (u+1) (by omega)
      ·refine Tk (t:=t) (by omega) fun u hu=>?_
       simp only[lh]
       rw[ax (by omega),ax (by omega)]
       exact he (u+1) (by omega)
     rw[this,Rat.mul_zero,Rat.mul_zero]
  rw[fx hz,Ev,Al (i:=t) (by omega) fun j _ hj=>ak hj,Al (i:=t+1) (by omega) fun j _ hj=>ak hj,ax rfl,ax rfl,Yg4,he 0 (by omega)]
  have:cP n (fun r u=>A (lh t r) (u+1))=cP n (fun r u=>A (lh (t+1) r) (u+1)):=ze fun r u _ hu=>by
   unfold lh
   by_cases e:r=t
   ·subst e
    rw[ak (by omega),ax (by omega)]
    exact(he (u+1) (by omega)).symm
   ·by_cases c:r<t
    ·rw[ax c,ax (by omega)]
    ·rw[ak c,ak (by omega)]
  rw[this]
  grind
def Yc5{A:Nat->Nat->Rat}{t:Nat}{r u:Nat}:bg A t (A t) r u=A r u:=by
 unfold bg
 split
 ·rename_i h;rw[h]
 ·rfl
def Zsc{t:Nat}{A:Nat->Nat->Rat}:cP n (bg A t (A t))=cP n A:=ze fun _ _ _ _=>Yc5
def Tl{a b:Nat->Rat}{t:Nat}{A:Nat->Nat->Rat}(h:t<n):cP n (bg A t fun u=>a u+b u)=cP n (bg A t a)+cP n (bg A t b):=by
 have:=Tj (x:=1) (y:=1) (a:=a) (b:=b) (A:=A) h
 rw[Rat.one_mul,Rat.one_mul]at this
 rw[<-this]
 exact ze fun r u _ _=>by unfold bg;split<;>grind
def Ykw{a b:Nat->Rat}{t:Nat}{A:Nat->Nat->Rat}(h:t+1<n):cP n (bg (bg A t a) (t+1) b)= -cP n (bg (bg A t b) (t+1) a):=by
 have z:∀v:Nat->Rat,cP n (bg (bg A t v) (t+1) v)=0:=fun v=>Tk h fun u _=>by
  unfold bg
  rw[ak (by omega),ax rfl,ax rfl]
 have sw:∀v w:Nat->Rat,cP n (bg (bg A t v) (t+1) w)=cP n (bg (bg A (t+1) w) t v):=fun v w=>ze fun r u _ _=>by
  unfold bg
  by_cases e1:r=t+1
  ·rw[ax e1,ak (by omega),ax e1]
  ·rw[ak e1,ak e1]
 have h0:=z fun u=>a u+b u
 rw[Tl h,sw _ a,sw _ b,Tl (by omega),Tl (by omega),<-sw,<-sw,<-sw,<-sw,z,z]at h0
 grind
def Zw1{n:Nat}:∀{k s:Nat} {A:Nat->Nat->Rat},s+1+k<n->(∀u,u<n->A s u=A (s+1+k) u)->cP n A=0
 |0,s,A,h,he=>Tk h he
 |k+1,s,A,h,he=>by
  have h1:cP n A=cP n (bg (bg A (s+1+k) (A (s+1+k))) (s+1+k+1) (A (s+1+k+1))):=ze fun r u _ _=>by
   unfold bg
   by_cases e:r=s+1+k+1
   ·rw[ax e,e]
   ·rw[ak e]
    by_cases e2:r=s+1+k
    ·rw[ax e2,e2]
    ·rw[ak e2]
  rw[h1,Ykw (by omega),Zw1 (k:=k) (s:=s) (by omega) fun u hu=>?_]
  ·rfl
  ·unfold bg
   rw[ak (by omega),ak (by omega),ak (by omega),ax rfl]
   exact he u hu
def Yqr{A:Nat->Nat->Rat}(hi:i<n)(hj:j<n)(aW:i≠j)(he:∀u,u<n->A i u=A j u):cP n A=0:=by
 rcases Nat.lt_or_gt_of_ne aW with h|h
 ·exact Zw1 (k:=j-i-1) (s:=i) (by omega) (by rw[show i+1+(j-i-1)=j by omega];exact he)
 ·exact Zw1 (k:=i-j-1) (s:=j) (by omega) (by rw[show j+1+(i-j-1)=i by omega];exact fun u hu=>(he u hu).symm)
def Ygf{A:Nat->Nat->Rat}(hi:i<n)(hj:j<n):cP n (bg A j (A i))=if i=j then cP n A else 0:=by
 by_cases e:i=j
 ·subst e
  rw[ax rfl,Zsc]
 ·rw[ak e]
  exact Yqr hi hj e fun u _=>by
   unfold bg
   rw[ak e,ax rfl]
def Yku{t:Nat}{A:Nat->Nat->Rat}(h:t<n):cP n (bg A t fun _=>0)=0:=by
 have:=Tj (x:=0) (y:=0) (a:=fun _=>0) (b:=fun _=>0) (A:=A) h
 have e:cP n (bg A t fun _=>0)=cP n (bg A t fun _=>(0:Rat)*0+0*0):=ze fun r u _ _=>by
  unfold bg
  split
  ·show (0:Rat)=0*0+0*0
   grind
  ·rfl
 rw[e,this]
 grind
def Zwz{n j:Nat}{A:Nat->Nat->Rat}{c:Nat->Rat}{w:Nat->Nat->Rat}(hj:j<n):∀{k:Nat},cP n (bg A j fun u=>sN (fun t=>c t*w t u) k)=sN (fun t=>c t*cP n (bg A j (w t))) k
 |0=>Yku hj
 |k+1=>by
  have:=Tj (x:=1) (y:=c k) (a:=fun u=>sN (fun t=>c t*w t u) k) (b:=w k) (A:=A) hj
  rw[Rat.one_mul,Zwz hj]at this
  unfold sN
  rw[<-this]
  exact ze fun r u _ _=>by
   unfold bg
   split
   ·show _=1*_+_
    rw[Rat.one_mul]
   ·rfl
def Cs(l u:Nat):Rat:=if u=l then 1 else 0
def Ykv{A:Nat->Nat->Rat}{v:Nat->Rat}(hj:j<n):cP n (bg A j v)=sN (fun l=>v l*cP n (bg A j (Cs l))) n:=by
 rw[<-Zwz hj]
 apply ze
 intro r u _ hu
 unfold bg
 split
 ·show v u=sN (fun t=>v t*Cs t u) n
  rw[Al (i:=u) hu]
  ·unfold Cs
   rw[ax rfl,Rat.mul_one]
  ·intro l _ aW
   unfold Cs
   rw[ak (Ne.symm aW),Rat.mul_zero]
 ·rfl
def Zyw{π:Rat}:∀{n:Nat} {A:Nat->Nat->Rat},(∀u,u<n->A n u=0)->A n n=π->cP (n+1) A=π*cP n A
 |0,A,_,h=>by
  simp only[cP,sN,h,iR]
  grind
 |n+1,A,hz,h=>by
  rw[cP]
  have e:∀i,i<n+1+1->iR i*(A i 0*cP (n+1) (fun r u=>A (lh i r) (u+1)))=if i<n+1 then π*(iR i*(A i 0*cP n (fun r u=>A (lh i r) (u+1)))) else 0:=fun i hi=>by
   by_cases c:i<n+1
   ·rw[ax c,Zyw (n:=n) (π:=π) (fun u hu=>?_) ?_]
    ·grind
    ·simp only[lh]
     rw[ak (by omega)]
     exact h
    ·simp only[lh]
     rw[ak (by omega)]
     exact hz _ (by omega)
   ·obtain rfl:i=n+1:=by omega
    rw[ak c,hz 0 (by omega),Rat.zero_mul,Rat.mul_zero]
  rw[fx e]
  show sN _ (n+1)+(if n+1<n+1 then π*(iR (n+1)*(A (n+1) 0*cP n (fun r u=>A (lh (n+1) r) (u+1)))) else 0)=_
  rw[ak (by omega),Rat.add_zero,cP,<-oC]
  apply fx
  intro i hi
  rw[ax hi]
def eJ(b:Nat)(q:Rat):Prop:=∃z:Int,q=(z:Rat)/\z.natAbs<2^b
def eJ.mul{a:Nat}{p q:Rat}(hp:eJ a p)(hq:eJ b q):eJ (a+b) (p*q):=by
 obtain⟨x,rfl,hx⟩:=hp
 obtain⟨y,rfl,hy⟩:=hq
 refine⟨x*y,by rw[Rat.intCast_mul],?_⟩
 rw[vA,kj]
 exact BR hx hy
def eJ.sum{b:Nat}{f:Nat->Rat}:∀{n:Nat},(∀i,i<n->eJ b (f i))->∃z:Int,sN f n=(z:Rat)/\z.natAbs<=n*2^b
 |0,_=>⟨0,rfl,by simp⟩
 |n+1,h=>by
  obtain⟨z,h1,h2⟩:=eJ.sum (n:=n) fun i hi=>h i (by omega)
  obtain⟨y,h3,h4⟩:=h n (by omega)
  refine⟨z+y,by unfold sN;rw[h1,h3,Rat.intCast_add],?_⟩
  have:=Int.natAbs_add_le z y
  rw[iY]
  omega
def eJ.Jf{m:Nat}{f:Nat->Rat}(h:∀i,i<n->eJ b (f i))(hn:n<2^m):eJ (b+m) (sN f n):=by
 obtain⟨z,h1,h2⟩:=eJ.sum h
 refine⟨z,h1,rK h2 ?_⟩
 rw[Nat.add_comm,kj]
 exact JL hn (rL b)
def eJ.mono{a:Nat}{q:Rat}(h:eJ a q)(ec:a<=b):eJ b q:=by
 obtain⟨z,h1,h2⟩:=h
 exact⟨z,h1,e_ h2 (rJ (by decide) ec)⟩
def eJ.iR:eJ 1 (iR i):=by
 unfold Go.Mx.iR
 split
 ·exact⟨1,rfl,by decide⟩
 ·exact⟨-1,rfl,by decide⟩
def Zw0{b:Nat}:∀{n:Nat} {A:Nat->Nat->Rat},(∀r u,r<n->u<n->eJ b (A r u))->eJ (n*(b+n+1)+1) (cP n A)
 |0,_,_=>⟨1,rfl,by rw[Nat.zero_mul];decide⟩
 |n+1,A,h=>by
  unfold cP
  have e:∀i,i<n+1->eJ (1+(b+(n*(b+n+1)+1))) (iR i*(A i 0*cP n (fun r u=>A (lh i r) (u+1)))):=fun i hi=>eJ.iR.mul ((h i 0 hi (by omega)).mul (Zw0 fun r u hr hu=>h _ _ (by unfold lh;split<;>omega) (by omega)))
  have:=eJ.Jf (m:=n+1) e Nat.lt_two_pow_self
  refine this.mono ?_
  have:(n+1)*(b+(n+1)+1)=n*(b+n+1)+n+(b+n+2):=by grind
  omega
variable {Bs m:List (List Rat)} {R d n:Nat} {b k s v x y:Rat}
def KY(m:List (List Rat))(c R:Nat):Prop:=∀i,i<m.length->∃s:Rat,s≠0/\eJ R s/\∀l,l<c->eJ R (s*aD m i l)
def eJ.qb{b:Nat}{q D:Rat}(h0:D≠0)(hD:eJ b D)(hq:eJ b (D*q)):Qb b q:=by
 obtain⟨x,rfl,hx⟩:=hD
 obtain⟨y,h1,hy⟩:=hq
 have nz:x≠0:=fun h=>h0 (by rw[h];rfl)
 have e:q=Rat.divInt y x:=by
  rw[Rat.divInt_eq_div,<-h1,Rat.div_def]
  have:=Rat.mul_inv_cancel (x:Rat) h0
  grind
 rw[e]
 exact Yg nz hy hx
def Ztc{K:Nat}:∀{r:List Rat},(∀q∈r,Qb K q)->∃s:Rat,s≠0/\eJ (r.length*K+1) s/\∀q∈r,eJ (r.length*K+1) (s*q)
 |[],_=>⟨1,by decide,⟨1,rfl,by rw[List.length_nil,Nat.zero_mul];decide⟩,fun q hq=>by simp at hq⟩
 |p::t,h=>by
  obtain⟨s,h1,h2,h3⟩:=Ztc (r:=t) fun q hq=>h q (pG _ hq)
  have hp:=h p pR
  have hd:eJ K ((p.den:Int):Rat):=⟨_,rfl,by rw[dH];exact hp.2⟩
  have hn:eJ K ((p.num:Int):Rat):=⟨_,rfl,hp.1⟩
  have oO:((p.den:Int):Rat)≠0:=fun hc=>p.den_nz (by have:=Rat.intCast_inj.1 (hc.trans (by rfl:(0:Rat)=((0:Int):Rat)));omega)
  have e:((p.den:Int):Rat)*p=(p.num:Rat):=by
   have h1:=Aw p
   rw[Rat.divInt_eq_div,Rat.div_def]at h1
   have h2:=Rat.mul_inv_cancel _ oO
   conv=>lhs;arg 2;rw[<-h1]
   generalize ((p.den:Int):Rat)=x at*
   grind
  have ek:(t.length+1)*K+1=t.length*K+1+K:=by grind
  refine⟨s*((p.den:Int):Rat),fun hc=>?_,?_,fun q hq=>?_⟩
  ·rcases Rat.mul_eq_zero.1 hc with h|h
   ·exact h1 h
   ·exact oO h
  ·rw[bo,ek]
   exact h2.mul hd
  ·rw[bo,ek]
   rcases ku.1 hq with rfl|hq
   ·have:=h2.mul hn
    rw[<-e]at this
    rw[Rat.mul_assoc]
    exact this
   ·have:=(h3 q hq).mul hd
    rw[show s*((p.den:Int):Rat)*q=s*q*((p.den:Int):Rat) by grind]
    exact this
def eJ.zero{b:Nat}:eJ b 0:=⟨0,rfl,by rw[Int.natAbs_zero];exact rL b⟩
def PS{c K:Nat}(h:bZ m K)(hc:bp m c):KY m c (c*K+1):=fun i hi=>by
 obtain⟨s,h1,h2,h3⟩:=Ztc (h.at (i:=i))
 rw[hc.at hi]at h2 h3
 refine⟨s,h1,h2,fun l hl=>?_⟩
 unfold aD
 rw[cF (by rw[hc.at hi];exact hl)]
 exact h3 _ (List.getElem_mem _)
structure Ct (Bs M:List (List Rat)) (s:Nat->Rat) (d:Nat) (ps:List Nat) (c R:Nat):Prop where
 len:Bs.length=M.length
 int:∀i l,i<M.length->l<c->eJ R (aD Bs i l)
 sc:∀i,i<M.length->s i≠0/\eJ R (s i)
 low:∀i l,d<=i->i<M.length->l<c->s i*aD M i l=aD Bs i l-sN (fun j=>aD Bs i (ps[j]?.getD 0)*aD M j l) d
 top:∃T:Nat->Nat->Rat,∀j l,j<d->l<c->aD M j l=sN (fun t=>T j t*aD Bs t l) d
 ne:cP d (fun t u=>aD Bs t (ps[u]?.getD 0))≠0
def Yqw{c:Nat}(h:KY m c R)(hc:bp m c):∃Bs s,Ct Bs m s 0 [] c R:=by
 have hex:∀i,∃s:Rat,i<m.length->s≠0/\eJ R s/\∀l,l<c->eJ R (s*aD m i l):=fun i=>by
  by_cases hi:i<m.length
  ·obtain⟨s,hs⟩:=h i hi
   exact⟨s,fun _=>hs⟩
  ·exact⟨0,fun hc=>absurd hc hi⟩
 obtain⟨s,hs⟩:=Classical.axiomOfChoice hex
 have DZ:∀i l,i<m.length->l<c->aD ((List.range m.length).map fun i=>(m[i]?.getD []).map fun q=>s i*q) i l=s i*aD m i l:=fun i l hi hl=>by
  have hlen:=hc.at hi
  unfold aD
  rw[fm,CK hi]
  simp only[ti,jz,fm]
  rw[cF (by omega)]
  rfl
 refine⟨(List.range m.length).map fun i=>(m[i]?.getD []).map fun q=>s i*q,s,(gY _).trans List.length_range,fun i l hi hl=>?_,fun i hi=>⟨(hs i hi).1,(hs i hi).2.1⟩,fun i l _ hi hl=>?_,⟨fun _ _=>0,fun j _ hj=>absurd hj (Nat.not_lt_zero j)⟩,fun hc=>absurd (show (1:Rat)=0 from hc) (by decide)⟩
 ·rw[DZ i l hi hl]
  exact(hs i hi).2.2 l hl
 ·rw[DZ i l hi hl]
  show _=_-(0:Rat)
  grind
def al1:b=b-s+s:=by grind
def al2{p m:Rat}(h:b=p*m+s):k*p*m= -k*s+k*b:=by grind
def al3{c e f:Rat}(h1:s*x=b-e)(h2:s*y=c-f):s*(x-y*v)=b-(e+ -v*f+c*v):=by grind
def al4:b*(x-y*v)=b*x+ -v*(b*y):=by grind
def al5{t:Rat}:(t-y*x)*b=t*b+ -y*(x*b):=by grind
def al6{u:Rat}(h:v=u+k*b):s-y*v=s+ -y*u+(0-y*k)*b:=by grind
def al7{a i m:Rat}(h1:s*a*k=1)(h2:a*i=1):m*i=k*s*m:=by
 have:m*i=m*i*(s*a*k):=by rw[h1,Rat.mul_one]
 rw[this,show m*i*(s*a*k)=k*s*m*(a*i) by grind,h2,Rat.mul_one]
def Ct.step{s:Nat->Rat}{S:List (List Rat)×Nat×List Nat}{c:Nat}(h:Ct Bs S.1 s S.2.1 S.2.2 c R)(I:yI S.1 S.2.1 S.2.2 n)(hc:bp S.1 c)(hn:n<c):∃Bs' s',Ct Bs' (iV S n).1 s' (iV S n).2.1 (iV S n).2.2 c R:=by
 obtain⟨M,d,ps⟩:=S
 simp only at h I hc
 unfold iV
 simp only
 have hle:=@El M n (M.length-d) d
 have iw:=I.le
 split
 ·rename_i hp
  have du:d<M.length:=by unfold eS at hp;omega
  have LD:d<=eS M d n:=hle.1
  have aW:aD M (eS M d n) n≠0:=@Gq M n (M.length-d) d (by unfold eS at hp;omega)
  generalize eS M d n=p at*
  have jC:=(hc.BD du hp).Gu (d:=d) (k:=n) (by rw[pz];exact du)
  have hlen:(cg (fJ (cf M d p) d n) d n M.length).length=M.length:=by rw[zm,BE,pz]
  have gj:(fJ (cf M d p) d n).length=M.length:=by rw[BE,pz]
  have hb:∀i j,aD (cf M d p) i j=if i=d then aD M p j else if i=p then aD M d j else aD M i j:=fun i j=>GG du hp
  have hs:∀i j,aD (fJ (cf M d p) d n) i j=if i=d then aD M p j/aD M p n else aD (cf M d p) i j:=fun i j=>by
   rw[Qz (by rw[pz];exact du),hb d j,hb d n,ax rfl,ax rfl]
  have he:∀i j,i<M.length->aD (cg (fJ (cf M d p) d n) d n M.length) i j=if i=d then aD M p j/aD M p n else aD (cf M d p) i j-aD (cf M d p) i n*(aD M p j/aD M p n):=fun i j hi=>by
   have:=QA (m:=fJ (cf M d p) d n) (k:=n) (j:=j) jC (i:=i) (d:=d) (by rw[gj];exact hi) (by rw[gj];exact du)
   rw[gj]at this
   rw[this,hs i j,hs i n,hs d j,ax rfl]
   split<;>rfl
  have Ic:∀i j,aD (cf Bs d p) i j=if i=d then aD Bs p j else if i=p then aD Bs d j else aD Bs i j:=fun i j=>GG (by rw[h.len];exact du) (by rw[h.len];exact hp)
  show ∃Bs' s',Ct Bs' (cg (fJ (cf M d p) d n) d n M.length) s' (d+1) (ps++[n]) c R
  generalize cg (fJ (cf M d p) d n) d n M.length=M' at*
  obtain⟨T,hT⟩:=h.top
  have ho:∀i,i<d->(ps++[n])[i]?.getD 0=ps[i]?.getD 0:=fun i hi=>by rw[iS (by have:=I.len;omega)]
  have tu:(ps++[n])[d]?.getD 0=n:=by rw[lD (by have:=I.len;omega),I.len];simp
  have gb:=(h.sc p hp).1
  obtain⟨x,hx⟩:∃x:Nat->Rat,x=fun l=>aD M p l/aD M p n:=⟨_,rfl⟩
  have jv:∀l,x l=aD M p l/aD M p n:=fun l=>by rw[hx]
  have hMd:∀l,aD M' d l=x l:=fun l=>by rw[he d l du,ax rfl,jv]
  have hMj:∀j l,j<d->aD M' j l=aD M j l-aD M j n*x l:=fun j l hj=>by
   rw[he j l (by omega),ak (by omega),hb j l,hb j n,ak (by omega),ak (by omega),ak (by omega),ak (by omega),jv]
  have Tm:∀t l,t<d->aD (cf Bs d p) t l=aD Bs t l:=fun t l ht=>by rw[Ic,ak (by omega),ak (by omega)]
  have hBd:∀l,aD (cf Bs d p) d l=aD Bs p l:=fun l=>by rw[Ic,ax rfl]
  have iG:∀j,j<d->ps[j]?.getD 0<c:=fun j hj=>by have:=I.lt j hj;omega
  obtain⟨Z,hZ⟩:∃Z:Nat->Rat,Z=fun t=>sN (fun j=>aD Bs p (ps[j]?.getD 0)*T j t) d:=⟨_,rfl⟩
  have wI:∀l,l<c->sN (fun j=>aD Bs p (ps[j]?.getD 0)*aD M j l) d=sN (fun t=>Z t*aD Bs t l) d:=fun l hl=>by
   rw[fx (g:=fun j=>sN (fun t=>aD Bs p (ps[j]?.getD 0)*T j t*aD Bs t l) d) fun j hj=>by rw[hT j l hj hl,<-oC];exact fx fun t _=>(Rat.mul_assoc _ _ _).symm,GJ]
   apply fx
   intro t _
   rw[hZ,Rat.mul_comm,<-oC]
   exact fx fun j _=>Rat.mul_comm _ _
  have al:∀l,l<c->aD Bs p l=s p*aD M p l+sN (fun t=>Z t*aD Bs t l) d:=fun l hl=>by
   rw[<-wI l hl,h.low p l LD hp hl]
   exact al1
  have e1:s p*aD M p n≠0:=fun hc=>by
   rcases Rat.mul_eq_zero.1 hc with h|h
   ·exact gb h
   ·exact aW h
  obtain⟨κ,hκ⟩:∃κ:Rat,s p*aD M p n*κ=1:=⟨_,Rat.mul_inv_cancel _ e1⟩
  have pZ:∀l,x l=κ*s p*aD M p l:=fun l=>by
   rw[jv,Rat.div_def]
   exact al7 hκ (Rat.mul_inv_cancel _ aW)
  have zL:∀l,l<c->x l=sN (fun t=>(if t=d then κ else -κ*Z t)*aD (cf Bs d p) t l) (d+1):=fun l hl=>by
   show _=sN (fun t=>(if t=d then κ else -κ*Z t)*aD (cf Bs d p) t l) d+(if d=d then κ else -κ*Z d)*aD (cf Bs d p) d l
   rw[ax rfl,hBd,fx (g:=fun t=> -κ*(Z t*aD Bs t l)) fun t ht=>by rw[ak (by omega),Tm t l ht,Rat.mul_assoc],oC,pZ]
   exact al2 (al l hl)
  refine⟨cf Bs d p,fun i=>if i=d then s p else if i=p then s d else s i,by rw[pz,hlen,h.len],fun i l hi hl=>?_,fun i hi=>?_,fun i l h1 h2 hl=>?_,⟨fun j t=>if j=d then (if t=d then κ else -κ*Z t) else (if t=d then 0 else T j t)-aD M j n*(if t=d then κ else -κ*Z t),fun j l hj hl=>?_⟩,?_⟩
  ·rw[hlen]at hi
   rw[Ic]
   split
   ·exact h.int p l hp hl
   ·split
    ·exact h.int d l du hl
    ·exact h.int i l hi hl
  ·rw[hlen]at hi
   split
   ·exact h.sc p hp
   ·split
    ·exact h.sc d du
    ·exact h.sc i hi
  ·rw[hlen]at h2
   have Em:∀l,l<c->(if i=d then s p else if i=p then s d else s i)*aD (cf M d p) i l=aD (cf Bs d p) i l-sN (fun j=>aD (cf Bs d p) i (ps[j]?.getD 0)*aD M j l) d:=fun l hl=>by
    by_cases e:i=p
    ·have I9:∀l,aD (cf Bs d p) i l=aD Bs d l:=fun l=>by rw[Ic,ak (by omega),ax e]
     rw[ak (by omega),ax e,hb,ak (by omega),ax e,I9,fx (g:=fun j=>aD Bs d (ps[j]?.getD 0)*aD M j l) fun j _=>by rw[I9]]
     exact h.low d l (aO _) du hl
    ·have I9:∀l,aD (cf Bs d p) i l=aD Bs i l:=fun l=>by rw[Ic,ak (by omega),ak e]
     rw[ak (by omega),ak e,hb,ak (by omega),ak e,I9,fx (g:=fun j=>aD Bs i (ps[j]?.getD 0)*aD M j l) fun j _=>by rw[I9]]
     exact h.low i l (by omega) h2 hl
   have hM:aD M' i l=aD (cf M d p) i l-aD (cf M d p) i n*x l:=by rw[he i l h2,ak (show ¬i=d by omega),<-jv l]
   rw[hM]
   show (if i=d then s p else if i=p then s d else s i)*_=_-(sN (fun j=>aD (cf Bs d p) i ((ps++[n])[j]?.getD 0)*aD M' j l) d+aD (cf Bs d p) i ((ps++[n])[d]?.getD 0)*aD M' d l)
   rw[tu,hMd,fx (g:=fun j=>aD (cf Bs d p) i (ps[j]?.getD 0)*aD M j l+ -x l*(aD (cf Bs d p) i (ps[j]?.getD 0)*aD M j n)) fun j hj=>by rw[ho j hj,hMj j l hj];exact al4,Ev,oC]
   exact al3 (Em l hl) (Em n hn)
  ·have hX:=zL l hl
   by_cases e:j=d
   ·subst e
    rw[hMd,hX]
    exact fx fun t _=>by
     show _=(if j=j then (if t=j then κ else -κ*Z t) else (if t=j then 0 else T j t)-aD M j n*(if t=j then κ else -κ*Z t))*aD (cf Bs j p) t l
     rw[ax rfl]
   ·have hX:x l=sN (fun t=>(if t=d then κ else -κ*Z t)*aD (cf Bs d p) t l) d+(if d=d then κ else -κ*Z d)*aD (cf Bs d p) d l:=hX
    rw[ax rfl]at hX
    rw[hMj j l (by omega),hT j l (by omega) hl]
    show _=sN (fun t=>(if j=d then (if t=d then κ else -κ*Z t) else (if t=d then 0 else T j t)-aD M j n*(if t=d then κ else -κ*Z t))*aD (cf Bs d p) t l) d+(if j=d then (if d=d then κ else -κ*Z d) else (if d=d then 0 else T j d)-aD M j n*(if d=d then κ else -κ*Z d))*aD (cf Bs d p) d l
    rw[ak e,ax rfl,ax rfl,fx (f:=fun t=>(if j=d then (if t=d then κ else -κ*Z t) else (if t=d then 0 else T j t)-aD M j n*(if t=d then κ else -κ*Z t))*aD (cf Bs d p) t l) (g:=fun t=>T j t*aD Bs t l+ -aD M j n*((if t=d then κ else -κ*Z t)*aD (cf Bs d p) t l)) fun t ht=>by
     rw[ak e,ak (show ¬t=d by omega),ak (show ¬t=d by omega),Tm t l ht]
     exact al5,Ev,oC]
    exact al6 hX
  ·have e1:cP (d+1) (fun t u=>aD (cf Bs d p) t ((ps++[n])[u]?.getD 0))=cP (d+1) (bg (fun t u=>aD (cf Bs d p) t ((ps++[n])[u]?.getD 0)) d fun u=>s p*aD M p ((ps++[n])[u]?.getD 0)+sN (fun t=>Z t*aD (cf Bs d p) t ((ps++[n])[u]?.getD 0)) d):=ze fun r u hr hu=>by
    unfold bg
    split
    ·rename_i e
     subst e
     have xx:(ps++[n])[u]?.getD 0<c:=by
      by_cases e:u<r
      ·rw[ho u e];exact iG u e
      ·rw[show u=r by omega,tu];exact hn
     simp only
     rw[hBd,al _ xx]
     congr 1
     exact fx fun t ht=>by rw[Tm t _ ht]
    ·rfl
   rw[e1,Tl (by omega),Zwz (w:=fun t u=>aD (cf Bs d p) t ((ps++[n])[u]?.getD 0)) (by omega),GI (f:=fun t=>_) fun t ht=>by
    have:=Ygf (n:=d+1) (A:=fun t u=>aD (cf Bs d p) t ((ps++[n])[u]?.getD 0)) (i:=t) (j:=d) (by omega) (by omega)
    rw[this,ak (by omega),Rat.mul_zero],Rat.add_zero,Zyw (π:=s p*aD M p n) (fun u hu=>?_) ?_]
   ·intro hc
    rcases Rat.mul_eq_zero.1 hc with h1|h1
    ·rcases Rat.mul_eq_zero.1 h1 with h|h
     ·exact gb h
     ·exact aW h
    ·apply h.ne
     rw[<-h1]
     exact ze fun r u hr hu=>by
      unfold bg
      rw[ak (by omega)]
      show _=aD (cf Bs d p) r ((ps++[n])[u]?.getD 0)
      rw[Tm r _ hr,ho u hu]
   ·unfold bg
    rw[ax rfl]
    show s p*aD M p ((ps++[n])[d]?.getD 0)=_
    rw[tu]
   ·unfold bg
    rw[ax rfl]
    show s p*aD M p ((ps++[n])[u]?.getD 0)=0
    rw[ho u hu,I.rest p _ LD hp (I.lt u hu),Rat.mul_zero]
 ·exact⟨Bs,s,h⟩
def Ygp{m:List (List Rat)}{c R:Nat}(h:KY m c R)(hc:bp m c):∀{n:Nat},n<=c->∃Bs s,Ct Bs (aK m n).1 s (aK m n).2.1 (aK m n).2.2 c R
 |0,_=>Yqw h hc
 |n+1,hn=>by
  obtain⟨Bs,s,hC⟩:=Ygp h hc (n:=n) (by omega)
  rw[uM]
  exact hC.step (ry hc) (lF hc).1 (by omega)
def Ct.done{M:List (List Rat)}{s:Nat->Rat}{c:Nat}{ps:List Nat}(h:Ct Bs M s d ps c R)(I:yI M d ps n)(hn:n<=c)(hR:1<=R):eJ (d*(R+d+1)+1) (cP d fun t u=>aD Bs t (ps[u]?.getD 0))/\∀j l,j<d->l<c->eJ ((d+1)*(R+d+1)) ((cP d fun t u=>aD Bs t (ps[u]?.getD 0))*aD M j l):=by
 have hle:=I.le
 have iG:∀j,j<d->ps[j]?.getD 0<c:=fun j hj=>by have:=I.lt j hj;omega
 have hI:∀r u,r<d->u<d->eJ R (aD Bs r (ps[u]?.getD 0)):=fun r u hr hu=>h.int r _ (by omega) (iG u hu)
 refine⟨Zw0 hI,fun j l hj hl=>?_⟩
 obtain⟨T,hT⟩:=h.top
 have zas:∀t q,t<d->q<d->sN (fun u=>aD Bs t (ps[u]?.getD 0)*cP d (bg (fun t u=>aD Bs t (ps[u]?.getD 0)) q (Cs u))) d=if t=q then cP d (fun t u=>aD Bs t (ps[u]?.getD 0)) else 0:=fun t q ht hq=>by
  rw[<-Ygf ht hq]
  exact(Ykv hq).symm
 have hTd:∀q,q<d->cP d (bg (fun t u=>aD Bs t (ps[u]?.getD 0)) q (Cs j))=T j q*cP d (fun t u=>aD Bs t (ps[u]?.getD 0)):=fun q hq=>by
  have e1:cP d (bg (fun t u=>aD Bs t (ps[u]?.getD 0)) q (Cs j))=sN (fun u=>aD M j (ps[u]?.getD 0)*cP d (bg (fun t u=>aD Bs t (ps[u]?.getD 0)) q (Cs u))) d:=by
   rw[Al (i:=j) hj fun u hu aW=>by rw[I.one u j hu (by omega),ak (Ne.symm aW),Rat.zero_mul],I.one j j hj (by omega),ax rfl,Rat.one_mul]
  rw[e1,fx (g:=fun u=>sN (fun t=>T j t*(aD Bs t (ps[u]?.getD 0)*cP d (bg (fun t u=>aD Bs t (ps[u]?.getD 0)) q (Cs u)))) d) fun u hu=>by rw[hT j _ hj (iG u hu),Rat.mul_comm,<-oC];exact fx fun t _=>by grind,GJ,fx (g:=fun t=>T j t*if t=q then cP d (fun t u=>aD Bs t (ps[u]?.getD 0)) else 0) fun t ht=>by rw[oC,zas t q ht hq],Al (i:=q) hq fun t _ aW=>by rw[ak aW,Rat.mul_zero],ax rfl]
 rw[hT j l hj hl,<-oC]
 have:=eJ.Jf (m:=d) (b:=d*(R+d+1)+1+R) (n:=d) (f:=fun t=>cP d (fun t u=>aD Bs t (ps[u]?.getD 0))*(T j t*aD Bs t l)) (fun t ht=>by
  rw[show cP d (fun t u=>aD Bs t (ps[u]?.getD 0))*(T j t*aD Bs t l)=T j t*cP d (fun t u=>aD Bs t (ps[u]?.getD 0))*aD Bs t l by grind,<-hTd t ht]
  refine(Zw0 fun r u hr hu=>?_).mul (h.int t l (by omega) hl)
  unfold bg
  split
  ·unfold Cs
   split
   ·exact⟨1,rfl,e_ (by decide:Int.natAbs 1<2^1) (rJ (by decide) hR)⟩
   ·exact eJ.zero
  ·exact hI r u hr hu) Nat.lt_two_pow_self
 refine this.mono ?_
 have:(d+1)*(R+d+1)=d*(R+d+1)+(R+d+1):=by grind
 omega
def eJ.sub{b:Nat}{p q:Rat}(hp:eJ b p)(hq:eJ b q):eJ (b+1) (p-q):=by
 obtain⟨x,rfl,hx⟩:=hp
 obtain⟨y,rfl,hy⟩:=hq
 refine⟨x-y,by rw[Rat.intCast_sub],?_⟩
 rw[gw]
 omega
def nX(R d:Nat):Nat:=(d+2)*(R+d+1)
def Ct.qb{M:List (List Rat)}{s:Nat->Rat}{c:Nat}{ps:List Nat}(h:Ct Bs M s d ps c R)(I:yI M d ps n)(hc:bp M c)(hn:n<=c)(hR:1<=R):bZ M (nX R d):=fun r hr q hq=>by
 obtain⟨h1,h2⟩:=h.done I hn hR
 have hB:nX R d=d*(R+d+1)+2*R+2*d+2:=by unfold nX;grind
 have hW:(d+1)*(R+d+1)=d*(R+d+1)+(R+d+1):=by grind
 obtain⟨i,hi⟩:=uR hr
 obtain⟨l,hl⟩:=uR hq
 have zt:=jt hi
 have tm:l<c:=by have:=jt hl;rw[hc r hr]at this;exact this
 have DZ:aD M i l=q:=by unfold aD;rw[hi,jz,hl];rfl
 by_cases e:i<d
 ·have:=h2 i l e tm
  rw[DZ]at this
  exact eJ.qb h.ne (h1.mono (by omega)) (this.mono (by omega))
 ·have GH:=h.low i l (by omega) zt tm
  have hs:=h.sc i zt
  have iG:∀j,j<d->ps[j]?.getD 0<c:=fun j hj=>by have:=I.lt j hj;omega
  rw[DZ]at GH
  refine eJ.qb (D:=s i*cP d fun t u=>aD Bs t (ps[u]?.getD 0)) (fun hc=>?_) ((hs.2.mul h1).mono (by omega)) ?_
  ·rcases Rat.mul_eq_zero.1 hc with h'|h'
   ·exact hs.1 h'
   ·exact h.ne h'
  ·have e1:(s i*cP d fun t u=>aD Bs t (ps[u]?.getD 0))*q=aD Bs i l*(cP d fun t u=>aD Bs t (ps[u]?.getD 0))-sN (fun j=>aD Bs i (ps[j]?.getD 0)*((cP d fun t u=>aD Bs t (ps[u]?.getD 0))*aD M j l)) d:=by
    rw[fx (g:=fun j=>(cP d fun t u=>aD Bs t (ps[u]?.getD 0))*(aD Bs i (ps[j]?.getD 0)*aD M j l)) fun j _=>by grind,oC]
    grind
   rw[e1]
   have a1:=((h.int i l zt tm).mul h1).mono (b:=R+(d+1)*(R+d+1)+d) (by omega)
   have a2:=eJ.Jf (m:=d) (b:=R+(d+1)*(R+d+1)) (n:=d) (f:=fun j=>aD Bs i (ps[j]?.getD 0)*((cP d fun t u=>aD Bs t (ps[u]?.getD 0))*aD M j l)) (fun j hj=>(h.int i _ zt (iG j hj)).mul (h2 j l hj tm)) Nat.lt_two_pow_self
   exact(a1.sub a2).mono (by omega)
def Zo1{m:List (List Rat)}{c:Nat}(hc:bp m c):∀{e:Nat},aK m (c+e)=aK m c
 |0=>rfl
 |e+1=>by
  rw[<-pF,uM,Zo1 hc]
  obtain⟨M,hM⟩:∃M,M=aK m c:=⟨_,rfl⟩
  have hr:=(lF hc (n:=c)).1
  rw[<-hM]at hr ⊢
  have hz:∀i,aD M.1 i (c+e)=0:=fun i=>by
   unfold aD
   by_cases hi:i<M.1.length
   ·have h3:=hr.at hi
    rw[fv (l:=M.1[i]?.getD []) (by omega)];rfl
   ·have h3:M.1[i]?=none:=fv (by omega)
    rw[h3];rfl
  unfold iV
  rw[ak]
  intro hp
  have hle:=@El M.1 (c+e) (M.1.length-M.2.1) M.2.1
  exact(@Gq M.1 (c+e) (M.1.length-M.2.1) M.2.1 (by unfold eS at hp;omega)) (hz _)
def PT{c:Nat}(h:KY m c R)(hc:bp m c)(hR:1<=R)(n:Nat):bZ (aK m n).1 (nX R (aK m n).2.1):=by
 by_cases hn:n<=c
 ·obtain⟨Bs,s,hC⟩:=Ygp h hc hn
  exact hC.qb (ry hc) (lF hc).1 hn hR
 ·rw[show n=c+(n-c) by omega,Zo1 hc]
  obtain⟨Bs,s,hC⟩:=Ygp h hc (aO c)
  exact hC.qb (ry hc) (lF hc).1 (aO c) hR
def KZ{R a b:Nat}(h:a<=b):nX R a<=nX R b:=oL (by omega) (by omega)
def PV:1<=nX R d:=zr (by omega) (by omega)
end Go.Mx
