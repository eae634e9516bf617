/-Modal matrices of any modes-/
import Derived.Test.YtnkdakmfipgidaaGreatDoorLsN
set_option linter.all false
namespace Go.Mx
open Go Go.Proofs
variable {D M:List (List Rat)} {R S i0 j k n:Nat} {s:Rat} {w:List Rat}
set_option maxRecDepth 1000000
def nG(k n S:Nat)(a b c d:Nat->Rat)(e:Rat)(j:Nat):Rat:=if j<k then a j else if j<k+n then b (j-k) else if j<k+n+S then c (j-(k+n)) else if j<k+n+S+n then d (j-(k+n+S)) else e
def NS{a b c d:Nat->Rat}{e:Rat}(h:j<k):nG k n S a b c d e j=a j:=ar h
def Zd{a b c d:Nat->Rat}{e:Rat}(h:j<n):nG k n S a b c d e (k+j)=b j:=by unfold nG;rw[ak (by omega),ar (by omega),Nat.add_sub_cancel_left]
def Ze{a b c d:Nat->Rat}{e:Rat}(h:j<S):nG k n S a b c d e (k+n+j)=c j:=by unfold nG;rw[ak (by omega),ak (by omega),ar (by omega),Nat.add_sub_cancel_left]
def Yww{a b c d:Nat->Rat}{e:Rat}(h:j<n):nG k n S a b c d e (k+n+S+j)=d j:=by unfold nG;rw[ak (by omega),ak (by omega),ak (by omega),ar (by omega),Nat.add_sub_cancel_left]
def Ywv{a b c d:Nat->Rat}{e:Rat}:nG k n S a b c d e (k+n+S+n)=e:=by unfold nG;rw[ak (by omega),ak (by omega),ak (by omega),ak (by omega)]
def SQ{a b c d:Nat->Rat}{e:Rat}{z:Nat->Rat}:sN (fun j=>(m8 (k+n+S+n+1) (nG k n S a b c d e))[j]?.getD 0*z j) (k+n+S+n+1)=sN (fun j=>a j*z j) k+sN (fun l=>b l*z (k+l)) n+sN (fun i=>c i*z (k+n+i)) S+sN (fun l=>d l*z (k+n+S+l)) n+e*z (k+n+S+n):=by rw[bg (g:=fun j=>nG k n S a b c d e j*z j) fun j hj=>by rw[Ye5 hj]];show sN _ (k+n+S+n)+_=_;rw[Ih,Ih,Ih,bg (n:=k) (g:=fun j=>a j*z j) fun j hj=>by rw[NS hj],bg (n:=n) (f:=fun j=>nG k n S a b c d e (k+j)*z (k+j)) (g:=fun l=>b l*z (k+l)) fun j hj=>by rw[Zd hj],bg (n:=S) (g:=fun i=>c i*z (k+n+i)) fun j hj=>by rw[Ze hj],bg (n:=n) (f:=fun j=>nG k n S a b c d e (k+n+S+j)*z (k+n+S+j)) (g:=fun l=>d l*z (k+n+S+l)) fun j hj=>by rw[Yww hj]];show _+nG k n S a b c d e (k+n+S+n)*z (k+n+S+n)=_;rw[Ywv]
def e1(i j:Nat):Rat:=if j=i then 1 else 0
def NT{f:Nat->Rat}{i:Nat}(hi:i<n):sN (fun j=>e1 i j*f j) n=f i:=by rw[tU hi fun j _ aW=>by unfold e1;rw[ak aW,Rat.zero_mul]];unfold e1;rw[ar rfl,Rat.one_mul]
def qj(_:Nat):Rat:=0
def D7{f:Nat->Rat}:sN (fun j=>qj j*f j) n=0:=pj fun j _=>by unfold qj;rw[Rat.zero_mul]
def Gc(D M:List (List Rat))(w:List Rat)(n i0:Nat):List (List Rat):=(List.range n).map (fun l=>m8 (M.length+n+D.length+n+1) (nG M.length n D.length (fun a=>al M a l) (e1 l) qj qj 0))++((List.range D.length).map (fun i=>m8 (M.length+n+D.length+n+1) (nG M.length n D.length qj (fun l=>al D i l) (e1 i) qj (e1 i0 i)))++((List.range n).map (fun l=>m8 (M.length+n+D.length+n+1) (nG M.length n D.length qj qj (fun i=>w[i]?.getD 0*al D i l) (e1 l) 0))++(List.range M.length).map (fun a=>m8 (M.length+n+D.length+n+1) (nG M.length n D.length qj qj qj (fun l=>al M a l) 0))))
def Yof:aR (Gc D M w n i0) (M.length+n+D.length+n+1):=fun r hr=>by
 unfold Gc at hr
 simp only[jB,bF]at hr
 rcases hr with⟨i,_,rfl⟩|⟨i,_,rfl⟩|⟨i,_,rfl⟩|⟨i,_,rfl⟩<;>simp[m8]
def Ygi{z:Nat->Rat}(hz:z (M.length+n+D.length+n)= -1):ew (Gc D M w n i0) (M.length+n+D.length+n+1) z↔(∀l,l<n->sN (fun a=>al M a l*z a) M.length+z (M.length+l)=0)/\(∀i,i<D.length->sN (fun l=>al D i l*z (M.length+l)) n+z (M.length+n+i)=e1 i0 i)/\(∀l,l<n->sN (fun i=>w[i]?.getD 0*al D i l*z (M.length+n+i)) D.length+z (M.length+n+D.length+l)=0)/\(∀a,a<M.length->sN (fun l=>al M a l*z (M.length+n+D.length+l)) n=0):=by
 have hk:ew (Gc D M w n i0) (M.length+n+D.length+n+1) z↔∀r∈Gc D M w n i0,sN (fun j=>r[j]?.getD 0*z j) (M.length+n+D.length+n+1)=0:=by
  unfold ew;constructor
  ·intro h r hr;obtain⟨i,hi⟩:=nw hr;have h1:=h i (gZ hi);unfold al at h1;rw[hi]at h1;exact h1
  intro h i hi;have h1:=h _ (List.getElem_mem hi);unfold al;rw[bV hi];exact h1
 have eA:∀l,l<n->sN (fun j=>(m8 (M.length+n+D.length+n+1) (nG M.length n D.length (fun a=>al M a l) (e1 l) qj qj 0))[j]?.getD 0*z j) (M.length+n+D.length+n+1)=sN (fun a=>al M a l*z a) M.length+z (M.length+l):=fun l hl=>by rw[SQ,NT (f:=fun j=>z (M.length+j)) hl,D7,D7,hz];grind
 have eB:∀i,i<D.length->sN (fun j=>(m8 (M.length+n+D.length+n+1) (nG M.length n D.length qj (fun l=>al D i l) (e1 i) qj (e1 i0 i)))[j]?.getD 0*z j) (M.length+n+D.length+n+1)=sN (fun l=>al D i l*z (M.length+l)) n+z (M.length+n+i)-e1 i0 i:=fun i hi=>by rw[SQ,NT (f:=fun j=>z (M.length+n+j)) hi,D7,D7,hz];grind
 have eC:∀l,l<n->sN (fun j=>(m8 (M.length+n+D.length+n+1) (nG M.length n D.length qj qj (fun i=>w[i]?.getD 0*al D i l) (e1 l) 0))[j]?.getD 0*z j) (M.length+n+D.length+n+1)=sN (fun i=>w[i]?.getD 0*al D i l*z (M.length+n+i)) D.length+z (M.length+n+D.length+l):=fun l hl=>by rw[SQ,NT (f:=fun j=>z (M.length+n+D.length+j)) hl,D7,D7,hz];grind
 have eD:∀a,a<M.length->sN (fun j=>(m8 (M.length+n+D.length+n+1) (nG M.length n D.length qj qj qj (fun l=>al M a l) 0))[j]?.getD 0*z j) (M.length+n+D.length+n+1)=sN (fun l=>al M a l*z (M.length+n+D.length+l)) n:=fun a _=>by rw[SQ,D7,D7,D7,hz];grind
 rw[hk];constructor
 ·intro h;refine⟨fun l hl=>?_,fun i hi=>?_,fun l hl=>?_,fun a ha=>?_⟩
  ·have h1:=h _ (List.mem_append_left _ (bF.2 ⟨l,gm.2 hl,rfl⟩));rw[eA l hl]at h1;exact h1
  ·have h1:=h _ (List.mem_append_right _ (List.mem_append_left _ (bF.2 ⟨i,gm.2 hi,rfl⟩)));rw[eB i hi]at h1;grind
  ·have h1:=h _ (List.mem_append_right _ (List.mem_append_right _ (List.mem_append_left _ (bF.2 ⟨l,gm.2 hl,rfl⟩))));rw[eC l hl]at h1;exact h1
  have h1:=h _ (List.mem_append_right _ (List.mem_append_right _ (List.mem_append_right _ (bF.2 ⟨a,gm.2 ha,rfl⟩))));rw[eD a ha]at h1;exact h1
 rintro⟨h1,h2,h3,h4⟩ r hr;unfold Gc at hr;simp only[jB,bF,gm]at hr;rcases hr with⟨l,hl,rfl⟩|⟨i,hi,rfl⟩|⟨l,hl,rfl⟩|⟨a,ha,rfl⟩
 ·rw[eA l hl];exact h1 l hl
 ·rw[eB i hi,h2 i hi];grind
 ·rw[eC l hl];exact h3 l hl
 rw[eD a ha];exact h4 a ha
def SR(h:cJ R s)(i j:Nat):cJ R (s*e1 i j):=by
 unfold e1;split
 ·rw[Rat.mul_one];exact h
 rw[Rat.mul_zero];exact cJ.zero
def D8(j:Nat):cJ R (s*qj j):=by unfold qj;rw[Rat.mul_zero];exact cJ.zero
def SS{a b c d:Nat->Rat}{e:Rat}(ha:∀j,j<k->cJ R (s*a j))(hb:∀j,j<n->cJ R (s*b j))(hc:∀j,j<S->cJ R (s*c j))(hd:∀j,j<n->cJ R (s*d j))(he:cJ R (s*e)):∀q∈m8 (k+n+S+n+1) (nG k n S a b c d e),cJ R (s*q):=fun q hq=>by
 obtain⟨j,hj,rfl⟩:=bF.1 hq
 have hj:=gm.1 hj
 unfold nG
 split
 ·exact ha _ (by assumption)
 ·split
  ·exact hb _ (by omega)
  ·split
   ·exact hc _ (by omega)
   ·split
    ·exact hd _ (by omega)
    ·exact he
def SU{b:Nat}{f:Nat->Rat}(h:∀q∈(List.range n).map f,cJ b (s*q)){j:Nat}(hj:j<n):cJ b (s*f j):=h _ (bF.2 ⟨j,gm.2 hj,rfl⟩)
def Ylh(hD:aR D n)(hM:aR M n)(qD:bz D 7)(qM:bz M 7)(qw:∀q∈w,Qb 7 q)(hn:n<=4)(hS:D.length<=5)(hk:M.length<=4):Ab (Gc D M w n i0) (M.length+n+D.length+n+1) 71:=by
 refine Zyv Yof fun r hr=>?_;unfold Gc at hr;simp only[jB,bF,gm]at hr;have z0:∀s:Rat,cJ 71 (s*0):=fun s=>by rw[Rat.mul_zero];exact cJ.zero
 rcases hr with⟨l,hl,rfl⟩|⟨i,hi,rfl⟩|⟨l,hl,rfl⟩|⟨a,ha,rfl⟩
 ·obtain⟨t,h1,h2,h3⟩:=F4 (K:=7) (r:=(List.range M.length).map fun a=>al M a l) fun q hq=>by obtain⟨a,_,rfl⟩:=bF.1 hq;exact rO (qM.at (i:=a)) (by decide) l
  have hlen:((List.range M.length).map fun a=>al M a l).length*7+1<=71:=by rw[cG,List.length_range];omega
  exact⟨t,h1,h2.mono hlen,SS (fun j hj=>(SU h3 hj).mono hlen) (fun j _=>SR (h2.mono hlen) l j) (fun j _=>D8 j) (fun j _=>D8 j) (z0 t)⟩
 ·obtain⟨t,h1,h2,h3⟩:=F4 (K:=7) (r:=(List.range n).map fun l=>al D i l) fun q hq=>by obtain⟨a,_,rfl⟩:=bF.1 hq;exact rO (qD.at (i:=i)) (by decide) a
  have hlen:((List.range n).map fun l=>al D i l).length*7+1<=71:=by rw[cG,List.length_range];omega
  exact⟨t,h1,h2.mono hlen,SS (fun j _=>D8 j) (fun j hj=>(SU h3 hj).mono hlen) (fun j _=>SR (h2.mono hlen) i j) (fun j _=>D8 j) (SR (h2.mono hlen) i0 i)⟩
 ·obtain⟨t,h1,h2,h3⟩:=F4 (K:=14) (r:=(List.range D.length).map fun i=>w[i]?.getD 0*al D i l) fun q hq=>by obtain⟨i,_,rfl⟩:=bF.1 hq;exact(rO qw (by decide) i).mul (rO (qD.at (i:=i)) (by decide) l)
  have hlen:((List.range D.length).map fun i=>w[i]?.getD 0*al D i l).length*14+1<=71:=by rw[cG,List.length_range];omega
  exact⟨t,h1,h2.mono hlen,SS (fun j _=>D8 j) (fun j _=>D8 j) (fun j hj=>(SU h3 hj).mono hlen) (fun j _=>SR (h2.mono hlen) l j) (z0 t)⟩
 obtain⟨t,h1,h2,h3⟩:=F4 (K:=7) (r:=(List.range n).map fun l=>al M a l) fun q hq=>by obtain⟨l,_,rfl⟩:=bF.1 hq;exact rO (qM.at (i:=a)) (by decide) l
 have hlen:((List.range n).map fun l=>al M a l).length*7+1<=71:=by rw[cG,List.length_range];omega
 exact⟨t,h1,h2.mono hlen,SS (fun j _=>D8 j) (fun j _=>D8 j) (fun j _=>D8 j) (fun j hj=>(SU h3 hj).mono hlen) (z0 t)⟩
def Zf{H:List (List Rat)}(hM:aR M n)(hw:w.length=D.length)(h0:0<M.length)(hs:nZ D M w=some H):H.length=M.length/\aR H D.length/\∃T:Nat->Nat->Rat,(∀a i,a<M.length->i<D.length->T a i=sN (fun l=>al M a l*al D i l) n)/\(∀a i,a<M.length->i<D.length->sN (fun b=>sN (fun j=>T b j*(T a j*w[j]?.getD 0)) D.length*al H b i) M.length=T a i*w[i]?.getD 0)/\∀v:Nat->Rat,(∀a,a<M.length->sN (fun b=>sN (fun j=>T b j*(T a j*w[j]?.getD 0)) D.length*v b) M.length=0)->∀a,a<M.length->v a=0:=by
 unfold nZ at hs;have AW:(cn (du D M) M.length).length=M.length:=kh;have CS:(iz D M w).length=M.length:=by unfold iz;rw[cG,AW]
 have NK:aR (cn (du D M) M.length) D.length:=by have:=@AL (du D M) M.length;rwa [show (du D M).length=D.length from cG ..]at this
 have Is:aR (iz D M w) D.length:=fun r hr=>by unfold iz at hr;obtain⟨t,ht,rfl⟩:=bF.1 hr;rw[show (yk t w).length=w.length by simp[yk],hw]
 have Ga:(gH D M w).length=M.length:=by unfold gH du;rw[cG,CS]
 have It:aR (gH D M w) M.length:=fun r hr=>by unfold gH at hr;rw[<-AW];exact SM r hr
 obtain⟨m1,m2,m3⟩:=Sv It Ga Is CS h0 hs;have fT:∀a i,a<M.length->i<D.length->al (cn (du D M) M.length) a i=sN (fun l=>al M a l*al D i l) n:=fun a i ha hi=>by rw[yi ha (by unfold du;rw[cG];exact hi),AJ hi ha hM]
 have fR:∀a i,a<M.length->i<D.length->al (iz D M w) a i=al (cn (du D M) M.length) a i*w[i]?.getD 0:=fun a i ha hi=>Sq (by rw[AW];exact ha) (by omega);have fG:∀a b,a<M.length->b<M.length->al (gH D M w) a b=sN (fun i=>al (cn (du D M) M.length) b i*(al (cn (du D M) M.length) a i*w[i]?.getD 0)) D.length:=fun a b ha hb=>by unfold gH;rw[AJ (by omega) (by omega) NK];exact bg fun i hi=>by rw[fR a i ha hi]
 refine⟨m1,m2,fun a i=>al (cn (du D M) M.length) a i,fT,fun a i ha hi=>?_,fun v hv a ha=>Yel It Ga Is CS h0 hs (v:=v) (fun a ha=>?_) a ha⟩
 ·rw[<-fR a i ha hi,<-m3 a i ha hi];exact bg fun b hb=>by rw[fG a b ha hb]
 rw[<-hv a (by omega)];exact bg fun b hb=>by rw[fG a b (by omega) hb]
def Yod{H:List (List Rat)}(hD:aR D n)(hM:aR M n)(hw:w.length=D.length)(h0:0<M.length)(qD:bz D 7)(qM:bz M 7)(qw:∀q∈w,Qb 7 q)(hn:n<=4)(hS:D.length<=5)(hk:M.length<=4)(hs:nZ D M w=some H):bz H 1602:=by
 obtain⟨m1,m2,T,fT,fH,fU⟩:=Zf hM hw h0 hs;suffices h:∀b i,b<M.length->i<D.length->Qb 1602 (al H b i) from fun r hr q hq=>by obtain⟨b,hb,rfl⟩:=List.mem_iff_getElem.1 hr;obtain⟨i,hi,rfl⟩:=List.mem_iff_getElem.1 hq;have h1:=h b i (by omega) (by rw[m2 _ (List.getElem_mem hb)]at hi;exact hi);unfold al at h1;rw[bV hb,g_,bV hi,g_]at h1;exact h1
 intro b0 i0 ki Zg;have sys:∀z:Nat->Rat,z (M.length+n+D.length+n)= -1->(∀l,l<n->sN (fun a=>al M a l*z a) M.length+z (M.length+l)=0)->(∀i,i<D.length->sN (fun l=>al D i l*z (M.length+l)) n+z (M.length+n+i)=e1 i0 i)->(∀l,l<n->sN (fun i=>w[i]?.getD 0*al D i l*z (M.length+n+i)) D.length+z (M.length+n+D.length+l)=0)->∀a,a<M.length->sN (fun l=>al M a l*z (M.length+n+D.length+l)) n= -(sN (fun b=>sN (fun j=>T b j*(T a j*w[j]?.getD 0)) D.length*z b) M.length+T a i0*w[i0]?.getD 0):=by
  intro z _ h1 h2 h3 a ha;have v1:∀i,i<D.length->z (M.length+n+i)=e1 i0 i+sN (fun b=>T b i*z b) M.length:=fun i hi=>by
   have k1:=h2 i hi;have k2:sN (fun l=>al D i l*z (M.length+l)) n= -sN (fun b=>T b i*z b) M.length:=by
    rw[bg (g:=fun l=> -1*sN (fun a=>al D i l*(al M a l*z a)) M.length) fun l hl=>by
     have:=h1 l hl
     rw[fM]
     grind,fM,zh,bg (n:=M.length) (g:=fun b=>T b i*z b) fun b hb=>by
     rw[fT b i hb hi,<-CR]
     exact bg fun l _=>by grind];grind
   grind
  have v2:sN (fun l=>al M a l*z (M.length+n+D.length+l)) n= -sN (fun i=>w[i]?.getD 0*T a i*z (M.length+n+i)) D.length:=by
   rw[bg (g:=fun l=> -1*sN (fun i=>al M a l*(w[i]?.getD 0*al D i l*z (M.length+n+i))) D.length) fun l hl=>by
    have:=h3 l hl
    rw[fM]
    grind,fM,zh,bg (n:=D.length) (g:=fun i=>w[i]?.getD 0*T a i*z (M.length+n+i)) fun i hi=>by
    rw[fT a i ha hi,bg (g:=fun l=>w[i]?.getD 0*z (M.length+n+i)*(al M a l*al D i l)) fun l _=>by grind,fM]
    grind];grind
  rw[v2,bg (n:=D.length) (g:=fun i=>e1 i0 i*(w[i]?.getD 0*T a i)+sN (fun b=>w[i]?.getD 0*T a i*(T b i*z b)) M.length) fun i hi=>by
   rw[v1 i hi,fM]
   grind,zg,NT (f:=fun i=>w[i]?.getD 0*T a i) Zg,zh,bg (n:=M.length) (g:=fun b=>sN (fun j=>T b j*(T a j*w[j]?.getD 0)) D.length*z b) fun b _=>by
   rw[<-CR]
   exact bg fun i _=>by grind];grind
 obtain⟨Y,hY⟩:∃Y:Nat->Rat,∀b,Y b= -al H b i0:=⟨_,fun _=>rfl⟩;obtain⟨X,hX⟩:∃X:Nat->Rat,∀l,X l= -sN (fun a=>al M a l*Y a) M.length:=⟨_,fun _=>rfl⟩;obtain⟨Vv,hV⟩:∃Vv:Nat->Rat,∀i,Vv i=e1 i0 i-sN (fun l=>al D i l*X l) n:=⟨_,fun _=>rfl⟩;obtain⟨G,hG⟩:∃G:Nat->Rat,∀l,G l= -sN (fun i=>w[i]?.getD 0*al D i l*Vv i) D.length:=⟨_,fun _=>rfl⟩;obtain⟨z,hz⟩:∃z:Nat->Rat,∀j,z j=nG M.length n D.length Y X Vv G (-1) j:=⟨_,fun _=>rfl⟩;have zu:z (M.length+n+D.length+n)= -1:=by rw[hz,Ywv]
 have a1:∀l,l<n->sN (fun a=>al M a l*z a) M.length+z (M.length+l)=0:=fun l hl=>by rw[hz,Zd hl,hX,bg (g:=fun a=>al M a l*Y a) fun a ha=>by rw[hz,NS ha]];grind
 have a2:∀i,i<D.length->sN (fun l=>al D i l*z (M.length+l)) n+z (M.length+n+i)=e1 i0 i:=fun i hi=>by rw[hz (M.length+n+i),Ze hi,hV,bg (g:=fun l=>al D i l*X l) fun l hl=>by rw[hz,Zd hl]];grind
 have a3:∀l,l<n->sN (fun i=>w[i]?.getD 0*al D i l*z (M.length+n+i)) D.length+z (M.length+n+D.length+l)=0:=fun l hl=>by rw[hz (M.length+n+D.length+l),Yww hl,hG,bg (g:=fun i=>w[i]?.getD 0*al D i l*Vv i) fun i hi=>by rw[hz,Ze hi]];grind
 have a4:∀a,a<M.length->sN (fun l=>al M a l*z (M.length+n+D.length+l)) n=0:=fun a ha=>by rw[sys z zu a1 a2 a3 a ha,<-fH a i0 ha Zg,bg (g:=fun b=> -1*(sN (fun j=>T b j*(T a j*w[j]?.getD 0)) D.length*al H b i0)) fun b hb=>by rw[hz,NS hb,hY];grind,fM];grind
 obtain⟨d,d1,d2,d3⟩:=Yiu (Ylh (i0:=i0) hD hM qD qM qw hn hS hk) Yof (by decide) ((Ygi zu).2 ⟨a1,a2,a3,a4⟩) zu;have hB:(M.length+n+D.length+n+1)*(71+(M.length+n+D.length+n)+1)<=1602:=j_ (nC (show _<=18 by omega) (show _<=89 by omega)) (by decide);have h1:=d3 b0 (by omega) fun z' k1 k2=>by obtain⟨b1,b2,b3,b4⟩:=(Ygi k2).1 k1;have h2:=fU (fun b=>z' b+al H b i0) (fun a ha=>by have h3:=b4 a ha;rw[sys z' k2 b1 b2 b3 a ha,<-fH a i0 ha Zg]at h3;rw[bg (g:=fun b=>sN (fun j=>T b j*(T a j*w[j]?.getD 0)) D.length*z' b+sN (fun j=>T b j*(T a j*w[j]?.getD 0)) D.length*al H b i0) fun b _=>by grind,zg];grind) b0 ki;rw[hz,NS ki,hY];grind
 rw[hz,NS ki,hY]at h1;have h4:=(h1.mono hB).neg;exact cJ.qb d1 (d2.mono hB) (by rw[show d*al H b0 i0= -(d* -al H b0 i0) by grind];exact h4)
variable {D H:List (List Rat)} {n:Nat} {w:List Rat}
def Ygg(hD:aR D n)(h0:0<(bb D n).length)(hs:nZ D (bb D n) w=some H)(hl:H.length=(bb D n).length)(hc:aR H D.length):∀a,a<(bb D n).length->∃j,j<n/\∀i,i<D.length->al H a i=al (fe D w n) j i:=fun a ha=>by
 have I:=mE hD (n:=n)
 have hr:=p9 (n:=n) hD
 have yr:aR (cn H D.length) (bb D n).length:=by
  have:=@AL H D.length
  rwa [hl]at this
 have NM:(cn (bb D n) n).length=n:=kh
 have NL:(cn H D.length).length=D.length:=kh
 have hj:=I.lt a (by omega)
 refine⟨_,hj,fun i hi=>?_⟩
 unfold fe
 rw[ak (by omega),hs,g_,AJ (by omega) (by omega) yr,bg (g:=fun b=>e1 a b*al H b i) fun b hb=>by
  rw[yi hi (by omega),yi hj hb,KY hD (by omega) (by omega)]
  unfold e1
  rw[Rat.mul_comm],NT ha]
def Ycc{k:Nat}(hD:aR D n)(h0:0<(bb D n).length)(hs:nZ D (bb D n) w=some H)(hl:H.length=(bb D n).length)(hc:aR H D.length)(hR:bz (fe D w n) k)(hk:1<=k):bz H k:=fun r hr q hq=>by
 obtain⟨b,hb,rfl⟩:=List.mem_iff_getElem.1 hr
 obtain⟨i,hi,rfl⟩:=List.mem_iff_getElem.1 hq
 have jn:i<D.length:=by rw[hc _ (List.getElem_mem hb)]at hi;exact hi
 obtain⟨j,hj,he⟩:=Ygg hD h0 hs hl hc b (by omega)
 have h1:=he i jn
 have h2:Qb k (al (fe D w n) j i):=rO (hR.at (i:=j)) hk i
 rw[<-h1]at h2
 unfold al at h2
 rw[bV hb,g_,bV hi,g_]at h2
 exact h2
def Zxa{s:List Rat}{k:Nat}(hD:aR D n)(h0:0<(bb D n).length)(hs:nZ D (bb D n) w=some H)(hl:H.length=(bb D n).length)(hc:aR H D.length)(hx:∀q∈(fe D w n).map (fun r=>e_ r s),Qb k q)(hk:1<=k):∀q∈H.map (fun r=>e_ r s),Qb k q:=Zc (n:=(bb D n).length) (fun a ha=>by
 obtain⟨j,hj,he⟩:=Ygg hD h0 hs hl hc a ha
 have h2:Qb k (((fe D w n).map fun r=>e_ r s)[j]?.getD 0):=rO hx hk j
 rw[F3 NO (by rw[Gb];exact hj),bg (g:=fun i=>al H a i*s[i]?.getD 0) fun i hi=>by rw[he i hi]]at h2
 rw[F3 hc (by omega)]
 exact h2) (by rw[cG,hl])
variable {k:Nat}
set_option maxHeartbeats 16000000
def A.AZ:bW:=sr [bi 262 .lss 261 260] (.seq (cd 262 (.skip) (.exit 2)) (.seq (.block 3 (sr [mv 263 261,mv 25 263] (.fY [mv 264 24,mv 265 25,ge 266 (.bin .mul (.node []) false (kq 2) (tq 265)),bc 267 .sub 266 3,c1 268 20 267,ge 269 (.fO 38 1 1 [(.str [])] [(0,1,(tq 268))]),ge 270 (.append 1 16 38 [(.str [])] (tq 264) (tq 269)),mv 24 270]))) (.fY [bc 271 .add 261 1,mv 261 271])))
def A.A1:bW:=sr [bi 86 .lss 85 84] (.seq (cd 86 (.skip) (.exit 0)) (.seq (.block 1 (sr [ia 87 1 83 85,ld 88 87,mv 8 88] (sr [mv 89 8,ge 90 (.call (fq 8) [tq 89,.const (.int .i64 4),.const (.int .i64 2)]),ge 91 (.un .not (tq 90))] (cd 91 (sr [ge 92 (.call (fq 10) []),mv 6 92] (.ret)) (.skip))))) (.fY [bc 93 .add 85 1,mv 85 93])))
def A.A2:bW:=sr [mN 24] (.seq (sr [mv 259 2,ln 260 259,mc 261 0] (.block 2 (.loop A.AZ))) (sr [mv 273 2,mv 274 24,c2 275 18 273 274,mv 272 275,xt 276 272 0,xt 277 272 1,mv 26 276,mv 27 277] (.seq (sr [mv 278 27,ni 279 278 0,mv 280 279,mh 281 26 280,mh 282 0 280,gz 283 280 (.bG 1 (tq 282) (kq 0)),gz 284 280 (.load none (tq 283)),gz 285 280 (.len 1 (tq 284)),gz 286 280 (.call (fq 7) [tq 281,tq 285]),gz 287 280 (.bin .neq (.cL .int) true (tq 286) (kq 0)),pt 288 280 287] (cd 288 (sr [ge 6 (.m_ (.const (.bool false)))] (.ret)) (.skip))) (sr [mv 290 0,mv 291 26,c2 292 16 290 291,mv 289 292,xt 293 289 0,xt 294 289 1,mv 28 293,mv 29 294] (.seq (sr [mv 295 29,ni 296 295 0,mv 297 296,mh 298 28 297,mh 299 0 297,gz 300 297 (.len 1 (tq 299)),gz 301 297 (.call (fq 7) [tq 298,tq 300]),gz 302 297 (.bin .neq (.cL .int) true (tq 301) (kq 0)),pt 303 297 302,mv 304 303,mh 305 22 304,gz 306 304 (.len 1 (tq 305)),mh 307 2 304,gz 308 304 (.len 1 (tq 307)),gz 309 304 (.bin .neq (.cL .int) false (tq 306) (tq 308)),pt 310 304 309,mv 311 310,mh 312 22 311,mh 313 0 311,gz 314 311 (.len 1 (tq 313)),gz 315 311 (.call (fq 13) [tq 312,tq 314]),gz 316 311 (.bin .neq (.cL .int) true (tq 315) (kq 0)),pt 317 311 316] (cd 317 (sr [ge 6 (.m_ (.const (.bool false)))] (.ret)) (.skip))) (sr [mv 319 22,mv 320 28,c2 321 16 319 320,mv 318 321,xt 322 318 0,xt 323 318 1,mv 30 322,mv 31 323] (sr [mv 324 31,ei 325 324 0,mv 326 325,mg 327 30 326,mg 328 24 326,gy 329 326 (.call (fq 19) [tq 327,tq 328]),pf 330 326 329,mv 331 330,gy 332 331 (.call (fq 10) []),pf 333 331 332,mv 6 333] (.ret))))))))
def A.A3:bW:=sr [mv 245 0,fa 246 0 4,ld 247 246,mv 248 2,ge 249 (.call (fq 17) [tq 245,tq 247,tq 248]),mv 244 249,xt 250 244 0,xt 251 244 1,mv 22 250,mv 23 251] (.seq (sr [mv 252 23,ni 253 252 0] (cd 253 (sr [mv 254 23,ei 255 254 14,mv 256 255,gy 257 256 (.call (fq 10) []),pf 258 256 257,mv 6 258] (.ret)) (.skip)))
 A.A2)
def A.yv:bW:=.seq (sr [mv 187 9,ln 188 187,bc 189 .gtr 188 0] (cd 189 (sr [mv 191 0,fa 192 0 4,ld 193 192,mv 194 9,ge 195 (.call (fq 17) [tq 191,tq 193,tq 194]),mv 190 195,xt 196 190 0,xt 197 190 1,mv 16 196,mv 17 197] (.seq (sr [mv 198 17,ni 199 198 0,mv 200 199,mh 201 16 200,gz 202 200 (.len 1 (tq 201)),mh 203 9 200,gz 204 200 (.len 1 (tq 203)),gz 205 200 (.bin .neq (.cL .int) false (tq 202) (tq 204)),pt 206 200 205,mv 207 206,mh 208 16 207,mh 209 0 207,gz 210 207 (.len 1 (tq 209)),gz 211 207 (.call (fq 13) [tq 208,tq 210]),gz 212 207 (.bin .neq (.cL .int) true (tq 211) (kq 0)),pt 213 207 212] (cd 213 (sr [ge 6 (.m_ (.const (.bool false)))] (.ret)) (.skip))) (sr [mv 215 16,fa 216 1 4,ld 217 216,c2 218 16 215 217,mv 214 218,xt 219 214 0,xt 220 214 1,mv 18 219,mv 19 220] (.seq (sr [mv 221 19,ni 222 221 0,mv 223 222,mh 224 18 223,mh 225 9 223,gz 226 223 (.len 1 (tq 225)),gz 227 223 (.call (fq 7) [tq 224,tq 226]),gz 228 223 (.bin .neq (.cL .int) true (tq 227) (kq 0)),pt 229 223 228] (cd 229 (sr [ge 6 (.m_ (.const (.bool false)))] (.ret)) (.skip))) (sr [mv 231 9,mv 232 18,c2 233 18 231 232,mv 230 233,xt 234 230 0,xt 235 230 1,mv 20 234,mv 21 235] (sr [mv 236 21,ni 237 236 0,mv 238 237,mh 239 20 238,mh 240 14 238,gz 241 238 (.call (fq 19) [tq 239,tq 240]),gz 242 238 (.un .not (tq 241)),pt 243 238 242] (cd 243 (sr [ge 6 (.m_ (.const (.bool false)))] (.ret)) (.skip)))))))) (.skip)))
 A.A3
def A.A4:bW:=sr [ge 152 (.fO 23 1 0 [] []),mv 153 11,ge 154 (.append 1 24 23 [.aa] (tq 152) (tq 153)),mv 13 154] (sr [mv 155 13,ge 156 (.fO 38 1 0 [] []),mv 157 11,ge 158 (.bG 1 (tq 157) (kq 0)),ld 159 158,ge 160 (.append 1 16 38 [(.str [])] (tq 156) (tq 159)),ge 161 (.bG 1 (tq 155) (kq 0)),so 161 160] (.seq (.fN [mv 162 13,ge 163 (.bG 1 (tq 162) (kq 0)),ld 164 163,mv 165 13,ge 166 (.bG 1 (tq 165) (kq 0)),ld 167 166,ge 168 (.bG 1 (tq 167) (kq 0)),ld 169 168,ge 170 (.call (fq 15) [tq 169,(.const (.str [49,47,55]))]),ge 171 (.bG 1 (tq 164) (kq 0)),so 171 170] [0,1,3,0,8,24,56,120,248,511,1023]) (.seq (sr [mv 172 0,fa 173 0 4,ld 174 173,mv 175 13,ge 176 (.call (fq 14) [tq 172,tq 174,tq 175]),ni 177 176 21] (cd 177 (sr [ge 6 (.m_ (.const (.bool false)))] (.ret)) (.skip))) (sr [mv 179 11,fa 180 1 4,ld 181 180,c2 182 16 179 181,mv 178 182,xt 183 178 0,xt 184 178 1,mv 14 183,mv 15 184] (.seq (sr [mv 185 15,ni 186 185 0] (cd 186 (sr [ge 6 (.m_ (.const (.bool false)))] (.ret)) (.skip)))
 A.yv)))))
def A.A5:bW:=sr [mv 95 0,c1 96 11 95,mv 94 96,xt 97 94 0,xt 98 94 1,mv 9 97,mv 10 98] (sr [mv 100 0,fa 101 0 4,ld 102 101,c2 103 12 100 102,mv 99 103,xt 104 99 0,xt 105 99 1,mv 11 104,mv 12 105] (.seq (sr [mv 106 10,mv 107 12,bi 108 .add 106 107,ni 109 108 0,mv 110 109,mh 111 9 110,gz 112 110 (.len 1 (tq 111)),mh 113 0 110,gz 114 110 (.bG 1 (tq 113) (kq 0)),gz 115 110 (.load none (tq 114)),gz 116 110 (.len 1 (tq 115)),gz 117 110 (.bin .gtr (.node []) false (tq 112) (tq 116)),pt 118 110 117,mv 119 118,mh 120 9 119,mh 121 0 119,gz 122 119 (.bG 1 (tq 121) (kq 0)),gz 123 119 (.load none (tq 122)),gz 124 119 (.len 1 (tq 123)),gz 125 119 (.call (fq 13) [tq 120,tq 124]),gz 126 119 (.bin .neq (.cL .int) true (tq 125) (kq 0)),pt 127 119 126,mv 128 127,mh 129 11 128,gz 130 128 (.len 1 (tq 129)),mh 131 0 128,gz 132 128 (.bG 1 (tq 131) (kq 0)),gz 133 128 (.load none (tq 132)),gz 134 128 (.len 1 (tq 133)),gz 135 128 (.bin .neq (.cL .int) false (tq 130) (tq 134)),pt 136 128 135,mv 137 136,mh 138 11 137,mh 139 0 137,gz 140 137 (.len 1 (tq 139)),gz 141 137 (.call (fq 13) [tq 138,tq 140]),gz 142 137 (.bin .neq (.cL .int) true (tq 141) (kq 0)),pt 143 137 142,mv 144 143,mh 145 0 144,gz 146 144 (.jE 0 (tq 4)),gz 147 144 (.load none (tq 146)),mh 148 11 144,gz 149 144 (.call (fq 14) [tq 145,tq 147,tq 148]),gz 150 144 (.bin .neq (.cL .int) true (tq 149) (kq 0)),pt 151 144 150] (cd 151 (sr [ge 6 (.m_ (.const (.bool false)))] (.ret)) (.skip)))
 A.A4))
def A.b3:bW:=sr [bx 4 25 1,ge 6 (.m_ (.const (.bool false)))] (.seq (sr [mv 32 0,ge 33 (.call (fq 4) [tq 32,.const (.int .i64 5),.const (.int .i64 4),.const (.int .i64 2)]),ge 34 (.un .not (tq 33)),mv 35 34,gz 36 35 (.load (some 3) (tq 4)),gz 37 35 (.call (fq 5) [tq 36]),gz 38 35 (.un .not (tq 37)),pt 39 35 38,mv 40 39,gz 41 40 (.jE 0 (tq 4)),gz 42 40 (.load none (tq 41)),mh 43 0 40,gz 44 40 (.len 1 (tq 43)),gz 45 40 (.call (fq 6) [tq 42,tq 44,.const (.int .i64 1)]),gz 46 40 (.bin .neq (.cL .int) true (tq 45) (kq 0)),pt 47 40 46,mv 48 47,gz 49 48 (.jE 1 (tq 4)),gz 50 48 (.load none (tq 49)),mh 51 0 48,gz 52 48 (.len 1 (tq 51)),gz 53 48 (.call (fq 7) [tq 50,tq 52]),gz 54 48 (.bin .neq (.cL .int) true (tq 53) (kq 0)),pt 55 48 54,mv 56 55,gz 57 56 (.jE 0 (tq 4)),gz 58 56 (.load none (tq 57)),gz 59 56 (.call (fq 8) [tq 58,.const (.int .i64 5),.const (.int .i64 2)]),gz 60 56 (.un .not (tq 59)),pt 61 56 60,mv 62 61,gz 63 62 (.jE 1 (tq 4)),gz 64 62 (.load none (tq 63)),gz 65 62 (.call (fq 8) [tq 64,.const (.int .i64 5),.const (.int .i64 2)]),gz 66 62 (.un .not (tq 65)),pt 67 62 66,mv 68 67,mh 69 2 68,gz 70 68 (.len 1 (tq 69)),gz 71 68 (.bin .gtr (.node []) false (tq 70) (kq 4)),pt 72 68 71,mv 73 72,mh 74 2 73,mh 75 0 73,gz 76 73 (.bG 1 (tq 75) (kq 0)),gz 77 73 (.load none (tq 76)),gz 78 73 (.len 1 (tq 77)),gz 79 73 (.call (fq 9) [tq 74,tq 78]),gz 80 73 (.bin .neq (.cL .int) true (tq 79) (kq 0)),pt 81 73 80] (cd 81 (sr [ge 82 (.call (fq 10) []),mv 6 82] (.ret)) (.skip))) (.seq (sr [mv 83 2,ln 84 83,mc 85 0] (.block 0 (.loop A.A1)))
 A.A5))
def A.c3:A.F 3=some ⟨334,[.tmp 6],A.b3⟩:=by kernel_rfl
def A.k3:=@A.kk 3 _ _ _ A.c3 rfl
noncomputable def A.b20:=A.q Tryz.f20
def A.k20:=@A.kk 20 6 [.tmp 2] A.b20 (by kernel_rfl) rfl
def Yjk{z:Int}:aP (z:Rat)=aK z:=by unfold aP;simp
def Yl7{z:Int}{h:T O}{N:Nat}(hz:z.natAbs<=9):Fn A.C 20 [.int .i64 z] h N (fun u _ _=>u=.str (aP (z:Rat))):=by intro w;rw[aN,A.k20 (by simp)];simp(disch:=first|(simp;done)|omega|rfl) [-getElem?_pos,A.b20];refine av (Ztw (z:=z) (by omega) (by omega)) ?_;rintro x h1 n1 k1 hx;simp(disch:=first|(simp;done)|omega|rfl) [-getElem?_pos,];refine av (Iy hx (by have:=D9 (n:=z.natAbs) (k:=4) (by omega);omega)) ?_;rintro _ h2 n2 k2 rfl;simp(disch:=first|(simp;done)|omega|rfl) [-getElem?_pos,ax,Yjk];exact k1.trans k2
structure Ln (b:List (List aD)) (n:Nat):Prop where
 k1:0<b.length
 k4:b.length<=4
 rc:aR (bC b) n
 qb:bz (bC b) 7
 ro:∀r∈b,nF r
 sh:∀r∈b,dJ 6 r=true
 ck:q9 b n=0
def zv(k:Nat):List Rat:=(List.range k).map fun i:Nat=>((2*(i:Int)-3:Int):Rat)
def SV:(zv k).length=k:=by simp[zv]
def Ym5:zv (k+1)=zv k++[((2*(k:Int)-3:Int):Rat)]:=by unfold zv;rw[List.range_succ,List.map_append];rfl
def Ywr(hk:k<=4):∀q∈zv k,Qb 7 q:=fun q hq=>by
 obtain⟨i,hi,rfl⟩:=bF.1 hq
 have hi:=gm.1 hi
 refine⟨?_,show 1<2^7 by decide⟩
 show (2*(i:Int)-3).natAbs<2^7
 have:2^7=128:=by decide
 omega
def Ybt{i j:Nat}{l:List Nat}:j∈wG i l↔j=i\/j∈l:=by
 unfold wG;split
 ·rename_i h;constructor
  ·exact .inr
  rintro(rfl|h2)
  ·simpa using h
  exact h2
 exact iW
def Lo{n i:Nat}:∀{w:List Nat},i∈ay n w↔i∈w/\i<n
 |[]=>by simp[ay]
 |j::w=>by
  unfold ay
  split
  ·rw[Ybt,Lo (w:=w),iW]
   constructor
   ·rintro(rfl|⟨a,b⟩)
    ·exact⟨.inl rfl,by assumption⟩
    ·exact⟨.inr a,b⟩
   ·rintro⟨rfl|a,b⟩
    ·exact .inl rfl
    ·exact .inr ⟨a,b⟩
  ·rw[Lo (w:=w),iW]
   constructor
   ·rintro⟨a,b⟩
    exact⟨.inr a,b⟩
   ·rintro⟨rfl|a,b⟩
    ·exact absurd b (by assumption)
    ·exact⟨a,b⟩
def Zwv{n N:Nat}(hn:n<=N){w u:List Nat}(h:ay N w=ay N u)(hu:ay n u=[]):ay n w=[]:=by apply List.eq_nil_iff_forall_not_mem.2;intro i hi;obtain⟨h1,h2⟩:=Lo.1 hi;have h3:i∈ay N w:=Lo.2 ⟨h1,by omega⟩;rw[h]at h3;have h4:=Lo.2 ⟨(Lo.1 h3).1,h2⟩;rw[hu]at h4;exact List.not_mem_nil h4
def Ynf{nB n0 n1:Nat}{B H:T O}{W:List Nat}{vd vm vH:V}{m ms:List (List aD)}{ws ss xs os:List aD}{Hm:List (List Rat)}{r0:T V}(hI:AX m ws ss xs os)(hM:Ln ms (ba m))(Ea:nB<=n0)(hd:dq B n0 vd m)(hm:dq B n0 vm ms)(hP:ik B n0)(hW:ay nB W=[])(hK:ab B n0 H n1)(hH:mX H n1 vH Hm)(hs:nZ (bC m) (bC ms) (cv ws)=some Hm)(a0:r0.get 0=some vd)(a2:r0.get 2=some vm)(a22:r0.get 22=some vH):
  Code A.C none A.A2 ⟨r0,334,[]⟩ ⟨H,n1,W⟩ (fun e fr st=>e=.ret/\∃r,fr=⟨r,334,[]⟩/\r.get 6=some (.bool true)/\ay nB st.w=[]/\ab B n0 st.h st.n):=by
 rw[bu];have SW:=hK.le;have kp:=hI.n1;have n4:=hI.n4;have s1:=hI.s1;have s5:=hI.s5;have k1:=hM.k1;have k4:=hM.k4;have lD:(bC m).length=m.length:=vu;have lM:(bC ms).length=ms.length:=vu;have mI:(cv ws).length=(bC m).length:=by rw[lD];simp[cv,hI.wl]
 have lm:=hm.len;obtain⟨Hl,Hc,_⟩:=Zf hM.rc mI (by omega) hs;have qH:=Yod hI.rc hM.rc mI (by omega) hI.qb hM.qb hI.wq n4 (by omega) (by omega) hs;have Zh:=Ylf hI.rc hM.rc mI (by omega) (SV.trans lM.symm) hs;have Zi:=Ywr k4;simp(disch:=first|(simp;done)|omega|rfl) [-getElem?_pos,A.A2,a0,a2,a22,lm];refine cm [(24,25),(261,271)] (fun e r st=>e=.exit 2/\ay nB st.w=[]/\ab H n1 st.h st.n/\∃x,r.get 24=some x/\Tx st.h st.n x (zv ms.length)) (fun i r st=>ay nB st.w=[]/\ab H n1 st.h st.n/\∃t x,t+i=ms.length/\r.get 261=some (.int .i64 (t:Nat))/\r.get 24=some x/\Own 1 38 n1 st.h st.n x ((tx (zv t)).map fun y=>[y])) ms.length ?_ ?_ ?_
 ·exact⟨hW,ab.refl,0,.aa,by omega,by simp,by simp,by simpa[zv,tx,strs]using Own.nil⟩
 ·rintro i r ⟨H1,n1x,W1⟩ hr hf ⟨A6,uz,t,x,ht,Iz,wH,ho⟩;simp only at A6 uz ho;rw[bu];have yw:=uz.le;cases i with
  |zero=>
   obtain rfl:t=ms.length:=by omega
   simp(disch:=first|(simp;done)|omega|rfl) [-getElem?_pos,A.AZ,hr,hf,Iz,wH,A6,uz];exact(Yu7 ho).1
  |succ i=>
   have aC:t<ms.length:=by omega
   have cg:(t:Int)<(ms.length:Int):=by omega
   simp(disch:=first|(simp;done)|omega|rfl) [-getElem?_pos,A.AZ,hr,hf,Iz,wH,a0,a2,a22,aC,cg];refine av (Yl7 (z:=2*(t:Int)-3) (by omega)) ?_;rintro _ H3 n3 k3 rfl;have wc:=k3.le;obtain⟨s,iY⟩:∃s,aP ((2*(t:Int)-3:Int):Rat)=s:=⟨_,rfl⟩;rw[iY];have kN:ab H3 n3 (H3.set n3 (.cells [.str s] 38 true)) (n3+1):=ab.refl.new _;obtain⟨v',h',w',f1,f2,f3,_,f5⟩:=A7 (x:=[.str s]) (u:=.slice n3 0 1 (some 1) 1) (bytes:=16) (w:=W1) ((ho.ad k3).ad kN) (by omega) (by decide) rfl (by simp[gb,St.row,aL]) (by simp[Eb,SV];omega);have e7:((tx (zv t)).map fun y=>[y])++[[.str s]]=(tx (zv (t+1))).map fun y=>[y]:=by rw[Ym5,<-iY];unfold tx strs;rw[List.map_append,List.map_append,List.map_append];rfl
   rw[e7]at f5;simp(disch:=first|(simp;done)|omega|rfl) [-getElem?_pos,hr,hf,Iz,wH,ag,f1];exact⟨i,by omega,Zwv (by omega) f2 A6,((uz.trans k3).trans kN).then f3,t+1,by omega,by simp,f5⟩
 rintro e r ⟨H1,n1x,W1⟩ hr ⟨rfl,A6,uz,x,wH,hx⟩;simp only at A6 uz hx;have j1:=hK.trans uz;have yw:=uz.le;have IB:mX B n0 vm (bC ms):=hm.rat hM.ro;simp(disch:=first|(simp;done)|omega|rfl) [-getElem?_pos,hr,wH,a0,a2,a22];refine av (Zvi (c:=ba m) (IB.ad j1) hx (hP.ad j1) (by omega) (by omega) kp (by omega) hM.rc (hM.qb.mono (by decide)) (fun q hq=>(Zi q hq).mono (by decide)) (by rw[SV,lM])) ?_;rintro _ H2 n2 k2 IC;obtain⟨Cm,eC⟩:∃l,(cn (bC ms) (ba m)).map (fun r=>e_ r (zv ms.length))=l:=⟨_,rfl⟩;rw[eC]at IC Zh;have lC:Cm.length=ba m:=by rw[<-eC];simp[cn]
 have qC:∀q∈Cm,Qb 61 q:=fun q hq=>by rw[<-eC]at hq;obtain⟨r,hr,rfl⟩:=bF.1 hq;obtain⟨b1,b2⟩:=CH hM.qb (by decide) r hr;exact Nt (n:=4) b2 Zi (by decide) (by decide) (by omega)
 have SX:∀q∈Cm,Qb 1800 q:=fun q hq=>(qC q hq).mono (by decide);obtain⟨vC,rfl,tC⟩:=IC.got rfl SX;have j2:=j1.trans k2;have me:=j2.le;have ld:=hd.len;have Ec:(0:Int)<(m.length:Int):=by omega
 obtain⟨l0,cH,h0⟩:∃l0,m[0]?=some l0/\ba m=l0.length:=by obtain⟨l0,cH⟩:=bj (l:=m) (k:=0) (by omega);exact⟨l0,cH,by unfold ba;rw[cH];rfl⟩
 obtain⟨i,o,cc,e,rw,u0,p1,p2,p3,p4,p5⟩:=(hd.ad j2).at cH;have p6:=p5.len;rw[m7,<-h0]at p6;rw[gE]at p4;simp(disch:=first|(simp;done)|omega|rfl) [-getElem?_pos,hr,wH,a0,a2,a22,bh,ld,s1,Ec,p1,p3,p4,p6];refine av (Lp (n:=ba m) (l:=Cm.map aP) tC (by rw[cG];omega) (SY SX)) ?_;rintro _ H3 n3 k3 rfl;have Lq:dj (Cm.map aP) (ba m)=0:=by rw[<-lC];exact Lr SX
 rw[Lq];have j3:=j2.trans k3;simp(disch:=first|(simp;done)|omega|rfl) [-getElem?_pos,hr,wH,a0,a2,a22,bh];refine av (hI.app (hd.ad j3) (tC.ad k3) (hP.ad j3) SX lC) ?_;rintro _ H4 n4' k4' NU;obtain⟨SZ,eS⟩:∃l,(bC m).map (fun r=>e_ r Cm)=l:=⟨_,rfl⟩;rw[eS]at NU;rw[eS]at Zh;have lS:SZ.length=m.length:=by rw[<-eS,cG,lD]
 have qS:∀q∈SZ,Qb 1800 q:=fun q hq=>by rw[<-eS]at hq;obtain⟨r,hr,rfl⟩:=bF.1 hq;exact(Nt (n:=4) (hI.qb r hr) qC (by decide) (by decide) (by rw[hI.rc r hr];exact n4)).mono (by decide)
 obtain⟨vS,rfl,tS⟩:=NU.got rfl qS;have j4:=j3.trans k4';have kH4:=((uz.trans k2).trans k3).trans k4';simp(disch:=first|(simp;done)|omega|rfl) [-getElem?_pos,hr,wH,a0,a2,a22,bh,ld];refine av (Lp (n:=m.length) (l:=SZ.map aP) tS (by rw[cG];omega) (SY qS)) ?_;rintro _ H5 n5 k5 rfl;have Zj:dj (SZ.map aP) m.length=0:=by rw[<-lS];exact Lr qS
 rw[Zj];have Zk:=kH4.trans k5;have lH:=(hH.ad Zk).len;rw[Hl,lM]at lH;simp(disch:=first|(simp;done)|omega|rfl) [-getElem?_pos,hr,wH,a0,a2,a22,bh,ld,lH,lm];refine av (S0 (n:=m.length) (hH.ad Zk).Gd (by rw[cG];omega) (S6 (qH.mono (by decide)) Hc (by omega))) ?_;rintro _ H6 n6 k6 rfl;rw[<-lD,Ge (qH.mono (by decide)) Hc];have kH6:=Zk.trans k6;have j6:=(j4.trans k5).trans k6;simp(disch:=first|(simp;done)|omega|rfl) [-getElem?_pos,hr,wH,a0,a2,a22,bh];refine av (SP (c:=m.length) (hH.ad kH6) ((tS.ad k5).ad k6) (hP.ad j6) (by omega) (by omega) s1 (by omega) (by rw[<-lD];exact Hc) (qH.mono (by decide)) qS lS) ?_;rintro _ H7 n7 k7 hT7;rw[Zh]at hT7;obtain⟨vK,rfl,tK⟩:=hT7.got rfl (fun q hq=>(Zi q hq).mono (by decide));have j7:=j6.trans k7;have A8:=((((((hx.ad k2).ad k3).ad k4').ad k5).ad k6).ad k7);have Gf:=fun w=>Yei (w:=w) (l:=(zv ms.length).map aP) tK A8 (by rw[cG,SV];omega);have Zl:=fun w=>CU (w:=w) (hP.ad j7);simp(disch:=first|(simp;done)|omega|rfl) [-getElem?_pos,hr,wH,a0,a2,a22,bh,Gf,Zl,A6,cQ.cU];exact j7
end Go.Mx
