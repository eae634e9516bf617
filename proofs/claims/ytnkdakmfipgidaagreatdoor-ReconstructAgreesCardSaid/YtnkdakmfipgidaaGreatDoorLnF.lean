/-The normal equations of a least-squares -/
import Derived.Test.YtnkdakmfipgidaaGreatDoorSvI
set_option linter.all false
set_option maxHeartbeats 4000000
namespace Go.Mx
open Go Go.Proofs
variable {n:Nat}
set_option maxRecDepth 1000000
def AV{f:Nat->Rat}{g:Nat->Nat->Rat}{m:Nat}:sN (fun i=>f i*sN (g i) m) n=sN (fun j=>sN (fun i=>f i*g i j) n) m:=by rw[bg (g:=fun i=>sN (fun j=>f i*g i j) m) fun i _=>fM.symm,zh]
def CR{f:Nat->Rat}{c:Rat}:sN (fun i=>f i*c) n=sN f n*c:=by rw[bg (g:=fun i=>c*f i) fun i _=>Rat.mul_comm _ _,fM,Rat.mul_comm]
def SM{a C:List (List Rat)}:aR (du a C) C.length:=fun r hr=>by
 unfold du at hr
 obtain⟨t,_,rfl⟩:=bF.1 hr
 rw[cG]
def Ykz{r S:Nat}{P D T G H:Nat->Nat->Rat}{w s y x:Nat->Rat}(hT:∀a i,a<r->i<S->T a i=sN (fun l=>P a l*D i l) n)(hG:∀a b,a<r->b<r->G a b=sN (fun i=>T b i*(T a i*w i)) S)(hH:∀a i,a<r->i<S->sN (fun b=>G a b*H b i) r=T a i*w i)(hy:∀b,b<r->y b=sN (fun i=>H b i*s i) S)(hx:∀l,l<n->x l=sN (fun b=>P b l*y b) r){a:Nat}(ha:a<r):sN (fun l=>P a l*sN (fun i=>w i*(D i l*(s i-sN (fun l=>D i l*x l) n))) S) n=0:=by
 have h1:∀i,i<S->sN (fun b=>T b i*y b) r=sN (fun l=>D i l*x l) n:=fun i hi=>by rw[bg (g:=fun b=>y b*sN (fun l=>P b l*D i l) n) fun b hb=>by rw[hT b i hb hi,Rat.mul_comm],AV];apply bg;intro l hl;rw[hx l hl,<-fM];exact bg fun b _=>by grind
 have h2:sN (fun b=>G a b*y b) r=sN (fun i=>T a i*w i*s i) S:=by rw[bg (g:=fun b=>G a b*sN (fun i=>H b i*s i) S) fun b hb=>by rw[hy b hb],AV];apply bg;intro i hi;rw[<-hH a i ha hi,<-CR];exact bg fun b _=>by grind
 have h3:sN (fun b=>G a b*y b) r=sN (fun i=>T a i*w i*sN (fun l=>D i l*x l) n) S:=by rw[bg (g:=fun b=>y b*sN (fun i=>T b i*(T a i*w i)) S) fun b hb=>by rw[hG a b ha hb,Rat.mul_comm],AV];apply bg;intro i hi;rw[<-h1 i hi,<-fM];exact bg fun b _=>by grind
 rw[AV];rw[bg (g:=fun i=>T a i*w i*s i-T a i*w i*sN (fun l=>D i l*x l) n) fun i hi=>by rw[hT a i ha hi];generalize sN (fun l=>D i l*x l) n=z;rw[bg (g:=fun l=>P a l*D i l*(w i*(s i-z))) fun l _=>by grind,CR];grind,K6,<-h2,<-h3];grind
def uC(D:List (List Rat))(w s:List Rat)(x:Nat->Rat)(n l:Nat):Rat:=sN (fun i=>w[i]?.getD 0*(al D i l*(s[i]?.getD 0-sN (fun l=>al D i l*x l) n))) D.length
def Zyy{D:List (List Rat)}{w s:List Rat}(hD:aR D n)(km:0<n)(hw:w.length=D.length)(hp:∀q∈w,0<q)(hs:s.length=D.length)(h0:0<(bb D n).length):∃x y:Nat->Rat,(∀j,j<n->((fe D w n).map fun r=>e_ r s)[j]?.getD 0=x j)/\(∀j,j<n->x j=sN (fun a=>al (bb D n) a j*y a) (bb D n).length)/\∀k,k<n->uC D w s x n k=0:=by
 obtain⟨J,_,hJ⟩:=SN hD hw hp h0;obtain⟨H,hH⟩:∃H,du J (cn (iz D (bb D n) w) D.length)=H:=⟨_,rfl⟩;rw[hH]at hJ;have hPc:aR (bb D n) n:=CI hD;obtain⟨P,eP⟩:∃P,bb D n=P:=⟨_,rfl⟩;have Y4:∀g,ew P n g->ew (yn D n) n g->∀j,j<n->g j=0:=fun g=>by rw[<-eP];exact Yn5 hD
 have hkp:∀a,a<(yn D n).length->ew D n fun l=>al (yn D n) a l:=fun a ha=>Zzu hD ha;unfold fe;rw[ak (by omega),hJ,g_];rw[eP]at hJ hPc h0 ⊢;have AW:(cn (du D P) P.length).length=P.length:=kh;have CS:(iz D P w).length=P.length:=by unfold iz;rw[cG,AW]
 have NK:aR (cn (du D P) P.length) D.length:=by have:=@AL (du D P) P.length;rwa [show (du D P).length=D.length from cG ..]at this
 have Is:aR (iz D P w) D.length:=fun r hr=>by unfold iz at hr;obtain⟨t,ht,rfl⟩:=bF.1 hr;rw[show (yk t w).length=w.length by simp[yk],hw]
 have Ga:(gH D P w).length=P.length:=by unfold gH du;rw[cG,CS]
 have It:aR (gH D P w) P.length:=fun r hr=>by rw[<-AW];exact SM r hr
 obtain⟨m1,m2,m3⟩:=Sv It Ga Is CS h0 hJ;have fT:∀a i,a<P.length->i<D.length->al (cn (du D P) P.length) a i=sN (fun l=>al P a l*al D i l) n:=fun a i ha hi=>by rw[yi ha (by unfold du;rw[cG];exact hi),AJ hi ha hPc]
 have fR:∀a i,a<P.length->i<D.length->al (iz D P w) a i=al (cn (du D P) P.length) a i*w[i]?.getD 0:=fun a i ha hi=>Sq (by rw[AW];exact ha) (by omega);have fG:∀a b,a<P.length->b<P.length->al (gH D P w) a b=sN (fun i=>al (cn (du D P) P.length) b i*(al (cn (du D P) P.length) a i*w[i]?.getD 0)) D.length:=fun a b ha hb=>by unfold gH;rw[AJ (by omega) (by omega) NK];exact bg fun i hi=>by rw[fR a i ha hi]
 have NL:(cn H D.length).length=D.length:=kh;have NM:(cn P n).length=n:=kh;obtain⟨y,hy⟩:∃y:Nat->Rat,∀b,y b=sN (fun i=>al H b i*s[i]?.getD 0) D.length:=⟨_,fun _=>rfl⟩;obtain⟨x,hx⟩:∃x:Nat->Rat,∀j,x j=sN (fun a=>al P a j*y a) P.length:=⟨_,fun _=>rfl⟩;have key:=fun a (ha:a<P.length)=>Ykz (s:=fun i=>s[i]?.getD 0) (w:=fun i=>w[i]?.getD 0) (H:=al H) fT fG (fun a i ha hi=>by rw[m3 a i ha hi,fR a i ha hi]) (fun b _=>hy b) (fun l _=>hx l) ha;refine⟨x,y,fun j hj=>?_,fun j _=>hx j,fun k hk=>?_⟩
 ·have yr:aR (cn H D.length) P.length:=by have:=@AL H D.length;rwa [m1]at this
  have SO:aR (du (cn P n) (cn H D.length)) D.length:=fun r hr=>by unfold du at hr;obtain⟨t,_,rfl⟩:=bF.1 hr;rw[cG,NL]
  have e:sN (fun a=>al P a j*y a) P.length=sN (fun i=>sN (fun a=>al P a j*(al H a i*s[i]?.getD 0)) P.length) D.length:=by rw[bg (g:=fun a=>al P a j*sN (fun i=>al H a i*s[i]?.getD 0) D.length) fun a _=>by rw[hy],AV]
  rw[F3 SO (by unfold du;rw[cG,NM];exact hj),hx,e];apply bg;intro i hi;rw[AJ (by omega) (by omega) yr,<-CR];apply bg;intro b hb;rw[yi hi (by omega),yi hj hb];grind
 refine Y4 (fun l=>uC D w s x n l) (fun a ha=>key a ha) (fun a ha=>?_) k hk;show sN (fun l=>al (yn D n) a l*uC D w s x n l) n=0;unfold uC;rw[AV];apply pj;intro i hi;have h1:=hkp a ha i hi;simp only at h1;rw[bg (g:=fun l=>al D i l*al (yn D n) a l*(w[i]?.getD 0*(s[i]?.getD 0-sN (fun l=>al D i l*x l) n))) fun l _=>by grind,CR,h1,Rat.zero_mul]
variable {D:List (List Rat)} {n:Nat} {s w:List Rat}
def ko(D:List (List Rat))(x:Nat->Rat)(n i:Nat):Rat:=sN (fun l=>al D i l*x l) n
def Yq3{x o:Nat->Rat}{i:Nat}:ko D (fun l=>o l-x l) n i=ko D o n i-ko D x n i:=by unfold ko;rw[<-K6];exact bg fun l _=>by grind
def Iu(D:List (List Rat))(w s:List Rat)(x:Nat->Rat)(n:Nat):Rat:=sN (fun i=>w[i]?.getD 0*((s[i]?.getD 0-ko D x n i)*(s[i]?.getD 0-ko D x n i))) D.length
def Yx1{x g:Nat->Rat}(h:∀k,k<n->uC D w s x n k=0):sN (fun i=>w[i]?.getD 0*(s[i]?.getD 0-ko D x n i)*ko D g n i) D.length=0:=by unfold ko;rw[AV];apply pj;intro l hl;have h1:=h l hl;unfold uC at h1;rw[bg (g:=fun i=>w[i]?.getD 0*(al D i l*(s[i]?.getD 0-sN (fun l=>al D i l*x l) n))*g l) fun i _=>by grind,CR,h1,Rat.zero_mul]
def Zvg{x o:Nat->Rat}(h:∀k,k<n->uC D w s x n k=0):Iu D w s o n=Iu D w s x n+sN (fun i=>w[i]?.getD 0*(ko D (fun l=>o l-x l) n i*ko D (fun l=>o l-x l) n i)) D.length:=by
 have h1:=Yx1 (g:=fun l=>o l-x l) h;have h2:Iu D w s o n=Iu D w s x n+sN (fun i=>w[i]?.getD 0*(ko D (fun l=>o l-x l) n i*ko D (fun l=>o l-x l) n i)) D.length-2*sN (fun i=>w[i]?.getD 0*(s[i]?.getD 0-ko D x n i)*ko D (fun l=>o l-x l) n i) D.length:=by unfold Iu;rw[<-zg,<-fM,<-K6];apply bg;intro i _;rw[Yq3];grind
 rw[h2,h1];grind
def Ynp{i:Nat}(hp:∀q∈w,0<q)(hi:i<w.length):0<w[i]?.getD 0:=by rw[bV hi];exact hp _ (List.getElem_mem _)
def Y5{e:Nat->Rat}(hw:w.length=D.length)(hp:∀q∈w,0<q):∀i,i<D.length->0<=w[i]?.getD 0*(ko D e n i*ko D e n i):=fun i hi=>Rat.mul_nonneg (Rat.le_of_lt (Ynp hp (by omega))) Sr
def Yxn{e:Nat->Rat}(hw:w.length=D.length)(hp:∀q∈w,0<q)(h:sN (fun i=>w[i]?.getD 0*(ko D e n i*ko D e n i)) D.length=0):ew D n e:=fun i hi=>by
 have h1:=Nk (Y5 hw hp) h i hi
 have h2:=Ynp hp (i:=i) (by omega)
 rcases Rat.mul_eq_zero.1 h1 with h3|h3
 ·rw[h3]at h2
  exact absurd h2 (Rat.lt_irrefl)
 ·exact Ss h3
def Ysw{x:Nat->Rat}(o:Nat->Rat)(hw:w.length=D.length)(hp:∀q∈w,0<q)(h:∀k,k<n->uC D w s x n k=0):Iu D w s x n<=Iu D w s o n:=by rw[Zvg h (o:=o)];have:=Si (Y5 (e:=fun l=>o l-x l) (n:=n) hw hp);grind
def Ykd{x y e:Nat->Rat}(hD:aR D n)(hx:∀j,j<n->x j=sN (fun a=>al (bb D n) a j*y a) (bb D n).length)(he:ew D n e):sN (fun l=>e l*x l) n=0:=by have h1:=(zY hD).2 he;rw[bg (g:=fun l=>e l*sN (fun a=>al (bb D n) a l*y a) (bb D n).length) fun l hl=>by rw[hx l hl],YA (b:=fun _=>0) fun t ht=>h1 t ht];exact pj fun a _=>Rat.zero_mul _
def Yiu{A:List (List Rat)}{u R:Nat}(hA:Ab A (u+1) R)(hc:aR A (u+1))(hR:1<=R){z0:Nat->Rat}(h0:ew A (u+1) z0)(h0u:z0 u= -1):∃d:Rat,d≠0/\cJ ((u+1)*(R+u+1)) d/\∀p,p<u->(∀z,ew A (u+1) z->z u= -1->z p=z0 p)->cJ ((u+1)*(R+u+1)) (d*z0 p):=by
 obtain⟨Bs,s,hC⟩:=Nx hA hc (n:=u+1) (aO _);have I:=mE hc (n:=u+1);obtain⟨h1,h2⟩:=hC.done I (aO _) hR;have aW:=hC.ne;have hl:=p9 (n:=u+1) hc;have Y6:u∉(aF A (u+1)).2.2:=fun hm=>by
  obtain⟨i,hi,ei,_⟩:=KZ hc hm;have h3:=(zY hc).2 h0 i (by rw[hl];exact hi);rw[Nl hc hi,ei,h0u,pj]at h3
  ·rw[Rat.add_zero]at h3;exact absurd h3 (by decide)
  intro j hj;split
  ·rfl
  rename_i hjp;by_cases hju:j=u
  ·rw[hju]at hjp;exact absurd hm hjp
  rw[KX hi,I.lead i j hi (by rw[ei];omega),Rat.zero_mul]
 have Y7:(aF A (u+1)).2.1<=u:=by
  have hf:=HZ (ps:=(aF A (u+1)).2.2) (n:=u+1) (fun i hi=>I.lt i (by rw[<-I.len];exact hi)) (fun i j h1 h2=>I.uy i j h1 (by rw[<-I.len];exact h2));have hm:u∈jJ (aF A (u+1)).2.2 (u+1):=by simp[jJ,Y6]
  have:=List.length_pos_of_mem hm;rw[I.len]at hf;omega
 have hB:((aF A (u+1)).2.1+1)*(R+(aF A (u+1)).2.1+1)<=(u+1)*(R+u+1):=nC (by omega) (by omega);have YX:(aF A (u+1)).2.1*(R+(aF A (u+1)).2.1+1)+1<=((aF A (u+1)).2.1+1)*(R+(aF A (u+1)).2.1+1):=by rw[ji];omega
 refine⟨_,aW,h1.mono (j_ YX hB),fun p hp hu=>?_⟩;have NN:p∈(aF A (u+1)).2.2:=Classical.byContradiction fun Iv=>by
  have hk:=FX hc (k:=p) (by omega) Iv;have h3:=hu (fun j=>z0 j+gw A (u+1) p j) (fun i hi=>by
   rw[bg (g:=fun j=>al A i j*z0 j+al A i j*gw A (u+1) p j) fun j _=>by grind,zg,h0 i hi,hk i hi]
   grind) (by
   show z0 u+gw A (u+1) p u= -1
   unfold gw
   rw[ak (by omega),ak Y6,h0u]
   grind);simp only[gw,if_true]at h3;have h4:(1:Rat)=0:=by grind
  exact absurd h4 (by decide)
 obtain⟨i,hi,_,ex⟩:=KZ hc NN;have hk:=FX hc (k:=u) (by omega) Y6;have h3:=hu (fun j=> -1*gw A (u+1) u j) (fun i hi=>by rw[bg (g:=fun j=> -1*(al A i j*gw A (u+1) u j)) fun j _=>by grind,fM,hk i hi];grind) (by simp[gw]);rw[<-h3];unfold gw;rw[ak (by omega),ar NN,ex,KX hi];have h4:=(h2 i u hi (by omega)).mono hB;rw[show (-1:Rat)* -al (aF A (u+1)).1 i u=al (aF A (u+1)).1 i u by grind];exact h4
variable {n:Nat}
def m8(u:Nat)(f:Nat->Rat):List Rat:=(List.range u).map f
def Ye5{u j:Nat}{f:Nat->Rat}(h:j<u):(m8 u f)[j]?.getD 0=f j:=by simp[m8,h]
def Zyv{m:List (List Rat)}{c R:Nat}(hc:aR m c)(h:∀r∈m,∃s:Rat,s≠0/\cJ R s/\∀q∈r,cJ R (s*q)):Ab m c R:=fun i hi=>by
 obtain⟨s,h1,h2,h3⟩:=h _ (List.getElem_mem hi)
 refine⟨s,h1,h2,fun l hl=>?_⟩
 unfold al
 rw[bV hi,g_,bV (by rw[hc _ (List.getElem_mem hi)];exact hl)]
 exact h3 _ (List.getElem_mem _)
def fA(D:List (List Rat))(s:List Rat)(n i j:Nat):Rat:=if j<n then al D i j else if j<n+D.length then (if j-n=i then 1 else 0) else s[i]?.getD 0
def fB(D:List (List Rat))(w:List Rat)(n k j:Nat):Rat:=if j<n then 0 else if j<n+D.length then w[j-n]?.getD 0*al D (j-n) k else 0
def fC(D:List (List Rat))(n a j:Nat):Rat:=if j<n then al (gG D n) a j else 0
def D3(D:List (List Rat))(w s:List Rat)(n:Nat)(b:Bool):List (List Rat):=(List.range D.length).map (fun i=>m8 (n+D.length+1) (fA D s n i))++((List.range n).map (fun k=>m8 (n+D.length+1) (fB D w n k))++if b then (List.range (gG D n).length).map (fun a=>m8 (n+D.length+1) (fC D n a)) else [])
def Yoj{D:List (List Rat)}{w s:List Rat}{b:Bool}:aR (D3 D w s n b) (n+D.length+1):=fun r hr=>by
 unfold D3 at hr
 simp only[jB,bF]at hr
 rcases hr with⟨i,_,rfl⟩|⟨k,_,rfl⟩|hr
 ·simp[m8]
 ·simp[m8]
 ·split at hr
  ·obtain⟨a,_,rfl⟩:=bF.1 hr
   simp[m8]
  ·simp at hr
def Yzz{f:Nat->Rat}{S:Nat}:sN f (n+S+1)=sN f n+sN (fun i=>f (n+i)) S+f (n+S):=by show sN f (n+S)+f (n+S)=_;rw[Ih]
def Ygw{D:List (List Rat)}{w s:List Rat}{b:Bool}{z:Nat->Rat}(hz:z (n+D.length)= -1):ew (D3 D w s n b) (n+D.length+1) z↔(∀i,i<D.length->ko D z n i+z (n+i)=s[i]?.getD 0)/\(∀k,k<n->sN (fun i=>w[i]?.getD 0*al D i k*z (n+i)) D.length=0)/\(b=true->ew (gG D n) n z):=by
 have hk:ew (D3 D w s n b) (n+D.length+1) z↔∀r∈D3 D w s n b,sN (fun j=>r[j]?.getD 0*z j) (n+D.length+1)=0:=by
  unfold ew;constructor
  ·intro h r hr;obtain⟨i,hi⟩:=nw hr;have h1:=h i (gZ hi);unfold al at h1;rw[hi]at h1;exact h1
  intro h i hi;have h1:=h _ (List.getElem_mem hi);unfold al;rw[bV hi];exact h1
 have hf:∀f:Nat->Rat,sN (fun j=>(m8 (n+D.length+1) f)[j]?.getD 0*z j) (n+D.length+1)=sN (fun j=>f j*z j) n+sN (fun i=>f (n+i)*z (n+i)) D.length-f (n+D.length):=fun f=>by rw[bg (g:=fun j=>f j*z j) fun j hj=>by rw[Ye5 hj],Yzz,hz];grind
 have eA:∀i,i<D.length->sN (fun j=>(m8 (n+D.length+1) (fA D s n i))[j]?.getD 0*z j) (n+D.length+1)=ko D z n i+z (n+i)-s[i]?.getD 0:=fun i hi=>by rw[hf,bg (n:=n) (g:=fun l=>al D i l*z l) fun j hj=>by unfold fA;rw[ar hj],tU (n:=D.length) (i:=i) hi fun j hj aW=>by unfold fA;rw[ak (by omega),ar (by omega),ak (by omega),Rat.zero_mul]];unfold fA;rw[ak (by omega),ar (by omega),ar (by omega),ak (by omega),ak (by omega)];unfold ko;grind
 have eB:∀k,k<n->sN (fun j=>(m8 (n+D.length+1) (fB D w n k))[j]?.getD 0*z j) (n+D.length+1)=sN (fun i=>w[i]?.getD 0*al D i k*z (n+i)) D.length:=fun k _=>by rw[hf,pj (n:=n) fun j hj=>by unfold fB;rw[ar hj,Rat.zero_mul],bg (n:=D.length) (g:=fun i=>w[i]?.getD 0*al D i k*z (n+i)) fun i hi=>by unfold fB;rw[ak (by omega),ar (by omega),Nat.add_sub_cancel_left]];unfold fB;rw[ak (by omega),ak (by omega)];grind
 have eC:∀a,a<(gG D n).length->sN (fun j=>(m8 (n+D.length+1) (fC D n a))[j]?.getD 0*z j) (n+D.length+1)=sN (fun j=>al (gG D n) a j*z j) n:=fun a _=>by rw[hf,bg (n:=n) (g:=fun j=>al (gG D n) a j*z j) fun j hj=>by unfold fC;rw[ar hj],pj (n:=D.length) fun i hi=>by unfold fC;rw[ak (by omega),Rat.zero_mul]];unfold fC;rw[ak (by omega)];grind
 rw[hk];constructor
 ·intro h;refine⟨fun i hi=>?_,fun k Ae=>?_,fun hb a ha=>?_⟩
  ·have h1:=h (m8 (n+D.length+1) (fA D s n i)) (List.mem_append_left _ (bF.2 ⟨i,gm.2 hi,rfl⟩));rw[eA i hi]at h1;grind
  ·have h1:=h (m8 (n+D.length+1) (fB D w n k)) (List.mem_append_right _ (List.mem_append_left _ (bF.2 ⟨k,gm.2 Ae,rfl⟩)));rw[eB k Ae]at h1;exact h1
  have h1:=h (m8 (n+D.length+1) (fC D n a)) (List.mem_append_right _ (List.mem_append_right _ (by rw[ar hb];exact bF.2 ⟨a,gm.2 ha,rfl⟩)));rw[eC a ha]at h1;exact h1
 rintro⟨h1,h2,h3⟩ r hr;unfold D3 at hr;simp only[jB,bF,gm]at hr;rcases hr with⟨i,hi,rfl⟩|⟨k,Ae,rfl⟩|hr
 ·rw[eA i hi,h1 i hi];grind
 ·rw[eB k Ae];exact h2 k Ae
 split at hr
 ·rename_i hb;obtain⟨a,ha,rfl⟩:=bF.1 hr;rw[eC a (gm.1 ha)];exact h3 hb a (gm.1 ha)
 simp at hr
variable {D:List (List Rat)} {n:Nat} {s w:List Rat}
def Yv2{r:List Rat}(j:Nat):r[j]?.getD 0∈r\/r[j]?.getD 0=0:=by
 cases h:r[j]? with
 |none=>exact .inr rfl
 |some q=>exact .inl (cF h)
def Yr2{r:List Rat}{s:Rat}{b j:Nat}(h:∀q∈r,cJ b (s*q)):cJ b (s*r[j]?.getD 0):=by
 rcases Yv2 (r:=r) j with h1|h1
 ·exact h _ h1
 rw[h1,Rat.mul_zero];exact cJ.zero
def Ye2{x y:Nat->Rat}(hD:aR D n)(hx:∀j,j<n->x j=sN (fun a=>al (bb D n) a j*y a) (bb D n).length):ew (gG D n) n x:=by rw[<-zY F0];intro a ha;exact Ykd hD hx (Zzu hD (i:=a) ha)
def Ylq{R:Nat}{b:Bool}(hD:aR D n)(qD:bz D 7)(qw:∀q∈w,Qb 7 q)(qs:∀q∈s,Qb 7 q)(hn:n<=4)(hS:D.length<=5)(hR:71<=R)(hb:b=true->132<=R):Ab (D3 D w s n b) (n+D.length+1) R:=by
 refine Zyv Yoj fun r hr=>?_;unfold D3 at hr;simp only[jB,bF,gm]at hr;rcases hr with⟨i,hi,rfl⟩|⟨k,hk,rfl⟩|hr
 ·obtain⟨t,h1,h2,h3⟩:=F4 (K:=7) (r:=D[i]?.getD []++[s[i]?.getD 0]) fun q hq=>by
   rcases jB.1 hq with hq|hq
   ·exact qD.at q hq
   rw[uv.1 hq];exact rO qs (by decide) i
  have hlen:(D[i]?.getD []++[s[i]?.getD 0]).length*7+1<=R:=by rw[jm,hD.at hi,Af];omega
  refine⟨t,h1,h2.mono hlen,fun q hq=>?_⟩;obtain⟨j,hj,rfl⟩:=bF.1 hq;unfold fA;split
  ·exact(Yr2 (r:=D[i]?.getD []) fun q hq=>h3 q (List.mem_append_left _ hq)).mono hlen
  split
  ·split
   ·rw[Rat.mul_one];exact h2.mono hlen
   rw[Rat.mul_zero];exact cJ.zero
  exact(h3 _ (List.mem_append_right _ (uv.2 rfl))).mono hlen
 ·obtain⟨t,h1,h2,h3⟩:=F4 (K:=14) (r:=(List.range D.length).map fun i=>w[i]?.getD 0*al D i k) fun q hq=>by obtain⟨i,hi,rfl⟩:=bF.1 hq;exact(rO qw (by decide) i).mul (rO (qD.at (i:=i)) (by decide) k)
  have hlen:((List.range D.length).map fun i=>w[i]?.getD 0*al D i k).length*14+1<=R:=by rw[cG,List.length_range];omega
  refine⟨t,h1,h2.mono hlen,fun q hq=>?_⟩;obtain⟨j,hj,rfl⟩:=bF.1 hq;unfold fB;split
  ·rw[Rat.mul_zero];exact cJ.zero
  split
  ·exact(h3 _ (bF.2 ⟨j-n,gm.2 (by omega),rfl⟩)).mono hlen
  rw[Rat.mul_zero];exact cJ.zero
 split at hr
 ·rename_i n_;obtain⟨a,ha,rfl⟩:=bF.1 hr;have ha:=gm.1 ha;have hR2:=hb n_;have tW:=YJ hD;obtain⟨t,h1,h2,h3⟩:=Zzt (Nv qD hD) hD (by omega) a ha;have hB:((aF D n).2.1+1)*(n*7+1+(aF D n).2.1+1)<=R:=j_ (nC (show _<=4 by omega) (show _<=33 by omega)) (by omega);refine⟨t,h1,h2.mono hB,fun q hq=>?_⟩;obtain⟨j,hj,rfl⟩:=bF.1 hq;unfold fC;split
  ·exact(h3 j (by assumption)).mono hB
  rw[Rat.mul_zero];exact cJ.zero
 simp at hr
def Yqy{x o:Nat->Rat}(hw:w.length=D.length)(hp:∀q∈w,0<q)(hx:∀k,k<n->uC D w s x n k=0)(ho:∀k,k<n->uC D w s o n k=0):ew D n fun l=>o l-x l:=by have h1:=Zvg hx (o:=o);have h2:=Ysw x hw hp ho;have h3:=Si (Y5 (e:=fun l=>o l-x l) (n:=n) hw hp);exact Yxn hw hp (by grind)
def Yru{z:Nat->Rat}(h1:∀i,i<D.length->ko D z n i+z (n+i)=s[i]?.getD 0)(h2:∀k,k<n->sN (fun i=>w[i]?.getD 0*al D i k*z (n+i)) D.length=0):∀k,k<n->uC D w s z n k=0:=fun k hk=>by
 rw[<-h2 k hk]
 unfold uC
 apply bg
 intro i hi
 have:=h1 i hi
 unfold ko at this
 rw[<-this]
 grind
def zK(D:List (List Rat))(s:List Rat)(x:Nat->Rat)(n j:Nat):Rat:=if j<n then x j else if j<n+D.length then s[j-n]?.getD 0-ko D x n (j-n) else -1
def Yfz{x y:Nat->Rat}{i:Nat}(h:∀j,j<n->x j=y j):ko D x n i=ko D y n i:=bg fun j hj=>by rw[h j hj]
def Yud{x:Nat->Rat}{b:Bool}(hx:∀k,k<n->uC D w s x n k=0)(hk:b=true->ew (gG D n) n x):ew (D3 D w s n b) (n+D.length+1) (zK D s x n)/\zK D s x n (n+D.length)= -1:=by
 have hu:zK D s x n (n+D.length)= -1:=by unfold zK;rw[ak (by omega),ak (by omega)]
 have hm:∀j,j<n->zK D s x n j=x j:=fun j hj=>by unfold zK;rw[ar hj]
 have hv:∀i,i<D.length->zK D s x n (n+i)=s[i]?.getD 0-ko D x n i:=fun i hi=>by unfold zK;rw[ak (by omega),ar (by omega),Nat.add_sub_cancel_left]
 refine⟨(Ygw hu).2 ⟨fun i hi=>?_,fun k Ae=>?_,fun hb a ha=>?_⟩,hu⟩
 ·rw[Yfz hm,hv i hi];grind
 ·have h1:=hx k Ae;unfold uC at h1;rw[<-h1];apply bg;intro i hi;rw[hv i hi];unfold ko;grind
 rw[<-hk hb a ha];exact bg fun j hj=>by rw[hm j hj]
def Y8{x y:Nat->Rat}(hD:aR D n)(hw:w.length=D.length)(hp:∀q∈w,0<q)(qD:bz D 7)(qw:∀q∈w,Qb 7 q)(qs:∀q∈s,Qb 7 q)(hn:n<=4)(hS:D.length<=5)(hx:∀k,k<n->uC D w s x n k=0)(hr:∀j,j<n->x j=sN (fun a=>al (bb D n) a j*y a) (bb D n).length):∀j,j<n->Qb 1420 (x j):=fun j hj=>by
 obtain⟨z1,z2⟩:=Yud (b:=true) hx (fun _=>Ye2 hD hr)
 obtain⟨d,d1,d2,d3⟩:=Yiu (Ylq (w:=w) (s:=s) (b:=true) hD qD qw qs hn hS (show 71<=132 by decide) (fun _=>aO 132)) Yoj (by decide) z1 z2
 have hB:(n+D.length+1)*(132+(n+D.length)+1)<=1420:=j_ (nC (show _<=10 by omega) (show _<=142 by omega)) (by decide)
 have h5:∀l,l<n->zK D s x n l=x l:=fun l hl=>by
  unfold zK
  rw[ar hl]
 have h1:=d3 j (by omega) fun z k1 k2=>by
  obtain⟨a1,a2,a3⟩:=(Ygw k2).1 k1
  have h2:=Yqy hw hp hx (Yru a1 a2)
  have h3:=a3 rfl
  have h4:=Ye2 hD hr
  rw[h5 j hj]
  have:=Yn5 (e:=fun l=>z l-x l) hD ((zY hD).2 h2) (by
   show ew (bb (gG D n) n) n _
   rw[zY F0]
   intro a ha
   rw[bg (g:=fun l=>al (gG D n) a l*z l-al (gG D n) a l*x l) fun l _=>by grind,K6,h3 a ha,h4 a ha]
   grind) j hj
  grind
 rw[h5 j hj]at h1
 exact cJ.qb d1 (d2.mono hB) (h1.mono hB)
variable {D:List (List Rat)} {n:Nat} {w:List Rat}
def Ypn{r:List Rat}{S i:Nat}(hr:r.length=S)(hi:i<S):e_ r (yu S i)=r[i]?.getD 0:=by
 have e:∀j,j<S->(yu S i)[j]?.getD 0=if j=i then 1 else 0:=fun j hj=>by simp[yu,hj]
 rw[YB hr,tU (i:=i) hi fun j hj aW=>by rw[e j hj,ak aW,Rat.mul_zero],e i hi,ar rfl,Rat.mul_one]
def NO:aR (fe D w n) D.length:=fun r hr=>by
 unfold fe at hr
 split at hr
 ·unfold zt at hr
  obtain⟨_,_,rfl⟩:=bF.1 hr
  simp
 ·have:=SM r hr
  rwa [kh]at this
def Gb:(fe D w n).length=n:=by
 unfold fe;split
 ·simp[zt]
 unfold du;rw[cG,kh]
def Y9(hD:aR D n)(km:0<n)(hw:w.length=D.length)(hp:∀q∈w,0<q)(qD:bz D 7)(qw:∀q∈w,Qb 7 q)(hn:n<=4)(hS:D.length<=5):bz (fe D w n) 1420:=fun r hr q hq=>by
 obtain⟨j,hj⟩:=nw hr
 obtain⟨i,hi⟩:=nw hq
 have Ag:=NO r hr
 have hiS:i<D.length:=by rw[<-Ag];exact gZ hi
 have CT:j<n:=by have:=gZ hj;rwa [Gb]at this
 by_cases h0:0<(bb D n).length
 ·have vD:(yu D.length i).length=D.length:=by simp[yu]
  obtain⟨x,y,a1,a2,a3⟩:=Zyy (s:=yu D.length i) hD km hw hp vD h0
  have h1:=Y8 hD hw hp qD qw (s:=yu D.length i) (fun q hq=>by
   obtain⟨k,_,rfl⟩:=bF.1 hq
   split
   ·exact⟨by decide,by decide⟩
   ·exact⟨by decide,by decide⟩) hn hS a3 a2 j CT
  rw[<-a1 j CT,eG,hj,qc,g_,Ypn Ag hiS,hi]at h1
  exact h1
 ·unfold fe at hr
  rw[ar (by omega)]at hr
  unfold zt at hr
  obtain⟨_,_,rfl⟩:=bF.1 hr
  obtain⟨_,_,rfl⟩:=bF.1 hq
  exact(show Qb 1 0 from ⟨by decide,by decide⟩).mono (by decide)
def Yo2{l:List Rat}(h:∀q∈l,Qb 1800 q):yf l=false:=by unfold yf;rw[List.any_eq_false];intro q hq;rw[(Iw (h q hq) (aO _)).1];decide
def Yit{M:List (List Rat)}(h:bz M 1800):vt M=false:=by unfold vt;rw[List.any_eq_false];intro r hr;rw[Yo2 (h r hr)];decide
def Ywn{R d r e z:Nat}(h1:R<=r)(h2:d<=e)(h3:(e+2)*(r+e+1)<=z):qZ R d<=z:=by unfold qZ;exact j_ (nC (by omega) (by omega)) h3
variable {m:List (List aD)} {os ss ws xs:List aD}
def Yhj{s:aD}(h:wF s 2=true):aS s=0/\s.length<=6/\Qb 7 (jh s):=by unfold wF NP at h;simp only[gI,decide_eq_true_eq]at h;obtain⟨h1,h2,h3,h4⟩:=h;have h3:=(CF (n:=(jh s).num.natAbs) (k:=2) (by decide)).1 h3;have h4:=(CF (n:=(jh s).den) (k:=2) (by decide)).1 h4;exact⟨h2,by omega,fm h3 (by decide),fm h4 (by decide)⟩
def D4{l:List aD}{n:Nat}(h:nD l n 2=true):l.length<=n/\(∀s∈l,aS s=0/\s.length<=6)/\∀q∈cv l,Qb 7 q:=by
 unfold nD at h;rw[gI,jY,decide_eq_true_eq]at h;refine⟨h.1,fun s hs=>?_,fun q hq=>?_⟩
 ·obtain⟨a,b,_⟩:=Yhj (h.2 s hs);exact⟨a,b⟩
 obtain⟨s,hs,rfl⟩:=bF.1 hq;exact(Yhj (h.2 s hs)).2.2
def Lk{l:List aD}{n k:Nat}(h:nD l n 2=true)(hk:n<=k):dJ k l=true:=by obtain⟨h1,h2,_⟩:=D4 h;unfold dJ;rw[gI,jY];refine⟨by simp[qh];omega,fun s hs=>?_⟩;have:=(h2 s hs).2;simp[pr];omega
structure AX (m:List (List aD)) (ws ss xs os:List aD):Prop where
 n1:0<ba m
 n4:ba m<=4
 s1:0<m.length
 s5:m.length<=5
 rc:aR (bC m) (ba m)
 qb:bz (bC m) 7
 t:m=(bC m).map fun r=>r.map aP
 sh:nE 6 6 m=true
 sh5:nE 5 5 m=true
 ck:iF m 64 64=0
 c16:iF m 64 16=0
 wl:ws.length=m.length
 wq:∀q∈cv ws,Qb 7 q
 wp:∀q∈cv ws,0<q
 wk:ra ws m.length 1=0
 wo:nF ws
 Ll:dJ 6 ws=true
 sl:ss.length=m.length
 sq:∀q∈cv ss,Qb 7 q
 sk:dj ss m.length=0
 so:nF ss
 shs:dJ 6 ss=true
 xl:xs.length=ba m
 xq:∀q∈cv xs,Qb 7 q
 xk:dj xs (ba m)=0
 xo:nF xs
 shx:dJ 6 xs=true
 zbp:dJ 5 xs=true
 ol:os.length=ba m
 oq:∀q∈cv os,Qb 7 q
 ok:dj os (ba m)=0
 oo:nF os
 sho:dJ 6 os=true
 zbq:Yzp 12 ([xs]++m)=true
def Yyw(h:AY m 5 4 2=true)(wk:ra ws m.length 1=0)(sk:dj ss m.length=0)(xk:dj xs (ba m)=0)(ok:dj os (ba m)=0)(fw:nD ws 5 2=true)(fs:nD ss 5 2=true)(fx:nD xs 4 2=true)(fo:nD os 4 2=true):AX m ws ss xs os:=by
 unfold AY at h;simp only[gI,decide_eq_true_eq,jY]at h;obtain⟨h1,h2,h3,h4,h5⟩:=h;obtain⟨a1,a2,a3,a4,a5⟩:=Zvk h3;obtain⟨w1,w2,w3⟩:=D4 fw;obtain⟨e1,e2,e3⟩:=D4 fs;obtain⟨x1,x2,x3⟩:=D4 fx;obtain⟨o1,o2,o3⟩:=D4 fo;have D5:∀{l:List aD},(∀s∈l,aS s=0/\s.length<=6)->nF l:=fun h s hs=>⟨(h s hs).1,by have:=(h s hs).2;omega⟩;refine⟨a2,h4,a1,h2,fun r hr=>?_,fun r hr q hq=>?_,Ykh fun l hl=>(a5 l hl).2,Za h1 (by decide) (by decide),Za h1 (by decide) (by decide),?_,h3,?_,w3,Zb wk,wk,D5 w2,Lk fw (by decide),NQ sk,e3,sk,D5 e2,Lk fs (by decide),NQ xk,x3,xk,D5 x2,Lk fx (by decide),Lk fx (by decide),NQ ok,o3,ok,D5 o2,Lk fo (by decide),?_⟩
 ·obtain⟨l,hl,rfl⟩:=bF.1 hr;rw[cv,cG];exact(a5 l hl).1
 ·obtain⟨l,hl,rfl⟩:=bF.1 hr;exact(D4 (h5 l hl)).2.2 q hq
 ·unfold iF at h3 ⊢;rw[ak (by omega),ak (by omega)]at h3 ⊢;exact h3
 ·unfold ra at wk;split at wk
  ·assumption
  exact absurd wk (by decide)
 unfold Yzp Yzq;rw[jY];intro l hl;rw[jY];intro s hs;rw[decide_eq_true_eq];rcases jB.1 hl with hl|hl
 ·rw[uv.1 hl]at hs;have:=(x2 s hs).2;omega
 have:=((D4 (h5 l hl)).2.1 s hs).2;omega
def AX.Lm(h:AX m ws ss xs os):zr m ws=0:=D6 fun e he=>by
 simp only[iW,List.not_mem_nil,or_false]at he
 rcases he with rfl|rfl
 ·exact h.c16
 ·exact h.wk
def AX.app{h:T O}{N:Nat}{u v:V}{l:List Rat}(hI:AX m ws ss xs os)(hm:dq h N u m)(hl:Tx h N v l)(hP:ik h N)(ql:∀q∈l,Qb 1800 q)(ll:l.length=ba m):Fn A.C 16 [u,v] h N (fun x h' n'=>NR 0 ((bC m).map fun r=>e_ r l) x h' n'):=by have s1:=hI.s1;have s5:=hI.s5;have n4:=hI.n4;have lD:(bC m).length=m.length:=vu;exact SP (c:=ba m) (hm.rat fun r hr=>((Ix hI.Lm hI.sh hI.Ll).1.row r hr).2) hl hP (by omega) (by omega) hI.n1 (by omega) hI.rc (hI.qb.mono (by decide)) ql ll
def Zc{r:List Rat}{n:Nat}{P:Rat->Prop}(h:∀j,j<n->P (r[j]?.getD 0))(hl:r.length=n):∀q∈r,P q:=fun q hq=>by
 obtain⟨j,hj⟩:=nw hq
 have:=h j (by rw[<-hl];exact gZ hj)
 rwa [hj]at this
def Yso{s:List Rat}{S:Nat}:e_ ((List.range S).map fun _=>(0:Rat)) s=0:=by rw[YB (n:=S) (by simp)];exact pj fun l _=>by rw[Yjd,Rat.zero_mul]
end Go.Mx
