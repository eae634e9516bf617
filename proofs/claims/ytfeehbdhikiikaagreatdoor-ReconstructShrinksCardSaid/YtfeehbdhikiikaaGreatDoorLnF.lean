/-Least squares-/
import Derived.Test.YtfeehbdhikiikaaGreatDoorSvF
set_option linter.all false
set_option maxHeartbeats 4000000
namespace Go.Mx
open Go Go.Proofs
variable{b:Bool}{M:List (List Rat)}{X r:List Rat}{N R d i k u:Nat}{G H g:Nat->Nat->Rat}{a f o x x' y y' z:Nat->Rat}{h:T O}
variable {n:Nat}
set_option maxRecDepth 1000000
def Bg{m:Nat}:sN (fun i=>f i*sN (g i) m) n=sN (fun j=>sN (fun i=>f i*g i j) n) m:=by rw[bf (g:=fun i=>sN (fun j=>f i*g i j) m) fun i _=>eE.symm,zG]
def D3{c:Rat}:sN (fun i=>f i*c) n=sN f n*c:=by rw[bf (g:=fun i=>c*f i) fun i _=>Rat.mul_comm _ _,eE,Rat.mul_comm]
def YG{a C:List (List Rat)}:aW (fb a C) C.length:=fun r hr=>by
 unfold fb at hr
 obtain⟨t,_,rfl⟩:=bO.1 hr
 rw[dL]
def Ylj{r S:Nat}{P D T:Nat->Nat->Rat}{w s:Nat->Rat}(hT:∀a i,a<r->i<S->T a i=sN (fun l=>P a l*D i l) n)(hG:∀a b,a<r->b<r->G a b=sN (fun i=>T b i*(T a i*w i)) S)(hH:∀a i,a<r->i<S->sN (fun b=>G a b*H b i) r=T a i*w i)(hy:∀b,b<r->y b=sN (fun i=>H b i*s i) S)(hx:∀l,l<n->x l=sN (fun b=>P b l*y b) r){a:Nat}(ha:a<r):sN (fun l=>P a l*sN (fun i=>w i*(D i l*(s i-sN (fun l=>D i l*x l) n))) S) n=0:=by
 have h1:∀i,i<S->sN (fun b=>T b i*y b) r=sN (fun l=>D i l*x l) n:=fun i hi=>by rw[bf (g:=fun b=>y b*sN (fun l=>P b l*D i l) n) fun b hb=>by rw[hT b i hb hi,Rat.mul_comm],Bg];apply bf;intro l hl;rw[hx l hl,<-eE];exact bf fun b _=>by grind
 have h2:sN (fun b=>G a b*y b) r=sN (fun i=>T a i*w i*s i) S:=by rw[bf (g:=fun b=>G a b*sN (fun i=>H b i*s i) S) fun b hb=>by rw[hy b hb],Bg];apply bf;intro i hi;rw[<-hH a i ha hi,<-D3];exact bf fun b _=>by grind
 have h3:sN (fun b=>G a b*y b) r=sN (fun i=>T a i*w i*sN (fun l=>D i l*x l) n) S:=by rw[bf (g:=fun b=>y b*sN (fun i=>T b i*(T a i*w i)) S) fun b hb=>by rw[hG a b ha hb,Rat.mul_comm],Bg];apply bf;intro i hi;rw[<-h1 i hi,<-eE];exact bf fun b _=>by grind
 rw[Bg];rw[bf (g:=fun i=>T a i*w i*s i-T a i*w i*sN (fun l=>D i l*x l) n) fun i hi=>by rw[hT a i ha hi];generalize sN (fun l=>D i l*x l) n=z;rw[bf (g:=fun l=>P a l*D i l*(w i*(s i-z))) fun l _=>by grind,D3];grind,FW,<-h2,<-h3];grind
def qN(D:List (List Rat))(w s:List Rat)(x:Nat->Rat)(n l:Nat):Rat:=sN (fun i=>w[i]?.getD 0*(al D i l*(s[i]?.getD 0-sN (fun l=>al D i l*x l) n))) D.length
def Zzl{D:List (List Rat)}{w s:List Rat}(hD:aW D n)(fP:0<n)(hw:w.length=D.length)(hp:∀q∈w,0<q)(hs:s.length=D.length)(h0:0<(bH D n).length):∃x y:Nat->Rat,(∀j,j<n->((lA D w n).map fun r=>ed r s)[j]?.getD 0=x j)/\(∀j,j<n->x j=sN (fun a=>al (bH D n) a j*y a) (bH D n).length)/\∀k,k<n->qN D w s x n k=0:=by
 obtain⟨J,_,hJ⟩:=Zst hD hw hp h0;obtain⟨H,hH⟩:∃H,fb J (dm (ot D (bH D n) w) D.length)=H:=⟨_,rfl⟩;rw[hH]at hJ;have hPc:aW (bH D n) n:=IS hD;obtain⟨P,eP⟩:∃P,bH D n=P:=⟨_,rfl⟩;have zaa:∀g,eL P n g->eL (zV D n) n g->∀j,j<n->g j=0:=fun g=>by rw[<-eP];exact Yf9 hD
 have hkp:∀a,a<(zV D n).length->eL D n fun l=>al (zV D n) a l:=fun a ha=>Zs6 hD ha;unfold lA;rw[ak (by omega),hJ,iL];rw[eP]at hJ hPc h0 ⊢;have IU:(dm (fb D P) P.length).length=P.length:=kR;have hRl:(ot D P w).length=P.length:=by unfold ot;rw[dL,IU]
 have OI:aW (dm (fb D P) P.length) D.length:=by have:=@F3 (fb D P) P.length;rwa [show (fb D P).length=D.length from dL ..]at this
 have hRc:aW (ot D P w) D.length:=fun r hr=>by unfold ot at hr;obtain⟨t,ht,rfl⟩:=bO.1 hr;rw[show (iG t w).length=w.length by simp[iG],hw]
 have hGl:(rQ D P w).length=P.length:=by unfold rQ fb;rw[dL,hRl]
 have hGc:aW (rQ D P w) P.length:=fun r hr=>by rw[<-IU];exact YG r hr
 obtain⟨m1,m2,m3⟩:=YH hGc hGl hRc hRl h0 hJ;have fT:∀a i,a<P.length->i<D.length->al (dm (fb D P) P.length) a i=sN (fun l=>al P a l*al D i l) n:=fun a i ha hi=>by rw[Bf ha (by unfold fb;rw[dL];exact hi),Lk hi ha hPc]
 have fR:∀a i,a<P.length->i<D.length->al (ot D P w) a i=al (dm (fb D P) P.length) a i*w[i]?.getD 0:=fun a i ha hi=>YF (by rw[IU];exact ha) (by omega);have fG:∀a b,a<P.length->b<P.length->al (rQ D P w) a b=sN (fun i=>al (dm (fb D P) P.length) b i*(al (dm (fb D P) P.length) a i*w[i]?.getD 0)) D.length:=fun a b ha hb=>by unfold rQ;rw[Lk (by omega) (by omega) OI];exact bf fun i hi=>by rw[fR a i ha hi]
 have hHt:(dm H D.length).length=D.length:=kR;have hPt:(dm P n).length=n:=kR;obtain⟨y,hy⟩:∃y:Nat->Rat,∀b,y b=sN (fun i=>al H b i*s[i]?.getD 0) D.length:=⟨_,fun _=>rfl⟩;obtain⟨x,hx⟩:∃x:Nat->Rat,∀j,x j=sN (fun a=>al P a j*y a) P.length:=⟨_,fun _=>rfl⟩;have key:=fun a (ha:a<P.length)=>Ylj (s:=fun i=>s[i]?.getD 0) (w:=fun i=>w[i]?.getD 0) (H:=al H) fT fG (fun a i ha hi=>by rw[m3 a i ha hi,fR a i ha hi]) (fun b _=>hy b) (fun l _=>hx l) ha;refine⟨x,y,fun j hj=>?_,fun j _=>hx j,fun k hk=>?_⟩
 ·have C8:aW (dm H D.length) P.length:=by have:=@F3 H D.length;rwa [m1]at this
  have Tu:aW (fb (dm P n) (dm H D.length)) D.length:=fun r hr=>by unfold fb at hr;obtain⟨t,_,rfl⟩:=bO.1 hr;rw[dL,hHt]
  have e:sN (fun a=>al P a j*y a) P.length=sN (fun i=>sN (fun a=>al P a j*(al H a i*s[i]?.getD 0)) P.length) D.length:=by rw[bf (g:=fun a=>al P a j*sN (fun i=>al H a i*s[i]?.getD 0) D.length) fun a _=>by rw[hy],Bg]
  rw[SZ Tu (by unfold fb;rw[dL,hPt];exact hj),hx,e];apply bf;intro i hi;rw[Lk (by omega) (by omega) C8,<-D3];apply bf;intro b hb;rw[Bf hi (by omega),Bf hj hb];grind
 refine zaa (fun l=>qN D w s x n l) (fun a ha=>key a ha) (fun a ha=>?_) k hk;show sN (fun l=>al (zV D n) a l*qN D w s x n l) n=0;unfold qN;rw[Bg];apply pD;intro i hi;have h1:=hkp a ha i hi;simp only at h1;rw[bf (g:=fun l=>al D i l*al (zV D n) a l*(w[i]?.getD 0*(s[i]?.getD 0-sN (fun l=>al D i l*x l) n))) fun l _=>by grind,D3,h1,Rat.zero_mul]
variable {D:List (List Rat)} {n:Nat} {s w:List Rat}
def cK(D:List (List Rat))(x:Nat->Rat)(n i:Nat):Rat:=sN (fun l=>al D i l*x l) n
def Ygo{D:List (List Rat)}{x o:Nat->Rat}{n i:Nat}:cK D (fun l=>o l-x l) n i=cK D o n i-cK D x n i:=by unfold cK;rw[<-FW];exact bf fun l _=>by grind
def qP(D:List (List Rat))(w s:List Rat)(x:Nat->Rat)(n:Nat):Rat:=sN (fun i=>w[i]?.getD 0*((s[i]?.getD 0-cK D x n i)*(s[i]?.getD 0-cK D x n i))) D.length
def Yy3{g:Nat->Rat}(h:∀k,k<n->qN D w s x n k=0):sN (fun i=>w[i]?.getD 0*(s[i]?.getD 0-cK D x n i)*cK D g n i) D.length=0:=by unfold cK;rw[Bg];apply pD;intro l hl;have h1:=h l hl;unfold qN at h1;rw[bf (g:=fun i=>w[i]?.getD 0*(al D i l*(s[i]?.getD 0-sN (fun l=>al D i l*x l) n))*g l) fun i _=>by grind,D3,h1,Rat.zero_mul]
def Zvv(h:∀k,k<n->qN D w s x n k=0):qP D w s o n=qP D w s x n+sN (fun i=>w[i]?.getD 0*(cK D (fun l=>o l-x l) n i*cK D (fun l=>o l-x l) n i)) D.length:=by
 have h1:=Yy3 (g:=fun l=>o l-x l) h;have h2:qP D w s o n=qP D w s x n+sN (fun i=>w[i]?.getD 0*(cK D (fun l=>o l-x l) n i*cK D (fun l=>o l-x l) n i)) D.length-2*sN (fun i=>w[i]?.getD 0*(s[i]?.getD 0-cK D x n i)*cK D (fun l=>o l-x l) n i) D.length:=by unfold qP;rw[<-vT,<-eE,<-FW];apply bf;intro i _;rw[Ygo];grind
 rw[h2,h1];grind
def OJ(hp:∀q∈w,0<q)(hi:i<w.length):0<w[i]?.getD 0:=by rw[cj hi];exact hp _ (List.getElem_mem _)
def Lm{e:Nat->Rat}(hw:w.length=D.length)(hp:∀q∈w,0<q):∀i,i<D.length->0<=w[i]?.getD 0*(cK D e n i*cK D e n i):=fun i hi=>Rat.mul_nonneg (Rat.le_of_lt (OJ hp (by omega))) D4
def Yvc{e:Nat->Rat}(hw:w.length=D.length)(hp:∀q∈w,0<q)(h:sN (fun i=>w[i]?.getD 0*(cK D e n i*cK D e n i)) D.length=0):eL D n e:=fun i hi=>by
 have h1:=It (Lm hw hp) h i hi
 have h2:=OJ hp (i:=i) (by omega)
 rcases Rat.mul_eq_zero.1 h1 with h3|h3
 ·rw[h3]at h2
  exact absurd h2 (Rat.lt_irrefl)
 ·exact Ln h3
def Ytt(o:Nat->Rat)(hw:w.length=D.length)(hp:∀q∈w,0<q)(h:∀k,k<n->qN D w s x n k=0):qP D w s x n<=qP D w s o n:=by rw[Zvv h (o:=o)];have:=CX (Lm (e:=fun l=>o l-x l) (n:=n) hw hp);grind
def Zsq{e:Nat->Rat}(hD:aW D n)(hx:∀j,j<n->x j=sN (fun a=>al (bH D n) a j*y a) (bH D n).length)(he:eL D n e):sN (fun l=>e l*x l) n=0:=by have h1:=(yB hD).2 he;rw[bf (g:=fun l=>e l*sN (fun a=>al (bH D n) a l*y a) (bH D n).length) fun l hl=>by rw[hx l hl],Zzh (b:=fun _=>0) fun t ht=>h1 t ht];exact pD fun a _=>Rat.zero_mul _
def Yq0(hD:aW D n)(hx:∀j,j<n->x j=sN (fun a=>al (bH D n) a j*y a) (bH D n).length)(kO:∀j,j<n->x' j=sN (fun a=>al (bH D n) a j*y' a) (bH D n).length)(he:eL D n fun l=>x l-x' l):∀j,j<n->x j=x' j:=fun j hj=>by
 have hk:∀a,a<(zV D n).length->eL D n fun l=>al (zV D n) a l:=fun a ha=>Zs6 hD ha
 have:=Yf9 (e:=fun l=>x l-x' l) hD ((yB hD).2 he) (fun a ha=>by
  have h1:=Zsq hD hx (hk a ha)
  have h2:=Zsq hD kO (hk a ha)
  show sN (fun l=>al (zV D n) a l*(x l-x' l)) n=0
  rw[bf (g:=fun l=>al (zV D n) a l*x l-al (zV D n) a l*x' l) fun l _=>by grind,FW,h1,h2]
  grind) j hj
 grind
def Yul{A:List (List Rat)}(hA:At A (u+1) R)(hc:aW A (u+1))(hR:1<=R){z0:Nat->Rat}(h0:eL A (u+1) z0)(IV:z0 u= -1):∃d:Rat,d≠0/\bL ((u+1)*(R+u+1)) d/\∀p,p<u->(∀z,eL A (u+1) z->z u= -1->z p=z0 p)->bL ((u+1)*(R+u+1)) (d*z0 p):=by
 obtain⟨Bs,s,hC⟩:=Ld hA hc (n:=u+1) (aN _);have I:=qI hc (n:=u+1);obtain⟨h1,h2⟩:=hC.done I (aN _) hR;have aX:=hC.ne;have hl:=vU (n:=u+1) hc;have IW:u∉(aK A (u+1)).2.2:=fun hm=>by
  obtain⟨i,hi,ei,_⟩:=FU hc hm;have h3:=(yB hc).2 h0 i (by rw[hl];exact hi);rw[LV hc hi,ei,IV,pD]at h3
  ·rw[Rat.add_zero]at h3;exact absurd h3 (by decide)
  intro j hj;split
  ·rfl
  rename_i hjp;by_cases hju:j=u
  ·rw[hju]at hjp;exact absurd hm hjp
  rw[FX hi,I.lead i j hi (by rw[ei];omega),Rat.zero_mul]
 have ZT:(aK A (u+1)).2.1<=u:=by
  have hf:=Oq (ps:=(aK A (u+1)).2.2) (n:=u+1) (fun i hi=>I.lt i (by rw[<-I.len];exact hi)) (fun i j h1 h2=>I.zU i j h1 (by rw[<-I.len];exact h2));have hm:u∈pF (aK A (u+1)).2.2 (u+1):=by simp[pF,IW]
  have:=List.length_pos_of_mem hm;rw[I.len]at hf;omega
 have hB:((aK A (u+1)).2.1+1)*(R+(aK A (u+1)).2.1+1)<=(u+1)*(R+u+1):=oc (by omega) (by omega);have OK:(aK A (u+1)).2.1*(R+(aK A (u+1)).2.1+1)+1<=((aK A (u+1)).2.1+1)*(R+(aK A (u+1)).2.1+1):=by rw[iR];omega
 refine⟨_,aX,h1.mono (nI OK hB),fun p hp hu=>?_⟩;have Eg:p∈(aK A (u+1)).2.2:=Classical.byContradiction fun Ej=>by
  have hk:=FV hc (k:=p) (by omega) Ej;have h3:=hu (fun j=>z0 j+ix A (u+1) p j) (fun i hi=>by
   rw[bf (g:=fun j=>al A i j*z0 j+al A i j*ix A (u+1) p j) fun j _=>by grind,vT,h0 i hi,hk i hi]
   grind) (by
   show z0 u+ix A (u+1) p u= -1
   unfold ix
   rw[ak (by omega),ak IW,IV]
   grind);simp only[ix,if_true]at h3;have h4:(1:Rat)=0:=by grind
  exact absurd h4 (by decide)
 obtain⟨i,hi,_,ex⟩:=FU hc Eg;have hk:=FV hc (k:=u) (by omega) IW;have h3:=hu (fun j=> -1*ix A (u+1) u j) (fun i hi=>by rw[bf (g:=fun j=> -1*(al A i j*ix A (u+1) u j)) fun j _=>by grind,eE,hk i hi];grind) (by simp[ix]);rw[<-h3];unfold ix;rw[ak (by omega),av Eg,ex,FX hi];have h4:=(h2 i u hi (by omega)).mono hB;rw[show (-1:Rat)* -al (aK A (u+1)).1 i u=al (aK A (u+1)).1 i u by grind];exact h4
variable {n:Nat}
def oz(u:Nat)(f:Nat->Rat):List Rat:=(List.range u).map f
def Yfw{j:Nat}(h:j<u):(oz u f)[j]?.getD 0=f j:=by simp[oz,h]
def Zzi{m:List (List Rat)}{c:Nat}(hc:aW m c)(h:∀r∈m,∃s:Rat,s≠0/\bL R s/\∀q∈r,bL R (s*q)):At m c R:=fun i hi=>by
 obtain⟨s,h1,h2,h3⟩:=h _ (List.getElem_mem hi)
 refine⟨s,h1,h2,fun l hl=>?_⟩
 unfold al
 rw[cj hi,iL,cj (by rw[hc _ (List.getElem_mem hi)];exact hl)]
 exact h3 _ (List.getElem_mem _)
def fA(D:List (List Rat))(s:List Rat)(n i j:Nat):Rat:=if j<n then al D i j else if j<n+D.length then (if j-n=i then 1 else 0) else s[i]?.getD 0
def fB(D:List (List Rat))(w:List Rat)(n k j:Nat):Rat:=if j<n then 0 else if j<n+D.length then w[j-n]?.getD 0*al D (j-n) k else 0
def fC(D:List (List Rat))(n a j:Nat):Rat:=if j<n then al (mO D n) a j else 0
def Ek(D:List (List Rat))(w s:List Rat)(n:Nat)(b:Bool):List (List Rat):=(List.range D.length).map (fun i=>oz (n+D.length+1) (fA D s n i))++((List.range n).map (fun k=>oz (n+D.length+1) (fB D w n k))++if b then (List.range (mO D n).length).map (fun a=>oz (n+D.length+1) (fC D n a)) else [])
def Yov:aW (Ek D w s n b) (n+D.length+1):=fun r hr=>by
 unfold Ek at hr
 simp only[iS,bO]at hr
 rcases hr with⟨i,_,rfl⟩|⟨k,_,rfl⟩|hr
 ·simp[oz]
 ·simp[oz]
 ·split at hr
  ·obtain⟨a,_,rfl⟩:=bO.1 hr
   simp[oz]
  ·simp at hr
def Xba{S:Nat}:sN f (n+S+1)=sN f n+sN (fun i=>f (n+i)) S+f (n+S):=by show sN f (n+S)+f (n+S)=_;rw[LW]
def Yhg(hz:z (n+D.length)= -1):eL (Ek D w s n b) (n+D.length+1) z↔(∀i,i<D.length->cK D z n i+z (n+i)=s[i]?.getD 0)/\(∀k,k<n->sN (fun i=>w[i]?.getD 0*al D i k*z (n+i)) D.length=0)/\(b=true->eL (mO D n) n z):=by
 have hk:eL (Ek D w s n b) (n+D.length+1) z↔∀r∈Ek D w s n b,sN (fun j=>r[j]?.getD 0*z j) (n+D.length+1)=0:=by
  unfold eL;constructor
  ·intro h r hr;obtain⟨i,hi⟩:=nP hr;have h1:=h i (fv hi);unfold al at h1;rw[hi]at h1;exact h1
  intro h i hi;have h1:=h _ (List.getElem_mem hi);unfold al;rw[cj hi];exact h1
 have hf:∀f:Nat->Rat,sN (fun j=>(oz (n+D.length+1) f)[j]?.getD 0*z j) (n+D.length+1)=sN (fun j=>f j*z j) n+sN (fun i=>f (n+i)*z (n+i)) D.length-f (n+D.length):=fun f=>by rw[bf (g:=fun j=>f j*z j) fun j hj=>by rw[Yfw hj],Xba,hz];grind
 have eA:∀i,i<D.length->sN (fun j=>(oz (n+D.length+1) (fA D s n i))[j]?.getD 0*z j) (n+D.length+1)=cK D z n i+z (n+i)-s[i]?.getD 0:=fun i hi=>by rw[hf,bf (n:=n) (g:=fun l=>al D i l*z l) fun j hj=>by unfold fA;rw[av hj],uC (n:=D.length) (i:=i) hi fun j hj aX=>by unfold fA;rw[ak (by omega),av (by omega),ak (by omega),Rat.zero_mul]];unfold fA;rw[ak (by omega),av (by omega),av (by omega),ak (by omega),ak (by omega)];unfold cK;grind
 have eB:∀k,k<n->sN (fun j=>(oz (n+D.length+1) (fB D w n k))[j]?.getD 0*z j) (n+D.length+1)=sN (fun i=>w[i]?.getD 0*al D i k*z (n+i)) D.length:=fun k _=>by rw[hf,pD (n:=n) fun j hj=>by unfold fB;rw[av hj,Rat.zero_mul],bf (n:=D.length) (g:=fun i=>w[i]?.getD 0*al D i k*z (n+i)) fun i hi=>by unfold fB;rw[ak (by omega),av (by omega),Nat.add_sub_cancel_left]];unfold fB;rw[ak (by omega),ak (by omega)];grind
 have eC:∀a,a<(mO D n).length->sN (fun j=>(oz (n+D.length+1) (fC D n a))[j]?.getD 0*z j) (n+D.length+1)=sN (fun j=>al (mO D n) a j*z j) n:=fun a _=>by rw[hf,bf (n:=n) (g:=fun j=>al (mO D n) a j*z j) fun j hj=>by unfold fC;rw[av hj],pD (n:=D.length) fun i hi=>by unfold fC;rw[ak (by omega),Rat.zero_mul]];unfold fC;rw[ak (by omega)];grind
 rw[hk];constructor
 ·intro h;refine⟨fun i hi=>?_,fun k AF=>?_,fun hb a ha=>?_⟩
  ·have h1:=h (oz (n+D.length+1) (fA D s n i)) (List.mem_append_left _ (bO.2 ⟨i,jz.2 hi,rfl⟩));rw[eA i hi]at h1;grind
  ·have h1:=h (oz (n+D.length+1) (fB D w n k)) (List.mem_append_right _ (List.mem_append_left _ (bO.2 ⟨k,jz.2 AF,rfl⟩)));rw[eB k AF]at h1;exact h1
  have h1:=h (oz (n+D.length+1) (fC D n a)) (List.mem_append_right _ (List.mem_append_right _ (by rw[av hb];exact bO.2 ⟨a,jz.2 ha,rfl⟩)));rw[eC a ha]at h1;exact h1
 rintro⟨h1,h2,h3⟩ r hr;unfold Ek at hr;simp only[iS,bO,jz]at hr;rcases hr with⟨i,hi,rfl⟩|⟨k,AF,rfl⟩|hr
 ·rw[eA i hi,h1 i hi];grind
 ·rw[eB k AF];exact h2 k AF
 split at hr
 ·rename_i hb;obtain⟨a,ha,rfl⟩:=bO.1 hr;rw[eC a (jz.1 ha)];exact h3 hb a (jz.1 ha)
 simp at hr
variable {D:List (List Rat)} {n:Nat} {s w:List Rat}
def Yoz(j:Nat):r[j]?.getD 0∈r\/r[j]?.getD 0=0:=by
 cases h:r[j]? with
 |none=>exact .inr rfl
 |some q=>exact .inl (cP h)
def Yho{s:Rat}{b j:Nat}(h:∀q∈r,bL b (s*q)):bL b (s*r[j]?.getD 0):=by
 rcases Yoz (r:=r) j with h1|h1
 ·exact h _ h1
 rw[h1,Rat.mul_zero];exact bL.zero
def Yfu(hD:aW D n)(hx:∀j,j<n->x j=sN (fun a=>al (bH D n) a j*y a) (bH D n).length):eL (mO D n) n x:=by rw[<-yB TA];intro a ha;exact Zsq hD hx (Zs6 hD (i:=a) ha)
def Yl9(hD:aW D n)(qD:bR D 7)(qw:∀q∈w,Qb 7 q)(qs:∀q∈s,Qb 7 q)(hn:n<=4)(hS:D.length<=5)(hR:71<=R)(hb:b=true->132<=R):At (Ek D w s n b) (n+D.length+1) R:=by
 refine Zzi Yov fun r hr=>?_;unfold Ek at hr;simp only[iS,bO,jz]at hr;rcases hr with⟨i,hi,rfl⟩|⟨k,hk,rfl⟩|hr
 ·obtain⟨t,h1,h2,h3⟩:=CO (K:=7) (r:=D[i]?.getD []++[s[i]?.getD 0]) fun q hq=>by
   rcases iS.1 hq with hq|hq
   ·exact qD.at q hq
   rw[og.1 hq];exact rN qs (by decide) i
  have hlen:(D[i]?.getD []++[s[i]?.getD 0]).length*7+1<=R:=by rw[iU,hD.at hi,AH];omega
  refine⟨t,h1,h2.mono hlen,fun q hq=>?_⟩;obtain⟨j,hj,rfl⟩:=bO.1 hq;unfold fA;split
  ·exact(Yho (r:=D[i]?.getD []) fun q hq=>h3 q (List.mem_append_left _ hq)).mono hlen
  split
  ·split
   ·rw[Rat.mul_one];exact h2.mono hlen
   rw[Rat.mul_zero];exact bL.zero
  exact(h3 _ (List.mem_append_right _ (og.2 rfl))).mono hlen
 ·obtain⟨t,h1,h2,h3⟩:=CO (K:=14) (r:=(List.range D.length).map fun i=>w[i]?.getD 0*al D i k) fun q hq=>by obtain⟨i,hi,rfl⟩:=bO.1 hq;exact(rN qw (by decide) i).mul (rN (qD.at (i:=i)) (by decide) k)
  have hlen:((List.range D.length).map fun i=>w[i]?.getD 0*al D i k).length*14+1<=R:=by rw[dL,List.length_range];omega
  refine⟨t,h1,h2.mono hlen,fun q hq=>?_⟩;obtain⟨j,hj,rfl⟩:=bO.1 hq;unfold fB;split
  ·rw[Rat.mul_zero];exact bL.zero
  split
  ·exact(h3 _ (bO.2 ⟨j-n,jz.2 (by omega),rfl⟩)).mono hlen
  rw[Rat.mul_zero];exact bL.zero
 split at hr
 ·rename_i oC;obtain⟨a,ha,rfl⟩:=bO.1 hr;have ha:=jz.1 ha;have hR2:=hb oC;have yO:=Yss hD;obtain⟨t,h1,h2,h3⟩:=Ymc (Nv qD hD) hD (by omega) a ha;have hB:((aK D n).2.1+1)*(n*7+1+(aK D n).2.1+1)<=R:=nI (oc (show _<=4 by omega) (show _<=33 by omega)) (by omega);refine⟨t,h1,h2.mono hB,fun q hq=>?_⟩;obtain⟨j,hj,rfl⟩:=bO.1 hq;unfold fC;split
  ·exact(h3 j (by assumption)).mono hB
  rw[Rat.mul_zero];exact bL.zero
 simp at hr
def Yrn(hw:w.length=D.length)(hp:∀q∈w,0<q)(hx:∀k,k<n->qN D w s x n k=0)(ho:∀k,k<n->qN D w s o n k=0):eL D n fun l=>o l-x l:=by have h1:=Zvv hx (o:=o);have h2:=Ytt x hw hp ho;have h3:=CX (Lm (e:=fun l=>o l-x l) (n:=n) hw hp);exact Yvc hw hp (by grind)
def Yso(h1:∀i,i<D.length->cK D z n i+z (n+i)=s[i]?.getD 0)(h2:∀k,k<n->sN (fun i=>w[i]?.getD 0*al D i k*z (n+i)) D.length=0):∀k,k<n->qN D w s z n k=0:=fun k hk=>by
 rw[<-h2 k hk]
 unfold qN
 apply bf
 intro i hi
 have:=h1 i hi
 unfold cK at this
 rw[<-this]
 grind
def zK(D:List (List Rat))(s:List Rat)(x:Nat->Rat)(n j:Nat):Rat:=if j<n then x j else if j<n+D.length then s[j-n]?.getD 0-cK D x n (j-n) else -1
def S0(h:∀j,j<n->x j=y j):cK D x n i=cK D y n i:=bf fun j hj=>by rw[h j hj]
def Yvb(hx:∀k,k<n->qN D w s x n k=0)(hk:b=true->eL (mO D n) n x):eL (Ek D w s n b) (n+D.length+1) (zK D s x n)/\zK D s x n (n+D.length)= -1:=by
 have hu:zK D s x n (n+D.length)= -1:=by unfold zK;rw[ak (by omega),ak (by omega)]
 have hm:∀j,j<n->zK D s x n j=x j:=fun j hj=>by unfold zK;rw[av hj]
 have hv:∀i,i<D.length->zK D s x n (n+i)=s[i]?.getD 0-cK D x n i:=fun i hi=>by unfold zK;rw[ak (by omega),av (by omega),Nat.add_sub_cancel_left]
 refine⟨(Yhg hu).2 ⟨fun i hi=>?_,fun k AF=>?_,fun hb a ha=>?_⟩,hu⟩
 ·rw[S0 hm,hv i hi];grind
 ·have h1:=hx k AF;unfold qN at h1;rw[<-h1];apply bf;intro i hi;rw[hv i hi];unfold cK;grind
 rw[<-hk hb a ha];exact bf fun j hj=>by rw[hm j hj]
def Yxx(hD:aW D n)(hw:w.length=D.length)(hp:∀q∈w,0<q)(qD:bR D 7)(qw:∀q∈w,Qb 7 q)(qs:∀q∈s,Qb 7 q)(hn:n<=4)(hS:D.length<=5)(hx:∀k,k<n->qN D w s x n k=0)(hr:∀j,j<n->x j=sN (fun a=>al (bH D n) a j*y a) (bH D n).length):∀j,j<n->Qb 1420 (x j):=fun j hj=>by
 obtain⟨z1,z2⟩:=Yvb (b:=true) hx (fun _=>Yfu hD hr)
 obtain⟨d,d1,d2,d3⟩:=Yul (Yl9 (w:=w) (s:=s) (b:=true) hD qD qw qs hn hS (show 71<=132 by decide) (fun _=>aN 132)) Yov (by decide) z1 z2
 have hB:(n+D.length+1)*(132+(n+D.length)+1)<=1420:=nI (oc (show _<=10 by omega) (show _<=142 by omega)) (by decide)
 have h5:∀l,l<n->zK D s x n l=x l:=fun l hl=>by
  unfold zK
  rw[av hl]
 have h1:=d3 j (by omega) fun z k1 k2=>by
  obtain⟨a1,a2,a3⟩:=(Yhg k2).1 k1
  have h2:=Yrn hw hp hx (Yso a1 a2)
  have h3:=a3 rfl
  have h4:=Yfu hD hr
  rw[h5 j hj]
  have:=Yf9 (e:=fun l=>z l-x l) hD ((yB hD).2 h2) (by
   show eL (bH (mO D n) n) n _
   rw[yB TA]
   intro a ha
   rw[bf (g:=fun l=>al (mO D n) a l*z l-al (mO D n) a l*x l) fun l _=>by grind,FW,h3 a ha,h4 a ha]
   grind) j hj
  grind
 rw[h5 j hj]at h1
 exact bL.qb d1 (d2.mono hB) (h1.mono hB)
variable {D:List (List Rat)} {n:Nat} {w:List Rat}
def Yah(h:n<=5):n<2^3:=by omega
def Yp2{S:Nat}(hr:r.length=S)(hi:i<S):ed r (yP S i)=r[i]?.getD 0:=by
 have e:∀j,j<S->(yP S i)[j]?.getD 0=if j=i then 1 else 0:=fun j hj=>by simp[yP,hj]
 rw[El hr,uC (i:=i) hi fun j hj aX=>by rw[e j hj,ak aX,Rat.mul_zero],e i hi,av rfl,Rat.mul_one]
def YI:aW (lA D w n) D.length:=fun r hr=>by
 unfold lA at hr
 split at hr
 ·unfold zZ at hr
  obtain⟨_,_,rfl⟩:=bO.1 hr
  simp
 ·have:=YG r hr
  rwa [kR]at this
def YJ:(lA D w n).length=n:=by
 unfold lA;split
 ·simp[zZ]
 unfold fb;rw[dL,kR]
def Yv3(hD:aW D n)(fP:0<n)(hw:w.length=D.length)(hp:∀q∈w,0<q)(qD:bR D 7)(qw:∀q∈w,Qb 7 q)(hn:n<=4)(hS:D.length<=5):bR (lA D w n) 1420:=fun r hr q hq=>by
 obtain⟨j,hj⟩:=nP hr
 obtain⟨i,hi⟩:=nP hq
 have wL:=YI r hr
 have hiS:i<D.length:=by rw[<-wL];exact fv hi
 have C9:j<n:=by have:=fv hj;rwa [YJ]at this
 by_cases h0:0<(bH D n).length
 ·have CR:(yP D.length i).length=D.length:=by simp[yP]
  obtain⟨x,y,a1,a2,a3⟩:=Zzl (s:=yP D.length i) hD fP hw hp CR h0
  have h1:=Yxx hD hw hp qD qw (s:=yP D.length i) (fun q hq=>by
   obtain⟨k,_,rfl⟩:=bO.1 hq
   split
   ·exact⟨by decide,by decide⟩
   ·exact⟨by decide,by decide⟩) hn hS a3 a2 j C9
  rw[<-a1 j C9,eH,hj,qH,iL,Yp2 wL hiS,hi]at h1
  exact h1
 ·unfold lA at hr
  rw[av (by omega)]at hr
  unfold zZ at hr
  obtain⟨_,_,rfl⟩:=bO.1 hr
  obtain⟨_,_,rfl⟩:=bO.1 hq
  exact(show Qb 1 0 from ⟨by decide,by decide⟩).mono (by decide)
def YM{l:List Rat}(h:∀q∈l,Qb 1800 q):uE l=false:=by unfold uE;rw[List.any_eq_false];intro q hq;rw[(wO (h q hq) (aN _)).1];decide
def Yui(h:bR M 1800):we M=false:=by unfold we;rw[List.any_eq_false];intro r hr;rw[YM (h r hr)];decide
def Yx7{j:Nat}(h:M[i]?=some r):al M i j=r[j]?.getD 0:=by unfold al;rw[h];rfl
def Zg{f:Nat->Rat}{K:Nat}(h:∀i,Qb K (f i)):∀{t:Nat},Qb (t*(K+1)+1) (sN f t)
 |0=>(show Qb 1 0 from ⟨by decide,by decide⟩).mono (by omega)
 |t+1=>by
  have h1:=(Zg h (t:=t)).add (h t)
  rw[show (t+1)*(K+1)+1=t*(K+1)+1+K+1 by rw[Nat.succ_mul];omega]
  exact h1
def Yxt{r e:Nat}(h1:R<=r)(h2:d<=e):qK R d<=(e+2)*(r+e+1):=by unfold qK;exact oc (by omega) (by omega)
def Ytv{r e z:Nat}(h1:R<=r)(h2:d<=e)(h3:(e+2)*(r+e+1)<=z):qK R d<=z:=nI (Yxt h1 h2) h3
variable {l os ss ws xs:List aH} {m:List (List aH)}
def ZH{s:aH}(h:v_ s 2=true):aR s=0/\s.length<=6/\Qb 7 (e_ s):=by unfold v_ OD at h;simp only[gV,decide_eq_true_eq]at h;obtain⟨h1,h2,h3,h4⟩:=h;have h3:=(C5 (n:=(e_ s).num.natAbs) (k:=2) (by decide)).1 h3;have h4:=(C5 (n:=(e_ s).den) (k:=2) (by decide)).1 h4;exact⟨h2,by omega,fH h3 (by decide),fH h4 (by decide)⟩
def IX(h:qU l n 2=true):l.length<=n/\(∀s∈l,aR s=0/\s.length<=6)/\∀q∈bj l,Qb 7 q:=by
 unfold qU at h;rw[gV,kJ,decide_eq_true_eq]at h;refine⟨h.1,fun s hs=>?_,fun q hq=>?_⟩
 ·obtain⟨a,b,_⟩:=ZH (h.2 s hs);exact⟨a,b⟩
 obtain⟨s,hs,rfl⟩:=bO.1 hq;exact(ZH (h.2 s hs)).2.2
def OL(h:qU l n 2=true)(hk:n<=k):ef k l=true:=by obtain⟨h1,h2,_⟩:=IX h;unfold ef;rw[gV,kJ];refine⟨by simp[qY];omega,fun s hs=>?_⟩;have:=(h2 s hs).2;simp[pO];omega
structure F7 (m:List (List aH)) (ws ss xs os:List aH):Prop where
 n1:0<bg m
 n4:bg m<=4
 s1:0<m.length
 s5:m.length<=5
 rc:aW (cF m) (bg m)
 qb:bR (cF m) 7
 t:m=(cF m).map fun r=>r.map aI
 sh:pH 6 6 m=true
 sh5:pH 5 5 m=true
 ck:gX m 64 64=0
 c16:gX m 64 16=0
 wl:ws.length=m.length
 wq:∀q∈bj ws,Qb 7 q
 wp:∀q∈bj ws,0<q
 wk:sW ws m.length 1=0
 wo:kh ws
 Ti:ef 6 ws=true
 sl:ss.length=m.length
 sq:∀q∈bj ss,Qb 7 q
 sk:dM ss m.length=0
 so:kh ss
 shs:ef 6 ss=true
 xl:xs.length=bg m
 xq:∀q∈bj xs,Qb 7 q
 xk:dM xs (bg m)=0
 xo:kh xs
 shx:ef 6 xs=true
 zbx:ef 5 xs=true
 ol:os.length=bg m
 oq:∀q∈bj os,Qb 7 q
 ok:dM os (bg m)=0
 oo:kh os
 sho:ef 6 os=true
 zby:Xaw 12 ([xs]++m)=true
def Yzz(h:Bn m 5 4 2=true)(wk:sW ws m.length 1=0)(sk:dM ss m.length=0)(xk:dM xs (bg m)=0)(ok:dM os (bg m)=0)(fw:qU ws 5 2=true)(fs:qU ss 5 2=true)(fx:qU xs 4 2=true)(fo:qU os 4 2=true):F7 m ws ss xs os:=by
 unfold Bn at h;simp only[gV,decide_eq_true_eq,kJ]at h;obtain⟨h1,h2,h3,h4,h5⟩:=h;obtain⟨a1,a2,a3,a4,a5⟩:=Zvw h3;obtain⟨w1,w2,w3⟩:=IX fw;obtain⟨e1,e2,e3⟩:=IX fs;obtain⟨x1,x2,x3⟩:=IX fx;obtain⟨o1,o2,o3⟩:=IX fo;have Em:∀{l:List aH},(∀s∈l,aR s=0/\s.length<=6)->kh l:=fun h s hs=>⟨(h s hs).1,by have:=(h s hs).2;omega⟩;refine⟨a2,h4,a1,h2,fun r hr=>?_,fun r hr q hq=>?_,Yk0 fun l hl=>(a5 l hl).2,Z7 h1 (by decide) (by decide),Z7 h1 (by decide) (by decide),?_,h3,?_,w3,Ybc wk,wk,Em w2,OL fw (by decide),NR sk,e3,sk,Em e2,OL fs (by decide),NR xk,x3,xk,Em x2,OL fx (by decide),OL fx (by decide),NR ok,o3,ok,Em o2,OL fo (by decide),?_⟩
 ·obtain⟨l,hl,rfl⟩:=bO.1 hr;rw[bj,dL];exact(a5 l hl).1
 ·obtain⟨l,hl,rfl⟩:=bO.1 hr;exact(IX (h5 l hl)).2.2 q hq
 ·unfold gX at h3 ⊢;rw[ak (by omega),ak (by omega)]at h3 ⊢;exact h3
 ·unfold sW at wk;split at wk
  ·assumption
  exact absurd wk (by decide)
 unfold Xaw Xax;rw[kJ];intro l hl;rw[kJ];intro s hs;rw[decide_eq_true_eq];rcases iS.1 hl with hl|hl
 ·rw[og.1 hl]at hs;have:=(x2 s hs).2;omega
 have:=((IX (h5 l hl)).2.1 s hs).2;omega
def F7.Zc(h:F7 m ws ss xs os):yH m ws=0:=CZ fun e he=>by
 simp only[iP,List.not_mem_nil,or_false]at he
 rcases he with rfl|rfl
 ·exact h.c16
 ·exact h.wk
def F7.res(h:F7 m ws ss xs os)(hl:dM l (bg m)=0):Xbb m ss l=0/\OG m ws ss l=0:=by
 constructor
 ·exact CZ fun e he=>by
   simp only[iP,List.not_mem_nil,or_false]at he;rcases he with rfl|rfl|rfl
   ·exact h.c16
   ·exact h.sk
   exact hl
 exact CZ fun e he=>by
  simp only[iP,List.not_mem_nil,or_false]at he;rcases he with rfl|rfl|rfl
  ·exact h.Zc
  ·exact h.sk
  exact hl
def Yq2{P:Rat->Prop}(h:∀j,j<n->P (r[j]?.getD 0))(hl:r.length=n):∀q∈r,P q:=fun q hq=>by
 obtain⟨j,hj⟩:=nP hq
 have:=h j (by rw[<-hl];exact fv hj)
 rwa [hj]at this
def Yti{S:Nat}:ed ((List.range S).map fun _=>(0:Rat)) s=0:=by rw[El (n:=S) (by simp)];exact pD fun l _=>by rw[Yjw,Rat.zero_mul]
def Yug{c:Nat}(M6:M.length<=6)(c6:c<=6)(vW:aW M c)(yF:bR M 1800):∀x∈M.map (fun r=>r.map aI),x.length<100000/\∀s∈x,s.length<=100000:=fun x hx=>by
 obtain⟨r,hr,rfl⟩:=bO.1 hx
 refine⟨by rw[dL,vW r hr];omega,fun s hs=>?_⟩
 obtain⟨q,hq,rfl⟩:=bO.1 hs
 have:=(wO (yF r hr q hq) (aN _)).2
 omega
def Yuh{l:List Rat}(h:∀q∈l,Qb 1800 q):∀s∈l.map aI,s.length<=100000:=fun s hs=>by
 obtain⟨q,hq,rfl⟩:=bO.1 hs
 have:=(wO (h q hq) (aN _)).2
 omega
def Yx3{c:Nat}(M1:0<M.length)(vW:aW M c):bg (M.map fun r=>r.map aI)=c:=by obtain⟨r0,gI⟩:=bs M1;unfold bg;rw[eH,gI];show (r0.map aI).length=c;rw[dL,vW r0 (cP gI)]
variable {n:Nat} {s:Rat}
def e1(i j:Nat):Rat:=if j=i then 1 else 0
def Ll(hi:i<n):sN (fun j=>e1 i j*f j) n=f i:=by rw[uC hi fun j _ aX=>by unfold e1;rw[ak aX,Rat.zero_mul]];unfold e1;rw[av rfl,Rat.one_mul]
def yQ(_:Nat):Rat:=0
def ON:sN (fun j=>yQ j*f j) n=0:=pD fun j _=>by unfold yQ;rw[Rat.zero_mul]
def TG(h:bL R s)(i j:Nat):bL R (s*e1 i j):=by
 unfold e1;split
 ·rw[Rat.mul_one];exact h
 rw[Rat.mul_zero];exact bL.zero
def OO(j:Nat):bL R (s*yQ j):=by unfold yQ;rw[Rat.mul_zero];exact bL.zero
def Ysx{b:Nat}(h:∀q∈(List.range n).map f,bL b (s*q)){j:Nat}(hj:j<n):bL b (s*f j):=h _ (bO.2 ⟨j,jz.2 hj,rfl⟩)
def C4{w:List Nat}(hP:iT h N):A.C.call (.func 11 [] []) [] ⟨h,N,w⟩=some (.bool true,⟨h,N,w⟩):=by exact A.known hP.2
def Y0{x:List Rat}(h:∀q∈x,Qb 1800 q):∀s∈x.map aI,s.length<=100000:=fun s hs=>by
 obtain⟨q,hq,rfl⟩:=bO.1 hs
 have:=(wO (h q hq) (aN _)).2
 omega
def YW.got{e:Int}{l:List Rat}{x:V}(s:YW e l x h n)(he:e=0)(hq:∀q∈l,Qb 1800 q):∃v,x=.aU [v,.int .i64 0]/\Tx h n v l:=by
 rcases s with⟨t1,_⟩|⟨_,⟨t1,_⟩|⟨_,v,rfl,t⟩⟩
 ·exact absurd he t1
 ·rw[YM hq]at t1;cases t1
 exact⟨v,rfl,t⟩
variable {D:List (List Rat)} {n:Nat} {s:List Rat}
def Yf4(hD:aW D n)(fP:0<n)(hw:w.length=D.length)(hp:∀q∈w,0<q)(hs:s.length=D.length):∃x y:Nat->Rat,(∀j,j<n->((lA D w n).map fun r=>ed r s)[j]?.getD 0=x j)/\(∀j,j<n->x j=sN (fun a=>al (bH D n) a j*y a) (bH D n).length)/\∀k,k<n->qN D w s x n k=0:=by
 by_cases h0:0<(bH D n).length
 ·exact Zzl hD fP hw hp hs h0
 have h1:(bH D n).length=0:=by omega
 refine⟨fun _=>0,fun _=>0,fun j hj=>?_,fun j _=>by rw[h1];rfl,fun k hk=>?_⟩
 ·unfold lA;rw[av h1];unfold zZ;rw[List.map_map,eH,zD hj];exact Yti
 unfold qN;apply pD;intro i hi;have h2:=Zug hD hi hk;rw[vU hD]at h1;rw[h1]at h2;rw[h2];show w[i]?.getD 0*(0*_)=0;rw[Rat.zero_mul,Rat.mul_zero]
def Yv1(hD:aW D n)(hs:s.length=D.length)(hx:∀j,j<n->X[j]?.getD 0=x j)(hi:i<D.length):(xg s (D.map fun r=>ed r X))[i]?.getD 0=s[i]?.getD 0-cK D x n i:=by unfold xg wW;rw[eH,zD (by omega)];show _-_=_;rw[SZ hD hi];congr 1;exact bf fun j hj=>by rw[hx j hj]
def Yp9{a b:List Rat}:(xg a b).length=a.length:=by simp[xg,wW]
def Yix(hD:aW D n)(hs:s.length=D.length)(hx:∀j,j<n->X[j]?.getD 0=x j):ed (yD (xg s (D.map fun r=>ed r X)) w (xg s (D.map fun r=>ed r X)).length) (xg s (D.map fun r=>ed r X))=qP D w s x n:=by
 rw[Yp9,hs,El (n:=D.length) (by simp[yD])];unfold qP;apply bf;intro i hi;have e:(yD (xg s (D.map fun r=>ed r X)) w D.length)[i]?.getD 0=(xg s (D.map fun r=>ed r X))[i]?.getD 0*w[i]?.getD 0:=by unfold yD;rw[eH,zD hi];rfl
 rw[e,Yv1 hD hs hx hi];grind
def IE{a b:Rat}(h:a<=b):dB (a-b).num<=0/\(dB (a-b).num=0->a=b):=by
 have h0:0<=(b-a).num:=Rat.num_nonneg.2 (by grind);have h1:(a-b).num<=0:=by rw[show a-b= -(b-a) by grind,Rat.neg_num];omega
 constructor
 ·unfold dB;split
  ·decide
  rw[av (by omega)];decide
 intro h2;have:=Yvw.1 h2;grind
def Yt2{A:List (List Rat)}{c L:Nat}(hA:At A (u+c) R)(hc:aW A (u+c))(hL:A.length<=L)(hR:1<=R)(Z:Nat->Nat->Rat)(h0:∀t,t<c->eL A (u+c) (Z t))(IV:∀t j,t<c->j<c->Z t (u+j)= -e1 t j):∃d:Rat,d≠0/\bL ((L+1)*(R+L+1)) d/\∀p,p<u->(∀z,eL A (u+c) z->(∀j,j<c->z (u+j)=0)->z p=0)->∀t,t<c->bL ((L+1)*(R+L+1)) (d*Z t p):=by
 obtain⟨Bs,s,hC⟩:=Ld hA hc (n:=u+c) (aN _);have I:=qI hc (n:=u+c);obtain⟨h1,h2⟩:=hC.done I (aN _) hR;have aX:=hC.ne;have hl:=vU (n:=u+c) hc;have bg:=(qJ hc (n:=u+c)).2;have IW:∀j,j<c->u+j∉(aK A (u+c)).2.2:=fun j hj hm=>by
  obtain⟨i,hi,ei,_⟩:=FU hc hm;have h3:=(yB hc).2 (h0 j hj) i (by rw[hl];exact hi);have e0:e1 j j=1:=av rfl;rw[LV hc hi,ei,IV j j hj hj,e0,pD]at h3
  ·rw[Rat.add_zero]at h3;exact absurd h3 (by decide)
  intro x hx;split
  ·rfl
  rename_i En;by_cases hxu:x<u+j
  ·rw[FX hi,I.lead i x hi (by rw[ei];exact hxu),Rat.zero_mul]
  have aX:¬x=u+j:=fun e=>by rw[e]at En;exact En hm
  have h4:=IV j (x-u) hj (by omega);rw[show u+(x-u)=x by omega]at h4;rw[h4];unfold e1;rw[ak (by omega)];grind
 have hB:((aK A (u+c)).2.1+1)*(R+(aK A (u+c)).2.1+1)<=(L+1)*(R+L+1):=oc (by omega) (by omega);have OK:(aK A (u+c)).2.1*(R+(aK A (u+c)).2.1+1)+1<=((aK A (u+c)).2.1+1)*(R+(aK A (u+c)).2.1+1):=by rw[iR];omega
 refine⟨_,aX,h1.mono (nI OK hB),fun p hp hu t ht=>?_⟩;have Eg:p∈(aK A (u+c)).2.2:=Classical.byContradiction fun Ej=>by have h3:=hu (ix A (u+c) p) (FV hc (k:=p) (by omega) Ej) (fun j hj=>by unfold ix;rw[ak (by omega),ak (IW j hj)]);simp only[ix,if_true]at h3;exact absurd h3 (by decide)
 obtain⟨i,hi,ei,ex⟩:=FU hc Eg;have BC:∀x,x<u->x∉(aK A (u+c)).2.2->al (bH A (u+c)) i x=0:=fun x hx En=>by have h3:=hu (ix A (u+c) x) (FV hc (k:=x) (by omega) En) (fun j hj=>by unfold ix;rw[ak (by omega),ak (IW j hj)]);unfold ix at h3;rw[ak (fun e=>En (by rw[<-e];exact Eg)),av Eg,ex]at h3;grind
 have h3:=(yB hc).2 (h0 t ht) i (by rw[hl];exact hi);rw[LV hc hi,ei,uC (i:=u+t) (by omega) fun x hx aX=>by
  by_cases En:x∈(aK A (u+c)).2.2
  ·rw[av En]
  ·rw[ak En]
   by_cases hxu:x<u
   ·rw[BC x hxu En,Rat.zero_mul]
   ·have h4:=IV t (x-u) ht (by omega)
    rw[show u+(x-u)=x by omega]at h4
    rw[h4]
    unfold e1
    rw[ak (by omega)]
    grind,ak (IW t ht),IV t t ht ht]at h3;have e0:e1 t t=1:=av rfl;rw[e0]at h3;have h4:Z t p=al (aK A (u+c)).1 i (u+t):=by rw[<-FX hi];grind
 rw[h4];exact(h2 i (u+t) hi (by omega)).mono hB
def Yrl:∀q∈(List.range k).map (fun _=>(1:Rat)),0<q:=fun q hq=>by
 obtain⟨_,_,rfl⟩:=bO.1 hq
 decide
def Yxr(hD:aW D n)(hS:0<D.length)(hx:∀j,j<n->x j=sN (fun a=>al (bH D n) a j*y a) (bH D n).length):∃z:Nat->Rat,∀j,j<n->x j=sN (fun i=>al D i j*z i) D.length:=by
 have hr:=vU (n:=n) hD;have IU:(dm D n).length=n:=kR;have OI:aW (dm D n) D.length:=F3;obtain⟨z,_,_,_,hz⟩:=Yf4 (D:=dm D n) (w:=(List.range n).map fun _=>(1:Rat)) (s:=(List.range n).map x) OI hS (by simp[IU]) Yrl (by simp[IU]);refine⟨z,?_⟩;have er:∀i,i<D.length->sN (fun k=>al D i k*(x k-sN (fun l=>al D l k*z l) D.length)) n=0:=fun i hi=>by have h1:=hz i hi;unfold qN at h1;rw[IU]at h1;rw[<-h1];refine bf fun k hk=>?_;rw[Bf hk hi,eH,eH,zD hk];simp only[qH,iL,Rat.one_mul];congr 2;exact bf fun l hl=>by rw[Bf hk hl]
 refine Yq0 (y:=y) (y':=fun a=>sN (fun i=>al D i ((aK D n).2.2[a]?.getD 0)*z i) D.length) hD hx (fun j hj=>?_) (fun i hi=>er i hi);rw[bf (g:=fun i=>sN (fun a=>al (bH D n) a j*(al D i ((aK D n).2.2[a]?.getD 0)*z i)) (aK D n).2.1) fun i hi=>by rw[Zug hD hi hj,<-D3];exact bf fun a _=>by grind,zG,hr];exact bf fun a _=>by rw[eE]
variable {D:List (List Rat)} {S j n:Nat} {s w:List Rat} {δ:Rat}
def bk(n S:Nat)(a b c e:Nat->Rat)(j:Nat):Rat:=if j<n then a j else if j<n+S then b (j-n) else if j<n+S+S then c (j-(n+S)) else e (j-(n+S+S))
def Xa1{b c e:Nat->Rat}(h:j<n):bk n S a b c e j=a j:=av h
def Xa0{b c e:Nat->Rat}(h:j<S):bk n S a b c e (n+j)=b j:=by unfold bk;rw[ak (by omega),av (by omega),Nat.add_sub_cancel_left]
def Xaz{b c e:Nat->Rat}(h:j<S):bk n S a b c e (n+S+j)=c j:=by unfold bk;rw[ak (by omega),ak (by omega),av (by omega),Nat.add_sub_cancel_left]
def Xay{b c e:Nat->Rat}:bk n S a b c e (n+S+S+j)=e j:=by unfold bk;rw[ak (by omega),ak (by omega),ak (by omega),Nat.add_sub_cancel_left]
def Yjb{q:Nat}{b c e:Nat->Rat}:sN (fun j=>(oz (n+S+S+q) (bk n S a b c e))[j]?.getD 0*z j) (n+S+S+q)=sN (fun j=>a j*z j) n+sN (fun i=>b i*z (n+i)) S+sN (fun i=>c i*z (n+S+i)) S+sN (fun t=>e t*z (n+S+S+t)) q:=by rw[bf (g:=fun j=>bk n S a b c e j*z j) fun j hj=>by rw[Yfw hj],LW,LW,LW,bf (n:=n) (g:=fun j=>a j*z j) fun j hj=>by rw[Xa1 hj],bf (n:=S) (f:=fun j=>bk n S a b c e (n+j)*z (n+j)) (g:=fun l=>b l*z (n+l)) fun j hj=>by rw[Xa0 hj],bf (n:=S) (f:=fun j=>bk n S a b c e (n+S+j)*z (n+S+j)) (g:=fun i=>c i*z (n+S+i)) fun j hj=>by rw[Xaz hj],bf (n:=q) (g:=fun t=>e t*z (n+S+S+t)) fun j hj=>by rw[Xay]]
def wN(s:List Rat)(S i t:Nat):Rat:=if t<S then e1 t i else s[i]?.getD 0
def wI(w:List Rat)(i:Nat):Rat:=(w[i]?.getD 0)⁻¹
def BD(D:List (List Rat))(w s:List Rat)(δ:Rat)(n:Nat):List (List Rat):=(List.range D.length).map (fun i=>oz (n+D.length+D.length+(D.length+1)) (bk n D.length (fun l=>al D i l) (fun j=>wI w i*e1 i j) yQ (wN s D.length i)))++((List.range n).map (fun k=>oz (n+D.length+D.length+(D.length+1)) (bk n D.length (fun j=> -δ*e1 k j) (fun i=>al D i k) yQ yQ))++(List.range n).map (fun k=>oz (n+D.length+D.length+(D.length+1)) (bk n D.length (e1 k) yQ (fun i=> -al D i k) yQ)))
def Yn9:aW (BD D w s δ n) (n+D.length+D.length+(D.length+1)):=fun r hr=>by
 unfold BD at hr
 simp only[iS,bO]at hr
 rcases hr with⟨i,_,rfl⟩|⟨i,_,rfl⟩|⟨i,_,rfl⟩<;>simp[oz]
def Yqk:(BD D w s δ n).length=D.length+(n+n):=by simp[BD]
def Yfg:eL (BD D w s δ n) (n+D.length+D.length+(D.length+1)) z↔(∀i,i<D.length->cK D z n i+wI w i*z (n+i)+sN (fun t=>wN s D.length i t*z (n+D.length+D.length+t)) (D.length+1)=0)/\(∀k,k<n->sN (fun i=>al D i k*z (n+i)) D.length=δ*z k)/\(∀k,k<n->z k=sN (fun i=>al D i k*z (n+D.length+i)) D.length):=by
 have hk:eL (BD D w s δ n) (n+D.length+D.length+(D.length+1)) z↔∀r∈BD D w s δ n,sN (fun j=>r[j]?.getD 0*z j) (n+D.length+D.length+(D.length+1))=0:=by
  unfold eL;constructor
  ·intro h r hr;obtain⟨i,hi⟩:=nP hr;have h1:=h i (fv hi);unfold al at h1;rw[hi]at h1;exact h1
  intro h i hi;have h1:=h _ (List.getElem_mem hi);unfold al;rw[cj hi];exact h1
 have eA:∀i,i<D.length->sN (fun j=>(oz (n+D.length+D.length+(D.length+1)) (bk n D.length (fun l=>al D i l) (fun j=>wI w i*e1 i j) yQ (wN s D.length i)))[j]?.getD 0*z j) (n+D.length+D.length+(D.length+1))=cK D z n i+wI w i*z (n+i)+sN (fun t=>wN s D.length i t*z (n+D.length+D.length+t)) (D.length+1):=fun i hi=>by rw[Yjb,ON,bf (f:=fun j=>wI w i*e1 i j*z (n+j)) (g:=fun j=>wI w i*(e1 i j*z (n+j))) fun j _=>by grind,eE,Ll (f:=fun j=>z (n+j)) hi];unfold cK;grind
 have eB:∀k,k<n->sN (fun j=>(oz (n+D.length+D.length+(D.length+1)) (bk n D.length (fun j=> -δ*e1 k j) (fun i=>al D i k) yQ yQ))[j]?.getD 0*z j) (n+D.length+D.length+(D.length+1))=sN (fun i=>al D i k*z (n+i)) D.length-δ*z k:=fun k hk=>by rw[Yjb,ON,ON,bf (f:=fun j=> -δ*e1 k j*z j) (g:=fun j=> -δ*(e1 k j*z j)) fun j _=>by grind,eE,Ll hk];grind
 have eC:∀k,k<n->sN (fun j=>(oz (n+D.length+D.length+(D.length+1)) (bk n D.length (e1 k) yQ (fun i=> -al D i k) yQ))[j]?.getD 0*z j) (n+D.length+D.length+(D.length+1))=z k-sN (fun i=>al D i k*z (n+D.length+i)) D.length:=fun k hk=>by rw[Yjb,ON,ON,Ll hk,bf (f:=fun i=> -al D i k*z (n+D.length+i)) (g:=fun i=> -1*(al D i k*z (n+D.length+i))) fun i _=>by grind,eE];grind
 rw[hk];constructor
 ·intro h;refine⟨fun i hi=>?_,fun k hk=>?_,fun k hk=>?_⟩
  ·have h1:=h _ (List.mem_append_left _ (bO.2 ⟨i,jz.2 hi,rfl⟩));rw[eA i hi]at h1;exact h1
  ·have h1:=h _ (List.mem_append_right _ (List.mem_append_left _ (bO.2 ⟨k,jz.2 hk,rfl⟩)));rw[eB k hk]at h1;grind
  have h1:=h _ (List.mem_append_right _ (List.mem_append_right _ (bO.2 ⟨k,jz.2 hk,rfl⟩)));rw[eC k hk]at h1;grind
 rintro⟨h1,h2,h3⟩ r hr;unfold BD at hr;simp only[iS,bO,jz]at hr;rcases hr with⟨i,hi,rfl⟩|⟨k,hk,rfl⟩|⟨k,hk,rfl⟩
 ·rw[eA i hi];exact h1 i hi
 ·rw[eB k hk,h2 k hk];grind
 rw[eC k hk,<-h3 k hk];grind
structure Lo (D:List (List Rat)) (w:List Rat) (δ:Rat) (n:Nat) (s:Nat->Rat) (x:Nat->Rat):Prop where
 qN:∀k,k<n->sN (fun i=>w[i]?.getD 0*(al D i k*(s i-cK D x n i))) D.length=δ*x k
 row:∃y:Nat->Rat,∀k,k<n->x k=sN (fun i=>al D i k*y i) D.length
def Yfh(hw:w.length=D.length)(hp:∀q∈w,0<q)(hδ:0<=δ)(hz:eL (BD D w s δ n) (n+D.length+D.length+(D.length+1)) z)(h0:∀j,j<D.length+1->z (n+D.length+D.length+j)=0):(∀k,k<n->z k=0)/\∀i,i<D.length->z (n+i)=0:=by
 obtain⟨h1,h2,h3⟩:=Yfg.1 hz;have wn:∀i,i<D.length->w[i]?.getD 0*wI w i=1:=fun i hi=>by have:=OJ hp (i:=i) (by omega);unfold wI;exact Rat.mul_inv_cancel _ (fun h=>by rw[h]at this;exact absurd this (by decide))
 have e1':∀i,i<D.length->z (n+i)= -(w[i]?.getD 0*cK D z n i):=fun i hi=>by
  have k1:=h1 i hi;rw[pD (n:=D.length+1) fun t ht=>by rw[h0 t ht,Rat.mul_zero]]at k1;have k2:=wn i hi;have:w[i]?.getD 0*(cK D z n i+wI w i*z (n+i))=0:=by rw[show cK D z n i+wI w i*z (n+i)=0 by grind,Rat.mul_zero]
  grind
 have e2:sN (fun k=>z k*sN (fun i=>al D i k*z (n+i)) D.length) n= -sN (fun i=>w[i]?.getD 0*(cK D z n i*cK D z n i)) D.length:=by rw[Bg,bf (g:=fun i=> -1*(w[i]?.getD 0*(cK D z n i*cK D z n i))) fun i hi=>by rw[e1' i hi,bf (g:=fun k=> -(w[i]?.getD 0*cK D z n i)*(al D i k*z k)) fun k _=>by grind,eE];unfold cK;grind,eE];grind
 have e3:sN (fun k=>z k*sN (fun i=>al D i k*z (n+i)) D.length) n=δ*sN (fun k=>z k*z k) n:=by rw[<-eE];exact bf fun k hk=>by rw[h2 k hk];grind
 have p1:0<=sN (fun i=>w[i]?.getD 0*(cK D z n i*cK D z n i)) D.length:=CX (Lm hw hp);have p2:0<=δ*sN (fun k=>z k*z k) n:=Rat.mul_nonneg hδ (CX fun k _=>D4);have hm:=Yvc hw hp (e:=z) (n:=n) (by grind);have hu:∀i,i<D.length->z (n+i)=0:=fun i hi=>by rw[e1' i hi,show cK D z n i=0 from hm i hi];grind
 have e4:sN (fun k=>z k*z k) n=0:=by rw[bf (g:=fun k=>z k*sN (fun i=>al D i k*z (n+D.length+i)) D.length) fun k hk=>by rw[<-h3 k hk],Bg];refine pD fun i hi=>?_;rw[bf (g:=fun k=>z (n+D.length+i)*(al D i k*z k)) fun k _=>by grind,eE,show sN (fun k=>al D i k*z k) n=0 from hm i hi,Rat.mul_zero]
 exact⟨fun k hk=>Ln (It (fun k _=>D4) e4 k hk),hu⟩
def Yhn(hw:∀q∈w,0<q)(qw:∀q∈w,Qb 7 q):Qb 7 (wI w i):=by
 unfold wI;rcases Yoz (r:=w) i with h|h
 ·exact(qw _ h).inv (fun h0=>by have:=hw _ h;rw[h0]at this;exact absurd this (by decide))
 rw[h,Rat.inv_zero];exact⟨by decide,by decide⟩
end Go.Mx
