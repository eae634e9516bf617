/-Least squares-/
import Derived.Test.YtgccnjdneojagaaGreatDoorLsD
set_option linter.all false
namespace Go.Mx
open Go Go.Proofs
variable{wp wq:Bool}{G Kr M:List (List Rat)}{X r v:List Rat}{N R S a d i j n0 nB:Nat}{o y z:Nat->Rat}{h:T O}{r0:T V}{u:V}
variable {D:List (List Rat)} {n:Nat} {s w:List Rat}
set_option maxRecDepth 1000000
def Yx1(j:Nat):r[j]?.getD 0∈r\/r[j]?.getD 0=0:=by
 cases h:r[j]? with
 |none=>exact .inr rfl
 |some q=>exact .inl (cy h)
def NN{s:Rat}{b:Nat}(h:∀q∈r,df b (s*q)):df b (s*r[j]?.getD 0):=by
 rcases Yx1 (r:=r) j with h1|h1
 ·exact h _ h1
 rw[h1,Rat.mul_zero];exact df.zero
def Zm{x:Nat->Rat}(hD:aU D n)(hx:∀j,j<n->x j=sN (fun a=>al (aK D n) a j*y a) (aK D n).length):dS (eE D n) n x:=by rw[<-xb zO];intro a ha;exact Lm hD hx (Li hD (i:=a) ha)
def Ya3{b:Bool}(hD:aU D n)(qD:bH D 7)(qw:∀q∈w,Qb 7 q)(qs:∀q∈s,Qb 7 q)(hn:n<=4)(hS:D.length<=5)(hR:71<=R)(hb:b=true->132<=R):Ar (Eg D w s n b) (n+D.length+1) R:=by
 refine Zz3 Zn fun r hr=>?_;unfold Eg at hr;simp only[jn,bK,iL]at hr;rcases hr with⟨i,hi,rfl⟩|⟨k,hk,rfl⟩|hr
 ·obtain⟨t,h1,h2,h3⟩:=Ia (K:=7) (r:=D[i]?.getD []++[s[i]?.getD 0]) fun q hq=>by
   rcases jn.1 hq with hq|hq
   ·exact qD.at q hq
   rw[u9.1 hq];exact mS qs (by decide) i
  have hlen:(D[i]?.getD []++[s[i]?.getD 0]).length*7+1<=R:=by rw[iI,hD.at hi,Az];omega
  refine⟨t,h1,h2.mono hlen,fun q hq=>?_⟩;obtain⟨j,hj,rfl⟩:=bK.1 hq;unfold fA;split
  ·exact(NN (r:=D[i]?.getD []) fun q hq=>h3 q (List.mem_append_left _ hq)).mono hlen
  split
  ·split
   ·rw[Rat.mul_one];exact h2.mono hlen
   rw[Rat.mul_zero];exact df.zero
  exact(h3 _ (List.mem_append_right _ (u9.2 rfl))).mono hlen
 ·obtain⟨t,h1,h2,h3⟩:=Ia (K:=14) (r:=(List.range D.length).map fun i=>w[i]?.getD 0*al D i k) fun q hq=>by obtain⟨i,hi,rfl⟩:=bK.1 hq;exact(mS qw (by decide) i).mul (mS (qD.at (i:=i)) (by decide) k)
  have hlen:((List.range D.length).map fun i=>w[i]?.getD 0*al D i k).length*14+1<=R:=by rw[di,List.length_range];omega
  refine⟨t,h1,h2.mono hlen,fun q hq=>?_⟩;obtain⟨j,hj,rfl⟩:=bK.1 hq;unfold fB;split
  ·rw[Rat.mul_zero];exact df.zero
  split
  ·exact(h3 _ (bK.2 ⟨j-n,iL.2 (by omega),rfl⟩)).mono hlen
  rw[Rat.mul_zero];exact df.zero
 split at hr
 ·rename_i mK;obtain⟨a,ha,rfl⟩:=bK.1 hr;have ha:=iL.1 ha;have hR2:=hb mK;have rP:=F0 hD;obtain⟨t,h1,h2,h3⟩:=YZ (Zip qD hD) hD (by omega) a ha;have hB:((aD D n).2.1+1)*(n*7+1+(aD D n).2.1+1)<=R:=iZ (mI (show _<=4 by omega) (show _<=33 by omega)) (by omega);refine⟨t,h1,h2.mono hB,fun q hq=>?_⟩;obtain⟨j,hj,rfl⟩:=bK.1 hq;unfold fC;split
  ·exact(h3 j (by assumption)).mono hB
  rw[Rat.mul_zero];exact df.zero
 simp at hr
def Yg7{x:Nat->Rat}(hw:w.length=D.length)(hp:∀q∈w,0<q)(hx:∀k,k<n->oD D w s x n k=0)(ho:∀k,k<n->oD D w s o n k=0):dS D n fun l=>o l-x l:=by have h1:=Zo hx (o:=o);have h2:=Yjw x hw hp ho;have h3:=NA (Zp (e:=fun l=>o l-x l) (n:=n) hw hp);exact Zq hw hp (by grind)
def Yh9(h1:∀i,i<D.length->eI D z n i+z (n+i)=s[i]?.getD 0)(h2:∀k,k<n->sN (fun i=>w[i]?.getD 0*al D i k*z (n+i)) D.length=0):∀k,k<n->oD D w s z n k=0:=fun k hk=>by
 rw[<-h2 k hk]
 unfold oD
 apply bq
 intro i hi
 have:=h1 i hi
 unfold eI at this
 rw[<-this]
 grind
def zK(D:List (List Rat))(s:List Rat)(x:Nat->Rat)(n j:Nat):Rat:=if j<n then x j else if j<n+D.length then s[j-n]?.getD 0-eI D x n (j-n) else -1
def Zvh{x:Nat->Rat}(h:∀j,j<n->x j=y j):eI D x n i=eI D y n i:=bq fun j hj=>by rw[h j hj]
def Yo6{x:Nat->Rat}{b:Bool}(hx:∀k,k<n->oD D w s x n k=0)(hk:b=true->dS (eE D n) n x):dS (Eg D w s n b) (n+D.length+1) (zK D s x n)/\zK D s x n (n+D.length)= -1:=by
 have hu:zK D s x n (n+D.length)= -1:=by unfold zK;rw[ak (by omega),ak (by omega)]
 have hm:∀j,j<n->zK D s x n j=x j:=fun j hj=>by unfold zK;rw[av hj]
 have hv:∀i,i<D.length->zK D s x n (n+i)=s[i]?.getD 0-eI D x n i:=fun i hi=>by unfold zK;rw[ak (by omega),av (by omega),Nat.add_sub_cancel_left]
 refine⟨(Zr hu).2 ⟨fun i hi=>?_,fun k wC=>?_,fun hb a ha=>?_⟩,hu⟩
 ·rw[Zvh hm,hv i hi];grind
 ·have h1:=hx k wC;unfold oD at h1;rw[<-h1];apply bq;intro i hi;rw[hv i hi];unfold eI;grind
 rw[<-hk hb a ha];exact bq fun j hj=>by rw[hm j hj]
def Ya0{x:Nat->Rat}(hD:aU D n)(hw:w.length=D.length)(hp:∀q∈w,0<q)(qD:bH D 7)(qw:∀q∈w,Qb 7 q)(qs:∀q∈s,Qb 7 q)(hn:n<=4)(hS:D.length<=5)(hx:∀k,k<n->oD D w s x n k=0):∃d:Rat,d≠0/\df 810 d/\∀i,i<D.length->df 810 (d*(s[i]?.getD 0-eI D x n i)):=by
 obtain⟨z1,z2⟩:=Yo6 (b:=false) hx (fun h=>by cases h);obtain⟨d,d1,d2,d3⟩:=Zs (Ya3 (w:=w) (s:=s) (b:=false) hD qD qw qs hn hS (aM 71) (fun h=>by cases h)) Zn (by decide) z1 z2;have hB:(n+D.length+1)*(71+(n+D.length)+1)<=810:=iZ (mI (show _<=10 by omega) (show _<=81 by omega)) (by decide);refine⟨d,d1,d2.mono hB,fun i hi=>?_⟩;have h1:=d3 (n+i) (by omega) fun z k1 k2=>by obtain⟨a1,a2,_⟩:=(Zr k2).1 k1;have h2:=Yg7 hw hp hx (Yh9 a1 a2) i hi;have h3:=@NO D x z n i;unfold eI at h3;rw[h2]at h3;have h4:=a1 i hi;unfold eI at h4;unfold zK;rw[ak (by omega),av (by omega),Nat.add_sub_cancel_left];unfold eI;grind
 have h5:zK D s x n (n+i)=s[i]?.getD 0-eI D x n i:=by unfold zK;rw[ak (by omega),av (by omega),Nat.add_sub_cancel_left]
 rw[h5]at h1;exact h1.mono hB
def Yqm{x:Nat->Rat}(hD:aU D n)(hw:w.length=D.length)(hp:∀q∈w,0<q)(qD:bH D 7)(qw:∀q∈w,Qb 7 q)(qs:∀q∈s,Qb 7 q)(hn:n<=4)(hS:D.length<=5)(hx:∀k,k<n->oD D w s x n k=0)(hr:∀j,j<n->x j=sN (fun a=>al (aK D n) a j*y a) (aK D n).length):∀j,j<n->Qb 1420 (x j):=fun j hj=>by
 obtain⟨z1,z2⟩:=Yo6 (b:=true) hx (fun _=>Zm hD hr)
 obtain⟨d,d1,d2,d3⟩:=Zs (Ya3 (w:=w) (s:=s) (b:=true) hD qD qw qs hn hS (show 71<=132 by decide) (fun _=>aM 132)) Zn (by decide) z1 z2
 have hB:(n+D.length+1)*(132+(n+D.length)+1)<=1420:=iZ (mI (show _<=10 by omega) (show _<=142 by omega)) (by decide)
 have h5:∀l,l<n->zK D s x n l=x l:=fun l hl=>by
  unfold zK
  rw[av hl]
 have h1:=d3 j (by omega) fun z k1 k2=>by
  obtain⟨a1,a2,a3⟩:=(Zr k2).1 k1
  have h2:=Yg7 hw hp hx (Yh9 a1 a2)
  have h3:=a3 rfl
  have h4:=Zm hD hr
  rw[h5 j hj]
  have:=NK (e:=fun l=>z l-x l) hD ((xb hD).2 h2) (by
   show dS (aK (eE D n) n) n _
   rw[xb zO]
   intro a ha
   rw[bq (g:=fun l=>al (eE D n) a l*z l-al (eE D n) a l*x l) fun l _=>by grind,CT,h3 a ha,h4 a ha]
   grind) j hj
  grind
 rw[h5 j hj]at h1
 exact df.qb d1 (d2.mono hB) (h1.mono hB)
variable {D:List (List Rat)} {n:Nat} {w:List Rat}
def Ym5(h:n<=5):n<2^3:=by omega
def Yyj{x:Nat->Rat}(hD:aU D n)(hw:w.length=D.length)(hp:∀q∈w,0<q)(qD:bH D 7)(qw:∀q∈w,Qb 7 q)(qs:∀q∈s,Qb 7 q)(hn:n<=4)(hS:D.length<=5)(hx:∀k,k<n->oD D w s x n k=0):Qb 1659 (nQ D w s x n):=by
 obtain⟨d,d1,d2,d3⟩:=Ya0 hD hw hp qD qw qs hn hS hx;obtain⟨t,t1,t2,t3⟩:=Ia qw;have hl:w.length*7+1<=36:=by omega
 have h1:df (36+(810+810)) (t*(d*d)):=(t2.mono hl).mul (d2.mul d2);have h2:df (36+(810+810)+3) (sN (fun i=>t*w[i]?.getD 0*((d*(s[i]?.getD 0-eI D x n i))*(d*(s[i]?.getD 0-eI D x n i)))) D.length):=df.A7 (fun i hi=>((NN t3).mono hl).mul ((d3 i hi).mul (d3 i hi))) (Ym5 hS);have h0:t*(d*d)≠0:=fun hc=>by
  rcases Rat.mul_eq_zero.1 hc with h|h
  ·exact t1 h
  rcases Rat.mul_eq_zero.1 h with h|h<;>exact d1 h
 refine df.qb h0 (h1.mono (by omega)) ?_;have e:t*(d*d)*nQ D w s x n=sN (fun i=>t*w[i]?.getD 0*((d*(s[i]?.getD 0-eI D x n i))*(d*(s[i]?.getD 0-eI D x n i)))) D.length:=by unfold nQ;rw[<-gm];exact bq fun i _=>by grind
 rw[e];exact h2
def Yra(hr:r.length=S)(hi:i<S):dh r (yP S i)=r[i]?.getD 0:=by
 have e:∀j,j<S->(yP S i)[j]?.getD 0=if j=i then 1 else 0:=fun j hj=>by simp[yP,hj]
 rw[F8 hr,ve (i:=i) hi fun j hj aZ=>by rw[e j hj,ak aZ,Rat.mul_zero],e i hi,av rfl,Rat.mul_one]
def Zt:aU (jx D w n) D.length:=fun r hr=>by
 unfold jx at hr
 split at hr
 ·unfold yQ at hr
  obtain⟨_,_,rfl⟩:=bK.1 hr
  simp
 ·have:=Yfe r hr
  rwa [jN]at this
def Ln:(jx D w n).length=n:=by
 unfold jx;split
 ·simp[yQ]
 unfold dC;rw[di,jN]
def Ypn(hD:aU D n)(jy:0<n)(hw:w.length=D.length)(hp:∀q∈w,0<q)(qD:bH D 7)(qw:∀q∈w,Qb 7 q)(hn:n<=4)(hS:D.length<=5):bH (jx D w n) 1420:=fun r hr q hq=>by
 obtain⟨j,hj⟩:=pK hr
 obtain⟨i,hi⟩:=pK hq
 have vo:=Zt r hr
 have hiS:i<D.length:=by rw[<-vo];exact gI hi
 have C3:j<n:=by have:=gI hj;rwa [Ln]at this
 by_cases h0:0<(aK D n).length
 ·have CQ:(yP D.length i).length=D.length:=by simp[yP]
  obtain⟨x,y,a1,a2,a3⟩:=Zu (s:=yP D.length i) hD jy hw hp CQ h0
  have h1:=Yqm hD hw hp qD qw (s:=yP D.length i) (fun q hq=>by
   obtain⟨k,_,rfl⟩:=bK.1 hq
   split
   ·exact⟨by decide,by decide⟩
   ·exact⟨by decide,by decide⟩) hn hS a3 a2 j C3
  rw[<-a1 j C3,eH,hj,qO,il,Yra vo hiS,hi]at h1
  exact h1
 ·unfold jx at hr
  rw[av (by omega)]at hr
  unfold yQ at hr
  obtain⟨_,_,rfl⟩:=bK.1 hr
  obtain⟨_,_,rfl⟩:=bK.1 hq
  exact(show Qb 1 0 from ⟨by decide,by decide⟩).mono (by decide)
def Zv{D:List (List Rat)}{c:List Rat}{n:Nat}:∃y:Nat->Rat,∀j,j<n->(kZ D c n)[j]?.getD 0=sN (fun a=>al (aK D n) a j*y a) (aK D n).length:=by
 unfold kZ;split
 ·rename_i h0;exact⟨fun _=>0,fun j _=>by rw[Lk,h0];rfl⟩
 exact⟨_,fun j hj=>Td hj⟩
def Yka{D:List (List Rat)}{c:List Rat}{n:Nat}:∃y:Nat->Rat,∀j,j<n->(rm D c n)[j]?.getD 0=sN (fun a=>al (bS D n) a j*y a) (bS D n).length:=by
 unfold rm;split
 ·rename_i h0;exact⟨fun _=>0,fun j _=>by rw[Lk,h0];rfl⟩
 exact⟨_,fun j hj=>Td hj⟩
def Zw{c:List Rat}(hD:aU D n):dS D n fun l=>(rm D c n)[l]?.getD 0:=fun i hi=>by
 obtain⟨y,hy⟩:=@Yka D c n
 show sN (fun l=>al D i l*(rm D c n)[l]?.getD 0) n=0
 rw[bq (g:=fun l=>al D i l*sN (fun a=>al (bS D n) a l*y a) (bS D n).length) fun l hl=>by rw[hy l hl],FZ (b:=fun _=>0) fun t ht=>(bq fun l _=>Rat.mul_comm _ _).trans (Li hD ht i hi)]
 exact pJ fun a _=>Rat.zero_mul _
def Ypk{c:List Rat}(hD:aU D n):dS D n fun l=>c[l]?.getD 0-(kZ D c n)[l]?.getD 0:=fun i hi=>by
 refine(bq fun l hl=>?_).trans (Zw (c:=c) hD i hi)
 have:=Te (x:=c) hD l hl
 show al D i l*(c[l]?.getD 0-(kZ D c n)[l]?.getD 0)=al D i l*(rm D c n)[l]?.getD 0
 rw[this]
 grind
def Eh(D:List (List Rat))(c:List Rat)(n:Nat):List (List Rat):=(List.range D.length).map (fun i=>rU (n+1) fun j=>if j<n then al D i j else eI D (fun l=>c[l]?.getD 0) n i)++(List.range (eE D n).length).map fun a=>rU (n+1) fun j=>if j<n then al (eE D n) a j else 0
def Yfh{c:List Rat}:aU (Eh D c n) (n+1):=fun r hr=>by
 unfold Eh at hr
 rcases jn.1 hr with hr|hr
 ·obtain⟨i,_,rfl⟩:=bK.1 hr
  simp[rU]
 ·obtain⟨i,_,rfl⟩:=bK.1 hr
  simp[rU]
def Zx{c:List Rat}(hz:z n= -1):dS (Eh D c n) (n+1) z↔(∀i,i<D.length->eI D z n i=eI D (fun l=>c[l]?.getD 0) n i)/\dS (eE D n) n z:=by
 have hk:dS (Eh D c n) (n+1) z↔∀r∈Eh D c n,sN (fun j=>r[j]?.getD 0*z j) (n+1)=0:=by
  unfold dS;constructor
  ·intro h r hr;obtain⟨i,hi⟩:=pK hr;have h1:=h i (gI hi);unfold al at h1;rw[hi]at h1;exact h1
  intro h i hi;have h1:=h _ (List.getElem_mem hi);unfold al;rw[ct hi];exact h1
 have hf:∀(g:Nat->Rat) (v:Rat),sN (fun j=>(rU (n+1) fun j=>if j<n then g j else v)[j]?.getD 0*z j) (n+1)=sN (fun j=>g j*z j) n-v:=fun g v=>by rw[bq (g:=fun j=>(if j<n then g j else v)*z j) fun j hj=>by rw[Ygc hj]];show sN (fun j=>(if j<n then g j else v)*z j) n+(if n<n then g n else v)*z n=_;rw[bq (g:=fun j=>g j*z j) fun j hj=>by rw[av hj],ak (by omega),hz];grind
 rw[hk];unfold Eh;constructor
 ·intro h;refine⟨fun i hi=>?_,fun a ha=>?_⟩
  ·have h1:=h _ (List.mem_append_left _ (bK.2 ⟨i,iL.2 hi,rfl⟩));rw[hf]at h1;unfold eI at h1 ⊢;grind
  have h1:=h _ (List.mem_append_right _ (bK.2 ⟨a,iL.2 ha,rfl⟩));rw[hf]at h1;grind
 rintro⟨h1,h2⟩ r hr;rcases jn.1 hr with hr|hr
 ·obtain⟨i,hi,rfl⟩:=bK.1 hr;have h3:=h1 i (iL.1 hi);rw[hf];unfold eI at h3 ⊢;grind
 obtain⟨a,ha,rfl⟩:=bK.1 hr;have h3:=h2 a (iL.1 ha);rw[hf,h3];grind
def Yhy(h:n<=4):n<2^3:=by omega
def Zuy{c:List Rat}(hD:aU D n)(qD:bH D 7)(qc:∀q∈c,Qb 7 q)(cM:c.length=n)(hn:n<=4):∀j,j<n->Qb 685 ((kZ D c n)[j]?.getD 0):=fun j hj=>by
 have hR:Ar (Eh D c n) (n+1) 132:=by
  refine Zz3 Yfh fun r hr=>?_
  unfold Eh at hr
  rcases jn.1 hr with hr|hr
  ·obtain⟨i,hi,rfl⟩:=bK.1 hr
   have hi:=iL.1 hi
   obtain⟨t,h1,h2,h3⟩:=Ia (K:=7) (r:=D[i]?.getD []) (qD.at (i:=i))
   obtain⟨t',g1,g2,g3⟩:=Ia qc
   have l1:(D[i]?.getD []).length*7+1<=29:=by rw[hD.at hi];omega
   have l2:c.length*7+1<=29:=by omega
   refine⟨t*t',fun h=>?_,((h2.mono l1).mul (g2.mono l2)).mono (by decide),fun q hq=>?_⟩
   ·rcases Rat.mul_eq_zero.1 h with h|h
    ·exact h1 h
    ·exact g1 h
   ·obtain⟨l,hl,rfl⟩:=bK.1 hq
    split
    ·have:=((NN (j:=l) h3).mono l1).mul (g2.mono l2)
     rw[show t*t'*al D i l=t*(D[i]?.getD [])[l]?.getD 0*t' by unfold al;grind]
     exact this.mono (by decide)
    ·have h5:df (29+29+3) (sN (fun l=>t*(D[i]?.getD [])[l]?.getD 0*(t'*c[l]?.getD 0)) n):=df.A7 (fun l _=>((NN (j:=l) h3).mono l1).mul ((NN (j:=l) g3).mono l2)) (Yhy hn)
     have e:t*t'*eI D (fun l=>c[l]?.getD 0) n i=sN (fun l=>t*(D[i]?.getD [])[l]?.getD 0*(t'*c[l]?.getD 0)) n:=by
      unfold eI
      rw[<-gm]
      exact bq fun l _=>by unfold al;grind
     rw[e]
     exact h5.mono (by decide)
  ·obtain⟨a,ha,rfl⟩:=bK.1 hr
   have ha:=iL.1 ha
   have rP:=F0 hD
   obtain⟨t,h1,h2,h3⟩:=YZ (Zip qD hD) hD (by omega) a ha
   have hB:((aD D n).2.1+1)*(n*7+1+(aD D n).2.1+1)<=132:=iZ (mI (show _<=4 by omega) (show _<=33 by omega)) (by decide)
   refine⟨t,h1,h2.mono hB,fun q hq=>?_⟩
   obtain⟨l,hl,rfl⟩:=bK.1 hq
   split
   ·exact(h3 l (by assumption)).mono hB
   ·rw[Rat.mul_zero]
    exact df.zero
 obtain⟨y,hy⟩:=@Zv D c n
 obtain⟨z0,pN⟩:∃z:Nat->Rat,∀l,z l=if l<n then (kZ D c n)[l]?.getD 0 else -1:=⟨_,fun _=>rfl⟩
 have hm:∀l,l<n->z0 l=(kZ D c n)[l]?.getD 0:=fun l hl=>by rw[pN,av hl]
 have Zy:z0 n= -1:=by rw[pN,ak (by omega)]
 have hK:dS (Eh D c n) (n+1) z0:=(Zx Zy).2 ⟨fun i hi=>by
  have h1:=Ypk (c:=c) hD i hi
  have h2:=@NO D (fun l=>(kZ D c n)[l]?.getD 0) (fun l=>c[l]?.getD 0) n i
  unfold eI at h2
  rw[h1]at h2
  rw[Zvh hm]
  unfold eI
  grind,fun a ha=>by
  rw[<-Zm hD hy a ha]
  exact bq fun l hl=>by rw[hm l hl]⟩
 obtain⟨d,d1,d2,d3⟩:=Zs hR Yfh (by decide) hK Zy
 have hB:(n+1)*(132+n+1)<=685:=iZ (mI (show _<=5 by omega) (show _<=137 by omega)) (by decide)
 have h1:=d3 j hj fun z k1 k2=>by
  obtain⟨a1,a2⟩:=(Zx k2).1 k1
  obtain⟨b1,b2⟩:=(Zx Zy).1 hK
  have:=NK (e:=fun l=>z l-z0 l) hD ((xb hD).2 fun i hi=>by
   have h3:=@NO D z0 z n i
   rw[a1 i hi,b1 i hi]at h3
   unfold eI at h3
   rw[h3]
   grind) (by
   show dS (aK (eE D n) n) n _
   rw[xb zO]
   intro a ha
   rw[bq (g:=fun l=>al (eE D n) a l*z l-al (eE D n) a l*z0 l) fun l _=>by grind,CT,a2 a ha,b2 a ha]
   grind) j hj
  grind
 rw[hm j hj]at h1
 exact df.qb d1 (d2.mono hB) (h1.mono hB)
def Yly{c:List Rat}(hD:aU D n)(jy:0<n)(hw:w.length=D.length)(hp:∀q∈w,0<q)(cM:c.length=n)(h0:0<(aK D n).length):∀j,j<n->((jx D w n).map fun r=>dh r (D.map fun r=>dh r c))[j]?.getD 0=(kZ D c n)[j]?.getD 0:=fun j hj=>by
 obtain⟨x,y,a1,a2,a3⟩:=Zu (s:=D.map fun r=>dh r c) hD jy hw hp (di ..) h0
 obtain⟨y',vt⟩:=@Zv D c n
 rw[a1 j hj]
 have h1:=Ycn (c:=fun l=>c[l]?.getD 0) hw hp (fun i hi=>Lj hD hi) a3
 have h2:=Ypk (c:=c) hD
 refine Yr7 hD a2 vt (fun i hi=>?_) j hj
 have h3:=h1 i hi
 have h4:=h2 i hi
 rw[bq (g:=fun l=>al D i l*(c[l]?.getD 0-(kZ D c n)[l]?.getD 0)-al D i l*(c[l]?.getD 0-x l)) fun l _=>by grind,CT,h3,h4]
 grind
def NP{l:List Rat}(h:∀q∈l,Qb 1800 q):mT l=false:=by unfold mT;rw[List.any_eq_false];intro q hq;rw[(C4 (h q hq) (aM _)).1];decide
def Xa3:mT ((List.range n).map fun _=>(0:Rat))=false:=NP fun q hq=>by
 obtain⟨_,_,rfl⟩:=bK.1 hq
 exact(show Qb 1 0 from ⟨by decide,by decide⟩).mono (by decide)
def Yvo(h:bH M 1800):wu M=false:=by unfold wu;rw[List.any_eq_false];intro r hr;rw[NP (h r hr)];decide
def NQ{r e z:Nat}(h1:R<=r)(h2:d<=e)(h3:(e+2)*(r+e+1)<=z):kW R d<=z:=by unfold kW;exact iZ (mI (by omega) (by omega)) h3
def Yqp(h:M[i]?=some r):al M i j=r[j]?.getD 0:=by unfold al;rw[h];rfl
set_option maxHeartbeats 8000000
def A.pQ:cF:=sr [bi 256 .lss 255 254] (.seq (cd 256 (.skip) (.exit 4)) (.seq (.block 5 (sr [ia 257 1 253 255,ld 258 257,mv 23 258] (sr [mv 259 23,mv 260 11,c2 261 19 259 260,ge 262 (.bin .neq (.fF .str) true (tq 261) (.const (.str [48])))] (cd 262 (sr [ge 6 (.vD (.const (.bool false)))] (.ret)) (.skip))))) (.gw [bc 263 .add 255 1,mv 255 263])))
def A.Bb:cF:=sr [bi 227 .lss 226 225] (.seq (cd 227 (.skip) (.exit 2)) (.seq (.block 3 (sr [mv 228 226,mv 21 228] (.gK [mv 229 20,fa 230 0 4,ld 231 230,mv 232 21,ia 233 1 231 232,ld 234 233,mv 235 0,mv 236 21,ia 237 1 235 236,ld 238 237,mv 239 19,ia 240 1 238 239,ld 241 240,mv 242 13,mv 243 21,ia 244 1 242 243,ld 245 244,c2 246 18 241 245,c2 247 18 234 246,c2 248 17 229 247,mv 20 248] [0,0,2,0,14,30,0,0,192,448,0,1984,4032,0,0,24576,57344,131008,262142,524287,1048575]))) (.gw [bc 249 .add 226 1,mv 226 249])))
def A.pR:cF:=sr [bi 222 .lss 221 220] (.seq (cd 222 (.skip) (.exit 0)) (.seq (.block 1 (sr [mv 223 221,mv 19 223] (sr [ge 20 (.vD (.const (.str [48])))] (.seq (sr [mv 224 0,ln 225 224,mc 226 0] (.block 2 (.loop A.Bb))) (sr [mv 250 20,ge 251 (.bin .neq (.fF .str) true (tq 250) (.const (.str [48])))] (cd 251 (sr [ge 6 (.vD (.const (.bool false)))] (.ret)) (.skip))))))) (.gw [bc 252 .add 221 1,mv 221 252])))
def A.Bc:cF:=sr [mv 280 0,fa 281 2 4,ld 282 281,c2 283 13 280 282,mv 279 283,xt 284 279 0,xt 285 279 1,mv 24 284,mv 25 285] (.seq (sr [mv 286 25,ni 287 286 0,mv 288 287,mh 289 24 288,mh 290 0 288,gz 291 288 (.len 1 (tq 290)),gz 292 288 (.call (fq 7) [tq 289,tq 291]),gz 293 288 (.bin .neq (.fF .int) true (tq 292) (kq 0)),pt 294 288 293] (cd 294 (sr [ge 6 (.vD (.const (.bool false)))] (.ret)) (.skip))) (sr [mv 296 7,mv 297 24,c2 298 13 296 297,mv 295 298,xt 299 295 0,xt 300 295 1,mv 26 299,mv 27 300] (sr [mv 302 0,fa 303 2 4,ld 304 303,c2 305 21 302 304,mv 301 305,xt 306 301 0,xt 307 301 1,xt 308 301 2,mv 28 306,mv 29 307,mv 30 308] (.seq (.seq (.gK [mv 309 27,mv 310 30,bi 311 .add 309 310,ni 312 311 0,mv 313 312,mh 314 26 313,mh 315 28 313,gz 316 313 (.call (fq 22) [tq 314,tq 315]),gz 317 313 (.un .not (tq 316)),pt 318 313 317,mv 319 318,mh 320 28 319,mh 321 0 319,gz 322 319 (.jf 1 (tq 321) (kq 0)),gz 323 319 (.load none (tq 322)),gz 324 319 (.len 1 (tq 323)),gz 325 319 (.call (fq 7) [tq 320,tq 324]),mh 326 29 319,mh 327 0 319,gz 328 319 (.jf 1 (tq 327) (kq 0)),gz 329 319 (.load none (tq 328)),gz 330 319 (.len 1 (tq 329)),gz 331 319 (.call (fq 7) [tq 326,tq 330]),gz 332 319 (.bin .add (.node []) false (tq 325) (tq 331)),gz 333 319 (.bin .neq (.fF .int) true (tq 332) (kq 0)),pt 334 319 333,mv 335 334,mh 336 28 335,mh 337 29 335,gz 338 335 (.call (fq 23) [tq 336,tq 337]),gz 339 335 (.vE 2 (tq 4)),gz 340 335 (.load none (tq 339)),gz 341 335 (.call (fq 22) [tq 338,tq 340]),gz 342 335 (.un .not (tq 341)),pt 343 335 342,mv 344 343,mh 345 28 344,mh 346 29 344,gz 347 344 (.call (fq 19) [tq 345,tq 346]),gz 348 344 (.bin .neq (.fF .str) true (tq 347) (.const (.str [48]))),pt 349 344 348] [0,0,3,7,15,31,31,127,255,511,1023,2047,2047,6143,14335,30719,65535,2047,2047,264191,788479,1837055,4194303,8388607,16777215,33554431,67108863,134217727,134217727,536870911,134217727,1207959551,4294967295,8589934591,17179869183,34359738367,68719476735,68719476735,274877906943,549755813887,1099511627775]) (cd 349 (sr [ge 6 (.vD (.const (.bool false)))] (.ret)) (.skip))) (sr [mv 351 0,mv 352 29,c2 353 13 351 352,mv 350 353,xt 354 350 0,xt 355 350 1,mv 31 354,mv 32 355] (sr [mv 356 32,ei 357 356 0,mv 358 357,mg 359 31 358,mg 360 0 358,gy 361 358 (.len 1 (tq 360)),gy 362 358 (.call (fq 24) [tq 361]),gy 363 358 (.call (fq 22) [tq 359,tq 362]),pf 364 358 363,mv 365 364,gy 366 365 (.call (fq 9) []),pf 367 365 366,mv 6 367] (.ret)))))))
def A.Be:cF:=.seq (sr [mv 217 0,ge 218 (.jf 1 (tq 217) (kq 0)),ld 219 218,ln 220 219,mc 221 0] (.block 0 (.loop A.pR))) (.seq (sr [mv 253 9,ln 254 253,mc 255 0] (.block 4 (.loop A.pQ))) (.seq (sr [mv 264 15,mv 265 17,c2 266 20 264 265] (.block 6 (sr [ei 268 266 1,mv 267 268] (cd 267 (sr [ge 6 (.vD (.const (.bool false)))] (.ret)) (sr [ei 270 266 0,mv 269 270] (cd 269 (sr [mv 271 11,mv 272 11,c2 273 19 271 272,mv 274 2,mv 275 2,c2 276 19 274 275,c2 277 20 273 276,bc 278 .gtr 277 0] (cd 278 (sr [ge 6 (.vD (.const (.bool false)))] (.ret)) (.skip))) (.skip)))))))
 A.Bc))
def A.Bf:cF:=sr [mv 101 0,fa 102 0 4,ld 103 102,c2 104 10 101 103,mv 100 104,xt 105 100 0,xt 106 100 1,mv 7 105,mv 8 106] (sr [mv 108 0,c1 109 11 108,mv 107 109,xt 110 107 0,xt 111 107 1,mv 9 110,mv 10 111] (.seq (sr [mv 112 8,mv 113 10,bi 114 .add 112 113,ni 115 114 0,mv 116 115,mh 117 7 116,gz 118 116 (.len 1 (tq 117)),mh 119 0 116,gz 120 116 (.jf 1 (tq 119) (kq 0)),gz 121 116 (.load none (tq 120)),gz 122 116 (.len 1 (tq 121)),gz 123 116 (.bin .neq (.fF .int) false (tq 118) (tq 122)),pt 124 116 123,mv 125 124,mh 126 7 125,mh 127 0 125,gz 128 125 (.len 1 (tq 127)),gz 129 125 (.call (fq 12) [tq 126,tq 128]),gz 130 125 (.bin .neq (.fF .int) true (tq 129) (kq 0)),pt 131 125 130,mv 132 131,mh 133 9 132,gz 134 132 (.len 1 (tq 133)),mh 135 0 132,gz 136 132 (.jf 1 (tq 135) (kq 0)),gz 137 132 (.load none (tq 136)),gz 138 132 (.len 1 (tq 137)),gz 139 132 (.bin .gtr (.node []) false (tq 134) (tq 138)),pt 140 132 139,mv 141 140,mh 142 9 141,mh 143 0 141,gz 144 141 (.jf 1 (tq 143) (kq 0)),gz 145 141 (.load none (tq 144)),gz 146 141 (.len 1 (tq 145)),gz 147 141 (.call (fq 12) [tq 142,tq 146]),gz 148 141 (.bin .neq (.fF .int) true (tq 147) (kq 0)),pt 149 141 148] (cd 149 (sr [ge 6 (.vD (.const (.bool false)))] (.ret)) (.skip))) (sr [mv 151 7,fa 152 1 4,ld 153 152,c2 154 13 151 153,mv 150 154,xt 155 150 0,xt 156 150 1,mv 11 155,mv 12 156] (.seq (sr [mv 157 12,ni 158 157 0,mv 159 158,mh 160 11 159,mh 161 0 159,gz 162 159 (.jf 1 (tq 161) (kq 0)),gz 163 159 (.load none (tq 162)),gz 164 159 (.len 1 (tq 163)),gz 165 159 (.call (fq 7) [tq 160,tq 164]),gz 166 159 (.bin .neq (.fF .int) true (tq 165) (kq 0)),pt 167 159 166] (cd 167 (sr [ge 6 (.vD (.const (.bool false)))] (.ret)) (.skip))) (sr [mv 169 0,fa 170 1 4,ld 171 170,mv 172 11,ge 173 (.call (fq 14) [tq 169,tq 171,tq 172]),mv 168 173,xt 174 168 0,xt 175 168 1,mv 13 174,mv 14 175] (sr [mv 177 0,fa 178 0 4,ld 179 178,fa 180 1 4,ld 181 180,mv 182 11,ge 183 (.call (fq 15) [tq 177,tq 179,tq 181,tq 182]),mv 176 183,xt 184 176 0,xt 185 176 1,mv 15 184,mv 16 185] (sr [mv 187 0,fa 188 0 4,ld 189 188,fa 190 1 4,ld 191 190,mv 192 2,ge 193 (.call (fq 15) [tq 187,tq 189,tq 191,tq 192]),mv 186 193,xt 194 186 0,xt 195 186 1,mv 17 194,mv 18 195] (.seq (sr [mv 196 14,mv 197 16,bi 198 .add 196 197,mv 199 18,bi 200 .add 198 199,ni 201 200 0,mv 202 201,mh 203 13 202,mh 204 0 202,gz 205 202 (.len 1 (tq 204)),gz 206 202 (.call (fq 7) [tq 203,tq 205]),gz 207 202 (.bin .neq (.fF .int) true (tq 206) (kq 0)),pt 208 202 207,mv 209 208,mh 210 15 209,gz 211 209 (.call (fq 16) [tq 210]),mh 212 17 209,gz 213 209 (.call (fq 16) [tq 212]),gz 214 209 (.bin .add (.node []) false (tq 211) (tq 213)),gz 215 209 (.bin .neq (.fF .int) true (tq 214) (kq 0)),pt 216 209 215] (cd 216 (sr [ge 6 (.vD (.const (.bool false)))] (.ret)) (.skip)))
 A.Be))))))))
def A.b3:cF:=sr [bx 4 25 1,ge 6 (.vD (.const (.bool false)))] (.seq (.seq (.gK [mv 33 0,ge 34 (.call (fq 4) [tq 33,.const (.int .i64 5),.const (.int .i64 4),.const (.int .i64 2)]),ge 35 (.un .not (tq 34)),mv 36 35,gz 37 36 (.load (some 3) (tq 4)),gz 38 36 (.call (fq 5) [tq 37]),gz 39 36 (.un .not (tq 38)),pt 40 36 39,mv 41 40,gz 42 41 (.vE 0 (tq 4)),gz 43 41 (.load none (tq 42)),mh 44 0 41,gz 45 41 (.len 1 (tq 44)),gz 46 41 (.call (fq 6) [tq 43,tq 45,.const (.int .i64 1)]),gz 47 41 (.bin .neq (.fF .int) true (tq 46) (kq 0)),pt 48 41 47,mv 49 48,gz 50 49 (.vE 1 (tq 4)),gz 51 49 (.load none (tq 50)),mh 52 0 49,gz 53 49 (.len 1 (tq 52)),gz 54 49 (.call (fq 7) [tq 51,tq 53]),gz 55 49 (.bin .neq (.fF .int) true (tq 54) (kq 0)),pt 56 49 55,mv 57 56,gz 58 57 (.vE 2 (tq 4)),gz 59 57 (.load none (tq 58)),mh 60 0 57,gz 61 57 (.jf 1 (tq 60) (kq 0)),gz 62 57 (.load none (tq 61)),gz 63 57 (.len 1 (tq 62)),gz 64 57 (.call (fq 7) [tq 59,tq 63]),gz 65 57 (.bin .neq (.fF .int) true (tq 64) (kq 0)),pt 66 57 65,mv 67 66,mh 68 2 67,mh 69 0 67,gz 70 67 (.jf 1 (tq 69) (kq 0)),gz 71 67 (.load none (tq 70)),gz 72 67 (.len 1 (tq 71)),gz 73 67 (.call (fq 7) [tq 68,tq 72]),gz 74 67 (.bin .neq (.fF .int) true (tq 73) (kq 0)),pt 75 67 74,mv 76 75,gz 77 76 (.vE 0 (tq 4)),gz 78 76 (.load none (tq 77)),gz 79 76 (.call (fq 8) [tq 78,.const (.int .i64 5),.const (.int .i64 2)]),gz 80 76 (.un .not (tq 79)),pt 81 76 80,mv 82 81,gz 83 82 (.vE 1 (tq 4)),gz 84 82 (.load none (tq 83)),gz 85 82 (.call (fq 8) [tq 84,.const (.int .i64 5),.const (.int .i64 2)]),gz 86 82 (.un .not (tq 85)),pt 87 82 86,mv 88 87,gz 89 88 (.vE 2 (tq 4)),gz 90 88 (.load none (tq 89)),gz 91 88 (.call (fq 8) [tq 90,.const (.int .i64 4),.const (.int .i64 2)]),gz 92 88 (.un .not (tq 91)),pt 93 88 92,mv 94 93,mh 95 2 94,gz 96 94 (.call (fq 8) [tq 95,.const (.int .i64 4),.const (.int .i64 2)]),gz 97 94 (.un .not (tq 96)),pt 98 94 97] [0,1,3,7,15,31,63,127,255,511,1023,511,2559,8191,16383,32767,65535,131071,262143,131071,655359,2097151,4194303,8388607,16777215,33554431,67108863,33554431,167772159,436207615,973078527,2147483647,4294967295,8589934591,17179869183,34359738367,34359738367,103079215103,240518168575,515396075519,1099511627775,2199023255551,4398046511103,8796093022207,17592186044415,35184372088831,70368744177663,140737488355327,281474976710655,562949953421311,1125899906842623,2251799813685247,4503599627370495,9007199254740991,18014398509481983,36028797018963967,72057594037927935,144115188075855871,288230376151711743,576460752303423487,1152921504606846975,2305843009213693951,4611686018427387903,9223372036854775807,18446744073709551615,36893488147419103231]) (cd 98 (sr [ge 99 (.call (fq 9) []),mv 6 99] (.ret)) (.skip)))
 A.Bf)
def A.c3:A.F 3=some ⟨368,[.tmp 6],A.b3⟩:=by kernel_rfl
def A.k3:=@A.kk 3 _ _ _ A.c3 rfl
def Th{f:Nat->Rat}{K:Nat}(h:∀i,Qb K (f i)):∀{t:Nat},Qb (t*(K+1)+1) (sN f t)
 |0=>(show Qb 1 0 from ⟨by decide,by decide⟩).mono (by omega)
 |t+1=>by
  have h1:=(Th h (t:=t)).add (h t)
  rw[show (t+1)*(K+1)+1=t*(K+1)+1+K+1 by rw[Nat.succ_mul];omega]
  exact h1
def Ym8{B0:Nat}{B:T O}{vd vL wv sv xv:V}{L:List Rat}(Iu:nB<=n0)(hS:D.length=S)(S5:S<=5)(n4:n<=4)(hDc:aU D n)(qD:bH D 7)(rV:w.length=S)(qw:∀q∈w,Qb 7 q)(hLl:L.length=S)(qL:∀q∈L,Qb 1800 q)(hz:∀k,k<n->sN (fun i=>w[i]?.getD 0*(al D i k*L[i]?.getD 0)) S=0)(hd:oa B n0 vd D)(hw:Tx B n0 wv w)(hL:Tx B n0 vL L)(hB:B.get B0=some (.cells [wv,sv,xv] 25 true))(nE:B0<n0)(a0:r0.get 0=some vd)(a4:r0.get 4=some (.ptr B0 0))(Lo:r0.get 13=some vL)(NR:r0.get 220=some (.int .i64 (n:Nat))):
  ∀j r st,(∀t,j_ [(6,6),(19,21),(221,252)] t=false->r.get t=r0.get t)->Fx [(6,6),(19,21),(221,252)] r0 368 ⟨r,368,[]⟩->(ay nB st.w=[]/\ab B n0 st.h st.n/\∃k,k+j=n/\r.get 221=some (.int .i64 (k:Nat)))->Code A.C none A.pR ⟨r,368,[]⟩ st (Rd [(6,6),(19,21),(221,252)] r0 368 (fun j r st=>ay nB st.w=[]/\ab B n0 st.h st.n/\∃k,k+j=n/\r.get 221=some (.int .i64 (k:Nat))) j (fun e r st=>e=.exit 0/\ay nB st.w=[]/\ab B n0 st.h st.n)):=by
 rintro j r ⟨H,n1,W⟩ hr hf ⟨hW,hK,k,hk,Iv⟩;simp only at hW hK;rw[bu];have Ti:=hK.le;cases j with
 |zero=>
  obtain rfl:k=n:=by omega
  simp[A.pR,hr,hf,Iv,NR,hW,hK]
 |succ j=>
  have aE:k<n:=by omega
  have bG:(k:Int)<(n:Int):=by omega
  have ld:=(hd.ad hK).len;rw[hS]at ld;simp[A.pR,hr,Iv,a0,NR,bG,ld];refine b_ [(20,21),(226,249)] (fun e r st=>e=.exit 2/\ay nB st.w=[]/\ab H n1 st.h st.n/\r.get 20=some (.str [48])) (fun a r st=>ay nB st.w=[]/\ab H n1 st.h st.n/\∃t,t+a=S/\r.get 226=some (.int .i64 (t:Nat))/\r.get 20=some (.str (aO (sN (fun i=>w[i]?.getD 0*(al D i k*L[i]?.getD 0)) t)))) S ?_ ?_ ?_
  ·exact⟨hW,ab.refl,0,by omega,by simp,by simp[sN,Iw]⟩
  ·rintro a r2 ⟨H4,NS,W4⟩ dJ ef ⟨vu,AA,t,ht,Ix,C5⟩;simp only at vu AA;rw[bu];have zS:=AA.le;have rW:=hK.trans AA;cases a with
   |zero=>
    obtain rfl:t=S:=by omega
    rw[hz k aE,Iw]at C5;simp[A.Bb,dJ,ef,Ix,C5,vu,AA]
   |succ a=>
    have tlt:t<S:=by omega
    have Zz:(t:Int)<(S:Int):=by omega
    obtain⟨q1,e1⟩:=bj (l:=w) (k:=t) (by omega);obtain⟨q3,e3⟩:=bj (l:=L) (k:=t) (by omega);obtain⟨row,er⟩:=bj (l:=D) (k:=t) (by omega);have vo:=hDc row (cy er);obtain⟨q2,e2⟩:=bj (l:=row) (k:=k) (by omega);obtain⟨i1,o1,c1,t1,b1,x1,x2,x3,x4⟩:=(hw.ad rW).at (FQ e1);obtain⟨i2,o2,c2,t2,b2,u2,y1,y2,y3,y4,y5⟩:=(hd.ad rW).at er;obtain⟨i3,o3,c3,t3,b3,z1,z2,z3,z4⟩:=y5.at (FQ e2);obtain⟨i4,o4,c4,t4,b4,v1,v2,v3,v4⟩:=(hL.ad rW).at (FQ e3);have lw:=Tx.len (hw.ad rW);have lL:=Tx.len (hL.ad rW);have ld4:=(hd.ad rW).len;have lr:=Tx.len y5;rw[rV]at lw;rw[hLl]at lL;rw[hS]at ld4;rw[vo]at lr;have gB:=(rW.get B0 nE).trans hB;have C6:B0<NS:=by have:=rW.le;omega
    have qq1:=qw q1 (cy e1);have ZA:=qD row (cy er) q2 (cy e2);have ZB:=qL q3 (cy e3);simp[A.Bb,dJ,Ix,C5,hr,a0,a4,Lo,Zz,bG,gB,C6,lw,lL,ld4,lr,x1,x2,x3,x4,y1,y2,y3,y4,z1,z2,z3,z4,v1,v2,v3,v4];refine ar (ZC ZA ZB (by decide) (by decide)) ?_;rintro _ H5 n5 k5 rfl;simp;refine ar (ZC qq1 (ZA.mul ZB) (by decide) (by decide)) ?_;rintro _ H6 n6 k6 rfl;have hsq:Qb (t*(1814+1)+1) (sN (fun i=>w[i]?.getD 0*(al D i k*L[i]?.getD 0)) t):=Th fun i=>(mS qw (by decide) i).mul ((mS (qD.at (i:=i)) (by decide) k).mul (mS qL (by decide) i));simp;refine ar (SM (hsq.mono (show _<=10000 by omega)) (qq1.mul (ZA.mul ZB)) (by decide) (by decide)) ?_;rintro _ H7 n7 k7 rfl;have es:sN (fun i=>w[i]?.getD 0*(al D i k*L[i]?.getD 0)) t+q1*(q2*q3)=sN (fun i=>w[i]?.getD 0*(al D i k*L[i]?.getD 0)) (t+1):=by show _=sN (fun i=>w[i]?.getD 0*(al D i k*L[i]?.getD 0)) t+w[t]?.getD 0*(al D t k*L[t]?.getD 0);rw[e1,e3,Yqp er,e2];rfl
    simp(disch:=first|(simp;done)|omega|rfl) [ef,Ix,vu,es];exact⟨a,by omega,((AA.trans k5).trans k6).trans k7,t+1,by omega,by omega,rfl⟩
  rintro e r2 ⟨H6,n6,W6⟩ dJ ⟨rfl,Lp,hK6,C5⟩;simp only at Lp hK6;simp(disch:=first|(simp;done)|omega|rfl) [dJ,C5,Iv,Lp];refine⟨?_,j,by omega,hK.trans hK6,k+1,by omega,by omega⟩;exact Fx.inner hf (by decide) (fun h=>by simpa using h) dJ
def Yna{B:T O}{vb vx:V}(Iu:nB<=n0)(n4:n<=4)(hKl:Kr.length<=5)(rK:aU Kr n)(qK:bH Kr 1212)(hXl:X.length=n)(qX:∀q∈X,Qb 1800 q)(hz:∀(k:Nat) (x:List Rat),Kr[k]?=some x->dh x X=0)(hb:oa B n0 vb Kr)(hX:Tx B n0 vx X)(a9:r0.get 9=some vb)(uL:r0.get 11=some vx)(ZD:r0.get 253=some vb)(NT:r0.get 254=some (.int .i64 Kr.length)):
  ∀j r st,(∀t,j_ [(6,6),(23,23),(255,263)] t=false->r.get t=r0.get t)->Fx [(6,6),(23,23),(255,263)] r0 368 ⟨r,368,[]⟩->(ay nB st.w=[]/\ab B n0 st.h st.n/\∃k,k+j=Kr.length/\r.get 255=some (.int .i64 (k:Nat)))->Code A.C none A.pQ ⟨r,368,[]⟩ st (Rd [(6,6),(23,23),(255,263)] r0 368 (fun j r st=>ay nB st.w=[]/\ab B n0 st.h st.n/\∃k,k+j=Kr.length/\r.get 255=some (.int .i64 (k:Nat))) j (fun e r st=>e=.exit 4/\ay nB st.w=[]/\ab B n0 st.h st.n)):=by
 rintro j r ⟨H,n1,W⟩ hr hf ⟨hW,hK,k,hk,Iy⟩;simp only at hW hK;rw[bu];have Ti:=hK.le;cases j with
 |zero=>
  obtain rfl:k=Kr.length:=by omega
  simp[A.pQ,hr,hf,Iy,NT,hW,hK]
 |succ j=>
  have aE:k<Kr.length:=by omega
  have bG:(k:Int)<(Kr.length:Int):=by omega
  obtain⟨x,hx⟩:=bj aE;have rM:=rK x (cy hx);obtain⟨i,o,cc,e,rw,u,q1,q2,q3,q4,q5⟩:=(hb.ad hK).at hx;have lb:=(hb.ad hK).len;simp[A.pQ,hr,Iy,uL,ZD,NT,bG,lb,q1,q3,q4];refine ar (Tj (j:=1212) (k:=1800) q5 (hX.ad hK) (by omega) (qK x (cy hx)) qX (by decide) (by decide) (by have:=jz (1212+1800+1) (show x.length<=4 by omega);omega)) ?_;rintro _ H5 n5' k5 rfl;have pN:=hz k x hx;simp(disch:=first|(simp;done)|omega|rfl) [hf,Iy,pN,Iw,hW];exact⟨j,by omega,hK.trans k5,k+1,by omega,by omega⟩
def ZE(n:Nat)(x:List aG):Bool:=x.all fun s=>decide (s.length<=n)
def NU(n:Nat)(l:List (List aG)):Bool:=l.all (ZE n)
def Xa5(h:T O)(N:Nat)(us:List V)(m:List (List aG)):Prop:=us.length=m.length/\∀(j:Nat) (l:List aG),m[j]?=some l->∃u,us[j]?=some u/\Sl h N u (strs l)
def eN.rows{v:V}{m:List (List aG)}(s:eN h N v m):∃us,Sl h N v us/\Xa5 h N us m:=by obtain⟨us,a,b,c⟩:=s;exact⟨us,a,b,c⟩
def Yrt{c:Nat}{b:List (List aG)}(h:jO a c b=true):mL b.length a=true/\∀r∈b,dr c r=true:=by unfold jO at h;rw[fW]at h;exact⟨h.1,fun r hr=>iK.1 h.2 r hr⟩
variable {D:List (List Rat)} {b k:Nat} {l:List aG} {m:List (List aG)} {x:List Rat}
noncomputable def A.b83:=A.q Tryz.f83
def A.k83:=@A.kk 83 4 [.tmp 1] A.b83 (by kernel_rfl) rfl
noncomputable def A.b84:=A.q Tryz.f84
def A.k84:=@A.kk 84 9 [.tmp 2] A.b84 (by kernel_rfl) rfl
def Yrq{q:Nat}{l:List aG}{eq:TypeId}(pS:h.get q=some (.cells [u] eq wq))(xm:q<N)(hs:eN h N u m)(iH:m.length<100000)(cU:∀x∈m,x.length<100000/\∀s∈x,s.length<=100000):gF A.C (.func 83 [] [.ptr q 0]) [] h N (fun z _ _=>z=.int .i64 (fI m 64 16)):=by intro w;rw[aQ,A.k83 (by simp)];simp[A.b83,pS];refine ar (Tk hs iH cU) ?_;rintro _ H2 n2 k2 rfl;simp[az];exact k2
def Yrp{p q:Nat}{v:V}{ep eq:TypeId}(jP:h.get p=some (.cells [v] ep wp))(Bg:p<N)(pS:h.get q=some (.cells [u] eq wq))(xm:q<N)(hs:eN h N u m)(iH:m.length<100000)(cU:∀x∈m,x.length<100000/\∀s∈x,s.length<=100000)(ht:Sl h N v (strs l))(jL:l.length<100000)(vw:∀s∈l,s.length<=100000)(m0:0<m.length):gF A.C (.func 84 [] [.ptr p 0,.ptr q 0]) [] h N (fun z _ _=>z=.int .i64 (dj l (aW m))):=by
 intro w;have ml:=hs.len;have rX:0<(m.length:Int):=by omega
 obtain⟨l0,cB⟩:=bj m0;obtain⟨i0,o0,Lq,e0,C7,u0,z1,z2,z3,z4,z5⟩:=hs.at cB;have z6:=z5.len;rw[mY]at z6;rw[gE]at z4;obtain⟨n,hn⟩:∃n,n=l0.length:=⟨_,rfl⟩;have en:aW m=n:=by simp[aW,cB,hn]
 rw[en];rw[<-hn]at z6;rw[aQ,A.k84 (by simp)];simp[A.b84,pS,jP,ml,m0,z1,z2,z3,z4,z6];refine ar (Iz ht jL vw) ?_;rintro _ H2 n2 k2 rfl;have uM:=k2.le;simp[];refine(wD (by simp[-ay,xm,Bg])).2 ?_;simp[az];exact k2
def Yyk{r e:Nat}(h1:R<=r)(h2:d<=e):kW R d<=(e+2)*(r+e+1):=by unfold kW;exact mI (by omega) (by omega)
def ZF{r e z:Nat}(h1:R<=r)(h2:d<=e)(h3:(e+2)*(r+e+1)<=z):kW R d<=z:=iZ (Yyk h1 h2) h3
def ZG{m:List (List Rat)}{n:Nat}:(aK m n).length<=m.length:=by unfold aK;rw[ik,yG];omega
def ZH(hD:aU D n)(q:bH D 48)(hn:n<=5)(hs:D.length<=5):bH (aK D n) 1729:=by
 have h1:n*48+1<=241:=by omega
 have h2:(5+2)*(241+5+1)<=1729:=by omega
 exact(ZI hD q (aM _)).mono (ZF h1 hs h2)
def Yxb(hv:∀q∈v,Qb b q)(hb:1<=b):bH (vn v) b:=fun r hr=>(Av (B:=[v]) (fun r hr=>by
 obtain rfl:r=v:=by simpa using hr
 exact hv) hb r hr).2
def Ypw(hG:aU G k)(hl:G.length=v.length)(qG:bH G b)(qv:∀q∈v,Qb b q)(hb:1<=b)(i:Nat):bH (aD (dL G (vn v)) i).1 (kW ((k+1)*b+1) (aD (dL G (vn v)) i).2.1):=
 have hw:aU (dL G (vn v)) (k+1):=yL hG NM (by rw[Is,hl];exact aM _)
 Ig (Zip (Ye4 qG (Yxb qv hb)) hw) hw (by omega) i
def Ypd(hk:k<=5)(hb:b<=17296)(i:Nat)(hi:i<=5):kW ((k+1)*b+1) i<=726481:=by
 have:=mI (show k+1<=6 by omega) hb;have h1:(k+1)*b+1<=103777:=by omega
 have h2:(5+2)*(103777+5+1)<=726481:=by omega
 exact ZF h1 hi h2
def Yh6(h:mL k 5=true)(h2:k<=64):k<=5:=by unfold mL at h;have:=of_decide_eq_true h;omega
structure OkS (m:List (List aG)) (l:List aG):Prop where
 ok:u_ m (aW m)
 okl:jB l
 len:l.length=aW m
 le:m.length<=5
 n5:aW m<=5
 qm:bH (bF m) 48
 ql:∀q∈a_ l,Qb 48 q
def IB(m:List (List aG))(l:List aG):Int:=cg [fI m 64 16,dj l (aW m)]
def Ywo(h:IB m l=0)(sm:jO 5 5 m=true)(sl:dr 5 l=true)(Tl:NU 12 ([l]++m)=true):OkS m l:=by
 have Tm:=Zpe sm (show 5<=6 by decide) (show 5<=6 by decide);have ZJ:=ZK sl (show 5<=6 by decide);have hM:=Lr (uN h (fI m 64 16) (by simp)) Tm;obtain⟨zl,hL⟩:=Tn (uN h (dj l (aW m)) (by simp)) ZJ;have hn6:=hM.n6;have hle:=hM.le;have hb:∀r∈[l]++m,∀s∈r,s.length<=12:=fun r hr s hs=>by unfold NU at Tl;have h1:=iK.1 Tl r hr;unfold ZE at h1;exact of_decide_eq_true (iK.1 h1 s hs)
 refine⟨hM,hL,zl,Yh6 (Yrt sm).1 (by omega),Yh6 (by rw[<-zl];exact ZL sl) (by omega),fun r hr q hq=>?_,fun q hq=>?_⟩
 ·obtain⟨x,hx,rfl⟩:=bK.1 hr;obtain⟨s,hs,rfl⟩:=bK.1 hq;exact YN (n:=12) ((hM.row x hx).2 s hs).1 (hb x (List.mem_append_right _ hx) s hs) (by decide)
 obtain⟨s,hs,rfl⟩:=bK.1 hq;exact YN (n:=12) (hL s hs).1 (hb l (List.mem_append_left _ (by simp)) s hs) (by decide)
def sQ(m:List (List aG))(l:List aG):List Rat:=kZ (bF m) (a_ l) (aW m)
def bQ(m:List (List aG))(l:List aG):List Rat:=rm (bF m) (a_ l) (aW m)
def C8(m:List (List aG))(l:List aG):Int:=if IB m l=0 then cg [if mT (sQ m l)=true then 4 else 0,if mT (bQ m l)=true then 4 else 0] else IB m l
def SpT(m:List (List aG))(l:List aG)(a b:V)(e:Int)(h:T O)(n:Nat):Prop:=(C8 m l≠0/\a=.aa/\b=.aa/\e=C8 m l)\/(C8 m l=0/\e=0/\Tx h n a (sQ m l)/\Tx h n b (bQ m l))
def NV{c:Nat}:(kZ D x c).length=c:=by
 unfold kZ;split
 ·simp
 rw[di,jN]
def To{c:Nat}:(rm D x c).length=c:=by
 unfold rm;split
 ·simp
 rw[di,jN]
def Yk9{c:Nat}(hD:aU D c)(hx:x.length=c):mM x (kZ D x c)=rm D x c:=by
 apply Iq
 ·rw[mM,zG,hx,To]
 intro i hi;rw[mM,zG,hx]at hi;rw[mM,hx,Nh hi,il,Te hD i hi];grind
end Go.Mx
