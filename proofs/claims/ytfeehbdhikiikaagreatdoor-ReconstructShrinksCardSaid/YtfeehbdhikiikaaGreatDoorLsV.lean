/-Damped and undamped commands-/
import Derived.Test.YtfeehbdhikiikaaGreatDoorLnF
set_option linter.all false
namespace Go.Mx
open Go Go.Proofs
variable{A' H M:List (List Rat)}{r:List Rat}{K N1 P S i:Nat}{x y:Nat->Rat}{a b d:Rat}
variable {D:List (List Rat)} {n:Nat} {s w:List Rat}
set_option maxRecDepth 1000000
def Yhp{q R:Nat}{a b c e:Nat->Rat}{s:Rat}(ha:∀j,j<n->bL R (s*a j))(hb:∀j,j<S->bL R (s*b j))(hc:∀j,j<S->bL R (s*c j))(he:∀j,j<q->bL R (s*e j)):∀x∈oz (n+S+S+q) (bk n S a b c e),bL R (s*x):=fun x hx=>by
 obtain⟨j,hj,rfl⟩:=bO.1 hx
 have hj:=jz.1 hj
 unfold bk
 split
 ·exact ha _ (by assumption)
 ·split
  ·exact hb _ (by omega)
  ·split
   ·exact hc _ (by omega)
   ·exact he _ (by omega)
def Ykk{δ:Rat}(hp:∀q∈w,0<q)(qD:bR D 7)(qw:∀q∈w,Qb 7 q)(qs:∀q∈s,Qb 7 q)(qδ:Qb 8 δ)(hn:n<=4)(hS:D.length<=5):At (BD D w s δ n) (n+D.length+D.length+(D.length+1)) 45:=by
 refine Zzi Yn9 fun r hr=>?_;unfold BD at hr;simp only[iS,bO,jz]at hr;rcases hr with⟨i,hi,rfl⟩|⟨k,hk,rfl⟩|⟨k,hk,rfl⟩
 ·obtain⟨t,h1,h2,h3⟩:=CO (K:=7) (r:=(List.range n).map (fun l=>al D i l)++[wI w i,s[i]?.getD 0]) fun q hq=>by
   rcases iS.1 hq with hq|hq
   ·obtain⟨a,_,rfl⟩:=bO.1 hq;exact rN (qD.at (i:=i)) (by decide) a
   simp only[iP,List.not_mem_nil,or_false]at hq;rcases hq with rfl|rfl
   ·exact Yhn hp qw
   exact rN qs (by decide) i
  have hlen:((List.range n).map (fun l=>al D i l)++[wI w i,s[i]?.getD 0]).length*7+1<=45:=by rw[iU,dL,List.length_range];show (n+2)*7+1<=45;omega
  refine⟨t,h1,h2.mono hlen,Yhp (fun j hj=>(h3 _ (List.mem_append_left _ (bO.2 ⟨j,jz.2 hj,rfl⟩))).mono hlen) (fun j hj=>?_) (fun j _=>OO j) (fun j hj=>?_)⟩
  ·rw[show t*(wI w i*e1 i j)=t*wI w i*e1 i j by grind];exact TG ((h3 _ (List.mem_append_right _ (oa))).mono hlen) i j
  unfold wN;split
  ·exact TG (h2.mono hlen) j i
  exact(h3 _ (List.mem_append_right _ (pA _ oa))).mono hlen
 ·obtain⟨t,h1,h2,h3⟩:=CO (K:=7) (r:=(List.range D.length).map fun i=>al D i k) fun q hq=>by obtain⟨i,_,rfl⟩:=bO.1 hq;exact rN (qD.at (i:=i)) (by decide) k
  obtain⟨t',g1,g2,g3⟩:=CO (K:=8) (r:=[δ]) fun q hq=>by rw[og.1 hq];exact qδ
  have hlen:((List.range D.length).map fun i=>al D i k).length*7+1<=36:=by rw[dL,List.length_range];omega
  have hg:bL 9 t':=g2;have hg3:bL 9 (t'*δ):=g3 δ (og.2 rfl);have hb:bL 45 (t*t'):=(h2.mono hlen).mul hg;refine⟨t*t',fun h=>?_,hb,Yhp (fun j hj=>?_) (fun j hj=>?_) (fun j _=>OO j) (fun j _=>OO j)⟩
  ·rcases Rat.mul_eq_zero.1 h with h|h
   ·exact h1 h
   exact g1 h
  ·rw[show t*t'*(-δ*e1 k j)= -(t*(t'*δ))*e1 k j by grind];exact TG ((h2.mono hlen).mul hg3).neg k j
  rw[show t*t'*al D j k=t*al D j k*t' by grind];exact((Ysx h3 hj).mono hlen).mul hg
 obtain⟨t,h1,h2,h3⟩:=CO (K:=7) (r:=(List.range D.length).map fun i=>al D i k) fun q hq=>by obtain⟨i,_,rfl⟩:=bO.1 hq;exact rN (qD.at (i:=i)) (by decide) k
 have hlen:((List.range D.length).map fun i=>al D i k).length*7+1<=45:=by rw[dL,List.length_range];omega
 refine⟨t,h1,h2.mono hlen,Yhp (fun j _=>TG (h2.mono hlen) k j) (fun j _=>OO j) (fun j hj=>?_) (fun j _=>OO j)⟩;rw[show t* -al D j k= -(t*al D j k) by grind];exact((Ysx h3 hj).mono hlen).neg
def Yql{δ:Rat}{X:Nat->Nat->Rat}(hw:w.length=D.length)(hp:∀q∈w,0<q)(qD:bR D 7)(qw:∀q∈w,Qb 7 q)(qs:∀q∈s,Qb 7 q)(hδ:0<=δ)(qδ:Qb 8 δ)(hn:n<=4)(hS:D.length<=5)(hX:∀t,t<D.length+1->Lo D w δ n (fun i=>wN s D.length i t) (X t)):∃d:Rat,d≠0/\bL 826 d/\(∀t k,t<D.length+1->k<n->bL 826 (d*X t k))/\∀t i,t<D.length+1->i<D.length->bL 826 (d*(w[i]?.getD 0*(wN s D.length i t-cK D (X t) n i))):=by
 have hy:∀t,∃y:Nat->Rat,t<D.length+1->∀k,k<n->X t k=sN (fun i=>al D i k*y i) D.length:=fun t=>by
  by_cases ht:t<D.length+1
  ·obtain⟨y,h⟩:=(hX t ht).row;exact⟨y,fun _=>h⟩
  exact⟨fun _=>0,fun h=>absurd h ht⟩
 obtain⟨Y,hY⟩:=Classical.axiomOfChoice hy;obtain⟨U,hU⟩:∃U:Nat->Nat->Rat,∀t i,U t i=w[i]?.getD 0*(wN s D.length i t-cK D (X t) n i):=⟨_,fun _ _=>rfl⟩;obtain⟨Z,hZ⟩:∃Z:Nat->Nat->Rat,∀t j,Z t j=bk n D.length (X t) (U t) (Y t) (fun j=> -e1 t j) j:=⟨_,fun _ _=>rfl⟩;have z1:∀t k,k<n->Z t k=X t k:=fun t k hk=>by rw[hZ,Xa1 hk]
 have z2:∀t i,i<D.length->Z t (n+i)=U t i:=fun t i hi=>by rw[hZ,Xa0 hi]
 have z3:∀t i,i<D.length->Z t (n+D.length+i)=Y t i:=fun t i hi=>by rw[hZ,Xaz hi]
 have z4:∀t j,Z t (n+D.length+D.length+j)= -e1 t j:=fun t j=>by rw[hZ,Xay]
 have wn:∀i,i<D.length->wI w i*w[i]?.getD 0=1:=fun i hi=>by have:=OJ hp (i:=i) (by omega);unfold wI;rw[Rat.mul_comm];exact Rat.mul_inv_cancel _ (fun h=>by rw[h]at this;exact absurd this (by decide))
 obtain⟨d,d1,d2,d3⟩:=Yt2 (L:=13) (u:=n+D.length+D.length) (c:=D.length+1) (Ykk (w:=w) (s:=s) hp qD qw qs qδ hn hS) Yn9 (by rw[Yqk];omega) (by decide) Z (fun t ht=>by
  refine Yfg.2 ⟨fun i hi=>?_,fun k hk=>?_,fun k hk=>?_⟩
  ·rw[S0 (y:=X t) fun k hk=>z1 t k hk,z2 t i hi,hU,bf (g:=fun j=> -1*(e1 t j*wN s D.length i j)) fun j _=>by rw[z4];grind,eE,Ll (f:=fun j=>wN s D.length i j) ht]
   have:=wn i hi
   grind
  ·rw[z1 t k hk,<-(hX t ht).qN k hk]
   refine bf fun i hi=>?_
   rw[z2 t i hi,hU]
   grind
  ·rw[z1 t k hk,hY t ht k hk]
   exact bf fun i hi=>by rw[z3 t i hi]) (fun t j _ _=>z4 t j);have hB:(13+1)*(45+13+1)<=826:=by decide
 refine⟨d,d1,d2.mono hB,fun t k ht hk=>?_,fun t i ht hi=>?_⟩
 ·have:=d3 k (by omega) (fun z h1 h2=>(Yfh hw hp hδ h1 h2).1 k hk) t ht;rw[z1 t k hk]at this;exact this.mono hB
 have:=d3 (n+i) (by omega) (fun z h1 h2=>(Yfh hw hp hδ h1 h2).2 i hi) t ht;rw[z2 t i hi,hU]at this;exact this.mono hB
def Yqm(hw:w.length=D.length)(hp:∀q∈w,0<q)(qw:∀q∈w,Qb 7 q)(hS:D.length<=5)(d1:d≠0)(d2:bL 826 d)(d3:∀i,i<D.length->bL 826 (d*(w[i]?.getD 0*(s[i]?.getD 0-cK D x n i)))):Qb 1691 (qP D w s x n):=by
 obtain⟨t,t1,t2,t3⟩:=CO (K:=7) (r:=(List.range D.length).map fun i=>wI w i) fun q hq=>by obtain⟨i,_,rfl⟩:=bO.1 hq;exact Yhn hp qw
 have hl:((List.range D.length).map fun i=>wI w i).length*7+1<=36:=by rw[dL,List.length_range];omega
 have h1:bL (36+(826+826)) (t*(d*d)):=(t2.mono hl).mul (d2.mul d2);have h2:bL (36+(826+826)+3) (sN (fun i=>t*wI w i*((d*(w[i]?.getD 0*(s[i]?.getD 0-cK D x n i)))*(d*(w[i]?.getD 0*(s[i]?.getD 0-cK D x n i))))) D.length):=bL.Ba (fun i hi=>((Ysx t3 hi).mono hl).mul ((d3 i hi).mul (d3 i hi))) (Yah hS);have h0:t*(d*d)≠0:=fun hc=>by
  rcases Rat.mul_eq_zero.1 hc with h|h
  ·exact t1 h
  rcases Rat.mul_eq_zero.1 h with h|h<;>exact d1 h
 refine bL.qb h0 (h1.mono (by omega)) ?_;have e:t*(d*d)*qP D w s x n=sN (fun i=>t*wI w i*((d*(w[i]?.getD 0*(s[i]?.getD 0-cK D x n i)))*(d*(w[i]?.getD 0*(s[i]?.getD 0-cK D x n i))))) D.length:=by
  unfold qP;rw[<-eE];refine bf fun i hi=>?_;have wn:wI w i*w[i]?.getD 0=1:=by have:=OJ hp (i:=i) (by omega);unfold wI;rw[Rat.mul_comm];exact Rat.mul_inv_cancel _ (fun h=>by rw[h]at this;exact absurd this (by decide))
  grind
 rw[e];exact h2
def Yqj(hr:r.length=S)(hw:w.length=S)(qw:∀q∈w,Qb 7 q)(hS:S<=5)(d1:d≠0)(d2:bL 826 d)(d3:∀i,i<S->bL 826 (d*r[i]?.getD 0)):Qb 1691 (ed (iG r w) r):=by
 obtain⟨t,t1,t2,t3⟩:=CO qw;have hl:w.length*7+1<=36:=by omega
 have h1:bL (36+(826+826)) (t*(d*d)):=(t2.mono hl).mul (d2.mul d2);have h2:bL (36+(826+826)+3) (sN (fun i=>t*w[i]?.getD 0*((d*r[i]?.getD 0)*(d*r[i]?.getD 0))) S):=bL.Ba (fun i hi=>((Yho t3).mono hl).mul ((d3 i hi).mul (d3 i hi))) (Yah hS);have h0:t*(d*d)≠0:=fun hc=>by
  rcases Rat.mul_eq_zero.1 hc with h|h
  ·exact t1 h
  rcases Rat.mul_eq_zero.1 h with h|h<;>exact d1 h
 refine bL.qb h0 (h1.mono (by omega)) ?_;have e:t*(d*d)*ed (iG r w) r=sN (fun i=>t*w[i]?.getD 0*((d*r[i]?.getD 0)*(d*r[i]?.getD 0))) S:=by rw[El (show (iG r w).length=S by simp[iG,hw]),<-eE];refine bf fun i hi=>?_;rw[show (iG r w)[i]?.getD 0=r[i]?.getD 0*w[i]?.getD 0 by simp[iG,hw,hi]];grind
 rw[e];exact h2
variable {N j k n:Nat} {f u v:V} {h:T O} {l:List Rat} {m:List (List Rat)}
set_option maxHeartbeats 1000000
def Apt(a b:List V):Prop:=∀y∈a,∀z∈b,∀i∈bI y,i∉bI z
def Yl4{l:List V}{Q:Nat->T O->Nat->V->Prop}(Y:V->Prop)(hQ:∀j h n h' n' c u,Q j h n c->ec (fun i=>i∈bI u) h n h' n'->mP 90 Y h u->Q j h' n' c)(hs:Sl h N v l)(hl:l.length<1000000000)(hf:∀(j:Nat) (x:V),l[j]?=some x->∀h' n',ab h N h' n'->fW A.C f [x] h' n' (fun u h2 n2=>∃y,u=y/\[y].length=1/\[y].all V.one=true/\(∀q∈[y],Y q)/\Q j h2 n2 y/\∀i∈bI y,n'<=i/\i<n2)):Fn A.C 141 [v,f] h N (fun u h' n'=>∃out,Own 1 90 N h' n' u out/\out.length=l.length/\out.Pairwise Apt/\∀(j:Nat),j<l.length->∃y,out[j]?=some [y]/\Q j h' n' y):=by
 intro w;have hlen:=hs.len;rw[aP,A.k141 (by simp)];simp(disch:=first|(simp;done)|omega|rfl) [-getElem?_pos,A.b141,hlen];refine cB [(5,5),(7,7),(10,20)] (fun e r st=>e=.exit 0/\az N st.w=[]/\ab h N st.h st.n/\∃u out,r.get 5=some u/\Own 1 90 N st.h st.n u out/\out.length=l.length/\out.Pairwise Apt/\∀(j:Nat),j<l.length->∃y,out[j]?=some [y]/\Q j st.h st.n y) (fun m r st=>az N st.w=[]/\ab h N st.h st.n/\∃k u out,k+m=l.length/\r.get 10=some (.int .i64 k)/\r.get 5=some u/\Own 1 90 N st.h st.n u out/\out.length=k/\(out=[]->u=.aa)/\(∀c∈out,∀y∈c,Y y)/\(∀c∈out,∀y∈c,∀i∈bI y,i<st.n)/\out.Pairwise Apt/\∀(j:Nat),j<k->∃y,out[j]?=some [y]/\Q j st.h st.n y) l.length ?_ ?_ ?_
 ·exact⟨by simp,ab.refl,0,.aa,[],by omega,by simp,by simp,Own.nil,rfl,fun _=>rfl,by simp,by simp,List.Pairwise.nil,fun j hj=>by omega⟩
 ·rintro m r ⟨H,n1,W⟩ hr eI ⟨hW,hK,k,u,out,hk,iN,h5,ho,gJ,s_,hY,hB,hP,dc⟩;simp only at hW hK ho dc hB;rw[bG];cases m with
  |zero=>
   have ta:k=l.length:=by omega
   subst ta;simp(disch:=first|(simp;done)|omega|rfl) [-getElem?_pos,A.lJ,hr,eI,iN,hW,hK];exact⟨u,h5,out,ho,gJ,hP,dc⟩
  |succ m=>
   have aD:k<l.length:=by omega
   obtain⟨x,hx⟩:=bs aD;obtain⟨i,o,cc,e,rw,q1,q2,q3,q4⟩:=(hs.ad hK).at hx;have dj:(k:Int)<(l.length:Int):=by omega
   have kA:=hK;simp(disch:=first|(simp;done)|omega|rfl) [-getElem?_pos,A.lJ,hr,eI,iN,h5,dj,aD,hlen,q1,q3,q4];refine Bo (hf k x hx _ _ kA) ?_;rintro y h3 n3 k3 ⟨_,rfl,c1,c2,cY,c3,cR⟩;have jE:=k3.le;have kn:=hK.le;have kB:=kA.trans k3;have b1:V.one y=true:=by simpa using c2
   have b2:V.cells y=[y]:=by cases y<;>first|rfl|cases b1
   simp(disch:=first|(simp;done)|omega|rfl) [-getElem?_pos, -V.cells, -V.one,hr,eI,iN,h5,b1,b2,ae];have uI:Own 1 90 N (h3.set n3 (.cells [y] 90 true)) (n3+1) u out:=(ho.ad ((ab.refl).trans k3)).ad (ab.refl.new _);obtain⟨v',h',w',f1,f2,f3,f4,fD,f5⟩:=D9 (Y:=Y) (x:=[y]) (u:=.slice n3 0 1 (some 1) 1) (bytes:=24) (w:=W) uI s_ hY (by omega) (by decide) c1 (by simp[fO,St.row,aO]) (by omega);rw[f1];have jC:¬n1<N:=by omega
   have f6:az N w'=[]:=by rw[f2];simp[az,hW,jC]
   have kz:=(kB.new (.cells [y] 90 true)).then f3;have k4:ab h3 n3 (h3.set n3 (.cells [y] 90 true)) (n3+1):=ab.refl.new _;have yK:Q k (h3.set n3 (.cells [y] 90 true)) (n3+1) y:=hQ _ _ _ _ _ _ .aa c3 k4.upd mP.nil;simp(disch:=first|(simp;done)|omega|rfl) [-getElem?_pos,hr,eI,iN,f6];refine⟨m,by omega,kz,k+1,by omega,by simp,out++[[y]],f5,by simp[gJ],by simp,fun c' hc z hz=>?_,fun c' hc z hz i hi=>?_,List.pairwise_append.2 ⟨hP,List.pairwise_singleton _ _,fun a ha b hb y1 rS z hz i hi IY=>?_⟩,fun j hj=>?_⟩
   ·rcases iS.1 hc with hc|hc
    ·exact hY c' hc z hz
    simp only[og]at hc;subst hc;exact cY z hz
   ·rcases iS.1 hc with hc|hc
    ·have:=hB c' hc z hz i hi;show i<_;omega
    simp only[og]at hc;subst hc;obtain rfl:z=y:=by simpa using hz
    have:=(cR i hi).2;show i<_;omega
   ·obtain rfl:b=[y]:=by simpa using hb
    obtain rfl:z=y:=by simpa using hz
    have:=hB a ha y1 rS i hi;have:=(cR i IY).1;omega
   by_cases qW:j<k
   ·obtain⟨y,g1,g2⟩:=dc j qW;exact⟨y,by rw[k_ (by omega)];exact g1,hQ _ _ _ _ _ _ _ (hQ _ _ _ _ _ _ .aa g2 (((ab.refl).trans k3).trans k4).upd mP.nil) f4 fD⟩
   obtain rfl:j=k:=by omega
   exact⟨y,by rw[pC (by omega),gJ];simp,hQ _ _ _ _ _ _ _ yK f4 fD⟩
 rintro _ r ⟨H,n1,W⟩ hr ⟨rfl,hW,hK,u,out,h5,ho,gJ,hP,dc⟩;simp only at hW hK ho dc;simp(disch:=first|(simp;done)|omega|rfl) [-getElem?_pos,hr,h5,ay,hW,hK];exact⟨out,ho,gJ,hP,dc⟩
def tk(N0:Nat)(h:T O)(N:Nat)(v:V)(l:List Rat):Prop:=∃out,Own 4 101 N0 h N v out/\out.length=l.length/\∀(j:Nat),j<l.length->∃c,out[j]?=some c/\∀q,l[j]?=some q->fI h N c q
def tk.LP{N0:Nat}(s:tk N0 h N v l):dR h N v l:=by obtain⟨out,s1,s2,s3⟩:=s;exact Tm s1 s2 s3
def tk.rows{N0:Nat}(s:tk N0 h N v l):∀i∈bI v,N0<=i/\i<N:=fun i hi=>by
 obtain⟨out,⟨_,⟨_,rfl⟩|⟨j,rfl,h1,h2,_⟩⟩,_⟩:=s
 ·simp[bI]at hi
 ·simp[bI]at hi
  subst hi
  exact⟨h1,h2⟩
def tk.low{N0:Nat}(s:tk N0 h N v l)(hb:N1<=N0):tk N1 h N v l:=by obtain⟨out,⟨s0,s1⟩,s2,s3⟩:=s;refine⟨out,⟨s0,s1.imp id ?_⟩,s2,s3⟩;rintro⟨i,a,b,c,d⟩;exact⟨i,a,by omega,c,d⟩
def tk.bE{N0:Nat}{h':T O}{n':Nat}{e:TypeId}(s:tk N0 h n u l)(k:ec (fun i=>i∈bI v) h n h' n')(hd:mP e NW h v)(he:e≠101):tk N0 h' n' u l:=by
 obtain⟨out,⟨s0,s1⟩,s2,s3⟩:=s;refine⟨out,⟨s0,s1.imp id ?_⟩,s2,fun j hj=>?_⟩
 ·rintro⟨i,rfl,b,c,d⟩;refine⟨i,rfl,b,fH c k.le,(k.get i c fun hc=>?_).trans d⟩;obtain⟨z2,er,_⟩:=hd i hc;rw[d]at er;simp at er;exact he er.2.symm
 obtain⟨c,g1,g2⟩:=s3 j hj;exact⟨c,g1,fun q hq=>(g2 q hq).bE k hd⟩
def tk.ad{N0:Nat}{h':T O}{N':Nat}(s:tk N0 h N v l)(k:ab h N h' N'):tk N0 h' N' v l:=by obtain⟨out,s1,s2,s3⟩:=s;exact⟨out,s1.ad k,s2,fun j hj=>by obtain⟨c,g1,g2⟩:=s3 j hj;exact⟨c,g1,fun q hq=>(g2 q hq).ad k⟩⟩
def C1(B:Nat)(h:T O)(N:Nat)(v:V)(m:List (List Rat)):Prop:=∃us:List V,Own 1 90 B h N v (us.map fun y=>[y])/\us.length=m.length/\us.Pairwise (fun a b=>∀i∈bI a,i∉bI b)/\∀(j:Nat) (l:List Rat),m[j]?=some l->∃u,us[j]?=some u/\tk B h N u l
def C1.AA{B:Nat}(s:C1 B h N v m):fj h N v m:=by obtain⟨us,s1,s2,_,s4⟩:=s;exact⟨us,Sn.one.1 s1.sn,s2,fun j l hl=>by obtain⟨u,g1,g2⟩:=s4 j l hl;exact⟨u,g1,g2.LP⟩⟩
def Yay{z:Nat}{x:List V}(hx:x.length=z):∀{l:List (List V)},(∀y∈l,y.length=z)->∀{k:Nat},k<l.length->ae l.flatten (k*z) x=(l.set k x).flatten
 |[],_,k,h=>by simp at h
 |y::l,h,0,_=>by
  have hy:=h y oa
  rw[List.flatten_cons,List.set_cons_zero,List.flatten_cons,Nat.zero_mul]
  unfold ae
  rw[List.take_zero,List.nil_append,xd,hx,<-hy,List.drop_left]
 |y::l,h,k+1,hk=>by
  have hy:=h y oa
  have ih:=Yay hx (l:=l) (fun y hy=>h y (pA _ hy)) (k:=k) (by simpa using hk)
  rw[List.flatten_cons,List.set_cons_succ,List.flatten_cons,<-ih]
  unfold ae
  have e1:(k+1)*z=y.length+k*z:=by rw[hy,iR];omega
  rw[e1,List.take_length_add_append,pE,List.drop_length_add_append]
  simp only[uJ]
def Yv9{us:List V}{R:V->V->Prop}(h:us.Pairwise R)(hs:∀a b,R a b->R b a){a b:V}(ha:us[i]?=some a)(hb:us[j]?=some b)(aX:i≠j):R a b:=by
 have hi:=fv ha;have hj:=fv hb;have ea:us[i]=a:=by rw[cj hi]at ha;exact px ha
 have eb:us[j]=b:=by rw[cj hj]at hb;exact px hb
 have key:=List.pairwise_iff_getElem.1 h;by_cases hij:i<j
 ·have:=key i j hi hj hij;rwa [ea,eb]at this
 have:=key j i hj hi (by omega);rw[ea,eb]at this;exact hs _ _ this
def C1.row{B:Nat}(s:C1 B h N v m)(hk:m[k]?=some l)(h0:0<l.length):∃R us b c,v=.slice R 0 m.length none 1/\R<N/\h.get R=some (.cells us 90 true)/\us.length=m.length/\us[k]?=some (.slice b 0 l.length none 4)/\B<=b/\b<N/\h.get b=some (.cells c 101 true)/\c.length=l.length*4/\(∀(j:Nat) (q:Rat),l[j]?=some q->∃x,aO c (j*4) 4=some x/\fI h N x q)/\∀h' n' x q j,ab h N h' n'->fI h' n' x q->j<l.length->C1 B (h'.set b (.cells (ae c (j*4) x) 101 true)) n' v (m.set k (l.set j q)):=by
 obtain⟨us,s1,s2,s3,s4⟩:=s;obtain⟨u,g1,out,⟨o0,o1⟩,o2,o3⟩:=s4 k l hk;rcases o1 with⟨rfl,_⟩|⟨b,rfl,b1,b2,b3⟩
 ·simp at o2;omega
 obtain⟨_,⟨e1,_⟩|⟨R,rfl,r1,r2,r3⟩⟩:=id s1
 ·have hn:=List.map_eq_nil_iff.1 e1;subst hn;simp at g1
 rw[Yw9]at r3;rw[o2]at g1;have aX:¬R=b:=fun e=>by subst e;rw[r3]at b3;simp at b3
 refine⟨R,us,b,out.flatten,by rw[dL,s2],r2,r3,s2,g1,b1,b2,b3,by rw[wQ o0,o2],fun j q hq=>?_,fun h' n' x q j ta hx hj=>?_⟩
 ·obtain⟨c,a1,a2⟩:=o3 j (fv hq);exact⟨c,LQ o0 a1,a2 q hq⟩
 have gb:=(ta.get b b2).trans b3;have gR:=(ta.get R r2).trans r3;have hjo:j<out.length:=by omega
 have uU:=hx.len.1;have nuC:tc out.flatten:=fun y hy m hm=>by
  obtain⟨c,hc,Eo⟩:=List.mem_flatten.1 hy;obtain⟨i,hi⟩:=List.mem_iff_getElem?.1 hc;have uV:i<l.length:=by have:=fv hi;omega
  obtain⟨c',a1,a2⟩:=o3 i uV;rw[hi]at a1;obtain rfl:c=c':=by simpa using a1
  obtain⟨q',nQ⟩:=bs uV;exact(a2 q' nQ).IH y Eo m hm
 have lG:=Yay uU o0 hjo;rw[lG];have iC:((out.set j x).flatten).length=out.flatten.length:=by
  have h2:∀y∈out.set j x,y.length=4:=fun y hy=>by
   rcases CV hy with hy|rfl
   ·exact o0 y hy
   exact uU
  rw[wQ h2,wQ o0,yE]
 have tm:∀{c:List V} {q:Rat},fI h' n' c q->fI (h'.set b (.cells (out.set j x).flatten 101 true)) n' c q:=fun hc=>hc.aG gb nuC iC;have le:=ta.le;refine⟨us,⟨fun y hy=>by obtain⟨z,_,rfl⟩:=bO.1 hy;rfl,.inr ⟨R,by rw[dL],r1,by omega,?_⟩⟩,by rw[yE];exact s2,s3,fun i r hr=>?_⟩
 ·rw[Yw9,T.ag,ak aX];exact gR
 by_cases e:i=k
 ·subst e;rw[mQ (fv hk)]at hr;obtain rfl:l.set j q=r:=by simpa using hr
  refine⟨_,g1,out.set j x,⟨fun y hy=>?_,.inr ⟨b,by rw[yE,o2],b1,by omega,by rw[T.ag,av rfl]⟩⟩,by simp[o2],fun t ht=>?_⟩
  ·rcases CV hy with hy|rfl
   ·exact o0 y hy
   exact uU
  rw[yE]at ht;by_cases et:t=j
  ·subst et;refine⟨x,by rw[mQ hjo],fun q' nQ=>?_⟩;rw[mQ hj]at nQ;obtain rfl:q=q':=by simpa using nQ
   exact tm hx
  obtain⟨c,a1,a2⟩:=o3 t ht;refine⟨c,by rw[fk (Ne.symm et)];exact a1,fun q' nQ=>?_⟩;rw[fk (Ne.symm et)]at nQ;exact tm ((a2 q' nQ).ad ta)
 rw[fk (Ne.symm e)]at hr;obtain⟨u',a1,a2⟩:=s4 i r hr;have IZ:=Yv9 s3 (fun a b h i hi hj=>h i hj hi) a1 g1 e;obtain⟨zab,⟨p0,p1⟩,p2,p3⟩:=a2.ad ta;refine⟨u',a1,zab,⟨p0,p1.imp id ?_⟩,p2,fun t ht=>?_⟩
 ·rintro⟨b',rfl,t1,t2,t3⟩;have uY:¬b'=b:=fun e=>IZ b' (by simp[bI]) (by simp[bI,e]);exact⟨b',rfl,t1,t2,by rw[T.ag,ak uY];exact t3⟩
 obtain⟨c,c1,c2⟩:=p3 t ht;exact⟨c,c1,fun q' nQ=>tm (c2 q' nQ)⟩
def Yl2(F:List Rat->Rat)(hs:fj h N v m)(hl:m.length<1000000000)(hf:∀l∈m,∀u h' n',ab h N h' n'->dR h' n' u l->fW A.C f [u] h' n' (fun x h2 n2=>Fc h2 n2 x (F l))):Fn A.C 87 [v,f] h N (fun u h' n'=>tk N h' n' u (m.map F)):=by
 obtain⟨us,h1,h2,h3⟩:=hs;have key:=Yag (f:=f) (Q:=fun j h n c=>∀q,(m.map F)[j]?=some q->fI h n c q) NW (fun j h n h' n' c u hq k hd q nQ=>(hq q nQ).bE k hd) h1 (by omega) ?_
 ·intro w;refine(key w).mono fun u st=>?_;rintro⟨q1,q2,out,o1,o2,o3⟩;exact⟨q1,q2,out,o1,by simpa[h2]using o2,fun j hj=>o3 j (by simp at hj;omega)⟩
 intro j x hx h' n' hk;obtain⟨l,hl⟩:=bs (l:=m) (k:=j) (by have:=fv hx;omega);obtain⟨u,g1,g2⟩:=h3 j l hl;rw[hx]at g1;obtain rfl:x=u:=by simpa using g1
 refine fun w=>(hf l (cP hl) x h' n' hk (g2.ad hk) w).mono fun y st=>?_;rintro⟨q1,q2,q3⟩;obtain⟨c,rfl,hc⟩:=q3.c;refine⟨q1,q2,c,rfl,hc.len.1,hc.len.2,hc.IH,fun q hq=>?_⟩;simp[hl]at hq;rw[<-hq];exact hc
def Ych{b:List Rat}(hu:fj h N u m)(hv:iM h N v b)(hm:∀r∈m,r.length=n/\∀q∈r,Qb j q)(hn:n<=b.length)(hb:∀q∈b,Qb k q)(hj:1<=j)(hk:1<=k)(hl:n*(j+k+1)+j+k+1<=400000000)(jR:m.length<100000):Fn A.C 72 [u,v] h N (fun x h' n'=>tk N h' n' x (m.map fun r=>ed r b)):=by
 intro w;rw[aP,A.k72 (by simp)];simp(disch:=first|(simp;done)|omega|rfl) [-getElem?_pos,A.b72];refine au (Yl2 (fun r=>ed r b) hu (by omega) fun l iC x h' n' jV hx=>?_) ?_
 ·obtain⟨b1,b2⟩:=hm l iC;exact Yew hx.1 (hv.ad jV) (by omega) b2 hb hj hk (by rw[b1];exact hl)
 rintro x h4 n4 k4 hx;simp(disch:=first|(simp;done)|omega|rfl) [-getElem?_pos,ay];exact⟨k4,hx⟩
def Yrc{a:V}{C:List (List Rat)}{e:TypeId}{rw:Bool}(hp:h.get P=some (.cells [a] e rw))(hP:P<N)(ha:fj h N a C)(hu:dR h N u l)(hC:∀r∈C,r.length=n/\∀q∈r,Qb j q)(hn:n<=l.length)(hb:∀q∈l,Qb k q)(hj:1<=j)(hk:1<=k)(hl:n*(j+k+1)+j+k+1<=400000000)(hCl:C.length<100000):fW A.C (.func 142 [] [.ptr P 0]) [u] h N (fun x h' n'=>tk N h' n' x (C.map fun c=>ed c l)):=by intro w;rw[aP,A.k142 (by simp)];simp(disch:=first|(simp;done)|omega|rfl) [-getElem?_pos,A.b142,hp,hP];refine au (Ych ha hu.1 hC hn hb hj hk hl hCl) ?_;rintro x H2 n2 k2 hx;simp(disch:=first|(simp;done)|omega|rfl) [-getElem?_pos,ay];exact⟨k2,hx⟩
def Yl3(F:List Rat->List Rat)(hs:fj h N v m)(hl:m.length<100000)(hf:∀l∈m,∀u h' n',ab h N h' n'->dR h' n' u l->fW A.C f [u] h' n' (fun x h2 n2=>tk n' h2 n2 x (F l))):Fn A.C 141 [v,f] h N (fun u h' n'=>C1 N h' n' u (m.map F)):=by
 obtain⟨us,h1,h2,h3⟩:=hs;have key:=Yl4 (f:=f) (Q:=fun j h n u=>∀l,(m.map F)[j]?=some l->tk N h n u l) NW (fun j h n h' n' c u hq k hd l hl=>(hq l hl).bE k hd (by simp)) h1 (by omega) ?_
 ·intro w;refine(key w).mono fun y st=>?_;rintro⟨q1,q2,out,o1,o2,o4,o3⟩;obtain⟨ys,rfl⟩:=Zz4 o1.1;refine⟨q1,q2,ys,o1,by simpa[h2]using o2,(List.pairwise_map.1 o4).imp fun {a b} eF=>eF a (by simp) b (by simp),fun j l hl=>?_⟩;obtain⟨y,g1,g2⟩:=o3 j (by have:=fv hl;simp at this;omega);refine⟨y,?_,g2 l hl⟩;rw[eH]at g1;cases hy:ys[j]? with
  |none=>rw[hy]at g1;simp at g1
  |some z=>rw[hy]at g1;simpa using g1
 intro j x hx h' n' hk;obtain⟨l,hl⟩:=bs (l:=m) (k:=j) (by have:=fv hx;omega);obtain⟨u,g1,g2⟩:=h3 j l hl;rw[hx]at g1;obtain rfl:x=u:=by simpa using g1
 refine fun w=>(hf l (cP hl) _ _ _ hk (g2.ad hk) w).mono fun y st=>?_;rintro⟨q1,q2,q3⟩;obtain⟨f1,f2,f3⟩:=q3.LP.1.form;refine⟨q1,q2,y,rfl,rfl,by simp only[List.all_cons,List.all_nil,f1,Bool.and_true],by simpa using f3,fun l' iO=>?_,fun i hi=>q3.rows i hi⟩;rw[eH,hl]at iO;obtain rfl:F l=l':=by simpa using iO
 exact q3.low hk.le
def Yk3{c:Nat}{B:List (List Rat)}(hu:fj h N u A')(hv:fj h N v B)(hA:aW A' n)(hB:aW B c)(hn:B.length<=n)(nT:0<B.length)(hAl:A'.length<1000)(hBl:B.length<1000)(hc:c<1000)(qA:bR A' k)(qB:bR B j)(hj:1<=j)(hk:1<=k)(hl:B.length*(j+k+1)+j+k+1<=400000000):Fn A.C 63 [u,v] h N (fun x h' n'=>∃b,N<=b/\C1 b h' n' x (fb A' (dm B c))):=by
 intro w;obtain⟨l0,dk⟩:=bs nT;obtain⟨i2,o2,c2,e2,w2,y,q1,q2,q3,q4,q5⟩:=IT hv dk;rw[iX]at q4;have lv:=hv.len;have OP:(0:Int)<(B.length:Int):=by omega
 have ly:=q5.1.len;rw[hB l0 (cP dk)]at ly;rw[aP,A.k63 (by simp)];simp(disch:=first|(simp;done)|omega|rfl) [-getElem?_pos,A.b63,lv,nT,OP,q1,q2,q3,q4,ly];refine au (TH hv (by omega) hB hc) ?_;rintro x H2 n2 k2 hx;have hx:=hx.AA;obtain⟨us,f0,_⟩:=id hx;have f1:=f0.form.one;have f2:=f0.form.cells;have kC:ab H2 n2 ((H2.set n2 (.cells [.aa] 87 true)).set n2 (.cells [x] 87 true)) (n2+1):=(ab.refl.new _).set (aN _);have gC:((H2.set n2 (.cells [.aa] 87 true)).set n2 (.cells [x] 87 true)).get n2=some (.cells [x] 87 true):=by rw[T.ag,av rfl]
 have zM:ae [V.aa] 0 [x]=[x]:=rfl;simp(disch:=first|(simp;done)|omega|rfl) [-getElem?_pos, -V.cells, -V.one,f1,f2,zM,bM];generalize (H2.set n2 (.cells [.aa] 87 true)).set n2 (.cells [x] 87 true)=G at*;refine au (Yl3 (fun l=>(dm B c).map fun c=>ed c l) ((hu.ad k2).ad kC) (by omega) fun l iO u' h' n' k' nJ=>Yrc ((k'.get n2 (by omega)).trans gC) (by have:=k'.le;omega) ((hx.ad kC).ad k') nJ (Be qB hj) (by rw[hA l iO];exact hn) (qA l iO) hj hk hl (by rw[kR];omega)) ?_;rintro z H3 n3 k3 hz;simp(disch:=first|(simp;done)|omega|rfl) [-getElem?_pos,ay];exact⟨by have:=k2.le;omega,(k2.trans kC).trans k3,_,by have:=k2.le;omega,hz⟩
variable {D m:List (List Rat)} {k n:Nat} {w:List Rat}
def Is(r:List Rat)(k:Nat)(q:Rat):List Rat:=r.set k (r[k]?.getD 0+q)
def rn(m:List (List Rat))(q:Rat):Nat->List (List Rat)
 |0=>m
 |k+1=>(rn m q k).set k (Is (m[k]?.getD []) k q)
def NI{m:List (List Rat)}{q:Rat}:∀{k:Nat},(rn m q k).length=m.length
 |0=>rfl
 |k+1=>by rw[rn,yE,NI]
def Yim{m:List (List Rat)}{q:Rat}:∀{k j:Nat},k<=j->(rn m q k)[j]?=m[j]?
 |0,_,_=>rfl
 |k+1,j,h=>by rw[rn,fk (by omega),Yim (by omega)]
def Yvj{q:Rat}:(Is r k q).length=r.length:=by simp[Is]
def Zrp{α:Type}{l:List α}{x y:α}(h:y∈l.set k x):y∈l\/(k<l.length/\y=x):=by
 by_cases hk:k<l.length
 ·exact(CV h).imp id fun e=>⟨hk,e⟩
 rw[List.set_eq_of_length_le (by omega)]at h;exact .inl h
def YE{m:List (List Rat)}{q:Rat}:∀{k:Nat} {r:List Rat},r∈rn m q k->r∈m\/∃j l,m[j]?=some l/\r=Is l j q
 |0,r,h=>.inl h
 |k+1,r,h=>by
  rcases Zrp h with h|⟨h1,rfl⟩
  ·exact YE h
  ·rw[NI]at h1
   obtain⟨l,hl⟩:=bs h1
   exact .inr ⟨k,l,hl,by rw[hl];rfl⟩
def Xab{q:Rat}(h:aW m n):aW (rn m q k) n:=fun r hr=>by
 rcases YE hr with hr|⟨j,l,hl,rfl⟩
 ·exact h r hr
 ·rw[Yvj];exact h l (cP hl)
def Yyr{a b:Nat}{q:Rat}(hr:∀x∈r,Qb a x)(hq:Qb b q)(ha:1<=a):∀x∈Is r k q,Qb (a+b+1) x:=fun x hx=>by
 rcases Zrp hx with h|⟨_,rfl⟩
 ·exact(hr x h).mono (by omega)
 ·exact(rN hr ha k).add hq
def Xac{a b:Nat}{q:Rat}(hm:bR m a)(hq:Qb b q)(ha:1<=a):bR (rn m q k) (a+b+1):=fun r hr=>by
 rcases YE hr with hr|⟨j,l,hl,rfl⟩
 ·exact fun x hx=>(hm r hr x hx).mono (by omega)
 ·exact Yyr (hm l (cP hl)) hq ha
def lh(D:List (List Rat))(w:List Rat)(n:Nat):List (List Rat):=(dm D n).map fun r=>iG r w
def sV(D:List (List Rat))(w:List Rat)(n:Nat)(q:Rat):List (List Rat):=rn (fb (lh D w n) (dm D n)) q n
def NJ(D:List (List Rat))(w:List Rat)(n:Nat)(q:Rat):List (List Rat):=(ry (sV D w n q) (lh D w n) n D.length).getD []
def CW:(lh D w n).length=n:=by simp[lh,kR]
def NK:aW (lh D w n) w.length:=fun r hr=>by
 obtain⟨l,hl,rfl⟩:=bO.1 hr
 simp[iG]
def F0{q:Rat}:(sV D w n q).length=n:=by rw[sV,NI,DZ,CW]
def Lh{q:Rat}:aW (sV D w n q) n:=Xab (by
 have:=@Li (lh D w n) (dm D n)
 rwa [kR]at this)
def Yo9{L:Nat}(qD:bR D K)(qw:∀x∈w,Qb L x)(hK:1<=K)(hL:1<=L):bR (lh D w n) (K+L):=fun r hr=>by
 obtain⟨l,hl,rfl⟩:=bO.1 hr
 exact Lj (Be qD hK l hl).2 qw hK hL
def Yo8{L:Nat}(qD:bR D K)(qw:∀x∈w,Qb L x)(hK:1<=K)(hL:1<=L):bR (fb (lh D w n) (dm D n)) (D.length*(K+(K+L)+1)+1):=
 SX (Yo9 qD qw hK hL) (Be qD hK) hK (by omega)
variable {D:List (List Rat)} {k n:Nat} {s w:List Rat} {δ:Rat}
def Yx6{m:List (List Rat)}{q:Rat}{n:Nat}(hc:aW m n):∀{k j l:Nat},j<m.length->l<n->al (rn m q k) j l=if j<k/\l=j then al m j l+q else al m j l
 |0,j,l,hj,hl=>by rw[ak (by omega)];rfl
 |k+1,j,l,hj,hl=>by
  have ih:=Yx6 hc (q:=q) (k:=k) hj hl
  by_cases e:k=j
  ·subst e
   unfold al
   rw[rn,mQ (by rw[NI];exact hj),iL]
   unfold Is
   rw[List.getElem?_set]
   have wL:(m[k]?.getD []).length=n:=by
    rw[cj hj]
    exact hc _ (List.getElem_mem hj)
   by_cases e2:k=l
   ·subst e2
    rw[av rfl,av (by omega),av ⟨by omega,rfl⟩]
    rfl
   ·rw[ak e2,ak (fun h=>e2 h.2.symm)]
  ·have:al (rn m q (k+1)) j l=al (rn m q k) j l:=by
    unfold al
    rw[rn,fk e]
   rw[this,ih]
   by_cases h:j<k/\l=j
   ·rw[av h,av ⟨by omega,h.2⟩]
   ·rw[ak h,ak (fun h2=>h ⟨by omega,h2.2⟩)]
def Ypi(hw:w.length=D.length)(hk:k<n)(hi:i<D.length):al (lh D w n) k i=al D i k*w[i]?.getD 0:=by unfold lh;rw[YF (by rw[kR];exact hk) (by omega),Bf hk hi]
def Yx5{l:Nat}(hw:w.length=D.length)(hk:k<n)(hl:l<n):al (sV D w n δ) k l=sN (fun i=>al D i l*(al D i k*w[i]?.getD 0)) D.length+δ*e1 k l:=by
 unfold sV;have hc:aW (fb (lh D w n) (dm D n)) n:=by have:=@YG (lh D w n) (dm D n);rwa [kR]at this
 rw[Yx6 hc (by rw[DZ,CW];exact hk) hl,Lk (by rw[CW];exact hk) (by rw[kR];exact hl) F3,bf (g:=fun i=>al D i l*(al D i k*w[i]?.getD 0)) fun i hi=>by rw[Bf hl hi,Ypi hw hk hi]];unfold e1;by_cases e:l=k
 ·rw[av ⟨hk,e⟩,av e];grind
 rw[ak (fun h=>e h.2),ak e];grind
def Yig(hw:w.length=D.length)(hk:k<n):sN (fun l=>al (sV D w n δ) k l*x l) n=sN (fun i=>w[i]?.getD 0*(al D i k*cK D x n i)) D.length+δ*x k:=by
 rw[bf (g:=fun l=>sN (fun i=>w[i]?.getD 0*al D i k*(al D i l*x l)) D.length+δ*(e1 k l*x l)) fun l hl=>by
  rw[Yx5 hw hk hl,Rat.add_mul,<-D3]
  congr 1
  ·exact bf fun i _=>by grind
  ·grind,vT,eE,Ll hk,zG];congr 1;refine bf fun i _=>?_;rw[eE];unfold cK;grind
def Xcm{c:Rat}:a*(b+c*a)=a*b+c*(a*a):=by grind
def Xcl{v w m:Rat}:v*(w*(d*m))=w*m*(d*v):=by grind
def Ymy(hw:w.length=D.length)(hp:∀q∈w,0<q)(hδ:0<δ)(h0:0<n):∃H,ry (sV D w n δ) (lh D w n) n D.length=some H:=by
 obtain⟨J,hJ⟩:=Yar (Lh (D:=D) (w:=w) (n:=n) (q:=δ)) F0 fun v hv j hj=>by
  have h1:∀k,k<n->sN (fun i=>w[i]?.getD 0*(al D i k*cK D v n i)) D.length+δ*v k=0:=fun k hk=>by rw[<-Yig hw hk];exact hv k (by rw[F0];exact hk)
  have h2:sN (fun i=>w[i]?.getD 0*(cK D v n i*cK D v n i)) D.length+δ*sN (fun k=>v k*v k) n=0:=by
   have h3:sN (fun k=>v k*(sN (fun i=>w[i]?.getD 0*(al D i k*cK D v n i)) D.length+δ*v k)) n=0:=pD fun k hk=>by rw[h1 k hk,Rat.mul_zero]
   rw[bf (g:=fun k=>v k*sN (fun i=>w[i]?.getD 0*(al D i k*cK D v n i)) D.length+δ*(v k*v k)) fun k _=>Xcm,vT,eE,Bg]at h3;refine Eq.trans ?_ h3;congr 1;refine bf fun i _=>?_;rw[bf (g:=fun k=>w[i]?.getD 0*cK D v n i*(al D i k*v k)) fun k _=>Xcl,eE];exact(Rat.mul_assoc _ _ _).symm
  have p1:=CX (Lm (e:=v) (n:=n) hw hp);have p2:0<=sN (fun k=>v k*v k) n:=CX fun k _=>D4;have p3:=Rat.mul_nonneg (Rat.le_of_lt hδ) p2;have p4:δ*sN (fun k=>v k*v k) n=0:=by grind
  have p5:sN (fun k=>v k*v k) n=0:=by
   rcases Rat.mul_eq_zero.1 p4 with h|h
   ·rw[h]at hδ;exact absurd hδ (by decide)
   exact h
  exact Ln (It (fun k _=>D4) p5 j hj)
 refine⟨fb J (dm (lh D w n) D.length),?_⟩;rw[Yn6 Lh F0 h0 (by rw[<-hw];exact NK) CW,hJ];rfl
def SY(D:List (List Rat))(w:List Rat)(δ:Rat)(n:Nat)(M:List (List Rat)):Prop:=∀s:Nat->Rat,Lo D w δ n s fun k=>sN (fun i=>al M k i*s i) D.length
def Ytj(hw:w.length=D.length)(hδ:0<δ)(h0:0<n)(hs:ry (sV D w n δ) (lh D w n) n D.length=some H):H.length=n/\aW H D.length/\SY D w δ n H:=by
 obtain⟨m1,m2,m3⟩:=YH Lh F0 (by rw[<-hw];exact NK) CW h0 hs;refine⟨m1,m2,fun s=>?_⟩;obtain⟨x,hx⟩:∃x:Nat->Rat,∀k,x k=sN (fun i=>al H k i*s i) D.length:=⟨_,fun _=>rfl⟩;have h1:∀k,k<n->sN (fun i=>w[i]?.getD 0*(al D i k*(s i-cK D x n i))) D.length=δ*x k:=fun k hk=>by
  have h2:=Yig (δ:=δ) (x:=x) hw hk;rw[bf (f:=fun l=>al (sV D w n δ) k l*x l) (g:=fun l=>sN (fun i=>al (sV D w n δ) k l*al H l i*s i) D.length) fun l _=>by
   rw[hx,<-eE]
   exact bf fun i _=>by grind,zG,bf (g:=fun i=>w[i]?.getD 0*(al D i k*s i)) fun i hi=>by
   rw[D3,m3 k i hk hi,Ypi hw hk hi]
   grind]at h2;rw[bf (g:=fun i=>w[i]?.getD 0*(al D i k*s i)-w[i]?.getD 0*(al D i k*cK D x n i)) fun i _=>by grind,FW,h2];grind
 have hfx:(fun k=>sN (fun i=>al H k i*s i) D.length)=x:=funext fun k=>(hx k).symm;rw[hfx];refine⟨h1,fun i=>δ⁻¹*(w[i]?.getD 0*(s i-cK D x n i)),fun k hk=>?_⟩;have h2:sN (fun i=>al D i k*(δ⁻¹*(w[i]?.getD 0*(s i-cK D x n i)))) D.length=δ⁻¹*(δ*x k):=by rw[<-h1 k hk,<-eE];exact bf fun i _=>by grind
 rw[h2,<-Rat.mul_assoc,Rat.inv_mul_cancel _ (fun h=>by rw[h]at hδ;exact absurd hδ (by decide)),Rat.one_mul]
def Yq7(hD:aW D n)(fP:0<n)(hw:w.length=D.length)(hp:∀q∈w,0<q)(hS:0<D.length):SY D w 0 n (lA D w n):=fun s=>by
 have cv:((List.range D.length).map s).length=D.length:=by simp
 have wM:∀i,i<D.length->((List.range D.length).map s)[i]?.getD 0=s i:=fun i hi=>by simp[hi]
 obtain⟨x,y,fx,fr,fn⟩:=Yf4 hD fP hw hp cv
 have hx:∀k,k<n->sN (fun i=>al (lA D w n) k i*s i) D.length=x k:=fun k hk=>by
  rw[<-fx k hk,SZ YI (by rw[YJ];exact hk)]
  exact bf fun i hi=>by rw[wM i hi]
 obtain⟨z,hz⟩:=Yxr hD hS fr
 refine⟨fun k hk=>?_,z,fun k hk=>?_⟩
 ·have h1:=fn k hk
  unfold qN at h1
  rw[Rat.zero_mul]
  refine Eq.trans ?_ h1
  refine bf fun i hi=>?_
  rw[wM i hi,S0 hx]
  rfl
 ·show sN _ _=_
  rw[hx k hk,hz k hk]
def Yq8(hR:SY D w δ n M)(hw:w.length=D.length)(hp:∀q∈w,0<q)(qD:bR D 7)(qw:∀q∈w,Qb 7 q)(qs:∀q∈s,Qb 7 q)(hδ:0<=δ)(qδ:Qb 8 δ)(hn:n<=4)(hS:D.length<=5):∃d:Rat,d≠0/\bL 826 d/\(∀k i,k<n->i<D.length->bL 826 (d*al M k i))/\(∀k,k<n->bL 826 (d*sN (fun i=>al M k i*s[i]?.getD 0) D.length))/\∀i,i<D.length->bL 826 (d*(w[i]?.getD 0*(s[i]?.getD 0-cK D (fun k=>sN (fun i=>al M k i*s[i]?.getD 0) D.length) n i))):=by
 obtain⟨d,d1,d2,d3,d4⟩:=Yql (X:=fun t k=>sN (fun i=>al M k i*wN s D.length i t) D.length) hw hp qD qw qs hδ qδ hn hS (fun t _=>hR fun i=>wN s D.length i t);have hl:∀i,wN s D.length i D.length=s[i]?.getD 0:=fun i=>by unfold wN;rw[ak (by omega)]
 refine⟨d,d1,d2,fun k i hk hi=>?_,fun k hk=>?_,fun i hi=>?_⟩
 ·have h1:=d3 i k (by omega) hk;rw[bf (g:=fun j=>e1 i j*al M k j) fun j _=>by unfold wN;rw[av hi,Rat.mul_comm],Ll hi]at h1;exact h1
 ·have h1:=d3 D.length k (by omega) hk;simp only[hl]at h1;exact h1
 have h1:=d4 D.length i (by omega) hi;simp only[hl]at h1;exact h1
def nq(x:Nat->Rat)(n:Nat):Rat:=sN (fun k=>x k*x k) n
def Yy4:0<=nq x n:=CX fun _ _=>D4
def YK(o:Nat->Rat)(hw:w.length=D.length)(hp:∀q∈w,0<q)(hδ:0<=δ)(h:Lo D w δ n (fun i=>s[i]?.getD 0) x):qP D w s x n+δ*nq x n<=qP D w s o n+δ*nq o n:=by
 obtain⟨e,he⟩:∃e:Nat->Rat,∀k,e k=o k-x k:=⟨_,fun _=>rfl⟩;have hm:∀i,cK D o n i=cK D x n i+cK D e n i:=fun i=>by have h1:=@Ygo D x o n i;rw[S0 (y:=e) fun k _=>(he k).symm]at h1;grind
 have h2:sN (fun i=>w[i]?.getD 0*((s[i]?.getD 0-cK D x n i)*cK D e n i)) D.length=δ*sN (fun k=>e k*x k) n:=by rw[<-eE,bf (n:=n) (g:=fun k=>e k*sN (fun i=>w[i]?.getD 0*(al D i k*(s[i]?.getD 0-cK D x n i))) D.length) fun k hk=>by rw[h.qN k hk];grind,Bg];refine bf fun i _=>?_;rw[bf (g:=fun k=>w[i]?.getD 0*(s[i]?.getD 0-cK D x n i)*(al D i k*e k)) fun k _=>by grind,eE];unfold cK;grind
 have h3:qP D w s o n=qP D w s x n-2*sN (fun i=>w[i]?.getD 0*((s[i]?.getD 0-cK D x n i)*cK D e n i)) D.length+sN (fun i=>w[i]?.getD 0*(cK D e n i*cK D e n i)) D.length:=by unfold qP;rw[<-eE,<-FW,<-vT];refine bf fun i _=>?_;rw[hm i];grind
 have h4:nq o n=nq x n+2*sN (fun k=>e k*x k) n+nq e n:=by unfold nq;rw[<-eE,<-vT,<-vT];refine bf fun k _=>?_;rw[show o k=x k+e k by rw[he];grind];grind
 have p1:=CX (Lm (e:=e) (n:=n) hw hp);have p2:=Rat.mul_nonneg hδ (Yy4 (x:=e) (n:=n));rw[h3,h2,h4];grind
def Ya5(hw:w.length=D.length)(hp:∀q∈w,0<q)(ha:0<=a)(eF:a<b)(hx:Lo D w a n (fun i=>s[i]?.getD 0) x)(hy:Lo D w b n (fun i=>s[i]?.getD 0) y):nq y n<=nq x n/\qP D w s x n<=qP D w s y n:=by
 have h1:=YK y hw hp ha hx;have h2:=YK x hw hp (by grind) hy;have h3:nq y n<=nq x n:=by refine Rat.not_lt.1 fun hc=>?_;have h4:=Rat.mul_pos (show (0:Rat)<b-a by grind) (show (0:Rat)<nq y n-nq x n by grind);grind
 refine⟨h3,?_⟩;have h5:=Rat.mul_nonneg ha (show (0:Rat)<=nq x n-nq y n by grind);grind
noncomputable def A.b93:=A.q Tryz.f93
def A.k93:=@A.kk 93 9 [.tmp 4] A.b93 (by kernel_rfl) rfl
noncomputable def A.b24:=A.q Tryz.f24
def A.k24:=@A.kk 24 9 [.tmp 4] A.b24 (by kernel_rfl) rfl
def Ykw(ha:Qb j a)(hb:Qb k b)(hj:j<=400000000)(hk:k<=400000000)(hl:(aI b).length<1000000000):Fn A.C 93 [.str (aI a),.str (aI b)] h N (fun u _ _=>u=.str (aI (a-b))):=by intro w;have hn:=fun st=>Yrv (q:=b) (st:=st) hl;rw[aP,A.k93 (by simp)];simp[A.b93,hn];refine au (NL (a:=a) (b:= -b) ha hb.neg hj hk) ?_;rintro _ H1 n1 k1 rfl;rw[<-Rat.sub_eq_add_neg];simp[ay];exact k1
def Iu(ha:Qb j a)(hb:Qb k b)(hj:j<=400000000)(hk:k<=400000000)(hl:(aI b).length<1000000000):Fn A.C 24 [.str (aI a),.str (aI b)] h N (fun u _ _=>u=.int .i64 (dB (a-b).num)):=by intro w;rw[aP,A.k24 (by simp)];simp[A.b24];refine au (Ykw ha hb hj hk hl) ?_;rintro _ H1 n1 k1 rfl;have hs:=fun st=>Lp (q:=a-b) (st:=st);simp[hs,ay];exact k1
end Go.Mx
