/-reconstruct-/
import Derived.Test.YteojhfjdbpdolaaGreatDoorSpA
set_option linter.all false
namespace Go.Mx
noncomputable section
open Go Go.Proofs
variable {N j k n:Nat} {h:T O} {v:V}
set_option maxHeartbeats 1000000
set_option maxRecDepth 1000000
def A.O7:=A.q Tryz.f122
def A.sq:=A.ql A.O7 0 []
def A.b122:=(fun x0=>A.qb A.O7 [x0]) A.sq
def A.k122:=@A.kk 122 22 [.tmp 4] A.b122 (by kernel_rfl) rfl
def Yjw{f:V}{l:List V}{Q:Nat->T O->Nat->V->Prop}(Y:V->Prop)(hQ:∀j h n h' n' c u,Q j h n c->eE (fun i=>i∈dh u) h n h' n'->nP 70 Y h u->Q j h' n' c)(hs:Sl h N v l)(hl:l.length<1000000000)(hf:∀(j:Nat) (x:V),l[j]?=some x->∀h' n',ab h N h' n'->mJ A.C f [x] h' n' (fun u h2 n2=>∃y,u=y/\[y].length=1/\[y].all V.one=true/\(∀q∈[y],Y q)/\Q j h2 n2 y)):Fn A.C 122 [v,f] h N (fun u h' n'=>∃out,Own 1 70 N h' n' u out/\out.length=l.length/\∀(j:Nat),j<l.length->∃y,out[j]?=some [y]/\Q j h' n' y):=by
 intro w
 have hlen:=hs.len
 rw[aR,A.k122 (by simp)]
 simp[A.b122,hlen]
 refine bL [(5,5),(7,7),(10,20)] (fun e r st=>e=.exit 0/\ax N st.w=[]/\ab h N st.h st.n/\∃u out,r.get 5=some u/\Own 1 70 N st.h st.n u out/\out.length=l.length/\∀(j:Nat),j<l.length->∃y,out[j]?=some [y]/\Q j st.h st.n y) (fun m r st=>ax N st.w=[]/\ab h N st.h st.n/\∃k u out,k+m=l.length/\r.get 10=some (.int .i64 k)/\r.get 5=some u/\Own 1 70 N st.h st.n u out/\out.length=k/\(out=[]->u=.aa)/\(∀c∈out,∀y∈c,Y y)/\∀(j:Nat),j<k->∃y,out[j]?=some [y]/\Q j st.h st.n y) l.length ?_ ?_ ?_
 ·exact⟨by simp,ab.refl,0,.aa,[],by omega,by simp,by simp,Own.nil,rfl,fun _=>rfl,by simp,fun j hj=>by omega⟩
 ·rintro m r ⟨H,n1,W⟩ hr c9 ⟨hW,hK,k,u,out,hk,fF,h5,ho,gV,wo,hY,dm⟩
  simp only at hW hK ho dm
  rw[bl]
  cases m with
  |zero=>
   have AE:k=l.length:=by omega
   subst AE
   simp[A.sq,hr,c9,fF,hW,hK]
   exact⟨u,h5,out,ho,gV,dm⟩
  |succ m=>
   have ay:k<l.length:=by omega
   obtain⟨x,hx⟩:=bk ay
   obtain⟨i,o,cc,e,rw,q1,q2,q3,q4⟩:=(hs.ae hK).at hx
   have bM:(k:Int)<(l.length:Int):=by omega
   have kA:=hK
   simp[A.sq,hr,c9,fF,h5,bM,ay,hlen,q1,q3,q4]
   refine CL (hf k x hx _ _ kA) ?_
   rintro y h3 n3 k3 ⟨_,rfl,c1,c2,cY,c3⟩
   have jj:=k3.le
   have kn:=hK.le
   have kB:=kA.trans k3
   have b1:V.one y=true:=by simpa using c2
   have b2:V.cells y=[y]:=by cases y<;>first|rfl|cases b1
   simp[-V.cells, -V.one,hr,c9,fF,h5,b1,b2,ad]
   have uD:Own 1 70 N (h3.set n3 (.cells [y] 70 true)) (n3+1) u out:=(ho.ae ((ab.refl).trans k3)).ae (ab.refl.new _)
   obtain⟨v',h',w',f1,f2,f3,f4,fD,f5⟩:=DN (Y:=Y) (x:=[y]) (u:=.slice n3 0 1 (some 1) 1) (bytes:=24) (w:=W) uD wo hY (by omega) (by decide) c1 (by simp[eL,St.row,aF]) (by omega)
   rw[f1]
   have ij:¬n1<N:=by omega
   have f6:ax N w'=[]:=by rw[f2];simp[ax,hW,ij]
   have kz:=(kB.new (.cells [y] 70 true)).then f3
   have k4:ab h3 n3 (h3.set n3 (.cells [y] 70 true)) (n3+1):=ab.refl.new _
   have Dj:Q k (h3.set n3 (.cells [y] 70 true)) (n3+1) y:=hQ _ _ _ _ _ _ .aa c3 k4.upd nP.nil
   simp(disch:=first|(simp;done)|omega|rfl) [hr,c9,fF,f6]
   refine⟨m,by omega,kz,k+1,by omega,by simp,out++[[y]],f5,by simp[gV],by simp,fun c' hc z hz=>?_,fun j hj=>?_⟩
   ·rcases mE.1 hc with hc|hc
    ·exact hY c' hc z hz
    ·simp only[wR]at hc;subst hc;exact cY z hz
   by_cases pR:j<k
   ·obtain⟨y,g1,g2⟩:=dm j pR
    exact⟨y,by rw[iM (by omega)];exact g1,hQ _ _ _ _ _ _ _ (hQ _ _ _ _ _ _ .aa g2 (((ab.refl).trans k3).trans k4).upd nP.nil) f4 fD⟩
   ·obtain rfl:j=k:=by omega
    exact⟨y,by rw[kY (by omega),gV];simp,hQ _ _ _ _ _ _ _ Dj f4 fD⟩
 ·rintro _ r ⟨H,n1,W⟩ hr ⟨rfl,hW,hK,u,out,h5,ho,gV,dm⟩
  simp only at hW hK ho dm
  simp[hr,h5,aE,hW,hK]
  exact⟨out,ho,gV,dm⟩
def A.b45:=A.q Tryz.f45
def A.k45:=@A.kk 45 15 [.tmp 4] A.b45 (by kernel_rfl) rfl
def A.b124:=A.q Tryz.f124
def A.k124:=@A.kk 124 7 [.tmp 3] A.b124 (by kernel_rfl) rfl
def A.b123:=A.q Tryz.f123
def A.k123:=@A.kk 123 7 [.tmp 3] A.b123 (by kernel_rfl) rfl
def Yjf{out:List (List V)}(h:∀x∈out,x.length=1):∃ys:List V,out=ys.map fun y=>[y]:=by
 induction out with
 |nil=>exact⟨[],rfl⟩
 |cons x t ih=>
  obtain⟨ys,rfl⟩:=ih fun x jn=>h x (oU _ jn)
  have:=h x ph
  match x,this with
  |[y],_=>exact⟨y::ys,rfl⟩
def Ye4{f:V}{m:List (List Rat)}(F:List Rat->List Rat)(hs:lZ h N v m)(hl:m.length<100000)(hf:∀l∈m,∀u h' n',ab h N h' n'->fl h' n' u l->mJ A.C f [u] h' n' (fun x h2 n2=>fl h2 n2 x (F l))):Fn A.C 122 [v,f] h N (fun u h' n'=>lZ h' n' u (m.map F)):=by
 obtain⟨us,h1,h2,h3⟩:=hs
 have key:=Yjw (f:=f) (Q:=fun j h n u=>∀l,(m.map F)[j]?=some l->fl h n u l) NW (fun j h n h' n' c u hq k hd l hl=>(hq l hl).cE k hd (by simp)) h1 (by omega) ?_
 ·intro w
  refine(key w).mono fun y st=>?_
  rintro⟨q1,q2,out,o1,o2,o3⟩
  obtain⟨ys,rfl⟩:=Yjf o1.1
  refine⟨q1,q2,ys,Sn.one.1 o1.sn,by simpa[h2]using o2,fun j l hl=>?_⟩
  obtain⟨y,g1,g2⟩:=o3 j (by have:=iY hl;simp at this;omega)
  refine⟨y,?_,g2 l hl⟩
  rw[eY]at g1
  cases hy:ys[j]? with
  |none=>rw[hy]at g1;simp at g1
  |some z=>rw[hy]at g1;simpa using g1
 ·intro j x hx h' n' hk
  obtain⟨l,hl⟩:=bk (l:=m) (k:=j) (by have:=iY hx;omega)
  obtain⟨u,g1,g2⟩:=h3 j l hl
  rw[hx]at g1
  obtain rfl:x=u:=by simpa using g1
  refine fun w=>(hf l (cG hl) _ _ _ hk (g2.ae hk) w).mono fun y st=>?_
  rintro⟨q1,q2,q3⟩
  obtain⟨f1,f2,f3⟩:=q3.1.form
  refine⟨q1,q2,y,rfl,rfl,by simp only[List.all_cons,List.all_nil,f1,Bool.and_true],by simpa using f3,fun l' i_=>?_⟩
  rw[eY,hl]at i_
  obtain rfl:F l=l':=by simpa using i_
  exact q3
def Ysp{P:Nat}{a u:V}{C:List (List Rat)}{l:List Rat}{e:TypeId}{rw:Bool}(hp:h.get P=some (.cells [a] e rw))(hP:P<N)(ha:lZ h N a C)(hu:fl h N u l)(hC:∀r∈C,r.length=n/\∀q∈r,Qb j q)(hn:n<=l.length)(hb:∀q∈l,Qb k q)(hj:1<=j)(hk:1<=k)(hl:n*(j+k+1)+j+k+1<=400000000)(hCl:C.length<100000):mJ A.C (.func 124 [] [.ptr P 0]) [u] h N (fun x h' n'=>fl h' n' x (C.map fun c=>de c l)):=by
 intro w
 rw[aR,A.k124 (by simp)]
 simp[A.b124,hp,hP]
 refine aA (Zoe ha hu.1 hC hn hb hj hk hl hCl) ?_
 rintro x H2 n2 k2 hx
 simp[aE]
 exact⟨k2,hx⟩
def FX{B:List (List Rat)}{c:Nat}(hB:cB B k)(hk:1<=k):∀r∈eI B c,r.length=B.length/\∀q∈r,Qb k q:=fun r hr=>by
 unfold eI at hr
 obtain⟨i,_,rfl⟩:=dt.1 hr
 refine⟨by simp[kf],fun q hq=>?_⟩
 unfold kf at hq
 obtain⟨l,hl,rfl⟩:=dt.1 hq
 exact yi (hB l hl) hk i
def pS{B:List (List Rat)}{c:Nat}:(eI B c).length=c:=by simp[eI]
def Yr5{A C:List (List Rat)}(hA:cB A k)(hC:∀r∈C,r.length=n/\∀q∈r,Qb j q)(hj:1<=j)(hk:1<=k):cB (eW A C) (n*(j+k+1)+1):=fun r hr q hq=>by
 unfold eW at hr
 obtain⟨a,ha,rfl⟩:=dt.1 hr
 obtain⟨c,hc,rfl⟩:=dt.1 hq
 obtain⟨h1,h2⟩:=hC c hc
 exact KX h2 (hA a ha) hj hk (by omega)
def wY{A C:List (List Rat)}:bg (eW A C) C.length:=fun r hr=>by
 unfold eW at hr
 obtain⟨a,ha,rfl⟩:=dt.1 hr
 rw[dL]
def qV{A C:List (List Rat)}:(eW A C).length=A.length:=by simp[eW]
def Yop{c:Nat}{u:V}{A' B:List (List Rat)}(hu:lZ h N u A')(hv:lZ h N v B)(hA:bg A' n)(hB:bg B c)(hn:B.length<=n)(lG:0<B.length)(hAl:A'.length<1000)(OJ:B.length<1000)(hc:c<1000)(qA:cB A' k)(qB:cB B j)(hj:1<=j)(hk:1<=k)(hl:B.length*(j+k+1)+j+k+1<=400000000):Fn A.C 45 [u,v] h N (fun x h' n'=>lZ h' n' x (eW A' (eI B c))):=by
 intro w
 obtain⟨l0,gb⟩:=bk lG
 obtain⟨i2,o2,c2,e2,w2,y,q1,q2,q3,q4,q5⟩:=Zvh hv gb
 rw[kv]at q4
 have lv:=hv.len
 have zaf:(0:Int)<(B.length:Int):=by omega
 have ly:=q5.1.len
 rw[hB l0 (cG gb)]at ly
 rw[aR,A.k45 (by simp)]
 simp[A.b45,lv,lG,zaf,q1,q2,q3,q4,ly]
 refine aA (SE hv (by omega) hB hc) ?_
 rintro x H2 n2 k2 hx
 have hx:=hx.FJ
 obtain⟨us,f0,_⟩:=id hx
 have f1:=f0.form.one
 have f2:=f0.form.cells
 have kC:ab H2 n2 ((H2.set n2 (.cells [.aa] 72 true)).set n2 (.cells [x] 72 true)) (n2+1):=(ab.refl.new _).set (aM _)
 have gC:((H2.set n2 (.cells [.aa] 72 true)).set n2 (.cells [x] 72 true)).get n2=some (.cells [x] 72 true):=by rw[T.ag,av rfl]
 have qz:ad [V.aa] 0 [x]=[x]:=rfl
 simp[-V.cells, -V.one,f1,f2,qz,bC]
 generalize (H2.set n2 (.cells [.aa] 72 true)).set n2 (.cells [x] 72 true)=G at*
 refine aA (Ye4 (fun l=>(eI B c).map fun c=>de c l) ((hu.ae k2).ae kC) (by omega) fun l i_ u' h' n' k' mQ=>Ysp ((k'.get n2 (by omega)).trans gC) (by have:=k'.le;omega) ((hx.ae kC).ae k') mQ (FX qB hj) (by rw[hA l i_];exact hn) (qA l i_) hj hk hl (by rw[pS];omega)) ?_
 rintro z H3 n3 k3 hz
 simp[aE]
 exact⟨by have:=k2.le;omega,(k2.trans kC).trans k3,hz⟩
set_option maxHeartbeats 2000000
set_option maxHeartbeats 2000000
variable {d i j k:Nat} {m:List (List Rat)}
def sN(f:Nat->Rat):Nat->Rat
 |0=>0
 |n+1=>sN f n+f n
def dV{f g:Nat->Rat}:∀{n:Nat},(∀i,i<n->f i=g i)->sN f n=sN g n
 |0,_=>rfl
 |n+1,h=>by
  unfold sN
  rw[dV fun i hi=>h i (by omega),h n (by omega)]
def zO{f g:Nat->Rat}:∀{n:Nat},sN (fun i=>f i+g i) n=sN f n+sN g n
 |0=>by simp[sN,Rat.add_zero]
 |n+1=>by
  unfold sN
  rw[zO]
  grind
def l_{f:Nat->Rat}{c:Rat}:∀{n:Nat},sN (fun i=>c*f i) n=c*sN f n
 |0=>by simp[sN,Rat.mul_zero]
 |n+1=>by
  unfold sN
  rw[l_]
  grind
def Be{f:Nat->Rat}:∀{n:Nat},(∀i,i<n->f i=0)->sN f n=0
 |0,_=>rfl
 |n+1,h=>by
  unfold sN
  rw[Be fun i hi=>h i (by omega),h n (by omega),Rat.add_zero]
def FN{f:Nat->Nat->Rat}{m:Nat}:∀{n:Nat},sN (fun i=>sN (f i) m) n=sN (fun j=>sN (fun i=>f i j) n) m
 |0=>(Be (n:=m) fun _ _=>rfl).symm
 |n+1=>by
  show sN (fun i=>sN (f i) m) n+sN (f n) m=sN (fun j=>sN (fun i=>f i j) n+f n j) m
  rw[FN,<-zO]
def Ysj{f:Nat->Rat}:∀{n:Nat},(∀i,i<n->0<=f i)->0<=sN f n
 |0,_=>Rat.le_refl
 |n+1,h=>Rat.add_nonneg (Ysj fun i hi=>h i (by omega)) (h n (by omega))
def VD{f:Nat->Rat}:∀{n:Nat},(∀i,i<n->0<=f i)->sN f n=0->∀i,i<n->f i=0
 |0,_,_,i,hi=>by omega
 |n+1,h,e,i,hi=>by
  have h1:=Ysj (n:=n) fun i hi=>h i (by omega)
  have h2:=h n (by omega)
  have e':sN f n+f n=0:=e
  by_cases Bj:i=n
  ·subst Bj
   grind
  ·exact VD (n:=n) (fun i hi=>h i (by omega)) (by grind) i (by omega)
def yR{f:Nat->Rat}{i:Nat}:∀{n:Nat},i<n->(∀j,j<n->j≠i->f j=0)->sN f n=f i
 |0,h,_=>by omega
 |n+1,h,hz=>by
  unfold sN
  by_cases e:i=n
  ·subst e
   rw[Be fun j hj=>hz j (by omega) (by omega),Rat.zero_add]
  ·rw[yR (n:=n) (by omega) fun j hj aW=>hz j (by omega) aW,hz n (by omega) (by omega),Rat.add_zero]
def VN{a b:List Rat}:∀{n:Nat},jT a b n=sN (fun i=>a[i]?.getD 0*b[i]?.getD 0) n
 |0=>rfl
 |n+1=>by
  unfold jT sN
  rw[VN]
def kc(m:List (List Rat))(c:Nat)(v:Nat->Rat):Prop:=∀i,i<m.length->sN (fun j=>az m i j*v j) c=0
def Ypw{c p:Nat}{v:Nat->Rat}(hd:d<m.length)(hp:p<m.length):kc (bP m d p) c v↔kc m c v:=by
 have hs:∀i,sN (fun j=>az (bP m d p) i j*v j) c=if i=d then sN (fun j=>az m p j*v j) c else if i=p then sN (fun j=>az m d j*v j) c else sN (fun j=>az m i j*v j) c:=fun i=>by
  split
  ·exact dV fun j _=>by rw[FR hd hp,av (by assumption)]
  ·split
   ·exact dV fun j _=>by rw[FR hd hp,ak (by assumption),av (by assumption)]
   ·exact dV fun j _=>by rw[FR hd hp,ak (by assumption),ak (by assumption)]
 unfold kc
 rw[mD]
 constructor
 ·intro h i hi
  by_cases e:i=p
  ·have:=h d hd
   rw[hs,av rfl]at this
   rw[e]
   exact this
  ·by_cases e2:i=d
   ·have:=h p hp
    rw[hs]at this
    by_cases e3:p=d
    ·rw[av e3]at this
     rw[e2,<-e3]
     exact this
    ·rw[ak e3,av rfl]at this
     rw[e2]
     exact this
   ·have:=h i hi
    rw[hs,ak e2,ak e]at this
    exact this
 ·intro h i hi
  rw[hs]
  split
  ·exact h p hp
  ·split
   ·exact h d hd
   ·exact h i hi
def Ypx{c:Nat}{v:Nat->Rat}(hd:d<m.length)(h0:az m d k≠0):kc (eZ m d k) c v↔kc m c v:=by
 have hs:∀i,sN (fun j=>az (eZ m d k) i j*v j) c=if i=d then (az m d k)⁻¹*sN (fun j=>az m d j*v j) c else sN (fun j=>az m i j*v j) c:=fun i=>by
  split
  ·rw[<-l_]
   exact dV fun j _=>by
    rw[PY hd,av (by assumption),Rat.div_def]
    grind
  ·exact dV fun j _=>by rw[PY hd,ak (by assumption)]
 unfold kc
 rw[zD]
 constructor
 ·intro h i hi
  have:=h i hi
  rw[hs]at this
  by_cases e:i=d
  ·rw[av e]at this
   rw[e]
   rcases Rat.mul_eq_zero.1 this with h1|h1
   ·exact absurd h1 (fun hc=>h0 (by rw[<-Rat.inv_inv (az m d k),hc,Rat.inv_zero]))
   ·exact h1
  ·rw[ak e]at this
   exact this
 ·intro h i hi
  rw[hs]
  split
  ·rw[h d hd,Rat.mul_zero]
  ·exact h i hi
def Ypy{c:Nat}{v:Nat->Rat}(hc:bg m c)(hd:d<m.length):kc (b_ m d k m.length) c v↔kc m c v:=by
 have hs:∀i,i<m.length->sN (fun j=>az (b_ m d k m.length) i j*v j) c=if i=d then sN (fun j=>az m i j*v j) c else sN (fun j=>az m i j*v j) c+ -az m i k*sN (fun j=>az m d j*v j) c:=fun i hi=>by
  split
  ·exact dV fun j _=>by rw[PZ hc hi hd,av (by assumption)]
  ·rw[<-l_,<-zO]
   exact dV fun j _=>by
    rw[PZ hc hi hd,ak (by assumption)]
    grind
 unfold kc
 rw[yF]
 constructor
 ·intro h i hi
  have og:=h d hd
  rw[hs d hd,av rfl]at og
  have:=h i hi
  rw[hs i hi,og,Rat.mul_zero,Rat.add_zero]at this
  split at this<;>exact this
 ·intro h i hi
  rw[hs i hi,h d hd,h i hi,Rat.mul_zero,Rat.add_zero]
  split<;>rfl
def Yj2{s:List (List Rat)×Nat×List Nat}{c:Nat}{v:Nat->Rat}(hc:bg s.1 c):kc (fT s k).1 c v↔kc s.1 c v:=by
 obtain⟨m,d,ps⟩:=s
 simp only at hc
 have hle:=@B4 m k (m.length-d) d
 unfold fT
 simp only
 split
 ·rename_i hp
  have dp:d<m.length:=by unfold dJ at hp;omega
  have aW:az m (dJ m d k) k≠0:=@DM m k (m.length-d) d (by unfold dJ at hp;omega)
  have jA:=(hc.zC dp hp).FF (d:=d) (k:=k) (by rw[mD];exact dp)
  have iD:(eZ (bP m d (dJ m d k)) d k).length=m.length:=by rw[zD,mD]
  have h3:=Ypy (k:=k) (d:=d) (v:=v) jA (by rw[iD];exact dp)
  rw[iD]at h3
  show kc (b_ (eZ (bP m d (dJ m d k)) d k) d k m.length) c v↔_
  rw[h3,Ypx (by rw[mD];exact dp) (by rw[FR dp hp,av rfl];exact aW),Ypw dp hp]
 ·exact Iff.rfl
def Yfi{m:List (List Rat)}{c:Nat}{v:Nat->Rat}(hc:bg m c):∀{n:Nat},kc (aD m n).1 c v↔kc m c v
 |0=>Iff.rfl
 |n+1=>by
  rw[ta,Yj2 (mB hc).1]
  exact Yfi hc
def KQ{c:Nat}{v:Nat->Rat}(hc:bg m c):kc (aU m c) c v↔kc m c v:=by
 rw[<-Yfi hc (n:=c)]
 have I:=nU hc (n:=c)
 have hl:=wN (n:=c) hc
 unfold kc
 constructor
 ·intro h i hi
  by_cases e:i<(aD m c).2.1
  ·rw[<-h i (by rw[hl];exact e)]
   exact dV fun j _=>by rw[Ydw e]
  ·exact Be fun j hj=>by rw[I.rest i j (by omega) hi hj,Rat.zero_mul]
 ·intro h i hi
  rw[hl]at hi
  rw[<-h i (by have:=I.le;omega)]
  exact dV fun j _=>by rw[Ydw hi]
def Zvo{c:Nat}(hc:bg m c)(hi:i<(aD m c).2.1)(hj:j<(aD m c).2.1):az (aU m c) j ((aD m c).2.2[i]?.getD 0)=if j=i then 1 else 0:=by
 have I:=nU hc (n:=c)
 rw[Ydw hj]
 exact I.one i j hi (by have:=I.le;omega)
def uZ(m:List (List Rat))(c k j:Nat):Rat:=if j=k then 1 else if j∈(aD m c).2.2 then -az (aU m c) ((aD m c).2.2.idxOf j) k else 0
def Ys9{c:Nat}(h:j<c):(ye (aU m c) (aD m c).2.2 c k)[j]?.getD 0=uZ m c k j:=by simp[ye,uZ,h]
def Yd3{c:Nat}(hc:bg m c)(h:j∈(aD m c).2.2):∃i,i<(aD m c).2.1/\(aD m c).2.2[i]?.getD 0=j/\(aD m c).2.2.idxOf j=i:=by
 have I:=nU hc (n:=c)
 obtain⟨i,hi⟩:=tc h
 have hl:i<(aD m c).2.1:=by rw[<-I.len];exact(wP.1 hi).1
 have e:(aD m c).2.2[i]?.getD 0=j:=by rw[hi];rfl
 exact⟨i,hl,e,by rw[<-e];exact I.idx hl⟩
def VC{c:Nat}{v:Nat->Rat}(hc:bg m c)(hi:i<(aD m c).2.1):sN (fun j=>az (aU m c) i j*v j) c=v ((aD m c).2.2[i]?.getD 0)+sN (fun j=>if j∈(aD m c).2.2 then 0 else az (aU m c) i j*v j) c:=by
 have I:=nU hc (n:=c)
 have hp:=I.lt i hi
 have e1:sN (fun j=>if j=(aD m c).2.2[i]?.getD 0 then v j else 0) c=v ((aD m c).2.2[i]?.getD 0):=by
  rw[yR (i:=(aD m c).2.2[i]?.getD 0) hp fun j _ aW=>by rw[ak aW],av rfl]
 rw[<-e1,<-zO]
 apply dV
 intro j _
 by_cases hj:j∈(aD m c).2.2
 ·obtain⟨a,ha,ea,_⟩:=Yd3 hc hj
  rw[av hj,Rat.add_zero,<-ea,Zvo hc ha hi]
  by_cases e:i=a
  ·subst e
   rw[av rfl,av rfl,Rat.one_mul]
  ·rw[ak e,Rat.zero_mul,ak]
   intro h
   rcases Nat.lt_or_gt_of_ne e with h1|h1
   ·have:=I.yQ _ _ h1 ha;omega
   ·have:=I.yQ _ _ h1 hi;omega
 ·rw[ak hj,ak,Rat.zero_add]
  intro h
  subst h
  rw[cy (by rw[I.len];exact hi)]at hj
  exact hj (List.getElem_mem _)
def Ymo{c:Nat}(hc:bg m c)(hk:k<c)(hf:k∉(aD m c).2.2):kc m c (uZ m c k):=by
 rw[<-KQ hc]
 intro i hi
 rw[wN hc]at hi
 have I:=nU hc (n:=c)
 have FC:(aD m c).2.2[i]?.getD 0∈(aD m c).2.2:=by
  rw[cy (by rw[I.len];exact hi)]
  exact List.getElem_mem _
 rw[VC hc hi,yR (i:=k) hk]
 ·rw[ak hf]
  have aW:¬(aD m c).2.2[i]?.getD 0=k:=fun h=>by rw[h]at FC;exact hf FC
  unfold uZ
  rw[av rfl,ak aW,av FC,I.idx hi]
  grind
 ·intro j _ aW
  by_cases hj:j∈(aD m c).2.2
  ·rw[av hj]
  ·rw[ak hj]
   unfold uZ
   rw[ak aW,ak hj,Rat.mul_zero]
def Zwn{G:List (List Rat)}{n:Nat}(hG:bg G n)(h:∀v,kc G n v->∀j,j<n->v j=0):(aD G n).2.1=n:=by
 have I:=nU hG (n:=n)
 have hf:=SC (ps:=(aD G n).2.2) (n:=n) (fun i hi=>I.lt i (by rw[<-I.len];exact hi)) (fun i j h1 h2=>I.yQ i j h1 (by rw[<-I.len];exact h2))
 rw[I.len]at hf
 by_cases e:(aD G n).2.1=n
 ·exact e
 ·exfalso
  obtain⟨k,hk⟩:=bk (l:=pq (aD G n).2.2 n) (k:=0) (by omega)
  have hm:=cG hk
  simp only[pq,List.mem_filter,u9]at hm
  have hkf:k∉(aD G n).2.2:=by simpa using hm.2
  have:=h _ (Ymo hG hm.1 hkf) k hm.1
  simp[uZ]at this
def Yj7{G:List (List Rat)}{n:Nat}(hG:bg G n)(hl:G.length=n)(h:∀v,kc G n v->∀j,j<n->v j=0):∃H,pr G n=some H:=by
 have f:=Zwn hG h
 have hX:bg (List.replicate n ([]:List Rat)) 0:=fun r hr=>by rw[(Ge.1 hr).2];rfl
 have hw:cH G (List.replicate n [])=G:=by
  unfold cH
  apply List.ext_getElem (by simp)
  intro i h1 h2
  have:(List.replicate n ([]:List Rat))[i]?.getD []=[]:=by
   rw[List.getElem?_replicate]
   split<;>rfl
  simp only[List.getElem_map,List.getElem_range,cy h2,fX,this,wU]
 have hW:=uY hG (IN (n:=n)) (by rw[IP,hl];exact aM _)
 have lW:(cH G (fJ n)).length=n:=by rw[sL,hl]
 have hE:=Zws (C:=eI (List.replicate n ([]:List Rat)) 0) hW (Nat.le_add_right n n) (aM n)
 rw[<-Zxg hG hl hX (by simp),hw]at hE
 have f2:(aD (cH G (fJ n)) n).2.1=n:=by rw[hE]at f;exact f
 have e1:=Ku (f2.trans lW.symm) (n:=n)
 have J:=nU hW (n:=n)
 rw[f2]at J
 unfold pr
 rw[e1,av ⟨f2,fun i hi=>PS J hi⟩]
 exact⟨_,rfl⟩
variable {m:List (List Rat)} {n:Nat}
def P3{a C:List (List Rat)}{i j:Nat}(hi:i<a.length)(hj:j<C.length)(hC:bg C n):az (eW a C) i j=sN (fun l=>az C j l*az a i l) n:=by
 have hl:=hC.at hj
 unfold az eW
 rw[eY,cy hi]
 simp only[pL,fX,eY]
 rw[cy hj]at hl ⊢
 simp only[pL,fX]at hl ⊢
 unfold de
 rw[hl,VN]
def KT{k i:Nat}(hk:k<n)(hi:i<m.length):az (eI m n) k i=az m i k:=by
 unfold az eI kf
 simp only[eY,DT hk,pL,fX,cy hi]
def IU{m:List (List Rat)}{n:Nat}:bg (eI m n) m.length:=fun r hr=>by
 unfold eI at hr
 obtain⟨k,_,rfl⟩:=dt.1 hr
 simp[kf]
def Ypl{a b:List (List Rat)}(h:a.length=b.length)(ha:bg a n)(hb:bg b n)(he:∀i j,i<a.length->j<n->az a i j=az b i j):a=b:=by
 apply List.ext_getElem h
 intro i h1 h2
 have l1:=ha.at h1
 have l2:=hb.at h2
 rw[cy h1]at l1
 rw[cy h2]at l2
 simp only[fX]at l1 l2
 apply I3 (by rw[l1,l2])
 intro j hj
 have:=he i j h1 (by omega)
 unfold az at this
 rw[cy h1,cy h2]at this
 exact this
def V2(h:bg m n):eI (eI m n) m.length=m:=by
 have hl:(eI m n).length=n:=pS
 apply Ypl (n:=n) pS (by have:=@IU (eI m n) m.length;rw[hl]at this;exact this) h
 intro i j hi hj
 rw[pS]at hi
 rw[KT hi (by rw[hl];exact hj),KT hj hi]
def Ysa{x:Rat}:0<=x*x:=by
 rcases Rat.le_total (a:=0) (b:=x)with h|h
 ·exact Rat.mul_nonneg h h
 ·have:=Rat.mul_nonneg (a:= -x) (b:= -x) (by grind) (by grind)
  grind
def Ywl{x:Rat}(h:x*x=0):x=0:=by
 rcases Rat.mul_eq_zero.1 h with h|h<;>exact h
def Yt6{c:Nat}{y:Nat->Rat}(hc:bg m c)(hz:∀l,l<c->sN (fun a=>az (aU m c) a l*y a) (aD m c).2.1=0):∀a,a<(aD m c).2.1->y a=0:=fun a ha=>by
 have I:=nU hc (n:=c)
 have h:=hz _ (I.lt a ha)
 rw[yR (i:=a) ha]at h
 ·rw[Zvo hc ha ha,av rfl,Rat.one_mul]at h
  exact h
 ·intro j hj aW
  rw[Zvo hc ha hj,ak aW,Rat.zero_mul]
def Yk9{c:Nat}{y:Nat->Rat}(hc:bg m c)(hk:kc (aU m c) c fun l=>sN (fun a=>az (aU m c) a l*y a) (aD m c).2.1):∀a,a<(aD m c).2.1->y a=0:=by
 apply Yt6 hc
 have hl:=wN (n:=c) hc
 have key:sN (fun l=>sN (fun a=>az (aU m c) a l*y a) (aD m c).2.1*sN (fun a=>az (aU m c) a l*y a) (aD m c).2.1) c=0:=by
  have e1:∀l,sN (fun a=>az (aU m c) a l*y a) (aD m c).2.1*sN (fun a=>az (aU m c) a l*y a) (aD m c).2.1=sN (fun b=>y b*(az (aU m c) b l*sN (fun a=>az (aU m c) a l*y a) (aD m c).2.1)) (aD m c).2.1:=fun l=>by
   rw[<-l_]
   exact dV fun b _=>by grind
  rw[dV fun l _=>e1 l,FN]
  apply Be
  intro b hb
  rw[l_,hk b (by rw[hl];exact hb),Rat.mul_zero]
 intro l zm
 exact Ywl (VD (fun _ _=>Ysa) key l zm)
def Ytm{c:Nat}{y:Nat->Rat}(hc:bg m c)(hk:kc (eW (aU m c) (aU m c)) (aD m c).2.1 y):∀a,a<(aD m c).2.1->y a=0:=by
 apply Yk9 hc
 have hl:=wN (n:=c) hc
 have hr:=uV (n:=c) hc
 intro b hb
 have h:=hk b (by rw[qV];exact hb)
 rw[<-h]
 have e:∀l,az (aU m c) b l*sN (fun a=>az (aU m c) a l*y a) (aD m c).2.1=sN (fun a=>y a*(az (aU m c) a l*az (aU m c) b l)) (aD m c).2.1:=fun l=>by
  rw[<-l_]
  exact dV fun a _=>by grind
 rw[dV fun l _=>e l,FN]
 apply dV
 intro a ha
 rw[l_,P3 hb (by rw[hl];exact ha) hr]
 grind
set_option maxHeartbeats 2000000
variable {G X:List (List Rat)} {N n:Nat} {h:T O}
set_option maxHeartbeats 4000000
def A.w44:=A.q Tryz.f44
def A.wu:=A.ql A.w44 0 []
def A.b44:=(fun x0=>A.qb A.w44 [x0]) A.wu
def A.k44:=@A.kk 44 53 [.tmp 4,.tmp 5] A.b44 (by kernel_rfl) rfl
def Zqe{st aC:St}{z:Nat}{i o:Nat}{cp:Option Nat}{s:Nat}{v':V}{x y:Option V}(e:l8 st z (some (.slice i o n cp s)) (some x) (some y) (some none)=some (v',aC)):∀j∈dh v',j=i:=by
 unfold l8 po at e
 simp only[ER,Src.ev]at e
 cases cp<;>simp only at e<;>repeat' split at e
 all_goals first
  |cases e;done
  |(simp only[al,bu]at e;obtain⟨rfl,_⟩:=e;simp[dh])
def fl.drop{v:V}{l:List Rat}{w:List Nat}(hu:fl h N v l)(hn:n<=l.length)(h0:0<l.length):∃v',l8 ⟨h,N,w⟩ 4 (some v) (some (some (.int .i64 n))) (some none) (some none)=some (v',⟨h,N,w⟩)/\fl h N v' (l.drop n):=by
 obtain⟨⟨cs,h1,h2,h3⟩,h4⟩:=hu
 obtain⟨v',e1,e2⟩:=Zs5 (w:=w) (by decide) h1 (lo:=n) (hi:=cs.length) (by omega) (aM _) (some (.int .i64 n)) none (.inl rfl) (.inr ⟨rfl,rfl⟩)
 rw[fe (aM _)]at e2
 refine⟨v',e1,⟨cs.drop n,e2,by simp[h2],fun j q hq=>?_⟩,fun i hi=>?_⟩
 ·rw[ff]at hq ⊢
  exact h3 _ q hq
 ·rcases h1 with⟨hc,_⟩|⟨i',o,cp,c,e,pO,rfl,_⟩
  ·rw[hc]at h2
   simp at h2
   omega
  ·have:=Zqe e1 i hi
   exact h4 i (by simp[dh,this])
def Ysg{P:Nat}{u:V}{l:List Rat}{e:TypeId}{rw:Bool}(hp:h.get P=some (.cells [.int .i64 n] e rw))(hP:P<N)(hu:fl h N u l)(hn:n<=l.length)(h0:0<l.length):mJ A.C (.func 123 [] [.ptr P 0]) [u] h N (fun x h' n'=>fl h' n' x (l.drop n)):=by
 intro w
 obtain⟨v',e1,e2⟩:=fl.drop (w:=[]) hu hn h0
 rw[aR,A.k123 (by simp)]
 simp[A.b123,hp,hP,zJ,e1,aE]
 exact⟨ab.refl,e2⟩
def Vy{k:Nat}(h:k<G.length):(cH G X)[k]?=some (G[k]?.getD []++X[k]?.getD []):=by simp[cH,h]
def Ych{K:Nat}(hG:cB G K)(hX:cB X K):cB (cH G X) K:=fun r hr q hq=>by
 obtain⟨i,hi,rfl⟩:=dt.1 hr
 rcases mE.1 hq with h|h
 ·exact hG.at q h
 ·exact hX.at q h
def Yc4{c:Nat}{B:Nat->Nat}{u v:V}(hu:lZ h N u G)(hv:lZ h N v X)(hG:bg G n)(hX:bg X c)(hl:G.length=n)(hx:X.length=n)(h0:0<n)(hn:n<100)(fy:0<c)(hc:c<100)(x_:∀i,1<=B i)(Vz:∀k,cB (aD (cH G X) k).1 (B (aD (cH G X) k).2.1))(hB:∀i,i<n->3*B i<=400000000):Fn A.C 44 [u,v] h N (fun x h' n'=>(pQ G X n c=none/\x=.aX [.aa,.bool false])\/∃H y,pQ G X n c=some H/\x=.aX [y,.bool true]/\lZ h' n' y H):=by
 intro w
 have lu:=hu.len
 have kB0:ab h N ((h.set N (.cells [.int .i64 0] 3 true)).set N (.cells [.int .i64 n] 3 true)) (N+1):=(ab.refl.new _).set (aM _)
 have gB0:((h.set N (.cells [.int .i64 0] 3 true)).set N (.cells [.int .i64 n] 3 true)).get N=some (.cells [.int .i64 n] 3 true):=by rw[T.ag,av rfl]
 rw[aR,A.k44 (by simp)]
 simp[A.b44,lu,hl,bC,ad]
 generalize (h.set N (.cells [.int .i64 0] 3 true)).set N (.cells [.int .i64 n] 3 true)=G0 at*
 have lF:=hu.ae kB0
 have mj:=hv.ae kB0
 have lW:∀t,t<=n->((cH G X).take t).length=t:=fun t ht=>by rw[gD,sL];omega
 refine bL [(7,8),(14,30)] (fun e r st=>e=.exit 0/\ax N st.w=[]/\ab G0 (N+1) st.h st.n/\∃v,r.get 7=some v/\sW (N+1) st.h st.n v (cH G X)) (fun i r st=>ax N st.w=[]/\ab G0 (N+1) st.h st.n/\∃k v,k+i=n/\r.get 14=some (.int .i64 (k:Nat))/\r.get 7=some v/\sW (N+1) st.h st.n v ((cH G X).take k)) n ?_ ?_ ?_
 ·exact⟨by simp,ab.refl,0,_,by omega,by simp,by simp,sW.nil⟩
 ·rintro i r ⟨H,m,W⟩ hr hf ⟨hW,hK,k,y,hk,oG,h7,hO⟩
  simp only at hW hK hO
  rw[bl]
  have lm:=hK.le
  cases i with
  |zero=>
   obtain rfl:k=n:=by omega
   rw[fe (by rw[sL];omega)]at hO
   simp[A.wu,hr,hf,oG,h7,hW,hK]
   exact hO
  |succ i=>
   have ay:k<n:=by omega
   have bb:(k:Int)<(n:Int):=by omega
   obtain⟨ga,FM⟩:=bk (l:=G) (k:=k) (by omega)
   obtain⟨xa,hxa⟩:=bk (l:=X) (k:=k) (by omega)
   have PO:=hG ga (cG FM)
   have lxa:=hX xa (cG hxa)
   obtain⟨i1,o1,c1,e1,w1,a,q1,q2,q3,q4,q5⟩:=Zvh (lF.ae hK) FM
   have lv:=hv.len
   rw[hx]at lv
   simp[A.wu,hr,hf,oG,h7,ay,bb,lu,hl,q1,q2,q3,q4]
   refine aA (Yg2 q5.1 (by omega) (by omega)) ?_
   rintro z H2 n2 k2 hz
   have kX:=k2.le
   obtain⟨i3,o3,c3,e3,w3,b,p1,p2,p3,p4,p5⟩:=Zvh ((mj.ae hK).ae k2) hxa
   obtain⟨v1,h1,w1',j1,j2,j3,j4⟩:=FK.many (w:=[]) hz p5.1 (by omega) (by omega) (by omega)
   simp[-V.cells, -V.one,hr,hf,oG,h7,lv,p1,p2,p3,p4,wQ,j1,ay,bb]
   have ft:=j4.Vk
   obtain⟨f1,f2,f3⟩:=ft.1.form
   have k3:ab H m h1 (n2+1):=k2.then j3
   have kD:ab h1 (n2+1) (h1.set (n2+1) (.cells [v1] 70 true)) (n2+1+1):=ab.refl.new _
   have qz:ad [V.aa] 0 [v1]=[v1]:=rfl
   obtain⟨v',h',w',s1,s2,s3,s4⟩:=sW.push (N0:=N+1) (x:=.slice (n2+1) 0 1 (some 1) 1) (w:=[]) ((hO.ae k3).ae kD) (ft.ae kD) (by omega) (by simp[eL,St.row,aF]) (by rw[lW k (by omega)];omega)
   simp(disch:=first|(simp;done)|omega|rfl) [-V.cells, -V.one,hr,hf,oG,h7,f1,f2,qz,wQ,s1]
   refine⟨i,by omega,yD fun j hj=>?_,((hK.trans k3).trans kD).then s3,k+1,by omega,by simp,?_⟩
   ·rcases mE.1 hj with hj|hj
    ·have:=DH (s2.trans rfl) j (Bc hj).1
     omega
    ·rcases mE.1 hj with hj|hj
     ·have:=DH (j2.trans rfl) j (Bc hj).1
      omega
     ·exact DH hW j hj
   ·rw[uJ,Vy (by omega),FM,hxa]
    exact s4
 ·rintro _ r ⟨H,m,W⟩ hr ⟨rfl,hW,hK,y,h7,hO⟩
  simp only at hW hK hO
  have lm:=hK.le
  have I:=nU (uY hG hX (by omega)) (n:=n+c)
  have gZ:=(mB (uY hG hX (by omega)) (n:=n+c)).2
  rw[sL,hl]at gZ
  simp[hr,h7]
  refine aA (Zq3 hO.FJ (uY hG hX (by omega)) (by rw[sL];omega) (by rw[sL];omega) (by omega) x_ Vz fun i hi _=>hB i (by rw[sL]at hi;omega)) ?_
  rintro _ H2 n2 k2 ⟨rv,pv,rfl,yN,pN⟩
  have kX:=k2.le
  have qw:=pN.sl
  have gw:=qw.len
  rw[fZ]at gw
  have O8:(zH (aD (cH G X) (n+c)).2.2).length=(aD (cH G X) (n+c)).2.1:=by simp[zH,I.len]
  rw[O8]at gw
  have gN:=(k2.get N (by omega)).trans ((hK.get N (by omega)).trans gB0)
  have hNn:N<n2:=by omega
  have kk:=(kB0.trans (hK.trans k2))
  by_cases c1:(aD (cH G X) (n+c)).2.1<n
  ·have c1':((aD (cH G X) (n+c)).2.1:Int)<(n:Int):=by omega
   have hs:pQ G X n c=none:=by unfold pQ;rw[av (.inl c1)]
   simp[hr,gw,gN,hNn,c1,c1',aE,hW,ct.cv]
   exact⟨kk,hs⟩
  ·have hd:(aD (cH G X) (n+c)).2.1=n:=by omega
   rw[hd]at gw O8
   obtain⟨p,hp⟩:=bk (l:=(aD (cH G X) (n+c)).2.2) (k:=n-1) (by have:=I.len;omega)
   obtain⟨i3,o3,c3,e3,w3,p1,p2,p3,p4⟩:=qw.at (j:=n-1) (x:=.int .i64 p) (by simp[dI,zH,hp])
   have vR:(n:Int)-1=((n-1:Nat):Int):=by omega
   have eM:((n-1:Nat):Int)<(n:Int):=by omega
   have M3:n-1<n:=by omega
   have cnn:¬(n:Int)<(n:Int):=by omega
   by_cases c2:p=n-1
   ·subst c2
    have hs:pQ G X n c=some ((aU (cH G X) (n+c)).map (List.drop n)):=by
     unfold pQ
     rw[ak]
     rw[hd,hp]
     simp
    have rl:∀r∈aU (cH G X) (n+c),r.length=n+c:=uV (uY hG hX (by omega))
    simp(disch:=first|(simp;done)|omega|rfl) [hr,gw,gN,hNn,hd,cnn,vR,eM,M3,p1,p2,p3,p4,ct.cv,aG]
    refine aA (Ye4 (List.drop n) yN (by rw[wN (uY hG hX (by omega)),hd];omega) fun l i_ u' h' n' k' mQ=>Ysg ((k'.get N (by omega)).trans gN) (by have:=k'.le;omega) mQ (by rw[rl l i_];omega) (by rw[rl l i_];omega)) ?_
    rintro z H3 n3 k3 hz
    simp[hr,aE,hW]
    exact⟨kk.trans k3,_,hs,hz⟩
   ·have c2':¬(p:Int)=((n-1:Nat):Int):=by omega
    have hs:pQ G X n c=none:=by
     unfold pQ
     rw[av (.inr (by rw[hp];exact c2))]
    simp(disch:=first|(simp;done)|omega|rfl) [hr,gw,gN,hNn,hd,cnn,vR,eM,M3,p1,p2,p3,p4,c2,c2',aE,hW,ct.cv,aG]
    exact⟨kk,hs⟩
set_option maxHeartbeats 2000000
def Yl3{D M:List (List Rat)}{n J K:Nat}(hM:bg M n)(qD:cB D K)(qM:cB M J)(hJ:1<=J)(hK:1<=K):cB (eW D M) (n*(J+K+1)+1):=Yr5 qD (fun r hr=>⟨hM r hr,qM r hr⟩) hJ hK
set_option maxHeartbeats 1000000
variable {a b:Nat}
set_option maxHeartbeats 2000000
def Zqv{k:Nat}(h:mb k a=true)(gp:a<=b):mb k b=true:=by
 unfold mb at*
 have:=of_decide_eq_true h
 exact decide_eq_true (by omega)
def P8{l:List aQ}(h:gF a l=true)(gp:a<=b):gF b l=true:=by
 unfold gF at*
 rw[iE]at*
 exact⟨Zqv h.1 gp,h.2⟩
def VX{m:List (List aQ)}{c d:Nat}(h:pT a b m=true)(hac:a<=c)(Fg:b<=d):pT c d m=true:=by
 unfold pT at*
 rw[iE]at*
 exact⟨Zqv h.1 hac,lB.2 fun x hx=>P8 (lB.1 h.2 x hx) Fg⟩
structure Yyc (b:List (List aQ)) (n:Nat):Prop where
 pos:0<b.length
 le:b.length<=4
 row:∀r∈b,r.length=n/\yk r
def Yl0{G X H:List (List Rat)}{n c Z:Nat}{B:Nat->Nat}(hG:bg G n)(hX:bg X c)(hl:G.length<=X.length)(VB:∀k,cB (aD (cH G X) k).1 (B (aD (cH G X) k).2.1))(hZ:∀i,i<=n->B i<=Z)(hn:G.length<=n)(hs:pQ G X n c=some H):cB H Z/\H.length<=n/\bg H c:=by
 have hW:=uY hG hX hl
 unfold pQ at hs
 split at hs
 ·cases hs
 ·obtain rfl:=oV hs
  have hd:=(mB hW (n:=n+c)).2
  rw[sL]at hd
  refine⟨fun r kb q hq=>?_,by rw[dL,wN hW];omega,fun r kb=>?_⟩
  ·obtain⟨z,hz,rfl⟩:=dt.1 kb
   exact(VB (n+c) z (wW hz) q (IQ hq)).mono (hZ _ (by omega))
  ·obtain⟨z,hz,rfl⟩:=dt.1 kb
   rw[uQ,uV hW z hz]
   omega
set_option maxHeartbeats 1000000
def A.w58:=A.q Tryz.f58
def A.wv:=A.ql A.w58 0 []
def A.b58:=(fun x0=>A.qb A.w58 [x0]) A.wv
def A.k58:=@A.kk 58 26 [.tmp 4] A.b58 (by kernel_rfl) rfl
def Yh6{A C:List (List Rat)}{t:Nat}{r:List Rat}(h:A[t]?=some r):eW (A.take (t+1)) C=eW (A.take t) C++[C.map fun c=>de c r]:=by
 unfold eW
 rw[uJ,h]
 simp
def Zz4{h:T O}{N c j k:Nat}{u v:V}{A' B:List (List Rat)}(hu:iw h N u A')(hv:iw h N v B)(hA:∀r∈A',B.length<=r.length)(hB:bg B c)(lG:0<B.length)(hAl:A'.length<1000)(OJ:B.length<1000)(hc:c<1000)(qA:cB A' k)(qB:cB B j)(hj:1<=j)(hk:1<=k)(hl:B.length*(j+k+1)+j+k+1<=400000000):Fn A.C 58 [u,v] h N (fun x h' n'=>∃b,N<=b/\ka b h' n' x (eW A' (eI B c))):=by
 intro w
 have lu:=hu.len
 rw[aR,A.k58 (by simp)]
 simp(disch:=first|(simp;done)|omega|rfl) [-getElem?_pos,A.b58]
 refine aA (V3 hv hB OJ hc lG) ?_
 rintro y H1 n1 k1 hy
 have sJ:=k1.le
 have hy:=hy.yB
 simp(disch:=first|(simp;done)|omega|rfl) [-getElem?_pos,]
 refine bL [(5,5),(7,7),(10,24)] (fun e r st=>e=.exit 0/\ax n1 st.w=[]/\ab H1 n1 st.h st.n/\∃x,r.get 5=some x/\ka n1 st.h st.n x (eW A' (eI B c))) (fun i r st=>ax n1 st.w=[]/\ab H1 n1 st.h st.n/\∃t x,t+i=A'.length/\r.get 7=some (.int .i64 t)/\r.get 5=some x/\ka n1 st.h st.n x (eW (A'.take t) (eI B c))) A'.length ?_ ?_ ?_
 ·exact⟨by simp[yD],ab.refl,0,.aa,by omega,by simp,by simp,ka.nil⟩
 ·rintro i r ⟨H,m,W⟩ hr hf ⟨hW,hK,t,x,ht,h7,h5,hO⟩
  simp only at hW hK hO
  rw[bl]
  have le:=hK.le
  cases i with
  |zero=>
   obtain rfl:t=A'.length:=by omega
   rw[fe (aM _)]at hO
   simp(disch:=first|(simp;done)|omega|rfl) [-getElem?_pos,A.wv,hr,hf,h7,h5,lu,hW,hK]
   exact hO
  |succ i=>
   have ay:t<A'.length:=by omega
   have bb:(t:Int)<(A'.length:Int):=by omega
   obtain⟨row,aq⟩:=bk ay
   have nX:=cG aq
   obtain⟨i',o,cc,e,rw,ru,q1,q2,q3,q4,q5⟩:=(hu.ae (k1.trans hK)).at aq
   simp(disch:=first|(simp;done)|omega|rfl) [-getElem?_pos,A.wv,hr,hf,h7,h5,lu,ay,bb,q1,q2,q3,q4]
   refine aA (Qa (n:=B.length) (hy.ae hK) q5 (FX qB hj) (hA row nX) (qA row nX) hj hk hl (by rw[pS];omega)) ?_
   rintro z H2 n2 k2 hz
   have fr:=xZ hz
   have kX:=k2.le
   obtain⟨f1,f2⟩:V.one z=true/\V.cells z=[z]:=⟨Sl.uK fr.1,Sl.iW fr.1⟩
   have qz:ad [V.aa] 0 [z]=[z]:=rfl
   have kD:ab H2 n2 (H2.set n2 (.cells [z] 23 true)) (n2+1):=ab.refl.new _
   obtain⟨v',h',w',j1,j2,j3,j4⟩:=ka.push (N0:=n1) (x:=.slice n2 0 1 (some 1) 1) (w:=W) ((hO.ae k2).ae kD) (fr.ae kD) (by omega) (by simp[eL,St.row,aF]) (by rw[qV,gD];omega)
   simp(disch:=first|(simp;done)|omega|rfl) [-getElem?_pos, -V.cells, -V.one,hr,hf,h7,h5,qz,f1,f2,wQ,j1,j2,hW]
   exact⟨i,by omega,((hK.trans k2).trans kD).then j3,t+1,by omega,by simp,by rw[Yh6 aq];exact j4⟩
 ·rintro _ r ⟨H,m,W⟩ hr ⟨rfl,hW,hK,x,h5,hO⟩
  simp only at hW hK hO
  simp(disch:=first|(simp;done)|omega|rfl) [-getElem?_pos,hr,h5,aE]
  exact⟨UJ hW sJ,k1.trans hK,n1,sJ,hO⟩
def Ydk{h:T O}{N c j k:Nat}{u v:V}{A' B:List (List Rat)}(hu:iw h N u A')(hv:iw h N v B)(hA:∀r∈A',B.length<=r.length)(hB:bg B c)(lG:0<B.length)(hAl:A'.length<1000)(OJ:B.length<1000)(hc:c<1000)(qA:cB A' k)(qB:cB B j)(hj:1<=j)(hk:1<=k)(hl:B.length*(j+k+1)+j+k+1<=400000000):Fn A.C 58 [u,v] h N (fun x h' n'=>iw h' n' x (eW A' (eI B c))):=fun w=>(Zz4 hu hv hA hB lG hAl OJ hc qA qB hj hk hl w).mono fun x st ⟨a,b,_,_,t⟩=>⟨a,b,t.yB⟩
end
end Go.Mx
