/-
  The echelon form of a matrix: its pivots, what is free.
-/
import Derived.Test.YtlbophlgohokkaaGreatDoorEcD
import Derived.Test.YtlbophlgohokkaaGreatDoorVcA
import Derived.Test.YtlbophlgohokkaaGreatDoorVaB
set_option linter.all false
namespace Go.Mx
open Go Go.Proofs
variable {d i j k:Nat} {m:List (List Rat)}
set_option maxRecDepth 1000000
def eA(m:List (List Rat))(i j:Nat):Rat:=(m[i]?.getD [])[j]?.getD 0
theorem Yo4{p:Nat}(hd:d<m.length)(hp:p<m.length):eA (mZ m d p) i j=if i=d then eA m p j else if i=p then eA m d j else eA m i j:=by
 unfold eA mZ
 by_cases e1:i=p
 ·subst e1
  rw[lW (by simp;exact hp)]
  by_cases e2:i=d
  ·subst e2;simp
  ·simp[e2]
 ·rw[eI (Ne.symm e1)]
  by_cases e2:i=d
  ·subst e2;rw[lW hd];simp
  ·rw[eI (Ne.symm e2)];simp[e1,e2]
theorem Yo5(hd:d<m.length):eA (tG m d k) i j=if i=d then eA m d j/eA m d k else eA m i j:=by
 unfold eA tG
 by_cases e:i=d
 ·subst e
  rw[lW hd,aF rfl,Bb,jf]
  cases (m[i]?.getD [])[j]? with
  |none=>simp[Rat.div_def,Rat.zero_mul]
  |some q=>rfl
 ·rw[eI (Ne.symm e),au e]
theorem Yo6{c:Nat}(h:pT m c)(hi:i<m.length)(hd:d<m.length):eA (wI m d k m.length) i j=if i=d then eA m i j else eA m i j-eA m i k*eA m d j:=by
 unfold eA
 rw[Ylx hi,Bb]
 by_cases e:i=d
 ·rw[au (by omega),aF e]
 ·rw[aF ⟨hi,e⟩,au e]
  have l1:=h.at hi
  have l2:=h.at hd
  by_cases hj:j<c
  ·unfold Hs
   rw[Zu6 (by omega)]
   rfl
  ·rw[gJ (by rw[Yen];omega),gJ (l:=m[i]?.getD []) (by omega),gJ (l:=m[d]?.getD []) (by omega)]
   show (0:Rat)=0-(m[i]?.getD [])[k]?.getD 0*0
   rw[Rat.mul_zero,Rat.sub_self]
theorem Yh5{m:List (List Rat)}{k:Nat}:∀{n d:Nat},d+n<=vH m k d n->∀i,d<=i->i<d+n->eA m i k=0
 |0,d,h,i,h1,h2=>by omega
 |n+1,d,h,i,h1,h2=>by
  unfold vH at h
  split at h
  ·omega
  ·rename_i hc
   by_cases e:i=d
   ·subst e;unfold eA;simpa using hc
   ·exact Yh5 (n:=n) (d:=d+1) (by omega) i (by omega) (by omega)
structure Fu (m:List (List Rat)) (d:Nat) (ps:List Nat) (n:Nat):Prop where
 len:ps.length=d
 le:d<=m.length
 lt:∀i,i<d->ps[i]?.getD 0<n
 OL:∀i j,i<j->j<d->ps[i]?.getD 0<ps[j]?.getD 0
 one:∀i j,i<d->j<m.length->eA m j (ps[i]?.getD 0)=if j=i then 1 else 0
 lead:∀i k,i<d->k<ps[i]?.getD 0->eA m i k=0
 rest:∀i k,d<=i->i<m.length->k<n->eA m i k=0
theorem Fu.step{s:List (List Rat)×Nat×List Nat}{n c:Nat}(h:Fu s.1 s.2.1 s.2.2 n)(hc:pT s.1 c):Fu (Lt s n).1 (Lt s n).2.1 (Lt s n).2.2 (n+1):=by
 obtain⟨m,d,ps⟩:=s
 simp only at h hc
 unfold Lt
 simp only
 have hle:=@Wm m n (m.length-d) d
 have jx:=h.le
 split
 ·rename_i hp
  have nL:d<m.length:=by unfold A6 at hp;omega
  have hpd:d<=A6 m d n:=hle.1
  have bJ:eA m (A6 m d n) n≠0:=@Wo m n (m.length-d) d (by unfold A6 at hp;omega)
  generalize A6 m d n=p at*
  have qj:=(hc.Wp nL hp).scl (d:=d) (k:=n) (by rw[Lu];exact nL)
  have hlen:(wI (tG (mZ m d p) d n) d n m.length).length=m.length:=by rw[Ylw,Wq,Lu]
  have kl:(tG (mZ m d p) d n).length=m.length:=by rw[Wq,Lu]
  have hb:∀i j,eA (mZ m d p) i j=if i=d then eA m p j else if i=p then eA m d j else eA m i j:=fun i j=>Yo4 nL hp
  have hs:∀i j,eA (tG (mZ m d p) d n) i j=if i=d then eA m p j/eA m p n else eA (mZ m d p) i j:=fun i j=>by
   rw[Yo5 (by rw[Lu];exact nL),hb d j,hb d n,aF rfl,aF rfl]
  have he:∀i j,i<m.length->eA (wI (tG (mZ m d p) d n) d n m.length) i j=if i=d then eA m p j/eA m p n else eA (mZ m d p) i j-eA (mZ m d p) i n*(eA m p j/eA m p n):=fun i j hi=>by
   have:=Yo6 (m:=tG (mZ m d p) d n) (k:=n) (j:=j) qj (i:=i) (d:=d) (by rw[kl];exact hi) (by rw[kl];exact nL)
   rw[kl]at this
   rw[this,hs i j,hs i n,hs d j,aF rfl]
   split<;>rfl
  have nV:eA m p n/eA m p n=1:=by rw[Rat.div_def];exact Rat.mul_inv_cancel _ bJ
  have VT:∀i j,i<d->eA (mZ m d p) i j=eA m i j:=fun i j hi=>by rw[hb,au (by omega),au (by omega)]
  have fZ:∀i k,d<=i->i<m.length->k<n->eA (mZ m d p) i k=0:=fun i k h1 h2 h3=>by
   rw[hb]
   split
   ·exact h.rest p k hpd hp h3
   ·split
    ·exact h.rest d k (aS _) nL h3
    ·exact h.rest i k h1 h2 h3
  have qi:∀k,k<n->eA m p k/eA m p n=0:=fun k hk=>by rw[h.rest p k hpd hp hk,Rat.div_def,Rat.zero_mul]
  have hold:∀i k,i<m.length->k<n->eA (wI (tG (mZ m d p) d n) d n m.length) i k=if i<d then eA m i k else 0:=fun i k hi hk=>by
   rw[he i k hi,qi k hk,Rat.mul_zero]
   by_cases e:i=d
   ·rw[aF e,au (by omega)]
   ·rw[au e]
    by_cases e2:i<d
    ·rw[aF e2,VT i k e2,Rat.sub_eq_add_neg,Rat.neg_zero,Rat.add_zero]
    ·rw[au e2,fZ i k (by omega) hi hk,Rat.sub_eq_add_neg,Rat.neg_zero,Rat.add_zero]
  have oS:∀i,i<m.length->eA (wI (tG (mZ m d p) d n) d n m.length) i n=if i=d then 1 else 0:=fun i hi=>by
   rw[he i n hi,nV]
   split
   ·rfl
   ·rw[Rat.mul_one,Rat.sub_self]
  have ho:∀i,i<d->(ps++[n])[i]?.getD 0=ps[i]?.getD 0:=fun i hi=>by rw[lX (by have:=h.len;omega)]
  have tZ:(ps++[n])[d]?.getD 0=n:=by rw[pX (by have:=h.len;omega),h.len];simp
  show Fu (wI (tG (mZ m d p) d n) d n m.length) (d+1) (ps++[n]) (n+1)
  refine⟨by simp[h.len],by rw[hlen];omega,fun i hi=>?_,fun i j h1 h2=>?_,fun i j h1 h2=>?_,fun i k h1 h2=>?_,fun i k h1 h2 h3=>?_⟩
  ·by_cases e:i<d
   ·rw[ho i e];have:=h.lt i e;omega
   ·obtain rfl:i=d:=by omega
    rw[tZ];omega
  ·rw[ho i (by omega)]
   by_cases e:j<d
   ·rw[ho j e];exact h.OL i j h1 e
   ·obtain rfl:j=d:=by omega
    rw[tZ];exact h.lt i h1
  ·rw[hlen]at h2
   by_cases e:i<d
   ·rw[ho i e,hold j _ h2 (h.lt i e)]
    by_cases e2:j<d
    ·rw[aF e2];exact h.one i j e h2
    ·rw[au e2,au (by omega)]
   ·obtain rfl:i=d:=by omega
    rw[tZ];exact oS j h2
  ·by_cases e:i<d
   ·rw[ho i e]at h2
    rw[hold i k (by omega) (by have:=h.lt i e;omega),aF e]
    exact h.lead i k e h2
   ·obtain rfl:i=d:=by omega
    rw[tZ]at h2
    rw[hold i k nL h2,au e]
  ·rw[hlen]at h2
   by_cases e:k<n
   ·rw[hold i k h2 e,au (by omega)]
   ·obtain rfl:k=n:=by omega
    rw[oS i h2,au (by omega)]
 ·rename_i hp
  have Ia:=@Yh5 m n (m.length-d) d (by unfold A6 at hp;omega)
  show Fu m d ps (n+1)
  refine⟨h.len,h.le,fun i hi=>by have:=h.lt i hi;omega,h.OL,h.one,h.lead,fun i k h1 h2 h3=>?_⟩
  by_cases e:k<n
  ·exact h.rest i k h1 h2 e
  ·obtain rfl:k=n:=by omega
   exact Ia i h1 (by omega)
theorem Fu.idx{n:Nat}{ps:List Nat}(h:Fu m d ps n)(hi:i<d):ps.idxOf (ps[i]?.getD 0)=i:=by
 have hl:=h.len
 have hm:ps[i]?.getD 0∈ps:=by
  rw[dk (by omega)]
  exact List.getElem_mem _
 have hj:=List.idxOf_lt_length_iff.2 hm
 have hg:=List.getElem_idxOf hj
 by_cases e:ps.idxOf (ps[i]?.getD 0)=i
 ·exact e
 ·exfalso
  rcases Nat.lt_or_gt_of_ne e with h1|h1
  ·have:=h.OL _ _ h1 hi
   rw[dk hj,hg]at this
   simp at this
  ·have:=h.OL _ _ h1 (by omega)
   rw[dk hj,hg]at this
   simp at this
set_option maxHeartbeats 2000000
theorem vD.at{h:T O}{N R:Nat}{m:List (List Rat)}(s:vD h N R m){j:Nat}{l:List Rat}(hj:m[j]?=some l):∃us u,h.get R=some (.cells us 97 true)/\us.length=m.length/\us[j]?=some u/\fK h N u l:=by
 obtain⟨us,g1,g2,_,_,g5⟩:=s.ex
 obtain⟨u,a1,a2⟩:=g5 j l hj
 exact⟨us,u,g1,g2,a1,a2⟩
set_option maxHeartbeats 4000000
theorem vD.bY{h h':T O}{N N' R:Nat}{v:V}{m:List (List Rat)}{e:TypeId}(s:vD h N R m)(k:ff (fun i=>i∈cA v) h N h' N')(hd:nz e NW h v)(he:e≠114)(sA:e≠97):vD h' N' R m:=by
 obtain⟨us,g1,g2,g3,g4,g5⟩:=s.ex
 refine⟨eY s.lt k.le,us,(k.get R s.lt fun hc=>?_).trans g1,g2,g3,g4,fun j l hl=>?_⟩
 ·obtain⟨z,hz,_⟩:=hd R hc
  rw[g1]at hz
  simp at hz
  exact sA hz.2.symm
 ·obtain⟨u,a1,a2⟩:=g5 j l hl
  exact⟨u,a1,a2.bY k hd he⟩
theorem vD.ES{h:T O}{N R d:Nat}{m:List (List Rat)}{v:V}{us:List V}(s:vD h N R m)(g:h.get R=some (.cells us 97 true))(hv:Sl h N v (us.take d))(hd:d<=m.length):vE h N v (m.take d):=by
 obtain⟨vs,g1,g2,_,_,g3⟩:=s.ex
 rw[g]at g1
 simp only[aj,O.cells.injEq,and_true]at g1
 subst g1
 refine⟨us.take d,hv,by simp[g2],fun j l hl=>?_⟩
 by_cases hj:j<d
 ·rw[gV,aF hj]at hl ⊢
  exact g3 j l hl
 ·rw[gV,au hj]at hl
  cases hl
theorem Ynq{K:Nat}{q:Rat}(h:Qb K q):Qb K (-q):=⟨by rw[Rat.neg_num,yG];exact h.1,by rw[Rat.neg_den];exact h.2⟩
variable {N R:Nat} {h:T O} {l:List Rat}
def A.pJ:aq:=sr [bi 10 .lss 9 8]
 (.seq (cd 10
 (.skip)
 (.exit 0))
 (.seq (.block 1 (sr [mv 11 9,mv 4 11]
 (.aM [mv 12 3,mv 13 4,⟨(some 14),.call (.const (.func 118 [] [])) [(.const (.int .i64 0))],none⟩,ia 15 4 12 13,⟨none,.store 4 (.tmp 15) (.tmp 14),none⟩])))
 (.aM [bc 16 .add 9 1,mv 9 16])))
def A.b138:aq:=sr [mN 2]
 (sr [mv 5 0,⟨(some 6),.bO 114 4 64 [(.int .i64 0),.aa,(.int .i64 0),.aa] (.tmp 5) (.tmp 5),none⟩,mv 3 6]
 (.seq (sr [mv 7 3,ln 8 7,mc 9 0]
 (.block 0 (.loop A.pJ)))
 (sr [mv 17 3,mv 2 17]
 (.ret))))
theorem A.c138:A.F 138=some ⟨18,[.tmp 2],A.b138⟩:=by kernel_rfl
def A.k138:=@A.kk 138 _ _ _ A.c138 rfl
theorem Zs9{cs:List (List V)}{c B:List V}{j:Nat}(h4:∀x∈cs,x.length=4)(hj:j<cs.length)(hc:c.length=4):ag (cs.flatten++B) (j*4) c=(cs.set j c).flatten++B:=by
 obtain⟨x,hx⟩:=bV hj
 have e:cs=cs.take j++x::cs.drop (j+1):=by
  have:=yD j cs
  rw[ke hx]at this
  exact this.symm
 have hl:(cs.take j).flatten.length=j*4:=by
  rw[vk (z:=4) (fun y hy=>h4 y (rQ hy)),fR,nA (by omega)]
 have hs:cs.set j c=cs.take j++c::cs.drop (j+1):=by rw[List.set_eq_take_append_cons_drop,aF hj]
 rw[hs]
 conv=>lhs;rw[e]
 simp only[List.flatten_append,List.flatten_cons,qw]
 rw[NM hl (h4 x (du hx)) hc]
structure qq (h:T O) (N R:Nat) (l:List Rat) (m:Nat):Prop where
 lt:R<N
 ex:∃cs:List (List V),h.get R=some (.cells (cs.flatten++cN zF m) 114 true)/\cs.length=l.length/\∀(j:Nat) (q:Rat),l[j]?=some q->∃c,cs[j]?=some c/\eG h N c q
theorem qq.ae{h':T O}{N' m:Nat}(s:qq h N R l m)(k:ab h N h' N'):qq h' N' R l m:=by
 obtain⟨cs,g1,g2,g3⟩:=s.ex
 refine⟨eY s.lt k.le,cs,(k.get R s.lt).trans g1,g2,fun j q hq=>?_⟩
 obtain⟨c,a,b⟩:=g3 j q hq
 exact⟨c,a,b.ae k⟩
theorem qq.VU{cs:List (List V)}(g2:cs.length=l.length)(g3:∀(j:Nat) (q:Rat),l[j]?=some q->∃c,cs[j]?=some c/\eG h N c q):(∀c∈cs,c.length=4)/\rD cs.flatten/\cs.flatten.all V.one=true:=UP (l:=l) (by omega) fun j q _ hq=>g3 j q hq
theorem qq.next{m:Nat}{c:List V}{q:Rat}(s:qq h N R l (m+1))(hc:eG h N c q):∃X,h.get R=some (.cells X 114 true)/\l.length*4+4<=X.length/\qq (h.set R (.cells (ag X (l.length*4) c) 114 true)) N R (l++[q]) m:=by
 obtain⟨cs,g1,g2,g3⟩:=s.ex
 obtain⟨f1,f2,_⟩:=qq.VU g2 g3
 have mS:=vk f1
 obtain⟨e1,_⟩:=hc.len
 have iB:ag (cs.flatten++cN zF (m+1)) (l.length*4) c=(cs++[c]).flatten++cN zF m:=by
  rw[G6,NM (n:=4) (by rw[mS,g2]) rfl e1,ME,qw]
 have Cr:rD (cs.flatten++cN zF (m+1)):=f2.app NN
 have AN:((cs++[c]).flatten++cN zF m).length=(cs.flatten++cN zF (m+1)).length:=by
  rw[G6,ME];simp[e1,zF];omega
 refine⟨_,g1,by rw[fQ,mS,g2,Yhv];omega,s.lt,cs++[c],by rw[T.ai,aF rfl,iB],by simp[g2],fun j r hr=>?_⟩
 rw[iB]
 by_cases e:j<l.length
 ·rw[lX e]at hr
  obtain⟨x,a,b⟩:=g3 j r hr
  exact⟨x,by rw[lX (by omega)];exact a,b.aE g1 Cr AN⟩
 ·have hj:j=l.length:=by have:=mM hr;simp at this;omega
  subst hj
  rw[pX (aS _)]at hr
  simp at hr
  subst hr
  exact⟨c,by rw[pX (by omega),g2];simp,hc.aE g1 Cr AN⟩
theorem qq.put{j:Nat}{c:List V}{q:Rat}(s:qq h N R l 0)(hc:eG h N c q)(hj:j<l.length):∃X,h.get R=some (.cells X 114 true)/\j*4+4<=X.length/\qq (h.set R (.cells (ag X (j*4) c) 114 true)) N R (l.set j q) 0:=by
 obtain⟨cs,g1,g2,g3⟩:=s.ex
 obtain⟨f1,f2,_⟩:=qq.VU g2 g3
 have mS:=vk f1
 obtain⟨e1,_⟩:=hc.len
 have iB:ag (cs.flatten++cN zF 0) (j*4) c=(cs.set j c).flatten++cN zF 0:=Zs9 f1 (by omega) e1
 have Cr:rD (cs.flatten++cN zF 0):=f2.app NN
 have AN:((cs.set j c).flatten++cN zF 0).length=(cs.flatten++cN zF 0).length:=by
  rw[fQ,fQ,mS,vk (z:=4) fun x hx=>?_,C0]
  rcases A8 hx with hx|rfl
  ·exact f1 x hx
  ·exact e1
 refine⟨_,g1,by rw[fQ,mS];omega,s.lt,cs.set j c,by rw[T.ai,aF rfl,iB],by simp[g2],fun i r hr=>?_⟩
 rw[iB]
 by_cases e:i=j
 ·subst e
  rw[lW hj]at hr
  simp only[aj]at hr
  subst hr
  exact⟨c,by rw[lW (by omega)],hc.aE g1 Cr AN⟩
 ·rw[eI (Ne.symm e)]at hr ⊢
  obtain⟨x,a,b⟩:=g3 i r hr
  exact⟨x,a,b.aE g1 Cr AN⟩
theorem qq.frt(s:qq h N R l 0):fK h N (.slice R 0 l.length (some l.length) 4) l:=by
 obtain⟨cs,g1,g2,g3⟩:=s.ex
 obtain⟨f1,f2,_⟩:=qq.VU g2 g3
 have hz:cN zF 0=[]:=by simp[cN]
 rw[hz,uT]at g1
 refine⟨⟨cs,.inr ⟨R,0,some l.length,cs.flatten,_,true,by rw[g2],s.lt,g1,fun j x hj=>by rw[rT];exact I3 f1 hj,by rw[vk f1];omega,fun k hk=>by simp at hk;omega⟩,g2,g3⟩,fun i hi=>?_⟩
 simp[cA]at hi
 subst hi
 exact⟨_,_,g1⟩
theorem Yd8{n:Nat}(hn:n<1000):Fn A.C 138 [.int .i64 n] h N (fun x h' n'=>x=.slice N 0 n (some n) 4/\qq h' n' N ((List.range n).map fun _=>0) 0):=by
 intro w
 have c1:(64:Int)*(n:Int)<=140737488355328:=by omega
 have c2:(n:Int)<4611686018427387904:=by omega
 have kB:ab h N (h.set N (.cells (cN zF n) 114 true)) (N+1):=ab.refl.new _
 have gB:(h.set N (.cells (cN zF n) 114 true)).get N=some (.cells (cN zF n) 114 true):=by rw[T.ai,aF rfl]
 rw[aR,A.k138 (by simp)]
 simp[A.b138,c1,c2]
 refine bQ [(4,4),(9,16)] (fun e r st=>e=.exit 0/\ad N st.w=[]/\ab h N st.h st.n/\qq st.h st.n N ((List.range n).map fun _=>0) 0) (fun i r st=>ad N st.w=[]/\ab h N st.h st.n/\∃t,t+i=n/\r.get 9=some (.int .i64 t)/\qq st.h st.n N ((List.range t).map fun _=>0) i) n ?_ ?_ ?_
 ·exact⟨by simp,kB,0,by omega,by simp,by show N<N+1;omega,[],by simp;rfl,rfl,fun j q hq=>by simp at hq⟩
 ·rintro i r ⟨H,n1,W⟩ hr hf ⟨hW,hK,t,ht,h9,hQ⟩
  simp only at hW hK hQ
  rw[bA]
  cases i with
  |zero=>
   obtain rfl:t=n:=by omega
   simp[A.pJ,hr,hf,h9,hW,hK]
   exact hQ
  |succ i=>
   have aD:t<n:=by omega
   have bm:(t:Int)<(n:Int):=by omega
   simp[A.pJ,hr,h9,bm]
   refine ax (NH (by decide) (by decide)) ?_
   rintro _ H2 n2 k2 hz
   obtain⟨c,rfl,hc⟩:=hz.c
   obtain⟨e1,e2⟩:=hc.len
   have nw:=k2.le
   have jP:(V.agg c).cells=c:=rfl
   obtain⟨X,x1,x2,x3⟩:=(hQ.ae k2).next hc
   have lN:N<n2:=eY hQ.lt nw
   have hl:((List.range t).map fun _=>(0:Rat)).length=t:=by simp
   rw[hl]at x2 x3
   simp(disch:=first|(simp;done)|omega|rfl) [-V.cells, -V.one,hf,h9,bW,jP,e1,e2,x1,x2]
   exact⟨i,by omega,hW,(hK.trans k2).set (aS _),t+1,by omega,by simp,by rw[List.range_succ,List.map_append];exact x3⟩
 ·rintro _ r ⟨H,n1,W⟩ hr ⟨rfl,hW,hK,hQ⟩
  simp only at hW hK hQ
  simp[hr,aA,hW,hK]
  exact hQ
set_option maxHeartbeats 2000000
theorem NZ{h:T O}{N:Nat}{v:V}{m:List (List Rat)}(s:vE h N v m){i:Nat}{row:List Rat}(hr:m[i]?=some row):∃j o c e rw u,vc v=some (j,o)/\j<N/\h.get j=some (.cells c e rw)/\c[o+i]?=some u/\fK h N u row:=by
 obtain⟨us,h1,h2,h3⟩:=s
 obtain⟨u,a,b⟩:=h3 i row hr
 obtain⟨j,o,c,e,rw,q1,q2,q3,q4⟩:=h1.at a
 exact⟨j,o,c,e,rw,u,q1,q2,q3,q4,b⟩
variable {K S:Nat} {m:List (List Rat)}
set_option maxHeartbeats 1000000
def A.pK:aq:=sr [bi 15 .lss 14 13]
 (.seq (cd 15
 (.skip)
 (.exit 0))
 (.seq (.block 1 (sr [ia 16 1 12 14,ld 17 16,mv 5 17]
 (.aM [mv 18 3,mv 19 5,⟨(some 20),.call (.const (.func 89 [] [])) [(.tmp 18),(.tmp 19),(.const (.func 120 [] []))],none⟩,mv 3 20])))
 (.aM [bc 21 .add 14 1,mv 14 21])))
def A.b116:aq:=sr [mN 2]
 (sr [mv 7 0,⟨(some 8),.aN 1 (.tmp 7) (.const (.int .i64 0)),none⟩,ld 9 8,ln 10 9,c1 11 138 10,mv 3 11]
 (.seq (sr [mv 12 0,ln 13 12,mc 14 0]
 (.block 0 (.loop A.pK)))
 (sr [mv 22 0,ln 23 22,c1 24 118 23,⟨(some 6),.alloc [(.int .i64 0),.aa,(.int .i64 0),.aa] 114,none⟩,⟨none,.store 4 (.tmp 6) (.tmp 24),none⟩]
 (sr [mv 25 3,⟨(some 26),.bM 188 [] [(.tmp 6)],none⟩,c2 27 187 25 26,mv 2 27]
 (.ret)))))
theorem A.c116:A.F 116=some ⟨28,[.tmp 2],A.b116⟩:=by kernel_rfl
def A.k116:=@A.kk 116 _ _ _ A.c116 rfl
def A.b188:aq:=sr [bx 2 114 0,⟨(some 3),.alloc [(.int .i64 0),.aa,(.int .i64 0),.aa] 114,none⟩]
 (sr [lN 4 4 2,lN 5 4 1,c2 6 186 4 5,⟨none,.store 4 (.tmp 3) (.tmp 6),none⟩]
 (.ret))
theorem A.c188:A.F 188=some ⟨7,[.cell 3 (some 4)],A.b188⟩:=by kernel_rfl
def A.k188:=@A.kk 188 _ _ _ A.c188 rfl
theorem Ym8{a b:List Rat}{j k n:Nat}(ha:∀q∈a,Qb j q)(hb:∀q∈b,Qb k q)(hj:1<=j)(hk:1<=k):∀q∈jl (fun x y=>x+y) a b n,Qb (j+k+1) q:=fun q hq=>by
 unfold jl at hq
 obtain⟨i,_,rfl⟩:=iy.1 hq
 exact(EK ha hj i).add (EK hb hk i)
def Hm(a r:List Rat):List Rat:=jl (fun x y=>x+y) a r a.length
theorem Zwe:∀{m:List (List Rat)} {a:List Rat},(m.foldl Hm a).length=a.length
 |[],a=>rfl
 |r::t,a=>by rw[List.foldl_cons,Zwe];unfold Hm;rw[A7]
theorem Ycr:∀{m:List (List Rat)} {a:List Rat} {j K:Nat},(∀q∈a,Qb j q)->jF m K->1<=j->1<=K->∀q∈m.foldl Hm a,Qb (j+m.length*(K+1)) q
 |[],a,j,K,ha,_,_,_=>by simpa using ha
 |r::t,a,j,K,ha,hm,hj,hK=>by
  intro q hq
  rw[List.foldl_cons]at hq
  have h1:∀q∈Hm a r,Qb (j+K+1) q:=Ym8 ha (hm r jk) hj hK
  have:=Ycr h1 (fun x hx=>hm x (iz _ hx)) (by omega) hK q hq
  have e:j+K+1+t.length*(K+1)=j+(r::t).length*(K+1):=by rw[bh,iE,Nat.one_mul];omega
  rw[<-e]
  exact this
def rI(m:List (List Rat))(S:Nat):List Rat:=m.foldl Hm ((List.range S).map fun _=>0)
def j9(m:List (List Rat))(S:Nat):List Rat:=(rI m S).map fun x=>x/((m.length:Int):Rat)
theorem Fv:(rI m S).length=S:=by unfold rI;rw[Zwe];simp
theorem NT:(j9 m S).length=S:=by unfold j9;rw[oa,Fv]
theorem Zvb{r:List Rat}:rI (m++[r]) S=Hm (rI m S) r:=by simp[rI]
theorem Lc(hm:jF m K)(hK:1<=K):∀q∈rI m S,Qb (1+m.length*(K+1)) q:=Ycr (fun q hq=>by
 obtain⟨_,_,rfl⟩:=iy.1 hq
 exact⟨by decide,by decide⟩) hm (aS _) hK
theorem VV{n:Nat}(h0:0<n)(hn:n<16):Qb 4 (((n:Nat):Int):Rat)/\((((n:Nat):Int):Rat))≠0:=⟨⟨by simp;omega,by simp⟩,fun hc=>by
 have:=congrArg Rat.num hc
 simp at this
 omega⟩
theorem Yf1(hm:jF m K)(hK:1<=K)(h0:0<m.length)(hn:m.length<16):∀q∈j9 m S,Qb (1+m.length*(K+1)+4) q:=fun q hq=>by
 unfold j9 at hq
 obtain⟨x,hx,rfl⟩:=iy.1 hq
 obtain⟨a,b⟩:=VV h0 hn
 rw[Rat.div_def]
 exact(Lc hm hK x hx).mul (Hn a b)
theorem Yn7{h:T O}{N p:Nat}{c d:List V}{x q:Rat}{e:TypeId}{rw:Bool}{j k:Nat}(hp:h.get p=some (.cells d e rw))(vj:p<N)(hc:eG h N c x)(hd:eG h N d q)(h0:q≠0)(hx:Qb j x)(hq:Qb k q)(hj:j<=500000000)(hk:k<=500000000):jU A.C (.func 188 [] [.ptr p 0]) [.agg c] h N (fun z h' n'=>Fc h' n' z (x/q)):=by
 intro w
 have:=Yon hp vj hc hd h0 hx hq hj hk w
 rw[aR,A.k195 (by simp)]at this
 rw[aR,A.k188 (by simp)]
 exact this
theorem Ybv{h:T O}{N:Nat}{u:V}(hu:vE h N u m)(kj:0<m.length)(vo:m.length<16)(hc:pT m S)(hS:S<1000)(Ld:1<=K)(hq:jF m K)(hb:m.length*(K+1)+K+100<=300000):Fn A.C 116 [u] h N (fun x h' n'=>fK h' n' x (j9 m S)):=by
 intro w
 have lu:=hu.len
 have VW:(0:Int)<(m.length:Int):=by omega
 obtain⟨l0,mi⟩:=bV kj
 obtain⟨i2,o2,c2,e2,w2,y,q1,q2,q3,q4,q5⟩:=NZ hu mi
 rw[re]at q4
 have ly:=q5.1.len
 rw[hc l0 (du mi)]at ly
 obtain⟨VX,VY⟩:=VV kj vo
 rw[aR,A.k116 (by simp)]
 simp[A.b116,lu,kj,q1,q3,q4,ly]
 refine ax (Yd8 hS) ?_
 rintro _ H1 n1 k1 ⟨rfl,s1⟩
 have fr:=s1.frt
 have hl:((List.range S).map fun _=>(0:Rat)).length=S:=by simp
 rw[hl]at fr
 simp[lu]
 refine bQ [(3,3),(5,5),(14,21)] (fun e r st=>e=.exit 0/\ad N st.w=[]/\ab h N st.h st.n/\∃v,r.get 3=some v/\fK st.h st.n v (rI m S)) (fun i r st=>ad N st.w=[]/\ab h N st.h st.n/\∃t v,t+i=m.length/\r.get 14=some (.int .i64 t)/\r.get 3=some v/\fK st.h st.n v (rI (m.take t) S)) m.length ?_ ?_ ?_
 ·exact⟨by simp,k1,0,.slice N 0 S (some S) 4,by omega,by simp,by simp,by simpa[rI]using fr⟩
 ·rintro i r ⟨H,n,W⟩ hr hf ⟨hW,hK,t,v,ht,mT,h3,hv⟩
  simp only at hW hK hv
  rw[bA]
  cases i with
  |zero=>
   obtain rfl:t=m.length:=by omega
   rw[eF (aS _)]at hv
   simp[A.pK,hr,hf,mT,h3,hW,hK]
   exact hv
  |succ i=>
   have aD:t<m.length:=by omega
   have bm:(t:Int)<(m.length:Int):=by omega
   obtain⟨row,ar⟩:=bV aD
   have ye:=du ar
   obtain⟨i3,o3,c3,e3,w3,x,p1,p2,p3,p4,p5⟩:=NZ (hu.ae hK) ar
   have VZ:jF (m.take t) K:=fun r hr=>hq r (rQ hr)
   have lC:=Lc (S:=S) VZ Ld
   have dr:(m.take t).length=t:=by rw[fR];omega
   rw[dr]at lC
   have hmul:t*(K+1)<=m.length*(K+1):=jn _ (by omega)
   simp[A.pK,hr,mT,h3,bm,lu,p1,p3,p4]
   refine ax (Ycd (fun x y=>x+y) hv.1 p5.1 (by rw[Fv,hc row ye];exact aS _) (fun x hx y hy h' n' ca cb k' ha hb=>?_) (by rw[Fv];omega)) ?_
   ·have w1:=(lC x hx).wE
    have w2:=(hq row ye y hy).wE
    exact NK ha.fc hb.fc (by omega) (by omega) (by omega) (by omega)
   rintro z H2 n2 k2 hz
   simp(disch:=first|(simp;done)|omega|(simp only[bl,bG,bh];omega)|rfl) [hf,mT,hW]
   refine⟨i,by omega,hK.trans k2,t+1,by omega,by simp,?_⟩
   rw[pV,ar]
   show fK H2 n2 z (rI (m.take t++[row]) S)
   rw[Zvb]
   exact hz
 ·rintro _ r ⟨H,n,W⟩ hr ⟨rfl,hW,hK,v,h3,hv⟩
  simp only at hW hK hv
  simp[hr,lu]
  refine ax (NH (by omega) (by omega)) ?_
  rintro _ H2 n2 k2 hz
  obtain⟨cz,rfl,hcz⟩:=hz.c
  obtain⟨f1,f2⟩:=hcz.len
  have jP:(V.agg cz).cells=cz:=rfl
  have e4:=Kl f1
  have nw:=k2.le
  have kC:ab H2 n2 ((H2.set n2 (.cells [.int .i64 0,.aa,.int .i64 0,.aa] 114 true)).set n2 (.cells cz 114 true)) (n2+1):=(ab.refl.new _).set (aS _)
  have gC:((H2.set n2 (.cells [.int .i64 0,.aa,.int .i64 0,.aa] 114 true)).set n2 (.cells cz 114 true)).get n2=some (.cells cz 114 true):=by rw[T.ai,aF rfl]
  simp[-V.cells, -V.one,h3,jP,f1,f2,e4,bW]
  generalize (H2.set n2 (.cells [.int .i64 0,.aa,.int .i64 0,.aa] 114 true)).set n2 (.cells cz 114 true)=G at*
  have lC:=Lc (S:=S) hq Ld
  refine ax (Yk2 (fun x=>x/((m.length:Int):Rat)) ((hv.ae k2).ae kC).1 (by rw[Fv];omega) fun x hx c' h' n' k' mb=>Yn7 (j:=1+m.length*(K+1)) (k:=4) ((k'.get n2 (by omega)).trans gC) (by have:=k'.le;omega) mb ((hcz.ae kC).ae k') VY (lC x hx) VX (by omega) (by omega)) ?_
  rintro z H3 n3 k3 x5
  simp[aA]
  exact⟨by rw[au (by have:=hK.le;omega)];exact hW,((hK.trans k2).trans kC).trans k3,x5⟩
set_option maxHeartbeats 2000000
set_option maxHeartbeats 2000000
set_option maxHeartbeats 1000000
theorem yq.zv{N0:Nat}{h:T O}{N R d:Nat}{m:List (List Rat)}{v:V}{us:List V}(s:yq N0 h N R m)(g:h.get R=some (.cells us 23 true))(hv:Sl h N v (us.take d))(hd:d<=m.length):mJ h N v (m.take d):=by
 obtain⟨vs,g1,g2,g3⟩:=s.ex
 rw[g]at g1
 simp only[aj,O.cells.injEq,and_true]at g1
 subst g1
 refine⟨us.take d,hv,by simp[g2],fun j l hl=>?_⟩
 by_cases hj:j<d
 ·rw[gV,aF hj]at hl ⊢
  obtain⟨u,a1,a2⟩:=g3 j l hl
  exact⟨u,a1,a2.1⟩
 ·rw[gV,au hj]at hl
  cases hl
set_option maxHeartbeats 1000000
variable {N R:Nat} {h:T O} {l:List Rat}
def A.pL:aq:=.seq (sr [mv 5 4,mv 6 0,bi 7 .lss 5 6]
 (cd 7
 (.skip)
 (.exit 0)))
 (.seq (.block 1 (.aM [mv 10 3,⟨(some 11),.aO 36 1 1 [(.str [])] [(0,1,(.const (.str [48])))],none⟩,⟨(some 12),.append 1 16 36 [(.str [])] (.tmp 10) (.tmp 11),none⟩,mv 3 12]))
 (.aM [mv 8 4,bc 9 .add 8 1,mv 4 9]))
def A.b135:aq:=sr [mN 2]
 (sr [mN 3]
 (.seq (sr [mc 4 0]
 (.block 0 (.loop A.pL)))
 (sr [mv 13 3,mv 2 13]
 (.ret))))
theorem A.c135:A.F 135=some ⟨14,[.tmp 2],A.b135⟩:=by kernel_rfl
def A.k135:=@A.kk 135 _ _ _ A.c135 rfl
theorem Yqw{l:List V}:(l.map fun y=>[y]).flatten=l:=by
 induction l with
 |nil=>rfl
 |cons a t ih=>simp[ih]
structure AZ (h:T O) (N R:Nat) (l:List Rat):Prop where
 lt:R<N
 get:h.get R=some (.cells (tx l) 36 true)
theorem AZ.ae{h':T O}{N':Nat}(s:AZ h N R l)(k:ab h N h' N'):AZ h' N' R l:=⟨eY s.lt k.le,(k.get R s.lt).trans s.get⟩
theorem AZ.put{j:Nat}{q:Rat}(s:AZ h N R l)(hj:j<l.length):ag (tx l) j [.str (aW q)]=tx (l.set j q)/\AZ (h.set R (.cells (tx (l.set j q)) 36 true)) N R (l.set j q):=by
 refine⟨?_,s.lt,by rw[T.ai,aF rfl]⟩
 rw[Zw7 (by rw[wJ];exact hj)]
 simp[tx,strs,List.map_set]
theorem AZ.yt(s:AZ h N R l):pW h N (.slice R 0 l.length none 1) l:=⟨Sl.row s.lt s.get (wJ l) (fun k hk=>by cases hk),fun i hi=>by
 simp[cA]at hi
 subst hi
 exact⟨_,_,s.get⟩⟩
theorem Yag{n:Nat}(h0:0<n)(hn:n<1000):Fn A.C 135 [.int .i64 n] h N (fun x h' n'=>∃R,x=.slice R 0 n none 1/\N<=R/\AZ h' n' R ((List.range n).map fun _=>0)):=by
 intro w
 rw[aR,A.k135 (by simp)]
 simp[A.b135]
 refine bQ [(3,12)] (fun e r st=>e=.exit 0/\ad N st.w=[]/\ab h N st.h st.n/\∃v,r.get 3=some v/\Own 1 36 N st.h st.n v ((tx ((List.range n).map fun _=>0)).map fun y=>[y])) (fun m r st=>ad N st.w=[]/\ab h N st.h st.n/\∃t v,t+m=n/\r.get 4=some (.int .i64 t)/\r.get 3=some v/\Own 1 36 N st.h st.n v ((tx ((List.range t).map fun _=>0)).map fun y=>[y])) n ?_ ?_ ?_
 ·exact⟨by simp,ab.refl,0,_,by omega,by simp,by simp,Own.nil⟩
 ·rintro m r ⟨H,n1,W⟩ hr hf ⟨hW,hK,t,v,ht,h4,h3,hO⟩
  simp only at hW hK hO
  rw[bA]
  have le:=hK.le
  cases m with
  |zero=>
   obtain rfl:t=n:=by omega
   simp[A.pL,hr,hf,h3,h4,hW,hK]
   exact hO
  |succ m=>
   have aD:t<n:=by omega
   have bm:(t:Int)<(n:Int):=by omega
   have vw:ag [V.str []] 0 [.str [48]]=[.str [48]]:=rfl
   have kD:ab H n1 (H.set n1 (.cells [.str [48]] 36 true)) (n1+1):=ab.refl.new _
   obtain⟨v',h',w',j1,j2,j3,_,j5⟩:=pU (x:=[.str [48]]) (u:=.slice n1 0 1 (some 1) 1) (bytes:=16) (w:=W) (hO.ae kD) (by omega) (by decide) rfl (by simp[eC,St.row,aJ]) (by simp[tx,strs];omega)
   have kF:ab h N h' (n1+1+1):=(hK.trans kD).then j3
   simp(disch:=first|(simp;done)|omega|rfl) [A.pL,hr,hf,h3,h4,bm,vw,Cc,j1,j2,hW,kF]
   refine⟨m,by omega,t+1,by omega,by simp,?_⟩
   have e:(tx ((List.range (t+1)).map fun _=>(0:Rat))).map (fun y=>[y])=(tx ((List.range t).map fun _=>(0:Rat))).map (fun y=>[y])++[[.str [48]]]:=by
    rw[List.range_succ,List.map_append]
    simp[tx,strs]
    rfl
   rw[e]
   exact j5
 ·rintro _ r ⟨H,n1,W⟩ hr ⟨rfl,hW,hK,v,h3,hO⟩
  simp only at hW hK hO
  obtain⟨hl,⟨hz,_⟩|⟨R,rfl,h1,h2,Ho⟩⟩:=hO
  ·have:=congrArg List.length hz
   simp[tx,strs]at this
   omega
  ·simp[h3,aA,hW,hK]
   refine⟨R,⟨rfl,by rw[wJ];simp⟩,h1,h2,?_⟩
   rw[Ho,Yqw]
variable {S Z:Nat}
set_option maxHeartbeats 1000000
def A.lV:aq:=.seq (sr [mv 7 6,mv 8 0,ln 9 8,bi 10 .lss 7 9]
 (cd 10
 (.skip)
 (.exit 0)))
 (.seq (.block 1 (sr [mv 13 0,mv 14 6,ia 15 3 13 14,fa 16 0 15,ld 17 16,mv 18 1,⟨(some 19),.bin .eql (.aI .int) false (.tmp 17) (.tmp 18),none⟩]
 (cd 19
 (.aV [mv 20 5,mv 21 0,mv 22 6,ia 23 3 21 22,fa 24 2 23,ld 25 24,mv 26 0,mv 27 6,ia 28 3 26 27,fa 29 1 28,ld 30 29,c1 31 129 30,c2 32 113 25 31,⟨(some 33),.aO 23 1 1 [.aa] [(0,1,(.tmp 32))],none⟩,⟨(some 34),.append 1 24 23 [.aa] (.tmp 20) (.tmp 33),none⟩,mv 5 34] [0,0,0,6,14,30,0,0,192,448,960,1984,4094,8190,16383,32767])
 (.skip))))
 (.aM [mv 11 6,bc 12 .add 11 1,mv 6 12]))
def A.b123:aq:=sr [mN 4]
 (sr [mN 5]
 (.seq (sr [mc 6 0]
 (.block 0 (.loop A.lV)))
 (sr [mv 35 5,mv 4 35]
 (.ret))))
theorem A.c123:A.F 123=some ⟨36,[.tmp 4],A.b123⟩:=by kernel_rfl
def A.k123:=@A.kk 123 _ _ _ A.c123 rfl
def A.pM:aq:=.seq (sr [mv 10 4,mv 11 0,ln 12 11,bi 13 .lss 10 12]
 (cd 13
 (.skip)
 (.exit 0)))
 (.seq (.block 1 (.aM [mv 16 3,mv 17 0,mv 18 4,ia 19 1 17 18,ld 20 19,c2 21 112 16 20,mv 3 21]))
 (.aM [mv 14 4,bc 15 .add 14 1,mv 4 15]))
def A.b122:aq:=sr [mN 2]
 (sr [mv 5 0,⟨(some 6),.aN 1 (.tmp 5) (.const (.int .i64 0)),none⟩,ld 7 6,ln 8 7,c1 9 135 8,mv 3 9]
 (.seq (sr [mc 4 0]
 (.block 0 (.loop A.pM)))
 (sr [mv 22 3,mv 23 0,ln 24 23,⟨(some 25),.call (.const (.func 163 [] [])) [(.const (.int .i64 1)),(.tmp 24)],none⟩,c2 26 113 22 25,mv 2 26]
 (.ret))))
theorem A.c122:A.F 122=some ⟨27,[.tmp 2],A.b122⟩:=by kernel_rfl
def A.k122:=@A.kk 122 _ _ _ A.c122 rfl
theorem EP.qb{p:Pk}(h:EP p S Z):Qb 96 (gg p.am)/\∀q∈ql p.sl,Qb 96 q:=⟨QX h.num h.len (by decide),fun q hq=>by
 obtain⟨s,hs,rfl⟩:=iy.1 hq
 exact QX (h.ok s hs).1 (h.ok s hs).2 (by decide)⟩
theorem He{l:List Pk}{k:Int}(hG:∀p∈l,EP p S Z):pT (cO l k) S/\jF (cO l k) 192:=by
 refine⟨fun r hr=>?_,fun r hr q hq=>?_⟩
 ·unfold cO at hr
  obtain⟨p,hp,rfl⟩:=iy.1 hr
  have:=hG p ((List.mem_filter.1 hp).1)
  rw[oa]
  unfold ql
  rw[oa]
  exact this.sl
 ·unfold cO at hr
  obtain⟨p,hp,rfl⟩:=iy.1 hr
  have hg:=hG p ((List.mem_filter.1 hp).1)
  obtain⟨x,hx,rfl⟩:=iy.1 hq
  rw[Rat.div_def]
  exact(hg.qb.2 x hx).mul (Hn hg.qb.1 hg.ne)
theorem Zvj{h:T O}{N:Nat}{v:V}{l:List Pk}{k:Int}(hs:nY h N v l)(hl:l.length<1000)(hG:∀p∈l,EP p S Z)(hS:S<1000):Fn A.C 123 [v,.int .i64 k] h N (fun x h' n'=>jA N h' n' x (cO l k)):=by
 intro w
 have lg:=hs.len
 rw[aR,A.k123 (by simp)]
 simp[A.b123]
 refine bQ [(5,34)] (fun e r st=>e=.exit 0/\ad N st.w=[]/\ab h N st.h st.n/\∃x,r.get 5=some x/\jA N st.h st.n x (cO l k)) (fun i r st=>ad N st.w=[]/\ab h N st.h st.n/\∃t x,t+i=l.length/\r.get 6=some (.int .i64 t)/\r.get 5=some x/\jA N st.h st.n x (cO (l.take t) k)) l.length ?_ ?_ ?_
 ·exact⟨by simp,ab.refl,0,.aa,by omega,by simp,by simp,jA.nil⟩
 ·rintro i r ⟨H,n,W⟩ hr hf ⟨hW,hK,t,x,ht,h6,h5,hO⟩
  simp only at hW hK hO
  have le:=hK.le
  rw[bA]
  cases i with
  |zero=>
   obtain rfl:t=l.length:=by omega
   rw[eF (aS _)]at hO
   simp[A.lV,hr,hf,h6,h5,lg,hW,hK]
   exact hO
  |succ i=>
   have aD:t<l.length:=by omega
   have bm:(t:Int)<(l.length:Int):=by omega
   obtain⟨p,hp⟩:=bV aD
   have hg:=hG p (du hp)
   obtain⟨i1,o,y,e,rw,u,q1,q2,q3,q4,q5,q6,q7,q8⟩:=(hs.ae hK).at hp
   have yZ:=Zq8 (l:=l.take t) (p:=p) (k:=k)
   have OF:l.take (t+1)=l.take t++[p]:=by rw[pV,hp];rfl
   by_cases e1:p.act=k
   ·rw[aF e1]at yZ
    have ham:=(FF hg.num).1
    have hu:Tx H n u (ql p.sl):=hg.ok.sl q8
    rw[<-ham]at q6
    simp[A.lV,hr,h6,h5,bm,lg,q1,q2,q3,q5,q6,q7,e1]
    refine ax (Yj0 hg.qb.1 (by decide) hg.ne) ?_
    rintro _ H2 n2 k2 rfl
    simp[]
    refine ax (QR (hu.ae k2) hg.qb.2 (Hn hg.qb.1 hg.ne) (by decide) (by decide) (by unfold ql;rw[oa,hg.sl];omega)) ?_
    rintro z H3 n3 k3 o3
    have t3:=EX o3
    have e2:((ql p.sl).map fun q=>q*(gg p.am)⁻¹)=(ql p.sl).map fun x=>x/gg p.am:=Ba fun x _=>(Rat.div_def _ _).symm
    rw[e2]at t3
    have oz:V.one z=true/\V.cells z=[z]:=⟨Sl.CM t3.1,Sl.rL t3.1⟩
    have zp:=k3.le
    have nw:=k2.le
    have kD:ab H3 n3 (H3.set n3 (.cells [z] 23 true)) (n3+1):=ab.refl.new _
    have vw:ag [V.aa] 0 [z]=[z]:=rfl
    obtain⟨v',h',w',j1,j2,j3,j4⟩:=jA.push (N0:=N) (x:=.slice n3 0 1 (some 1) 1) (w:=[]) (((hO.ae k2).ae k3).ae kD) (pW.ae t3 kD) (by omega) (by simp[eC,St.row,aJ]) (by have:=AR (l:=l.take t) (k:=k);rw[fR]at this;omega)
    have kF:ab h N h' (n3+1+1):=(((hK.trans k2).trans k3).trans kD).then j3
    simp(disch:=first|(simp;done)|omega|(simp only[bl,bG,bh];omega)|rfl) [-V.cells, -V.one,hf,h6,oz.1,oz.2,vw,Cc,j1]
    have jw:ad N w'=[]:=j2.trans rfl
    refine⟨i,by omega,B1 fun j hj=>?_,kF,t+1,by omega,by simp,by rw[OF,yZ];exact j4⟩
    rcases oF.1 hj with hj|hj
    ·exact ET jw j (B0 hj).1
    ·exact ET hW j hj
   ·rw[au e1,uT]at yZ
    simp(disch:=first|(simp;done)|omega|(simp only[bl,bG,bh];omega)|rfl) [A.lV,hr,hf,h6,h5,bm,lg,q1,q3,q5,e1,hW,hK]
    exact⟨i,by omega,t+1,by omega,by simp,by rw[OF,yZ];exact hO⟩
 ·rintro _ r ⟨H,n,W⟩ hr ⟨rfl,hW,hK,x,h5,hO⟩
  simp only at hW hK hO
  simp[h5,aA,hW,hK]
  exact hO
theorem Yis{x:Rat}{n:Nat}:x*Rat.divInt 1 (n:Int)=x/((n:Int):Rat):=by
 rw[Rat.div_def,OJ]
 simp
theorem Zvk{h:T O}{N K:Nat}{u:V}{m:List (List Rat)}(hu:mJ h N u m)(kj:0<m.length)(vo:m.length<16)(hc:pT m S)(hS0:0<S)(hS:S<1000)(Ld:1<=K)(hq:jF m K)(hb:m.length*(K+1)+K+100<=300000):Fn A.C 122 [u] h N (fun x h' n'=>pW h' n' x (j9 m S)):=by
 intro w
 have lu:=hu.len
 have VW:(0:Int)<(m.length:Int):=by omega
 obtain⟨l0,mi⟩:=bV kj
 obtain⟨i2,o2,c2,e2,w2,y,q1,q2,q3,q4,q5⟩:=hu.at mi
 rw[re]at q4
 have ly:=q5.len
 rw[hc l0 (du mi)]at ly
 obtain⟨VX,VY⟩:=VV kj vo
 rw[aR,A.k122 (by simp)]
 simp[A.b122,lu,kj,q1,q3,q4,ly]
 refine ax (Yag hS0 hS) ?_
 rintro _ H1 n1 k1 ⟨R,rfl,hR,s1⟩
 have fr:=s1.yt
 have hl:((List.range S).map fun _=>(0:Rat)).length=S:=by simp
 rw[hl]at fr
 simp[]
 refine bQ [(3,4),(10,21)] (fun e r st=>e=.exit 0/\ad N st.w=[]/\ab h N st.h st.n/\∃v,r.get 3=some v/\Tx st.h st.n v (rI m S)) (fun i r st=>ad N st.w=[]/\ab h N st.h st.n/\∃t v,t+i=m.length/\r.get 4=some (.int .i64 t)/\r.get 3=some v/\Tx st.h st.n v (rI (m.take t) S)) m.length ?_ ?_ ?_
 ·exact⟨by simp,k1,0,.slice R 0 S none 1,by omega,by simp,by simp,by simpa[rI]using fr.1⟩
 ·rintro i r ⟨H,n,W⟩ hr hf ⟨hW,hK,t,v,ht,h4,h3,hv⟩
  simp only at hW hK hv
  rw[bA]
  cases i with
  |zero=>
   obtain rfl:t=m.length:=by omega
   rw[eF (aS _)]at hv
   simp[A.pM,hr,hf,h4,h3,lu,hW,hK]
   exact hv
  |succ i=>
   have aD:t<m.length:=by omega
   have bm:(t:Int)<(m.length:Int):=by omega
   obtain⟨row,ar⟩:=bV aD
   have ye:=du ar
   obtain⟨i3,o3,c3,e3,w3,x,p1,p2,p3,p4,p5⟩:=(hu.ae hK).at ar
   have VZ:jF (m.take t) K:=fun r hr=>hq r (rQ hr)
   have lC:=Lc (S:=S) VZ Ld
   have dr:(m.take t).length=t:=by rw[fR];omega
   rw[dr]at lC
   have hmul:t*(K+1)<=m.length*(K+1):=jn _ (by omega)
   simp[A.pM,hr,h4,h3,bm,lu,p1,p3,p4]
   refine ax (Wu hv p5 (by rw[Fv,hc row ye];exact aS _) lC (hq row ye) (by omega) (by omega) (by rw[Fv];omega)) ?_
   rintro z H2 n2 k2 o2
   have hz:=(EX o2).1
   simp(disch:=first|(simp;done)|omega|(simp only[bl,bG,bh];omega)|rfl) [hf,h4,hW]
   refine⟨i,by omega,hK.trans k2,t+1,by omega,by simp,?_⟩
   rw[pV,ar]
   show Tx H2 n2 z (rI (m.take t++[row]) S)
   rw[Zvb]
   exact hz
 ·rintro _ r ⟨H,n,W⟩ hr ⟨rfl,hW,hK,v,h3,hv⟩
  simp only at hW hK hv
  have hof:=fun st=>Yic (a:=1) (m:=m.length) (st:=st) kj (by decide) (by decide) (by omega)
  have em:Rat.divInt 1 (m.length:Int)=mkRat 1 m.length:=by simp
  have lC:=Lc (S:=S) hq Ld
  have hd:Qb 4 (Rat.divInt 1 (m.length:Int)):=by
   have e:Rat.divInt 1 (m.length:Int)=(((m.length:Int):Rat))⁻¹:=by
    have:=Yis (x:=1) (n:=m.length)
    rw[Rat.one_mul,Rat.div_def,Rat.one_mul]at this
    exact this
   rw[e]
   exact Hn VX VY
  rw[em]at hd
  simp only[em]at hof
  simp[hr,h3,lu,hof]
  refine ax (QR hv lC hd (by omega) (by omega) (by rw[Fv];omega)) ?_
  rintro z H2 n2 k2 o2
  have t2:=EX o2
  have e2:((rI m S).map fun q=>q*mkRat 1 m.length)=j9 m S:=em▸Ba fun x _=>Yis
  rw[e2]at t2
  simp[aA,hW]
  exact⟨hK.trans k2,t2⟩
set_option maxHeartbeats 1000000
def A.pN:aq:=sr [bi 12 .lss 11 10]
 (.seq (cd 12
 (.skip)
 (.exit 0))
 (.seq (.block 1 (sr [ia 13 1 9 11,ld 14 13,mv 6 14]
 (sr [mv 16 6,c1 17 69 16,mv 15 17,xt 18 15 0,xt 19 15 1,mv 7 18,mv 8 19]
 (.seq (sr [mv 20 8,ni 21 20 0]
 (cd 21
 (sr [mv 22 8,mN 2,mv 3 22]
 (.ret))
 (.skip)))
 (.aM [mv 23 4,mv 24 7,⟨(some 25),.aO 23 1 1 [.aa] [(0,1,(.tmp 24))],none⟩,⟨(some 26),.append 1 24 23 [.aa] (.tmp 23) (.tmp 25),none⟩,mv 4 26])))))
 (.aM [bc 27 .add 11 1,mv 11 27])))
def A.b117:aq:=sr [mN 2,mc 3 0]
 (sr [mN 4]
 (.seq (sr [mv 9 0,ln 10 9,mc 11 0]
 (.block 0 (.loop A.pN)))
 (sr [mv 28 4,mv 2 28,mc 3 0]
 (.ret))))
theorem A.c117:A.F 117=some ⟨29,[.tmp 2,.tmp 3],A.b117⟩:=by kernel_rfl
def A.k117:=@A.kk 117 _ _ _ A.c117 rfl
theorem Yfc{h:T O}{N k:Nat}{u:V}{m:List (List Rat)}(hu:vE h N u m)(hP:jm h N)(hl:m.length<10000)(hr:∀r∈m,r.length<1000000000)(hq:jF m k)(hk:k<=400000000):Fn A.C 117 [u] h N (fun x h' n'=>(jR m=true/\x=.aZ [.aa,.int .i64 4])\/(jR m=false/\∃v,x=.aZ [v,.int .i64 0]/\mJ h' n' v m)):=by
 intro w
 have l1:=hu.len
 rw[aR,A.k117 (by simp)]
 simp[A.b117,l1]
 refine bQ [(2,4),(6,8),(11,27)] (fun e r st=>ad N st.w=[]/\ab h N st.h st.n/\((e=.exit 0/\jR m=false/\∃v,r.get 4=some v/\jA N st.h st.n v m)\/(e=.ret/\jR m=true/\r.get 2=some .aa/\r.get 3=some (.int .i64 4)))) (fun i r st=>ad N st.w=[]/\ab h N st.h st.n/\∃t v,t+i=m.length/\r.get 11=some (.int .i64 t)/\jR m=jR (m.drop t)/\r.get 4=some v/\jA N st.h st.n v (m.take t)) m.length ?_ ?_ ?_
 ·exact⟨by simp,ab.refl,0,_,by omega,by simp,by simp,by simp,jA.nil⟩
 ·rintro i r ⟨H,n,W⟩ ef hf ⟨hW,hK,t,v,ht,jM,hz,h4,hO⟩
  simp only at hW hK hO
  rw[bA]
  have le:=hK.le
  cases i with
  |zero=>
   obtain rfl:t=m.length:=by omega
   rw[og]at hz
   rw[eF (aS _)]at hO
   have wN:jR m=false:=by rw[hz];rfl
   simp[A.pN,ef,hf,jM,h4,wN,hW,hK]
   exact hO
  |succ i=>
   have aD:t<m.length:=by omega
   have bm:(t:Int)<(m.length:Int):=by omega
   obtain⟨row,ar⟩:=bV aD
   have hm:=du ar
   obtain⟨i1,o1,x1,e1,w1,c,p1,p2,p3,p4,p5⟩:=NZ (hu.ae hK) ar
   rw[ke ar]at hz
   simp[A.pN,ef,jM,bm,l1,p1,p3,p4]
   refine ax (Zva p5.1 (hP.ae hK) (hr row hm) (hq row hm) hk) ?_
   rintro _ H3 n3 k3 (⟨hb,rfl⟩|⟨hb,x,rfl,tx⟩)
   ·have wN:jR m=true:=by rw[hz];simp[jR,hb]
    simp[hf,hW,wN]
    exact hK.trans k3
   ·have wN:jR m=jR (m.drop (t+1)):=by rw[hz];simp[jR,hb]
    have ox:V.one x=true/\V.cells x=[x]:=⟨Sl.CM tx.1,Sl.rL tx.1⟩
    have zp:=k3.le
    have kD:ab H3 n3 (H3.set n3 (.cells [x] 23 true)) (n3+1):=ab.refl.new _
    have vw:ag [V.aa] 0 [x]=[x]:=rfl
    obtain⟨v',h',w',j1,j2,j3,j4⟩:=jA.push (N0:=N) (x:=.slice n3 0 1 (some 1) 1) (w:=W) ((hO.ae k3).ae kD) (pW.ae tx kD) (by omega) (by simp[eC,St.row,aJ]) (by rw[fR];omega)
    have kF:ab h N h' (n3+1+1):=((hK.trans k3).trans kD).then j3
    simp(disch:=first|(simp;done)|omega|rfl) [-V.cells, -V.one,hf,jM,h4,wN,ox.1,ox.2,vw,Cc,j1]
    exact⟨i,by omega,by rw[j2];exact hW,kF,t+1,by omega,by simp,rfl,by rw[pV,ar];exact j4⟩
 ·rintro e r ⟨H,n,W⟩ ef ⟨hW,hK,⟨rfl,hz,v,h4,hO⟩|⟨rfl,hz,h2,h3⟩⟩
  ·simp only at hW hK hO
   simp[h4,aA,hW,hK,hz]
   exact hO.zv
  ·simp only at hW hK
   simp[h2,h3,aA,hW,hK,hz]
end Go.Mx
