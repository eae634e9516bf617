/-The echelon form of a matrix-/
import Derived.Test.YteojhfjdbpdolaaGreatDoorEcK
set_option linter.all false
namespace Go.Mx
open Go Go.Proofs
variable {d i j k:Nat} {m:List (List Rat)}
set_option maxRecDepth 1000000
def az(m:List (List Rat))(i j:Nat):Rat:=(m[i]?.getD [])[j]?.getD 0
def FR{p:Nat}(hd:d<m.length)(hp:p<m.length):az (bP m d p) i j=if i=d then az m p j else if i=p then az m d j else az m i j:=by
 unfold az bP
 by_cases e1:i=p
 ·subst e1
  rw[gG (by simp;exact hp)]
  by_cases e2:i=d
  ·subst e2;simp
  ·simp[e2]
 ·rw[d_ (Ne.symm e1)]
  by_cases e2:i=d
  ·subst e2;rw[gG hd];simp
  ·rw[d_ (Ne.symm e2)];simp[e1,e2]
def PY(hd:d<m.length):az (eZ m d k) i j=if i=d then az m d j/az m d k else az m i j:=by
 unfold az eZ
 by_cases e:i=d
 ·subst e
  rw[gG hd,av rfl,fX,eY]
  cases (m[i]?.getD [])[j]? with
  |none=>simp[Rat.div_def,Rat.zero_mul]
  |some q=>rfl
 ·rw[d_ (Ne.symm e),ak e]
def PZ{c:Nat}(h:bg m c)(hi:i<m.length)(hd:d<m.length):az (b_ m d k m.length) i j=if i=d then az m i j else az m i j-az m i k*az m d j:=by
 unfold az
 rw[DJ hi,fX]
 by_cases e:i=d
 ·rw[ak (by omega),av e]
 ·rw[av ⟨hi,e⟩,ak e]
  have l1:=h.at hi
  have l2:=h.at hd
  by_cases hj:j<c
  ·unfold pj
   rw[I4 (by omega)]
   rfl
  ·rw[eJ (by rw[O4];omega),eJ (l:=m[i]?.getD []) (by omega),eJ (l:=m[d]?.getD []) (by omega)]
   show (0:Rat)=0-(m[i]?.getD [])[k]?.getD 0*0
   rw[Rat.mul_zero,Rat.sub_self]
def Ymd{m:List (List Rat)}{k:Nat}:∀{n d:Nat},d+n<=nN m k d n->∀i,d<=i->i<d+n->az m i k=0
 |0,d,h,i,h1,h2=>by omega
 |n+1,d,h,i,h1,h2=>by
  unfold nN at h
  split at h
  ·omega
  ·rename_i hc
   by_cases e:i=d
   ·subst e;unfold az;simpa using hc
   ·exact Ymd (n:=n) (d:=d+1) (by omega) i (by omega) (by omega)
structure yg (m:List (List Rat)) (d:Nat) (ps:List Nat) (n:Nat):Prop where
 len:ps.length=d
 le:d<=m.length
 lt:∀i,i<d->ps[i]?.getD 0<n
 yQ:∀i j,i<j->j<d->ps[i]?.getD 0<ps[j]?.getD 0
 one:∀i j,i<d->j<m.length->az m j (ps[i]?.getD 0)=if j=i then 1 else 0
 lead:∀i k,i<d->k<ps[i]?.getD 0->az m i k=0
 rest:∀i k,d<=i->i<m.length->k<n->az m i k=0
def yg.step{s:List (List Rat)×Nat×List Nat}{n c:Nat}(h:yg s.1 s.2.1 s.2.2 n)(hc:bg s.1 c):yg (fT s n).1 (fT s n).2.1 (fT s n).2.2 (n+1):=by
 obtain⟨m,d,ps⟩:=s
 simp only at h hc
 unfold fT
 simp only
 have hle:=@B4 m n (m.length-d) d
 have gZ:=h.le
 split
 ·rename_i hp
  have dp:d<m.length:=by unfold dJ at hp;omega
  have KR:d<=dJ m d n:=hle.1
  have aW:az m (dJ m d n) n≠0:=@DM m n (m.length-d) d (by unfold dJ at hp;omega)
  generalize dJ m d n=p at*
  have jA:=(hc.zC dp hp).FF (d:=d) (k:=n) (by rw[mD];exact dp)
  have hlen:(b_ (eZ (bP m d p) d n) d n m.length).length=m.length:=by rw[yF,zD,mD]
  have iD:(eZ (bP m d p) d n).length=m.length:=by rw[zD,mD]
  have hb:∀i j,az (bP m d p) i j=if i=d then az m p j else if i=p then az m d j else az m i j:=fun i j=>FR dp hp
  have hs:∀i j,az (eZ (bP m d p) d n) i j=if i=d then az m p j/az m p n else az (bP m d p) i j:=fun i j=>by
   rw[PY (by rw[mD];exact dp),hb d j,hb d n,av rfl,av rfl]
  have he:∀i j,i<m.length->az (b_ (eZ (bP m d p) d n) d n m.length) i j=if i=d then az m p j/az m p n else az (bP m d p) i j-az (bP m d p) i n*(az m p j/az m p n):=fun i j hi=>by
   have:=PZ (m:=eZ (bP m d p) d n) (k:=n) (j:=j) jA (i:=i) (d:=d) (by rw[iD];exact hi) (by rw[iD];exact dp)
   rw[iD]at this
   rw[this,hs i j,hs i n,hs d j,av rfl]
   split<;>rfl
  have qk:az m p n/az m p n=1:=by rw[Rat.div_def];exact Rat.mul_inv_cancel _ aW
  have FU:∀i j,i<d->az (bP m d p) i j=az m i j:=fun i j hi=>by rw[hb,ak (by omega),ak (by omega)]
  have gX:∀i k,d<=i->i<m.length->k<n->az (bP m d p) i k=0:=fun i k h1 h2 h3=>by
   rw[hb]
   split
   ·exact h.rest p k KR hp h3
   ·split
    ·exact h.rest d k (aM _) dp h3
    ·exact h.rest i k h1 h2 h3
  have tn:∀k,k<n->az m p k/az m p n=0:=fun k hk=>by rw[h.rest p k KR hp hk,Rat.div_def,Rat.zero_mul]
  have hold:∀i k,i<m.length->k<n->az (b_ (eZ (bP m d p) d n) d n m.length) i k=if i<d then az m i k else 0:=fun i k hi hk=>by
   rw[he i k hi,tn k hk,Rat.mul_zero]
   by_cases e:i=d
   ·rw[av e,ak (by omega)]
   ·rw[ak e]
    by_cases e2:i<d
    ·rw[av e2,FU i k e2,Rat.sub_eq_add_neg,Rat.neg_zero,Rat.add_zero]
    ·rw[ak e2,gX i k (by omega) hi hk,Rat.sub_eq_add_neg,Rat.neg_zero,Rat.add_zero]
  have ry:∀i,i<m.length->az (b_ (eZ (bP m d p) d n) d n m.length) i n=if i=d then 1 else 0:=fun i hi=>by
   rw[he i n hi,qk]
   split
   ·rfl
   ·rw[Rat.mul_one,Rat.sub_self]
  have ho:∀i,i<d->(ps++[n])[i]?.getD 0=ps[i]?.getD 0:=fun i hi=>by rw[iM (by have:=h.len;omega)]
  have sM:(ps++[n])[d]?.getD 0=n:=by rw[kY (by have:=h.len;omega),h.len];simp
  show yg (b_ (eZ (bP m d p) d n) d n m.length) (d+1) (ps++[n]) (n+1)
  refine⟨by simp[h.len],by rw[hlen];omega,fun i hi=>?_,fun i j h1 h2=>?_,fun i j h1 h2=>?_,fun i k h1 h2=>?_,fun i k h1 h2 h3=>?_⟩
  ·by_cases e:i<d
   ·rw[ho i e];have:=h.lt i e;omega
   ·obtain rfl:i=d:=by omega
    rw[sM];omega
  ·rw[ho i (by omega)]
   by_cases e:j<d
   ·rw[ho j e];exact h.yQ i j h1 e
   ·obtain rfl:j=d:=by omega
    rw[sM];exact h.lt i h1
  ·rw[hlen]at h2
   by_cases e:i<d
   ·rw[ho i e,hold j _ h2 (h.lt i e)]
    by_cases e2:j<d
    ·rw[av e2];exact h.one i j e h2
    ·rw[ak e2,ak (by omega)]
   ·obtain rfl:i=d:=by omega
    rw[sM];exact ry j h2
  ·by_cases e:i<d
   ·rw[ho i e]at h2
    rw[hold i k (by omega) (by have:=h.lt i e;omega),av e]
    exact h.lead i k e h2
   ·obtain rfl:i=d:=by omega
    rw[sM]at h2
    rw[hold i k dp h2,ak e]
  ·rw[hlen]at h2
   by_cases e:k<n
   ·rw[hold i k h2 e,ak (by omega)]
   ·obtain rfl:k=n:=by omega
    rw[ry i h2,ak (by omega)]
 ·rename_i hp
  have Lj:=@Ymd m n (m.length-d) d (by unfold dJ at hp;omega)
  show yg m d ps (n+1)
  refine⟨h.len,h.le,fun i hi=>by have:=h.lt i hi;omega,h.yQ,h.one,h.lead,fun i k h1 h2 h3=>?_⟩
  by_cases e:k<n
  ·exact h.rest i k h1 h2 e
  ·obtain rfl:k=n:=by omega
   exact Lj i h1 (by omega)
def nU{m:List (List Rat)}{c:Nat}(hc:bg m c):∀{n:Nat},yg (aD m n).1 (aD m n).2.1 (aD m n).2.2 n
 |0=>⟨rfl,tX _,fun i hi=>absurd hi (Nat.not_lt_zero i),fun i j _ hj=>absurd hj (Nat.not_lt_zero j),fun i j hi=>absurd hi (Nat.not_lt_zero i),fun i k hi=>absurd hi (Nat.not_lt_zero i),fun i k _ _ hk=>absurd hk (Nat.not_lt_zero k)⟩
 |n+1=>by
  rw[ta]
  exact(@nU m c hc n).step (mB hc).1
def ye(m:List (List Rat))(ps:List Nat)(n k:Nat):List Rat:=(List.range n).map fun j=>if j=k then 1 else if j∈ps then -az m (ps.idxOf j) k else 0
def pq(ps:List Nat)(n:Nat):List Nat:=(List.range n).filter fun k=>!ps.contains k
def l9(m:List (List Rat))(n:Nat):List (List Rat):=(pq (aD m n).2.2 n).map (ye (aU m n) (aD m n).2.2 n)
def bp(m:List (List Rat))(n:Nat):List (List Rat):=aU (l9 m n) n
def SC:∀{n:Nat} {ps:List Nat},(∀i,i<ps.length->ps[i]?.getD 0<n)->(∀i j,i<j->j<ps.length->ps[i]?.getD 0<ps[j]?.getD 0)->(pq ps n).length+ps.length=n
 |0,ps,h1,h2=>by
  cases ps with
  |nil=>rfl
  |cons p t=>exact absurd (h1 0 (by simp)) (by omega)
 |n+1,ps,h1,h2=>by
  have hs:pq ps (n+1)=pq ps n++if ps.contains n=true then [] else [n]:=by
   unfold pq
   rw[List.range_succ,List.filter_append]
   congr 1
   rw[List.filter_cons]
   cases hc:ps.contains n<;>rfl
  by_cases hm:n∈ps
  ·have qw:ps=ps.dropLast++[n]:=by
    obtain⟨i,hi⟩:=tc hm
    have t_:=(wP.1 hi).1
    have:i=ps.length-1:=by
     by_cases e:i=ps.length-1
     ·exact e
     ·have h3:=h2 i (ps.length-1) (by omega) (by omega)
      have h4:=h1 (ps.length-1) (by omega)
      rw[hi]at h3
      simp only[fX]at h3
      omega
    subst this
    have aW:ps≠[]:=fun hc=>by rw[hc]at hm;simp at hm
    have hl:ps.getLast aW=n:=by rw[List.getLast_eq_getElem];rw[cy t_]at hi;exact oV hi
    conv=>lhs;rw[<-Qk aW,hl]
   generalize ps.dropLast=l at qw
   subst qw
   have ue:(l++[n]).length=l.length+1:=by simp
   have ay:∀i,i<l.length->l[i]?.getD 0<n:=fun i hi=>by
    have:=h2 i l.length hi (by omega)
    rw[iM hi,kY (aM _)]at this
    simpa using this
   have ih:=@SC n l ay fun i j h3 h4=>by
    have:=h2 i j h3 (by omega)
    rw[iM h4,iM (by omega)]at this
    exact this
   have he:pq (l++[n]) n=pq l n:=by
    unfold pq
    apply List.filter_congr
    intro k hk
    have hk:=u9.1 hk
    have DQ:k≠n:=by omega
    simp[DQ]
   rw[hs,he,ue]
   simp
   omega
  ·have hb:∀i,i<ps.length->ps[i]?.getD 0<n:=fun i hi=>by
    have:=h1 i hi
    have h3:ps[i]?.getD 0≠n:=fun hc=>by
     rw[cy hi]at hc
     simp only[fX]at hc
     exact hm (hc▸List.getElem_mem hi)
    omega
   have ih:=@SC n ps hb h2
   rw[hs]
   simp[hm]
   omega
def yg.idx{n:Nat}{ps:List Nat}(h:yg m d ps n)(hi:i<d):ps.idxOf (ps[i]?.getD 0)=i:=by
 have hl:=h.len
 have hm:ps[i]?.getD 0∈ps:=by
  rw[cy (by omega)]
  exact List.getElem_mem _
 have hj:=List.idxOf_lt_length_iff.2 hm
 have hg:=List.getElem_idxOf hj
 by_cases e:ps.idxOf (ps[i]?.getD 0)=i
 ·exact e
 ·exfalso
  rcases Nat.lt_or_gt_of_ne e with h1|h1
  ·have:=h.yQ _ _ h1 hi
   rw[cy hj,hg]at this
   simp at this
  ·have:=h.yQ _ _ h1 (by omega)
   rw[cy hj,hg]at this
   simp at this
variable {K i k n:Nat} {m:List (List Rat)} {ps:List Nat}
def oT(m:List (List Rat))(ps:List Nat)(n k:Nat)(p:Nat->Bool):List Rat:=(List.range n).map fun j=>if j=k then 1 else if p j=true then -az m (ps.idxOf j) k else 0
def IL{p:Nat->Bool}:(oT m ps n k p).length=n:=by simp[oT]
def Ypu:oT m ps n k (fun j=>decide (j∈ps))=ye m ps n k:=by
 unfold oT ye
 apply zA
 intro j _
 by_cases e:j=k
 ·rw[av e,av e]
 ·rw[ak e,ak e]
  by_cases h:j∈ps<;>simp[h]
def Zty{p q:Nat->Bool}(h:∀j,j<n->p j=q j):oT m ps n k p=oT m ps n k q:=by
 unfold oT
 apply zA
 intro j hj
 rw[h j (u9.1 hj)]
def Ypt{a:Nat}{p q:Nat->Bool}(ha:a<n)(hk:a≠k)(h:∀j,j<n->q j=(p j||decide (j=a))):oT m ps n k q=(oT m ps n k p).set a (-az m (ps.idxOf a) k):=by
 apply lA
 intro j
 by_cases hj:j<n
 ·by_cases e:j=a
  ·subst e
   rw[gG (by rw[IL];exact hj)]
   unfold oT
   simp[hj,hk,h j hj]
  ·rw[d_ (Ne.symm e)]
   unfold oT
   simp[hj,h j hj,e]
 ·rw[eJ (by rw[IL];omega),eJ (by rw[wM,IL];omega)]
def Zr3{t p:Nat}(h:ps[t]?=some p){j:Nat}:decide (j∈ps.take (t+1))=(decide (j∈ps.take t)||decide (j=p)):=by
 rw[uJ,h]
 simp
def Ydv(h:i<(aD m n).2.1):(aU m n)[i]?=(aD m n).1[i]?:=by
 unfold aU
 rw[iz,av h]
def Ydw{j:Nat}(h:i<(aD m n).2.1):az (aU m n) i j=az (aD m n).1 i j:=by
 unfold az
 rw[Ydv h]
def uV{c:Nat}(h:bg m c):bg (aU m n) c:=fun r hr=>(@mB m c h n).1 r (wW hr)
def Yl8(h:cB m K)(hK:1<=K):cB (aU m n) (kB K (aD m n).2.1):=fun r hr=>(@PD m K h hK n) r (wW hr)
def Yog:aU [] n=[]:=by
 have h:(aD [] n).1.length=0:=yG
 unfold aU
 rw[List.length_eq_zero_iff.1 h,List.take_nil]
def yM(l:List Rat):Nat->Nat->Nat
 |k,0=>k
 |k,n+1=>if l[k]?.getD 0≠0 then k else yM l (k+1) n
def Ymw{l:List Rat}{p:Nat}:∀{n k:Nat},k<=p->p<k+n->l[p]?.getD 0≠0->(∀j,k<=j->j<p->l[j]?.getD 0=0)->yM l k n=p
 |0,k,h1,h2,_,_=>by omega
 |n+1,k,h1,h2,h3,h4=>by
  unfold yM
  by_cases e:k=p
  ·subst e;rw[av h3]
  ·rw[ak (fun hc=>hc (h4 k (aM _) (by omega)))]
   exact Ymw (by omega) (by omega) h3 fun j a b=>h4 j (by omega) b
def Ydu{c:Nat}{row:List Rat}(hc:bg m c)(hi:(aU m c)[i]?=some row):∃p,(aD m c).2.2[i]?=some p/\p<c/\yM row 0 row.length=p/\(aD m c).2.2.idxOf p=i:=by
 have I:=@nU m c hc c
 have BI:i<(aD m c).2.1:=by have:=iY hi;rw[wN hc]at this;exact this
 rw[Ydv BI]at hi
 obtain⟨p,hp⟩:=bk (l:=(aD m c).2.2) (k:=i) (by rw[I.len];exact BI)
 have hx:=I.idx BI
 have hl:=I.lt i BI
 have ho:=I.one i i BI (by have:=I.le;omega)
 have hz:=fun k=>I.lead i k BI
 rw[hp]at hx hl ho hz
 simp only[fX,if_true]at hx hl ho hz
 unfold az at ho hz
 rw[hi]at ho hz
 simp only[fX]at ho hz
 have hr:=(@mB m c hc c).1 row (cG hi)
 refine⟨p,hp,hl,Ymw (tX _) (by omega) (by rw[ho];decide) fun j _ hj=>hz j hj,hx⟩
def Yf0:pq ps (k+1)=pq ps k++if ps.contains k=true then [] else [k]:=by
 unfold pq
 rw[List.range_succ,List.filter_append]
 congr 1
 rw[List.filter_cons]
 cases hc:ps.contains k<;>rfl
def DR:bg (l9 m n) n:=fun r hr=>by
 unfold l9 at hr
 obtain⟨k,_,rfl⟩:=dt.1 hr
 simp[ye]
def Vv(hc:bg m n):(l9 m n).length+(aD m n).2.1=n:=by
 have I:=@nU m n hc n
 have:=@SC n (aD m n).2.2 (fun i hi=>I.lt i (by rw[<-I.len];exact hi)) (fun i j h1 h2=>I.yQ i j h1 (by rw[<-I.len];exact h2))
 rw[I.len]at this
 unfold l9
 rw[dL]
 exact this
def Ymb{q:Rat}(h:Qb K q):Qb K (-q):=⟨by rw[Rat.neg_num,xY];exact h.1,by rw[Rat.neg_den];exact h.2⟩
def Ytb(h:cB m K)(hK:1<=K):cB (l9 m n) (kB K (aD m n).2.1):=fun r hr q hq=>by
 have hB:1<=kB K (aD m n).2.1:=Iz hK
 have h2:(1:Nat)<2^kB K (aD m n).2.1:=Nat.one_lt_two_pow (by omega)
 unfold l9 at hr
 obtain⟨k,_,rfl⟩:=dt.1 hr
 unfold ye at hq
 obtain⟨j,_,rfl⟩:=dt.1 hq
 split
 ·exact⟨h2,h2⟩
 ·split
  ·unfold az
   exact Ymb (yi (fun q hq=>(Yl8 h hK).at q hq) hB k)
  ·exact⟨by show 0<_;omega,h2⟩
def Yp0:bg (bp m n) n:=uV DR
def Ypz(hc:bg m n)(hn:n<=6):(∀t,t<(l9 m n).length->t<n->3*kB (kB 96 (aD m n).2.1) t<=400000000):=fun t h1 h2=>by
 have:=Vv hc
 rw[Ymp]
 exact Ytg (by omega)
def Yoh(hm:m.length<=6)(hc:bg m n)(h:cB m 96):cB (aU m n) 400000000:=by
 refine(Yl8 (n:=n) h (by decide)).mono ?_
 have:=(@mB m n hc n).2
 exact Ytf (by omega)
variable {N R:Nat} {h:T O} {l:List Rat}
noncomputable def A.w43:=A.q Tryz.f43
noncomputable def A.wm:=A.ql A.w43 0 []
noncomputable def A.b43:=(fun x0=>A.qb A.w43 [x0]) A.wm
def A.k43:=@A.kk 43 18 [.tmp 2] A.b43 (by kernel_rfl) rfl
structure xQ (h:T O) (N R:Nat) (l:List Rat) (m:Nat):Prop where
 lt:R<N
 ex:∃cs:List (List V),h.get R=some (.cells (cs.flatten++cU zF m) 89 true)/\cs.length=l.length/\∀(j:Nat) (q:Rat),l[j]?=some q->∃c,cs[j]?=some c/\fE h N c q
def xQ.ae{h':T O}{N' m:Nat}(s:xQ h N R l m)(k:ab h N h' N'):xQ h' N' R l m:=by
 obtain⟨cs,g1,g2,g3⟩:=s.ex
 refine⟨eX s.lt k.le,cs,(k.get R s.lt).trans g1,g2,fun j q hq=>?_⟩
 obtain⟨c,a,b⟩:=g3 j q hq
 exact⟨c,a,b.ae k⟩
def xQ.fcs{cs:List (List V)}(g2:cs.length=l.length)(g3:∀(j:Nat) (q:Rat),l[j]?=some q->∃c,cs[j]?=some c/\fE h N c q):(∀c∈cs,c.length=4)/\tP cs.flatten/\cs.flatten.all V.one=true:=NC (l:=l) (by omega) fun j q _ hq=>g3 j q hq
def xQ.next{m:Nat}{c:List V}{q:Rat}(s:xQ h N R l (m+1))(hc:fE h N c q):∃X,h.get R=some (.cells X 89 true)/\l.length*4+4<=X.length/\xQ (h.set R (.cells (ad X (l.length*4) c) 89 true)) N R (l++[q]) m:=by
 obtain⟨cs,g1,g2,g3⟩:=s.ex
 obtain⟨f1,f2,_⟩:=xQ.fcs g2 g3
 have ky:=zK f1
 obtain⟨e1,_⟩:=hc.len
 have f_:ad (cs.flatten++cU zF (m+1)) (l.length*4) c=(cs++[c]).flatten++cU zF m:=by
  rw[Fh,RY (n:=4) (by rw[ky,g2]) rfl e1,J6,td]
 have Fi:tP (cs.flatten++cU zF (m+1)):=f2.app RZ
 have yf:((cs++[c]).flatten++cU zF m).length=(cs.flatten++cU zF (m+1)).length:=by
  rw[Fh,J6];simp[e1,zF];omega
 refine⟨_,g1,by rw[iI,ky,g2,ZH];omega,s.lt,cs++[c],by rw[T.ag,av rfl,f_],by simp[g2],fun j r hr=>?_⟩
 rw[f_]
 by_cases e:j<l.length
 ·rw[iM e]at hr
  obtain⟨x,a,b⟩:=g3 j r hr
  exact⟨x,by rw[iM (by omega)];exact a,b.aK g1 Fi yf⟩
 ·have hj:j=l.length:=by have:=iY hr;simp at this;omega
  subst hj
  rw[kY (aM _)]at hr
  simp at hr
  subst hr
  exact⟨c,by rw[kY (by omega),g2];simp,hc.aK g1 Fi yf⟩
def xQ.Vk(s:xQ h N R l 0):fl h N (.slice R 0 l.length (some l.length) 4) l:=by
 obtain⟨cs,g1,g2,g3⟩:=s.ex
 obtain⟨f1,f2,_⟩:=xQ.fcs g2 g3
 have hz:cU zF 0=[]:=by simp[cU]
 rw[hz,wU]at g1
 refine⟨⟨cs,.inr ⟨R,0,some l.length,cs.flatten,_,true,by rw[g2],s.lt,g1,fun j x hj=>by rw[xg];exact MF f1 hj,by rw[zK f1];omega,fun k hk=>by simp at hk;omega⟩,g2,g3⟩,fun i hi=>?_⟩
 simp[dh]at hi
 subst hi
 exact⟨_,_,g1⟩
def Yht{n:Nat}(hn:n<1000):Fn A.C 43 [.int .i64 n] h N (fun x h' n'=>x=.slice N 0 n (some n) 4/\xQ h' n' N ((List.range n).map fun _=>0) 0):=by
 intro w
 have c1:(64:Int)*(n:Int)<=140737488355328:=by omega
 have c2:(n:Int)<4611686018427387904:=by omega
 have kB:ab h N (h.set N (.cells (cU zF n) 89 true)) (N+1):=ab.refl.new _
 have gB:(h.set N (.cells (cU zF n) 89 true)).get N=some (.cells (cU zF n) 89 true):=by rw[T.ag,av rfl]
 rw[aR,A.k43 (by simp)]
 simp[A.b43,c1,c2]
 refine bL [(4,4),(9,16)] (fun e r st=>e=.exit 0/\ax N st.w=[]/\ab h N st.h st.n/\xQ st.h st.n N ((List.range n).map fun _=>0) 0) (fun i r st=>ax N st.w=[]/\ab h N st.h st.n/\∃t,t+i=n/\r.get 9=some (.int .i64 t)/\xQ st.h st.n N ((List.range t).map fun _=>0) i) n ?_ ?_ ?_
 ·exact⟨by simp,kB,0,by omega,by simp,by show N<N+1;omega,[],by simp;rfl,rfl,fun j q hq=>by simp at hq⟩
 ·rintro i r ⟨H,n1,W⟩ hr hf ⟨hW,hK,t,ht,h9,hQ⟩
  simp only at hW hK hQ
  rw[bl]
  cases i with
  |zero=>
   obtain rfl:t=n:=by omega
   simp[A.wm,hr,hf,h9,hW,hK]
   exact hQ
  |succ i=>
   have ay:t<n:=by omega
   have bb:(t:Int)<(n:Int):=by omega
   simp[A.wm,hr,hf,h9,ay,bb]
   refine aA (Ytr (by decide) (by decide)) ?_
   rintro _ H2 n2 k2 hz
   obtain⟨c,rfl,hc⟩:=hz.c
   obtain⟨e1,e2⟩:=hc.len
   have kX:=k2.le
   have mA:(V.agg c).cells=c:=rfl
   obtain⟨X,x1,x2,x3⟩:=(hQ.ae k2).next hc
   have lN:N<n2:=eX hQ.lt kX
   have hl:((List.range t).map fun _=>(0:Rat)).length=t:=by simp
   rw[hl]at x2 x3
   simp(disch:=first|(simp;done)|omega|rfl) [-V.cells, -V.one,hr,hf,h9,ay,bb,bC,mA,e1,e2,x1,x2,lN]
   exact⟨i,by omega,hW,(hK.trans k2).set (aM _),t+1,by omega,by simp,by rw[List.range_succ,List.map_append];exact x3⟩
 ·rintro _ r ⟨H,n1,W⟩ hr ⟨rfl,hW,hK,hQ⟩
  simp only at hW hK hQ
  simp[hr,aE,hW,hK]
  exact hQ
set_option maxHeartbeats 2000000
def Yj1{m:List (List Rat)}{ps:List Nat}{n k:Nat}(hk:k<n):((List.range n).map fun _=>(0:Rat)).set k (((1:Int):Rat))=oT m ps n k fun _=>false:=by
 apply lA
 intro j
 by_cases hj:j<n
 ·by_cases e:j=k
  ·subst e
   rw[gG (by simp;exact hj)]
   unfold oT
   simp[hj]
  ·rw[d_ (Ne.symm e)]
   unfold oT
   simp[hj,e]
 ·rw[eJ (by simp;omega),eJ (by rw[IL];omega)]
def Zvh{h:T O}{N:Nat}{v:V}{m:List (List Rat)}(s:lZ h N v m){i:Nat}{row:List Rat}(hr:m[i]?=some row):∃j o c e rw u,yd v=some (j,o)/\j<N/\h.get j=some (.cells c e rw)/\c[o+i]?=some u/\fl h N u row:=by
 obtain⟨us,h1,h2,h3⟩:=s
 obtain⟨u,a,b⟩:=h3 i row hr
 obtain⟨j,o,c,e,rw,q1,q2,q3,q4⟩:=h1.at a
 exact⟨j,o,c,e,rw,u,q1,q2,q3,q4,b⟩
variable {d i k n:Nat} {m:List (List Rat)} {r:List Rat}
def Ygf{c x y z:List Rat}{f:Rat}:∀{n:Nat},(∀k,k<n->z[k]?.getD 0=x[k]?.getD 0-f*y[k]?.getD 0)->jT c z n=jT c x n-f*jT c y n
 |0,_=>by simp[jT];grind
 |n+1,h=>by
  have ih:=Ygf (c:=c) (n:=n) fun k hk=>h k (by omega)
  have e:=h n (by omega)
  unfold jT
  rw[ih,e]
  grind
def Ygg{c x z:List Rat}{p:Rat}:∀{n:Nat},(∀k,k<n->z[k]?.getD 0=x[k]?.getD 0/p)->jT c z n=jT c x n/p
 |0,_=>by simp[jT,Rat.div_def,Rat.zero_mul]
 |n+1,h=>by
  have ih:=Ygg (c:=c) (n:=n) fun k hk=>h k (by omega)
  have e:=h n (by omega)
  unfold jT
  rw[ih,e,Rat.div_def,Rat.div_def,Rat.div_def]
  grind
def lP(n:Nat)(C:List (List Rat))(r:List Rat):List Rat:=r.take n++C.map fun c=>de c (r.drop n)
def Ke{C:List (List Rat)}(h:n<=r.length):(lP n C r).length=n+C.length:=by
 simp[lP]
 omega
def SD{C:List (List Rat)}(h:n<=r.length)(hi:i<n):(lP n C r)[i]?=r[i]?:=by
 unfold lP
 rw[iM (by rw[gD];omega),iz,av hi]
def Yuf{j:Nat}{C:List (List Rat)}(h:n<=r.length):(lP n C r)[n+j]?=(C[j]?).map fun c=>de c (r.drop n):=by
 unfold lP
 rw[kY (by rw[gD];omega),gD,pV h,Nat.add_sub_cancel_left,eY]
def O5:(r.drop n)[k]?.getD 0=r[n+k]?.getD 0:=by rw[ff]
def Zr5{r:List Rat}{p:Rat}{k:Nat}:(r.map fun x=>x/p)[k]?.getD 0=r[k]?.getD 0/p:=by
 rw[eY]
 cases r[k]? with
 |none=>simp[Rat.div_def,Rat.zero_mul]
 |some q=>rfl
def Zri{p:List Rat}{j:Nat}(h:r.length=p.length):(pj r p k)[j]?.getD 0=r[j]?.getD 0-r[k]?.getD 0*p[j]?.getD 0:=by
 by_cases hj:j<r.length
 ·unfold pj
  rw[I4 hj]
  rfl
 ·rw[eJ (by rw[O4];omega),eJ (l:=r) (by omega),eJ (l:=p) (by omega)]
  show (0:Rat)=0-r[k]?.getD 0*0
  rw[Rat.mul_zero,Rat.sub_self]
def I3{a b:List Rat}(h:a.length=b.length)(hg:∀i,i<a.length->a[i]?.getD 0=b[i]?.getD 0):a=b:=by
 apply List.ext_getElem h
 intro i h1 h2
 have:=hg i h1
 rw[cy h1,cy h2]at this
 exact this
def O6{C:List (List Rat)}(h:n<=r.length):(lP n C r)[i]?.getD 0=if i<n then r[i]?.getD 0 else ((C[i-n]?).map fun c=>de c (r.drop n)).getD 0:=by
 by_cases hi:i<n
 ·rw[av hi,SD h hi]
 ·rw[ak hi]
  have:=Yuf (C:=C) (j:=i-n) h
  rw[show n+(i-n)=i by omega]at this
  rw[this]
def Yrb{C:List (List Rat)}{p:Rat}(h:n<=r.length):lP n C (r.map fun x=>x/p)=(lP n C r).map fun x=>x/p:=by
 have h':n<=(r.map fun x=>x/p).length:=by rw[dL];exact h
 apply I3 (by rw[Ke h',dL,Ke h])
 intro i _
 rw[O6 h',Zr5,Zr5,O6 h]
 by_cases hi:i<n
 ·rw[av hi,av hi]
 ·rw[ak hi,ak hi]
  cases C[i-n]? with
  |none=>simp[Rat.div_def,Rat.zero_mul]
  |some c=>exact Ygg fun k _=>by rw[O5,Zr5,O5]
def Yra{C:List (List Rat)}{p:List Rat}(h:n<=r.length)(hp:r.length=p.length)(hk:k<n):lP n C (pj r p k)=pj (lP n C r) (lP n C p) k:=by
 have h':n<=(pj r p k).length:=by rw[O4];exact h
 have B5:n<=p.length:=by omega
 apply I3 (by rw[Ke h',O4,Ke h])
 intro i _
 rw[O6 h',Zri hp,Zri (r:=lP n C r) (by rw[Ke h,Ke B5]),O6 h,O6 B5,SD h hk]
 by_cases hi:i<n
 ·rw[av hi,av hi,av hi]
 ·rw[ak hi,ak hi,ak hi]
  cases C[i-n]? with
  |none=>simp[Rat.mul_zero,Rat.sub_self]
  |some c=>exact Ygf fun j _=>by rw[O5,Zri hp,O5,O5]
def Kg{F:List Rat->List Rat}(h:i<m.length):((m.map F)[i]?).getD []=F (m[i]?.getD []):=by
 rw[eY,cy h]
 rfl
def Ymc{m:List (List Rat)}{n k L:Nat}{C:List (List Rat)}(hc:bg m L)(hn:n<=L)(hk:k<n):∀{t d:Nat},d+t<=m.length->nN (m.map (lP n C)) k d t=nN m k d t
 |0,d,_=>rfl
 |t+1,d,h=>by
  have hl:=hc.at (i:=d) (by omega)
  unfold nN
  rw[Kg (by omega),SD (by omega) hk,Ymc hc hn hk (by omega)]
def Ynp{F:List Rat->List Rat}{p:Nat}(hd:d<m.length)(hp:p<m.length):bP (m.map F) d p=(bP m d p).map F:=by
 unfold bP
 rw[Kg hd,Kg hp,List.map_set,List.map_set]
def Yn4{L:Nat}{C:List (List Rat)}(hc:bg m L)(hn:n<=L)(hk:k<n)(hd:d<m.length):eZ (m.map (lP n C)) d k=(eZ m d k).map (lP n C):=by
 have hl:=hc.at hd
 unfold eZ
 rw[Kg hd,List.map_set,SD (by omega) hk,Yrb (by omega)]
def Yql{t L:Nat}{C:List (List Rat)}(hc:bg m L)(hn:n<=L)(hk:k<n)(hd:d<m.length):b_ (m.map (lP n C)) d k t=(b_ m d k t).map (lP n C):=by
 have hl:=hc.at hd
 unfold b_
 rw[dL,List.map_map]
 apply zA
 intro i hi
 have hi:=u9.1 hi
 have QG:=hc.at hi
 simp only[Function.comp]
 rw[Kg hi,Kg hd]
 split
 ·rw[Yra (by omega) (by omega) hk]
 ·rfl
def Ynv{s:List (List Rat)×Nat×List Nat}{L:Nat}{C:List (List Rat)}(hc:bg s.1 L)(hn:n<=L)(hk:k<n)(hd:s.2.1<=s.1.length):fT (s.1.map (lP n C),s.2.1,s.2.2) k=((fT s k).1.map (lP n C),(fT s k).2.1,(fT s k).2.2):=by
 obtain⟨m,d,ps⟩:=s
 simp only at hc hd
 have e:dJ (m.map (lP n C)) d k=dJ m d k:=by
  unfold dJ
  rw[dL]
  exact Ymc hc hn hk (by omega)
 have hle:=(B4 (m:=m) (k:=k) (n:=m.length-d) (d:=d)).1
 unfold fT
 simp only
 rw[e,dL]
 by_cases hp:dJ m d k<m.length
 ·have dp:d<m.length:=by unfold dJ at hp;omega
  rw[av hp,av hp]
  have c1:=hc.zC dp hp
  have c2:=c1.FF (d:=d) (k:=k) (by rw[mD];exact dp)
  rw[Ynp dp hp,Yn4 c1 hn hk (by rw[mD];exact dp),Yql c2 hn hk (by rw[zD,mD];exact dp)]
 ·rw[ak hp,ak hp]
def Zws{m:List (List Rat)}{n L:Nat}{C:List (List Rat)}(hc:bg m L)(hn:n<=L):∀{k:Nat},k<=n->aD (m.map (lP n C)) k=((aD m k).1.map (lP n C),(aD m k).2.1,(aD m k).2.2)
 |0,_=>rfl
 |k+1,h=>by
  have I:=mB hc (n:=k)
  have hl:=yG (m:=m) (n:=k)
  rw[ta,ta,Zws hc hn (by omega)]
  exact Ynv I.1 hn (by omega) (by rw[hl];exact I.2)
variable {G X m:List (List Rat)} {i n:Nat}
def cH(G X:List (List Rat)):List (List Rat):=(List.range G.length).map fun i=>G[i]?.getD []++X[i]?.getD []
def yO(n i:Nat):List Rat:=(List.range n).map fun j=>if j=i then 1 else 0
def fJ(n:Nat):List (List Rat):=(List.range n).map (yO n)
def eW(a C:List (List Rat)):List (List Rat):=a.map fun r=>C.map fun c=>de c r
def pr(G:List (List Rat))(n:Nat):Option (List (List Rat)):=if (aD (cH G (fJ n)) (n+n)).2.1=n/\∀i,i<n->(aD (cH G (fJ n)) (n+n)).2.2[i]?.getD 0=i then some ((aU (cH G (fJ n)) (n+n)).map (List.drop n)) else none
def pQ(G X:List (List Rat))(n c:Nat):Option (List (List Rat)):=if (aD (cH G X) (n+c)).2.1<n\/(aD (cH G X) (n+c)).2.2[n-1]?.getD 0≠n-1 then none else some ((aU (cH G X) (n+c)).map (List.drop n))
def sL:(cH G X).length=G.length:=by simp[cH]
def uY{c:Nat}(hG:bg G n)(hX:bg X c)(hl:G.length<=X.length):bg (cH G X) (n+c):=fun r hr=>by
 obtain⟨i,hi,rfl⟩:=dt.1 hr
 have hi:=u9.1 hi
 rw[iI,hG.at hi,hX.at (by omega)]
def Ycm:(yO n i).length=n:=by simp[yO]
def Ynj{j:Nat}(h:j<n):(yO n i)[j]?.getD 0=if j=i then 1 else 0:=by simp[yO,h]
def IP:(fJ n).length=n:=by simp[fJ]
def Ytj(h:i<n):(fJ n)[i]?.getD []=yO n i:=by simp[fJ,h]
def IN:bg (fJ n) n:=fun r hr=>by
 obtain⟨i,_,rfl⟩:=dt.1 hr
 exact Ycm
def Ygd{a:List Rat}{n i:Nat}:∀{m:Nat},m<=n->jT a (yO n i) m=if i<m then a[i]?.getD 0 else 0
 |0,_=>by simp[jT]
 |m+1,h=>by
  unfold jT
  rw[Ygd (a:=a) (i:=i) (m:=m) (by omega),Ynj (by omega)]
  by_cases e:m=i
  ·subst e
   simp[Rat.mul_one,Rat.zero_add]
  ·rw[ak e,Rat.mul_zero,Rat.add_zero]
   by_cases e2:i<m
   ·rw[av e2,av (by omega)]
   ·rw[ak e2,ak (by omega)]
def Zxg{c:Nat}(hG:bg G n)(hl:G.length=n)(hX:bg X c)(hx:X.length=n):cH G X=(cH G (fJ n)).map (lP n (eI X c)):=by
 unfold cH
 rw[List.map_map]
 apply zA
 intro i hi
 have hi:=u9.1 hi
 have l1:=hG.at hi
 simp only[Function.comp]
 rw[Ytj (by omega)]
 unfold lP
 rw[List.take_left' l1,List.drop_left' l1]
 congr 1
 have l2:=hX.at (i:=i) (by omega)
 apply I3 (by rw[l2];simp[eI])
 intro j hj
 rw[l2]at hj
 unfold eI
 rw[List.map_map,eY,DT hj]
 simp only[pL,fX,Function.comp]
 unfold de
 have l3:(kf X j).length=n:=by simp[kf,hx]
 rw[l3,Ygd (aM _),av (by omega)]
 unfold kf
 rw[eY]
 cases X[i]?<;>simp
def Yga{m:List (List Rat)}{k:Nat}:∀{e:Nat},∃l:List Nat,(aD m (k+e)).2.2=(aD m k).2.2++l/\∀x∈l,k<=x
 |0=>⟨[],by simp,fun x hx=>by simp at hx⟩
 |e+1=>by
  obtain⟨l,h1,h2⟩:=Yga (m:=m) (k:=k) (e:=e)
  rw[<-oW,ta]
  unfold fT
  split
  ·refine⟨l++[k+e],by simp[h1],fun x hx=>?_⟩
   rcases mE.1 hx with hx|hx
   ·exact h2 x hx
   ·simp at hx
    omega
  ·exact⟨l,h1,h2⟩
def PS{d:Nat}{ps:List Nat}(h:yg m d ps d){i:Nat}(hi:i<d):ps[i]?.getD 0=i:=by
 have up:∀j,j<d->j<=ps[j]?.getD 0:=fun j=>by
  induction j with
  |zero=>intro _;omega
  |succ j ih=>
   intro hj
   have:=h.yQ j (j+1) (by omega) hj
   have:=ih (by omega)
   omega
 have dn:∀j,j<d->ps[d-1-j]?.getD 0+j<d:=fun j=>by
  induction j with
  |zero=>intro h0;exact h.lt (d-1) (by omega)
  |succ j ih=>
   intro hj
   have h1:=h.yQ (d-1-(j+1)) (d-1-j) (by omega) (by omega)
   have:=ih (by omega)
   omega
 have h1:=up i hi
 have h2:=dn (d-1-i) (by omega)
 rw[show d-1-(d-1-i)=i by omega]at h2
 omega
def Zyn{L e:Nat}(hm:bg m L)(h0:0<n)(ht:(aD m n).2.1<n)(hd:(aD m (n+e)).2.1=n):n<=(aD m (n+e)).2.2[n-1]?.getD 0:=by
 obtain⟨l,q1,q2⟩:=Yga (m:=m) (k:=n) (e:=e)
 have J:=(nU hm (n:=n)).len
 have J2:=(nU hm (n:=n+e)).len
 rw[hd,q1,iI]at J2
 rw[q1,kY (by omega)]
 have ay:n-1-(aD m n).2.2.length<l.length:=by omega
 rw[cy ay]
 exact q2 _ (List.getElem_mem ay)
def Ysf{c:Nat}(hG:bg G n)(hl:G.length=n)(h0:0<n)(hX:bg X c)(hx:X.length=n):pQ G X n c=(pr G n).map fun H=>eW H (eI X c):=by
 have hW:=uY hG (IN (n:=n)) (by rw[IP,hl];exact aM _)
 have lW:(cH G (fJ n)).length=n:=by rw[sL,hl]
 have I:=nU hW (n:=n)
 have hle:=(mB hW (n:=n)).2
 have hwx:=Zxg hG hl hX hx
 have hE:=Zws (C:=eI X c) hW (Nat.le_add_right n n) (aM n)
 rw[<-hwx]at hE
 have lX:(cH G X).length=n:=by rw[sL,hl]
 unfold pQ pr aU
 by_cases f:(aD (cH G (fJ n)) n).2.1=n
 ·have e1:=Ku (f.trans lW.symm) (n:=n)
  have e2:aD (cH G X) (n+c)=aD (cH G X) n:=Ku (by rw[hE,lX];exact f)
  rw[e1,e2,hE]
  simp only
  rw[f]at I
  rw[ak (by rw[f,PS I (by omega)];omega),av ⟨f,fun i hi=>PS I hi⟩,pL,f]
  congr 1
  unfold eW
  rw[List.map_map,<-List.map_take,List.map_map]
  apply zA
  intro r hr
  have lr:=(mB hW (n:=n)).1 r (wW hr)
  simp only[Function.comp]
  unfold lP
  exact List.drop_left' (by rw[gD];omega)
 ·have ht:(aD (cH G (fJ n)) n).2.1<n:=by omega
  have xG:(aD (cH G X) n).2.1<n:=by rw[hE];exact ht
  have hWX:=uY hG hX (by omega)
  rw[av,ak]
  ·rfl
  ·rintro⟨a,b⟩
   have:=Zyn hW h0 ht a
   rw[b (n-1) (by omega)]at this
   omega
  ·by_cases d:(aD (cH G X) (n+c)).2.1<n
   ·exact .inl d
   ·have h5:=(mB hWX (n:=n+c)).2
    have:=Zyn hWX h0 xG (e:=c) (by omega)
    exact .inr (by omega)
end Go.Mx
