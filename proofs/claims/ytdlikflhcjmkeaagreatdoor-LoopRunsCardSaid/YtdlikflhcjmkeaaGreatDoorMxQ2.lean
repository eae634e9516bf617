/-Numbers as strings-/
import Derived.Test.YtdlikflhcjmkeaaGreatDoorRbC
set_option linter.all false
namespace Go.Mx
noncomputable section
open Go
variable {s:Str}
def Zia:∀{s t:Str},(∀c∈s,c.toNat≠47)→slashAt (s++47::t)=s.length
 |[],t,_=>rfl
 |c::s,t,h=>by
  have h1:=h c Yq8
  have:=Zia (s:=s) (t:=t) fun d hd=>h d (Yq6 _ hd)
  simp[slashAt,h1,this]
def Zgr:∀{s:Str},(∀c∈s,c.toNat≠47)→slashAt s=s.length
 |[],_=>rfl
 |c::s,h=>by
  have h1:=h c Yq8
  have:=Zgr (s:=s) fun d hd=>h d (Yq6 _ hd)
  simp[slashAt,h1,this]
def Zl2:∀{s:Str},slashAt s<s.length→s.drop (slashAt s)=47::s.drop (slashAt s+1)
 |[],h=>by simp[slashAt]at h
 |c::s,h=>by
  by_cases hc:c.toNat=47
  ·have:c=47:=UInt8.toNat_inj.1 hc
   subst this
   simp[slashAt]
  ·simp only[slashAt,hc,if_false,Yqd]at h ⊢
   have:=Zl2 (s:=s) (by omega)
   simpa using this
def Zpp(h:Zb8 s=true):∀c∈s,c.toNat≠47:=by
 intro c hc
 unfold Zb8 at h
 rw[Yrs]at h
 have:=h c hc
 unfold Zj8 at this
 simp only[decide_eq_true_eq]at this
 omega
def Yb3(z:Int):∀c∈decI z,c.toNat≠47:=by
 unfold decI
 split
 ·intro c hc
  rcases Yrd.1 hc with rfl|hc
  ·decide
  ·exact Zpp (Zcz _) c hc
 ·exact Zpp (Zcz _)
def Zz6(n:Nat):negS (decN n)=false:=by
 obtain⟨c,t,e,h1,h2⟩:=Zoe (n:=n)
 rw[e]
 simp[negS];omega
def Zgy(z:Int):negS (decI z)=decide (z<0):=by
 unfold decI
 split
 ·rename_i h;simp[negS,h]
 ·rename_i h;rw[Zz6];simp[h]
def Zet(z:Int):Zar (decI z)=decN z.natAbs:=by
 unfold Zar
 rw[Zgy]
 by_cases h:z<0
 ·simp[h,decI]
 ·simp[h,decI]
def Zdu(q:Rat):slashAt (Zaq q)=(decI q.num).length:=by
 unfold Zaq
 split
 ·exact Zgr (Yb3 _)
 ·exact Zia (Yb3 _)
def Zi6(q:Rat):(Zaq q).take (slashAt (Zaq q))=decI q.num:=by
 rw[Zdu]
 unfold Zaq
 split
 ·simp
 ·simp
def Zi8(q:Rat)(h:q.den≠1):(Zaq q).drop (slashAt (Zaq q)+1)=decN q.den:=by
 rw[Zdu]
 unfold Zaq
 rw[Yqe h,←List.drop_drop]
 simp
def Zi7(q:Rat):slashAt (Zaq q)<(Zaq q).length↔q.den≠1:=by
 rw[Zdu]
 unfold Zaq
 split
 ·rename_i h;simp[h]
 ·rename_i h;simp[h]
def Yfg{a b:Int}(h:decI a=decI b):a=b:=by
 have h1:=congrArg negS h
 have h2:=congrArg Zar h
 rw[Zgy,Zgy,decide_eq_decide]at h1
 rw[Zet,Zet]at h2
 have h3:=Zvf h2
 omega
def Yc7{a b:Rat}(h:Zaq a=Zaq b):a=b:=by
 have h1:=Zi6 a
 rw[h,Zi6 b]at h1
 have h2:=Yfg h1
 have h3:a.den=b.den:=by
  by_cases ha:a.den=1
  ·have:=mt (Zi7 a).1 (fun hc=>hc ha)
   rw[h]at this
   rw[Zi7]at this
   rw[ha];exact(Decidable.not_not.1 this).symm
  ·have:=(Zi7 a).2 ha
   rw[h]at this
   have hb:=(Zi7 b).1 this
   have e:=Zi8 a ha
   rw[h,Zi8 b hb]at e
   exact(Zvf e).symm
 exact Rat.ext h2.symm h3
def ratS(s:Str):Rat:=mkRat (if negS s then -(numV ((Zar s).take (slashAt (Zar s))):Int) else numV ((Zar s).take (slashAt (Zar s)))) (if slashAt (Zar s)<(Zar s).length then numV ((Zar s).drop (slashAt (Zar s)+1)) else 1)
def Yfm(h:chkNum s=0):Zcb (negS s) ((Zar s).take (slashAt (Zar s))) (decide (slashAt (Zar s)<(Zar s).length)) ((Zar s).drop (slashAt (Zar s)+1))=true∧((Zar s).take (slashAt (Zar s))).length≤600∧((Zar s).drop (slashAt (Zar s)+1)).length≤600∧(slashAt (Zar s)<(Zar s).length→Nat.gcd (numV ((Zar s).take (slashAt (Zar s)))) (numV ((Zar s).drop (slashAt (Zar s)+1)))=1):=by
 unfold chkNum Ykv Zj9 at h
 split at h
 ·cases h
 ·rename_i h1
  split at h
  ·cases h
  ·rename_i h2
   split at h
   ·cases h
   ·rename_i h3
    refine⟨by simpa using h1,by omega,by omega,fun hs=>?_⟩
    rw[decide_eq_true hs]at h3
    simpa using h3
def Zqs{n:Int}{d:Nat}(hd:d≠0)(h:Nat.gcd n.natAbs d=1):(mkRat n d).num=n∧(mkRat n d).den=d:=by
 have:mkRat n d=⟨n,d,hd,h⟩:=by
  rw[Rat.mkRat_def,dif_neg hd]
  exact Rat.normalize_eq_mk' _ _ hd h
 rw[this]
 exact⟨rfl,rfl⟩
def Zyb(s:Str):s=(if negS s then [45] else [])++Zar s:=by
 cases s with
 |nil=>rfl
 |cons c t=>
  unfold Zar
  by_cases hc:c.toNat=45
  ·have:c=45:=UInt8.toNat_inj.1 hc
   subst this
   simp[negS]
  ·simp[negS,hc]
def Zco(h:chkNum s=0):Zaq (ratS s)=s∧(decN (ratS s).num.natAbs).length≤600∧(decN (ratS s).den).length≤600:=by
 obtain⟨h1,h2,h3,h4⟩:=Yfm h
 have hle:=Zda (Zar s)
 unfold Zcb at h1
 simp only[Yq1,Ytl,Yto,decide_eq_true_eq]at h1
 obtain⟨⟨hp,hz⟩,hd⟩:=h1
 have hpz:negS s=true→numV ((Zar s).take (slashAt (Zar s)))≠0:=by
  intro hn h0
  rw[hn,Bool.true_and,decide_eq_false_iff_not]at hz
  apply hz
  have:=Zcw hp
  rw[h0]at this
  exact this.symm
 have hpl:(decN (numV ((Zar s).take (slashAt (Zar s))))).length≤600:=by
  rw[Zcw hp];exact h2
 have hb:=Zyb s
 by_cases hs:slashAt (Zar s)<(Zar s).length
 ·have hd:Zcu ((Zar s).drop (slashAt (Zar s)+1))=true∧(Zar s).drop (slashAt (Zar s)+1)≠[48]∧(Zar s).drop (slashAt (Zar s)+1)≠[49]:=by
   rcases hd with hd|⟨⟨a,b⟩,c⟩
   ·exact absurd hs (by simpa using hd)
   ·exact⟨a,b,c⟩
  have hg:=h4 hs
  have hd0:numV ((Zar s).drop (slashAt (Zar s)+1))≠0:=by
   intro h0
   have:=Zcw hd.1
   rw[h0]at this
   exact hd.2.1 this.symm
  have hd1:numV ((Zar s).drop (slashAt (Zar s)+1))≠1:=by
   intro h0
   have:=Zcw hd.1
   rw[h0]at this
   exact hd.2.2 (this.symm.trans (by decide+kernel))
  have hdl:(decN (numV ((Zar s).drop (slashAt (Zar s)+1)))).length≤600:=by
   rw[Zcw hd.1];exact h3
  have hv:ratS s=mkRat (if negS s then -(numV ((Zar s).take (slashAt (Zar s))):Int) else numV ((Zar s).take (slashAt (Zar s)))) (numV ((Zar s).drop (slashAt (Zar s)+1))):=by
   unfold ratS;rw[Yqi hs]
  obtain⟨e1,e2⟩:=Zqs (n:=if negS s then -(numV ((Zar s).take (slashAt (Zar s))):Int) else numV ((Zar s).take (slashAt (Zar s)))) hd0 (by split<;>simpa using hg)
  rw[←hv]at e1 e2
  have hbody:Zar s=(Zar s).take (slashAt (Zar s))++47::(Zar s).drop (slashAt (Zar s)+1):=by
   conv=>lhs;rw[←Yr0 (slashAt (Zar s)) (Zar s)]
   rw[Zl2 hs]
  refine⟨?_,?_,by rw[e2];exact hdl⟩
  ·unfold Zaq
   rw[e2,Yqe hd1,Zcw hd.1,e1]
   conv=>rhs;rw[hb,hbody]
   unfold decI
   cases hn:negS s with
   |false=>
    simp only[Yqm,if_false]
    rw[Yqe (by omega),Yqk,Zcw hp];rfl
   |true=>
    have:=hpz hn
    simp only[if_true]
    rw[Yqi (by omega),Ys3,Yqk,Zcw hp];rfl
  ·rw[e1]
   split<;>simpa using hpl
 ·have hv:ratS s=mkRat (if negS s then -(numV ((Zar s).take (slashAt (Zar s))):Int) else numV ((Zar s).take (slashAt (Zar s)))) 1:=by
   unfold ratS;rw[Yqe hs]
  obtain⟨e1,e2⟩:=Zqs (n:=if negS s then -(numV ((Zar s).take (slashAt (Zar s))):Int) else numV ((Zar s).take (slashAt (Zar s)))) (show (1:Nat)≠0 by decide) (Nat.gcd_one_right _)
  rw[←hv]at e1 e2
  have ht:(Zar s).take (slashAt (Zar s))=Zar s:=Yqp (by omega)
  rw[ht]at e1 hp hpz hpl
  refine⟨?_,?_,by rw[e2];decide+kernel⟩
  ·unfold Zaq
   rw[e2,Yqi rfl,e1]
   conv=>rhs;rw[hb]
   unfold decI
   cases hn:negS s with
   |false=>
    simp only[Yqm,if_false]
    rw[Yqe (by omega),Yqk,Zcw hp];rfl
   |true=>
    have:=hpz hn
    simp only[if_true]
    rw[Yqi (by omega),Ys3,Yqk,Zcw hp];rfl
  ·rw[e1]
   split<;>simpa using hpl
def Ycm(q:Rat):Zar (Zaq q)=if q.den=1 then decN q.num.natAbs else decN q.num.natAbs++47::decN q.den:=by
 have hneg:∀t:Str,negS (decI q.num++t)=decide (q.num<0):=by
  intro t
  rw[←Zgy]
  have:decI q.num≠[]:=by
   unfold decI;split
   ·simp
   ·exact Zkn _
  cases h:decI q.num with
  |nil=>exact absurd h this
  |cons c u=>rfl
 have hb:∀t:Str,Zar (decI q.num++t)=decN q.num.natAbs++t:=by
  intro t
  unfold Zar
  rw[hneg]
  by_cases h:q.num<0
  ·simp[h,decI]
  ·simp[h,decI]
 unfold Zaq
 split
 ·have:=hb [];simpa using this
 ·exact hb _
def Zrn(q:Rat):Bool:=decide (600<(decN q.num.natAbs).length∨600<(decN q.den).length)
def Ygu:decN 1=[49]:=by decide+kernel
variable {i j k n:Nat}
def Zvb:∀{i n:Nat},i<(ds n).length→(ds n)[i]?=some ((n/1000000000^i%1000000000:Nat):Int)
 |i,n,h=>by
  by_cases hn:n=0
  ·rw[hn,Zch]at h;simp at h
  ·rw[Zg5 hn]at h ⊢
   cases i with
   |zero=>simp
   |succ i=>
    rw[Ysc,Zvb (by simpa using h),Ysq,Yqx,Yq5]
def Ygs(h:i<(ds n).length):n/1000000000^i≠0:=by
 intro hc
 have h1:n<1000000000^i:=(Nat.div_eq_zero_iff_lt (Ys1 (by decide))).1 hc
 have:=Zfl h1
 omega
def Yb1(h:i+1<(ds n).length):decN (n/1000000000^i)=decN (n/1000000000^(i+1))++Zhr (n/1000000000^i%1000000000) 9:=by
 have h0:=Ygs (i:=i) (n:=n) (by omega)
 have h1:=Ygs (i:=i+1) (n:=n) h
 have e:n/1000000000^(i+1)=n/1000000000^i/1000000000:=by rw[Yqx,Ysq]
 rw[e]at h1 ⊢
 generalize n/1000000000^i=x at*
 unfold decN
 rw[Yqe h0,Yqe h1]
 have:=Zof (k:=9) (a:=x/1000000000) (b:=x%1000000000) h1 (by omega)
 rw[show (10:Nat)^9=1000000000 by decide]at this
 rw[←this]
 congr 1
 omega
def Yff(h:i+1=(ds n).length):decN (n/1000000000^i)=Zhr (n/1000000000^i%1000000000) 1:=by
 have h1:n<1000000000^(i+1):=by
  have h2:=Zh8 (Zb9 n)
  rw[Zbd,←h]at h2
  unfold pI at h2
  have h3:(1000000000:Int)^(i+1)=((1000000000^(i+1):Nat):Int):=by rw[Int.natCast_pow];rfl
  rw[h3]at h2
  exact Int.ofNat_lt.1 h2
 rw[Yqx]at h1
 have h3:n/1000000000^i<1000000000:=Nat.div_lt_of_lt_mul h1
 rw[Yr2 h3,Zjx]
def Qb(k:Nat)(q:Rat):Prop:=q.num.natAbs<2^k∧q.den<2^k
def Zma(h:j≤k):2^j≤2^k:=Yq3 (by decide) h
def Qb.mono{q:Rat}(h:Qb j q)(hk:j≤k):Qb k q:=⟨Yqq h.1 (Zma hk),Yqq h.2 (Zma hk)⟩
def Zg6{a b:Int}(hb:b≠0)(h1:a.natAbs<2^k)(h2:b.natAbs<2^k):Qb k (Rat.divInt a b):=by
 constructor
 ·rw[Rat.num_divInt]
  refine Yra ?_ h1
  rw[Int.natAbs_ediv_of_dvd]
  ·rw[Yse]
   have:b.sign.natAbs=1:=by rw[Int.natAbs_sign,Yqe hb]
   rw[this,Nat.one_mul]
   exact Yrz _ _
  ·exact Int.dvd_trans (Int.gcd_dvd_right ..) (Int.dvd_mul_left ..)
 ·rw[Rat.den_divInt,Yqe hb]
  exact Yra (Yrz _ _) h2
def Qb.mul{p q:Rat}(hp:Qb j p)(hq:Qb k q):Qb (j+k) (p*q):=by
 have hp0:((p.den:Nat):Int)≠0:=by have:=p.den_nz;omega
 have hq0:((q.den:Nat):Int)≠0:=by have:=q.den_nz;omega
 rw[←Ysn p,←Ysn q,Rat.divInt_mul_divInt]
 refine Zg6 (Ytz hp0 hq0) ?_ ?_
 ·rw[Yse,Yre]
  exact Ysy hp.1 hq.1
 ·rw[Yse,Yre,Yqk,Yqk]
  exact Ysy hp.2 hq.2
def Qb.add{p q:Rat}(hp:Qb j p)(hq:Qb k q):Qb (j+k+1) (p+q):=by
 have hp0:((p.den:Nat):Int)≠0:=by have:=p.den_nz;omega
 have hq0:((q.den:Nat):Int)≠0:=by have:=q.den_nz;omega
 rw[←Ysn p,←Ysn q,Rat.divInt_add_divInt _ _ hp0 hq0]
 have e:2^(j+k+1)=2^j*2^k+2^k*2^j:=by rw[Yqx,Yre,Yq5 (2^k)];omega
 refine Zg6 (Ytz hp0 hq0) ?_ ?_
 ·refine Yra (Int.natAbs_add_le ..) ?_
  rw[Yse,Yse,Yqk,Yqk,e]
  exact Nat.add_lt_add (Ysy hp.1 hq.2) (Ysy hq.1 hp.2)
 ·rw[Yse,Yqk,Yqk,e]
  exact Yqq (Ysy hp.2 hq.2) (Nat.le_add_right _ _)
def Qb.neg{q:Rat}(h:Qb k q):Qb k (-q):=by
 refine⟨?_,?_⟩
 ·rw[Rat.neg_num,Ys3];exact h.1
 ·rw[Rat.neg_den];exact h.2
def Qb.sub{p q:Rat}(hp:Qb j p)(hq:Qb k q):Qb (j+k+1) (p-q):=by
 rw[Rat.sub_eq_add_neg];exact hp.add hq.neg
def Qb.int{z:Int}(h:z.natAbs<2^k)(hk:0<k):Qb k (z:Rat):=by
 refine⟨by simpa using h,?_⟩
 rw[Rat.den_intCast]
 exact Yqq (by decide) (Zma (j:=1) hk)
def Zhx(h:n<2^k):(ds n).length≤k:=Zfl (Yqq h (Ys9 (by decide) k))
def Zit(h:n<2^k):(Zcx n).length≤k:=Zay.1 (Yqq h (Ys9 (by decide) k))
def Zir(h:n<2^k):(decN n).length≤k+1:=by
 have:=Zit h
 unfold decN
 split<;>simp<;>omega
def Zgf{z:Int}(h:z.natAbs<2^k):(decI z).length≤k+2:=by
 have:=Zir h
 unfold decI
 split<;>simp<;>omega
def Zly{q:Rat}(h:Qb k q):(Zaq q).length≤2*k+4:=by
 have h1:=Zgf h.1
 have h2:=Zir h.2
 unfold Zaq
 split<;>simp<;>omega
def Yle(k:Nat):10^k≤2^(4*k):=by
 rw[Nat.pow_mul];exact Ys9 (by decide) k
def Ze6{s:Str}(h:chkNum s=0)(hn:s.length≤n):Qb (4*n+4) (ratS s):=by
 obtain⟨e,_,_⟩:=Zco h
 have hb:=Ycm (ratS s)
 have l1:(Zar (Zaq (ratS s))).length≤n:=by
  rw[e];unfold Zar;split
  ·simp;omega
  ·exact hn
 rw[hb]at l1
 have g:∀m:Nat,(decN m).length≤n+1→m<2^(4*n+4):=fun m hm=>by
  have:=(Zis (n:=m) (k:=n+1) (by omega)).1 hm
  exact Yqq this (by have:=Yle (n+1);rw[Ysa]at this;exact this)
 split at l1
 ·rename_i h1
  have h2:(decN 1).length=1:=by rw[Ygu];rfl
  exact⟨g _ (by omega),by rw[h1];exact g 1 (by omega)⟩
 ·simp at l1
  exact⟨g _ (by omega),g _ (by omega)⟩
open Go Go.Proofs
set_option maxRecDepth 1000000
def A.b253:=A.q Tryz.f253
def A.k253:=@A.kk 253 13 [.tmp 4] A.b253 (by kernel_rfl) rfl
def A.w217:=A.q Tryz.f217
def A.lb217_0:=A.ql A.w217 0 []
def A.b217:=(fun x0=>A.qb A.w217 [x0]) A.lb217_0
def A.k217:=@A.kk 217 42 [.tmp 4] A.b217 (by kernel_rfl) rfl
def A.w219:=A.q Tryz.f219
def A.lb219_0:=A.ql A.w219 0 []
def A.b219:=(fun x0=>A.qb A.w219 [x0]) A.lb219_0
def A.k219:=@A.kk 219 35 [.tmp 4] A.b219 (by kernel_rfl) rfl
def Zpg{h:T O}{N:Nat}{v:V}{l:List Int}{i:Nat}{w:List Nat}(hs:Sl h N v (dI l))(hi:i<4611686018427387904)(hl:l.length<4611686018427387904):A.C.call (.func 253 [] []) [v,.int .i64 i] ⟨h,N,w⟩=some (.int .i64 (zI l i),⟨h,N,w⟩):=by
 apply Call.eq
 have hlen:=hs.len
 rw[Zas]at hlen
 rw[Zab,A.k253 (by simp)]
 by_cases hc:i<l.length
 ·have hc1:(i:Int)<(l.length:Int):=by omega
  obtain⟨d,hd⟩:=Zan hc
  obtain⟨j,o,c,e,rw,q1,q2,q3,q4⟩:=hs.at (Zbf hd)
  simp[A.b253,hlen,hc1,q1,q3,q4,Yg8 hd]
 ·have hc1:¬(i:Int)<(l.length:Int):=by omega
  simp[A.b253,hlen,hc1,Zrv (Yr7 hc)]
structure AdI (h:T O) (N:Nat) (la lb:List Int) (m:Nat) (r:T V) (st:St):Prop where
 w:Zac N st.w=[]
 keep:Keeps h N st.h st.n
 ex:∃k c out D,k+m=max la.length lb.length+1∧r.get 7=some (.int .i64 k)∧r.get 6=some (.int .i64 c)∧r.get 5=some out∧0≤c∧c≤1∧(m=0→c=0)∧Own 1 3 N st.h st.n out (Ze7 D)∧D.length=k∧Di D∧vI D+pI k*c=vI (la.take k)+vI (lb.take k)
def Zlf{l:List Int}{k:Nat}(h:l.length≤k):l.take k=l:=Yqp h
def Yh7{h:T O}{N:Nat}{u v:V}{la lb:List Int}(hu:Sl h N u (dI la))(hv:Sl h N v (dI lb))(da:Di la)(db:Di lb)(l1:la.length<1099511627776)(l2:lb.length<1099511627776):Fn A.C 217 [u,v] h N (fun x h' n'=>∃l,Sl h' n' x (dI l)∧Di l∧vI l=vI la+vI lb∧l.length≤max la.length lb.length+1):=by
 intro w
 have lu:=hu.len
 have lv:=hv.len
 rw[Zas]at lu lv
 rw[Zab,A.k217 (by simp)]
 simp[A.b217]
 refine Zaj [(5,40)] (fun e r st=>e=.exit 0∧Zac N st.w=[]∧Keeps h N st.h st.n∧∃out D,r.get 5=some out∧Own 1 3 N st.h st.n out (Ze7 D)∧Di D∧vI D=vI la+vI lb∧D.length≤max la.length lb.length+1) (AdI h N la lb) (max la.length lb.length+1) ?_ ?_ ?_
 ·exact⟨by simp,Keeps.refl,0,0,.nilslice,[],by omega,by simp,by simp,by simp,by omega,by omega,fun _=>rfl,Own.nil,rfl,Di.nil,by simp[vI]⟩
 ·rintro m r ⟨H,n1,W⟩ hr hf ⟨hW,hK,k,c,out,D,hk,h7,h6,h5,c0,c1,cz,ho,hD,dD,hv0⟩
  simp only at hW hK ho
  rw[Zai]
  by_cases hgo:k<la.length∨k<lb.length∨0<c
  ·obtain⟨m',rfl⟩:∃m',m=m'+1:=⟨m-1,by
    have:m≠0:=fun hm=>by have:=cz hm;omega
    omega⟩
   have dx:=Yg9 da k
   have dy:=Yg9 db k
   have e1:=fun w=>Zpg (w:=w) (i:=k) (hu.keep hK) (by omega) (by omega)
   have e2:=fun w=>Zpg (w:=w) (i:=k) (hv.keep hK) (by omega) (by omega)
   obtain⟨x,hx⟩:∃x,zI la k=x:=⟨_,rfl⟩
   obtain⟨y,hy⟩:∃y,zI lb k=y:=⟨_,rfl⟩
   rw[hx]at dx e1
   rw[hy]at dy e2
   have t1:(x+y+c).tmod 1000000000=(x+y+c)%1000000000:=Yr3 (by omega)
   have t2:(x+y+c).tdiv 1000000000=(x+y+c)/1000000000:=Yrk (by omega)
   have t3:Zao .i64 (x+y)=x+y:=Zag (by omega) (by omega)
   have t4:Zao .i64 (x+y+c)=x+y+c:=Zag (by omega) (by omega)
   have t5:Zao .i64 ((x+y+c)/1000000000)=(x+y+c)/1000000000:=Zag (by omega) (by omega)
   have hfin:vI (D++[(x+y+c)%1000000000])+pI (k+1)*((x+y+c)/1000000000)=vI (la.take (k+1))+vI (lb.take (k+1)):=by
    rw[Zfs,hD,Zlw,Zlw,hx,hy,Zc1]
    have hm:=Ysl (x+y+c) 1000000000
    generalize (x+y+c)/1000000000=Q at*
    generalize (x+y+c)%1000000000=R at*
    have:R=x+y+c-1000000000*Q:=by omega
    subst this
    grind
   have hz:m'=0→(x+y+c)/1000000000=0:=fun hm=>by
    have:x=0:=by rw[←hx];exact Zrv (by omega)
    have:y=0:=by rw[←hy];exact Zrv (by omega)
    omega
   have ho2:=ho.keep (Keeps.refl.new (.cells [.int .i64 ((x+y+c)%1000000000)] 3 true))
   obtain⟨v',h',w',f1,f2,f3,_,f5⟩:=Zbw (x:=[.int .i64 ((x+y+c)%1000000000)]) (u:=.slice n1 0 1 (some 1) 1) (bytes:=8) (w:=W) ho2 (by have:=hK.le;omega) (by decide) rfl (by simp[Zbc,St.row,slc]) (by simp[Ze7];omega)
   rw[←Zdb]at f5
   have f6:Zac N w'=[]:=by rw[f2];exact hW
   have kz:=(hK.new (.cells [.int .i64 ((x+y+c)%1000000000)] 3 true)).then f3
   have hgo':k<la.length∨(¬k<la.length∧k<lb.length)∨(¬k<la.length∧¬k<lb.length∧0<c):=by omega
   rcases hgo' with g1|⟨g1,g2⟩|⟨g1,g2,g3⟩
   ·have i1:(k:Int)<(la.length:Int):=by omega
    simp[A.lb217_0,hr,h7,h6,h5,lu,i1,e1,e2,t1,t3,t4,splice]
    simp(disch:=first|(simp;done)|omega|rfl) [f1,hf,h7]
    exact⟨m',by omega,⟨f6,kz,k+1,(x+y+c)/1000000000,v',D++[(x+y+c)%1000000000],by omega,by simp,by simp[t2],by simp,by omega,by omega,hz,f5,by simp[hD],dD.app (Di.one (by omega) (by omega)),hfin⟩⟩
   ·have i1:¬(k:Int)<(la.length:Int):=by omega
    have i2:(k:Int)<(lb.length:Int):=by omega
    simp[A.lb217_0,hr,h7,h6,h5,lu,lv,i1,i2,e1,e2,t1,t3,t4,splice]
    simp(disch:=first|(simp;done)|omega|rfl) [f1,hf,h7]
    exact⟨m',by omega,⟨f6,kz,k+1,(x+y+c)/1000000000,v',D++[(x+y+c)%1000000000],by omega,by simp,by simp[t2],by simp,by omega,by omega,hz,f5,by simp[hD],dD.app (Di.one (by omega) (by omega)),hfin⟩⟩
   ·have i1:¬(k:Int)<(la.length:Int):=by omega
    have i2:¬(k:Int)<(lb.length:Int):=by omega
    simp[A.lb217_0,hr,h7,h6,h5,lu,lv,g3,i1,i2,e1,e2,t1,t3,t4,splice]
    simp(disch:=first|(simp;done)|omega|rfl) [f1,hf,h7]
    exact⟨m',by omega,⟨f6,kz,k+1,(x+y+c)/1000000000,v',D++[(x+y+c)%1000000000],by omega,by simp,by simp[t2],by simp,by omega,by omega,hz,f5,by simp[hD],dD.app (Di.one (by omega) (by omega)),hfin⟩⟩
  ·obtain⟨g1,g2,g3⟩:¬k<la.length∧¬k<lb.length∧¬0<c:=by omega
   have i1:¬(k:Int)<(la.length:Int):=by omega
   have i2:¬(k:Int)<(lb.length:Int):=by omega
   obtain rfl:c=0:=by omega
   rw[Zlf (by omega),Zlf (by omega),Int.mul_zero,Int.add_zero]at hv0
   simp[A.lb217_0,hr,hf,h7,h6,lu,lv,i1,i2,hW,hK]
   exact⟨out,h5,D,ho,dD,hv0,by omega⟩
 ·rintro _ r ⟨H,n1,W⟩ hr ⟨rfl,hW,hK,out,D,h5,ho,dD,hv0,hl⟩
  simp only at hW hK ho
  simp[h5,Ret,hW,hK]
  exact⟨D,ho.sl,dD,hv0,hl⟩
variable {N:Nat} {h:T O}
def A.b165:=A.q Tryz.f165
def A.k165:=@A.kk 165 40 [.cell 4 (some 2)] A.b165 (by kernel_rfl) rfl
def A.b214:=A.q Tryz.f214
def A.k214:=@A.kk 214 9 [.cell 2 (some 2)] A.b214 (by kernel_rfl) rfl
def A.b160:=A.q Tryz.f160
def A.k160:=@A.kk 160 16 [.cell 4 (some 2)] A.b160 (by kernel_rfl) rfl
def Zo2(k:Nat):pI k=((1000000000^k:Nat):Int):=by unfold pI;simp
def Rg.keep{h':T O}{N':Nat}{v:V}{z:Int}(s:Rg h N v z)(k:Keeps h N h' N'):Rg h' N' v z:=by
 obtain⟨u,h1,h2⟩:=s
 exact⟨u,h1,h2.keep k⟩
def nint:∀x∈[V.bool false,V.nilslice],∀k m,x≠.int k m:=by intro x hx k m;simp at hx;rcases hx with rfl|rfl<;>simp
def Ylm{b:Bool}{u:V}(hu:SlF u):∀x∈[V.bool b,u],∀k m,x≠.int k m:=by
 intro x hx k m
 simp at hx
 rcases hx with rfl|rfl
 ·simp
 ·rcases hu with rfl|rfl|⟨_,_,_,_,_,rfl⟩<;>simp
def Zx1(a b:Nat):(ds (a*b)).length≤(ds a).length+(ds b).length:=by
 refine Zfl ?_
 have h1:=Zh8 (Zb9 a)
 have h2:=Zh8 (Zb9 b)
 rw[Zbd]at h1 h2
 rw[Zo2]at h1 h2
 rw[Yre]
 exact Ysy (Int.ofNat_lt.1 h1) (Int.ofNat_lt.1 h2)
def Zuu{v:V}{z:Int}(hs:Rg h N v z)(hl:(ds z.natAbs).length<1099511627776):Fn A.C 214 [v] h N (fun u h' n'=>Rg h' n' u (-z)):=by
 intro w
 obtain⟨u,rfl,hu⟩:=hs
 have o1:=Sl.form hu |>.one
 have o2:=Sl.form hu |>.cells
 unfold V.one at o1
 unfold V.cells at o2
 have kB:=(((Keeps.refl (h:=h) (n:=N)).new (.cells [.bool (decide (z<0)),u] 144 true)).new (.cells [.bool false,.nilslice] 144 true))
 rw[Zab,A.k214 (by simp)]
 simp[A.b214,o1,Zah]
 refine Zaa (Zby (b:=!decide (z<0)) (n:=z.natAbs) (Sl.keep hu kB) (Zb9 _) (Zbd _) (by omega)) ?_
 rintro v2 h2 n2 k2 hv
 have kle:=k2.le
 have g1:=(k2.get (N+1) (by omega))
 rw[T.get_set,Yqi rfl]at g1
 have kk:=kB.trans k2
 have ez:(if (!decide (z<0))=true then -((z.natAbs:Nat):Int) else ((z.natAbs:Nat):Int))= -z:=by
  by_cases h0:z<0<;>simp[h0]<;>omega
 rw[ez]at hv
 obtain⟨u2,rfl,hu2⟩:=hv
 have p1:=Sl.form hu2 |>.one
 have p2:=Sl.form hu2 |>.cells
 unfold V.one at p1
 unfold V.cells at p2
 simp[g1,p1,splice,Zal,Zah,slc,Ret]
 exact⟨kk.set (by omega),u2,by simp,Sl.setInt hu2 g1 nint rfl⟩
def Yhp(a b:Int):(if (!(decide (a<0)==decide (b<0)))=true then -((a.natAbs*b.natAbs:Nat):Int) else ((a.natAbs*b.natAbs:Nat):Int))=a*b:=by
 have h0:((a.natAbs*b.natAbs:Nat):Int)=(a.natAbs:Int)*(b.natAbs:Int):=by simp
 rw[h0]
 by_cases h1:a<0<;>by_cases h2:b<0
 ·have ha:(a.natAbs:Int)= -a:=by omega
  have hb:(b.natAbs:Int)= -b:=by omega
  rw[ha,hb];simp[h1,h2,Int.neg_mul,Int.mul_neg]
 ·have ha:(a.natAbs:Int)= -a:=by omega
  have hb:(b.natAbs:Int)=b:=by omega
  rw[ha,hb];simp[h1,h2,Int.neg_mul]
 ·have ha:(a.natAbs:Int)=a:=by omega
  have hb:(b.natAbs:Int)= -b:=by omega
  rw[ha,hb];simp[h1,h2,Int.mul_neg]
 ·have ha:(a.natAbs:Int)=a:=by omega
  have hb:(b.natAbs:Int)=b:=by omega
  rw[ha,hb];simp[h1,h2]
def Zjb{x y:V}{a b:Int}(hx:Rg h N x a)(hy:Rg h N y b)(l1:(ds a.natAbs).length<500000000000)(l2:(ds b.natAbs).length<500000000000):Fn A.C 160 [x,y] h N (fun u h' n'=>Rg h' n' u (a*b)):=by
 intro w
 obtain⟨u,rfl,hu⟩:=hx
 obtain⟨v,rfl,hv⟩:=hy
 have o1:=Sl.form hu |>.one
 have o2:=Sl.form hu |>.cells
 have o3:=Sl.form hv |>.one
 have o4:=Sl.form hv |>.cells
 unfold V.one at o1 o3
 unfold V.cells at o2 o4
 have kB:=((((Keeps.refl (h:=h) (n:=N)).new (.cells [.bool (decide (a<0)),u] 144 true)).new (.cells [.bool (decide (b<0)),v] 144 true)).new (.cells [.bool false,.nilslice] 144 true))
 rw[Zab,A.k160 (by simp)]
 simp[A.b160,o1,o3,Zah,Zak]
 generalize hB:((h.set N (.cells [.bool (decide (a<0)),u] 144 true)).set (N+1) (.cells [.bool (decide (b<0)),v] 144 true)).set (N+1+1) (.cells [.bool false,.nilslice] 144 true)=HB at*
 have gr:HB.get (N+1+1)=some (.cells [.bool false,.nilslice] 144 true):=by rw[←hB];simp
 refine Zaa (Zsf (Sl.keep hu kB) (Sl.keep hv kB) (Zb9 _) (Zb9 _) (Zbd _) (Zbd _) (by omega)) ?_
 rintro v1 h1 n1 k1 q1
 have hlm:(ds (a.natAbs*b.natAbs)).length<1152921504606846976:=by
  have:=Zx1 a.natAbs b.natAbs;omega
 simp[]
 refine Zaa (Zby (n:=a.natAbs*b.natAbs) q1 (Zb9 _) (Zbd _) hlm) ?_
 rintro v2 h2 n2 k2 hr2
 have le1:=k1.le
 have le2:=k2.le
 have g1:=(k2.get (N+1+1) (by omega)).trans ((k1.get (N+1+1) (by omega)).trans gr)
 have ez:(if (!(decide (a<0)==decide (b<0)))=true then -((a.natAbs*b.natAbs:Nat):Int) else ((a.natAbs*b.natAbs:Nat):Int))=a*b:=Yhp a b
 rw[ez]at hr2
 obtain⟨u2,rfl,hu2⟩:=hr2
 have p1:=Sl.form hu2 |>.one
 have p2:=Sl.form hu2 |>.cells
 unfold V.one at p1
 unfold V.cells at p2
 simp[g1,p1,splice,Zal,Zah,slc,Ret,Zam.chk]
 exact⟨by split<;>simp[Zac],((kB.trans k1).trans k2).set (by omega),u2,rfl,Sl.setInt hu2 g1 nint rfl⟩
set_option maxHeartbeats 4000000
structure SuI (h:T O) (N:Nat) (la lb:List Int) (m:Nat) (r:T V) (st:St):Prop where
 w:Zac N st.w=[]
 keep:Keeps h N st.h st.n
 ex:∃k c out D,k+m=la.length∧r.get 7=some (.int .i64 k)∧r.get 6=some (.int .i64 c)∧r.get 5=some out∧0≤c∧c≤1∧Own 1 3 N st.h st.n out (Ze7 D)∧D.length=k∧Di D∧vI D-pI k*c=vI (la.take k)-vI (lb.take k)
def Zzc{h:T O}{N:Nat}{u v:V}{a b:Nat}(hu:Dn h N u a)(hv:Dn h N v b)(hab:b≤a)(l1:(ds a).length<1099511627776):Fn A.C 219 [u,v] h N (fun x h' n'=>Dn h' n' x (a-b)):=by
 intro w
 have l2:=Zcn hab
 have da:=Zb9 a
 have db:=Zb9 b
 have va:=Zbd a
 have vb:=Zbd b
 have lu:=Sl.len hu
 have lv:=Sl.len hv
 rw[Zas]at lu lv
 have hu:Sl h N u (dI (ds a)):=hu
 have hv:Sl h N v (dI (ds b)):=hv
 generalize hA:ds a=la at*
 generalize hB:ds b=lb at*
 rw[Zab,A.k219 (by simp)]
 simp[A.b219]
 refine Zaj [(5,32)] (fun e r st=>e=.exit 0∧SuI h N la lb 0 r st) (SuI h N la lb) la.length ?_ ?_ ?_
 ·exact⟨by simp,Keeps.refl,0,0,.nilslice,[],by omega,by simp,by simp,by simp,by omega,by omega,Own.nil,rfl,Di.nil,by simp[vI]⟩
 ·rintro m r ⟨H,n1,W⟩ hr hf ⟨hW,hK,k,c,out,D,hk,h7,h6,h5,c0,c1,ho,hD,dD,hv0⟩
  simp only at hW hK ho
  rw[Zai]
  cases m with
  |zero=>
   obtain rfl:k=la.length:=by omega
   simp[A.lb219_0,hr,hf,h7,lu]
   exact⟨hW,hK,la.length,c,out,D,by omega,by simp[h7],by simp[h6],by simp[h5],c0,c1,ho,hD,dD,hv0⟩
  |succ m=>
   have hlt:k<la.length:=by omega
   have hk1:(k:Int)<(la.length:Int):=by omega
   obtain⟨x,hx⟩:=Zan hlt
   have dx:=da.get hx
   have dy:=Yg9 db k
   obtain⟨i,o,cc,e,rw,q1,q2,q3,q4⟩:=(hu.keep hK).at (Zbf hx)
   have e2:=fun w=>Zpg (w:=w) (i:=k) (hv.keep hK) (by omega) (by omega)
   obtain⟨y,hy⟩:∃y,zI lb k=y:=⟨_,rfl⟩
   rw[hy]at dy e2
   have t3:Zao .i64 (x-y)=x-y:=Zag (by omega) (by omega)
   have t4:Zao .i64 (x-y-c)=x-y-c:=Zag (by omega) (by omega)
   have t5:Zao .i64 (x-y-c+1000000000)=x-y-c+1000000000:=Zag (by omega) (by omega)
   have hs:∀d c':Int,d-1000000000*c'=x-y-c→vI (D++[d])-pI (k+1)*c'=vI (la.take (k+1))-vI (lb.take (k+1)):=fun d c' he=>by
    rw[Zfs,hD,Zbb hx,Zlw,hy,Zc1]
    have:d=x-y-c+1000000000*c':=by omega
    subst this
    grind
   have ap:∀d:Int,∃v' h' w',Zc7 ⟨H.set n1 (.cells [.int .i64 d] 3 true),n1+1,W⟩ 1 8 3 out (.slice n1 0 1 (some 1) 1)=some (v',⟨h',n1+1+1,w'⟩)∧Zac N w'=[]∧Keeps h N h' (n1+1+1)∧Own 1 3 N h' (n1+1+1) v' (Ze7 (D++[d])):=fun d=>by
    have ho2:=ho.keep (Keeps.refl.new (.cells [.int .i64 d] 3 true))
    obtain⟨v',h',w',f1,f2,f3,_,f5⟩:=Zbw (x:=[.int .i64 d]) (u:=.slice n1 0 1 (some 1) 1) (bytes:=8) (w:=W) ho2 (by have:=hK.le;omega) (by decide) rfl (by simp[Zbc,St.row,slc]) (by simp[Ze7];omega)
    rw[←Zdb]at f5
    exact⟨v',h',w',f1,by rw[f2];exact hW,(hK.new (.cells [.int .i64 d] 3 true)).then f3,f5⟩
   by_cases hneg:x-y-c<0
   ·obtain⟨v',h',w',f1,f2,f3,f5⟩:=ap (x-y-c+1000000000)
    simp[A.lb219_0,hr,h7,h6,h5,lu,hk1,q1,q2,q3,q4,e2,t3,t4,t5,hneg,splice,Zam.chk]
    simp(disch:=first|(simp;done)|omega|rfl) [f1,hf,h7]
    exact⟨m,by omega,⟨f2,f3,k+1,1,v',D++[x-y-c+1000000000],by omega,by simp,by simp,by simp,by omega,by omega,f5,by simp[hD],dD.app (Di.one (by omega) (by omega)),hs _ _ (by omega)⟩⟩
   ·obtain⟨v',h',w',f1,f2,f3,f5⟩:=ap (x-y-c)
    simp[A.lb219_0,hr,h7,h6,h5,lu,hk1,q1,q2,q3,q4,e2,t3,t4,hneg,splice,Zam.chk]
    simp(disch:=first|(simp;done)|omega|rfl) [f1,hf,h7]
    exact⟨m,by omega,⟨f2,f3,k+1,0,v',D++[x-y-c],by omega,by simp,by simp,by simp,by omega,by omega,f5,by simp[hD],dD.app (Di.one (by omega) (by omega)),hs _ _ (by omega)⟩⟩
 ·rintro _ r ⟨H,n1,W⟩ hr ⟨rfl,hW,hK,k,c,out,D,hk,h7,h6,h5,c0,c1,ho,hD,dD,hv0⟩
  simp only at hW hK ho
  obtain rfl:k=la.length:=by omega
  rw[Zlf (Yqg _),Zlf (by omega),va,vb]at hv0
  have hlt:=Zh8 dD
  rw[hD]at hlt
  have c2:c=0:=by
   apply Int.le_antisymm _ c0
   apply Ytg
   intro hc
   have:c=1:=by omega
   subst this
   omega
  subst c2
  have hvD:vI D=((a-b:Nat):Int):=by omega
  simp[h5]
  refine Zaa (Zfz ho.sl (by omega)) ?_
  rintro v2 h2 n2 k2 q2
  rw[Zfu dD hvD]at q2
  simp[Ret,hW]
  exact⟨hK.trans k2,q2⟩
def Ycc{a b:Nat}:(0≤Ycz a b)↔b≤a:=by unfold Ycz;split<;>(try split)<;>omega
def Yib{h:T O}{N:Nat}{x y:V}{a b:Int}(hx:Rg h N x a)(hy:Rg h N y b)(l1:(ds a.natAbs).length<500000000000)(l2:(ds b.natAbs).length<500000000000):Fn A.C 165 [x,y] h N (fun u h' n'=>Rg h' n' u (a+b)):=by
 intro w
 obtain⟨u,rfl,hu⟩:=hx
 obtain⟨v,rfl,hv⟩:=hy
 have o1:=Sl.form hu |>.one
 have o2:=Sl.form hu |>.cells
 have o3:=Sl.form hv |>.one
 have o4:=Sl.form hv |>.cells
 unfold V.one at o1 o3
 unfold V.cells at o2 o4
 have kB:=((((Keeps.refl (h:=h) (n:=N)).new (.cells [.bool (decide (a<0)),u] 144 true)).new (.cells [.bool (decide (b<0)),v] 144 true)).new (.cells [.bool false,.nilslice] 144 true))
 rw[Zab,A.k165 (by simp)]
 generalize hB:((h.set N (.cells [.bool (decide (a<0)),u] 144 true)).set (N+1) (.cells [.bool (decide (b<0)),v] 144 true)).set (N+1+1) (.cells [.bool false,.nilslice] 144 true)=HB at kB
 have gr:HB.get (N+1+1)=some (.cells [.bool false,.nilslice] 144 true):=by rw[←hB];simp
 have gx:HB.get N=some (.cells [.bool (decide (a<0)),u] 144 true):=by rw[←hB];simp
 have gy:HB.get (N+1)=some (.cells [.bool (decide (b<0)),v] 144 true):=by rw[←hB];simp
 by_cases hsg:decide (a<0)=decide (b<0)
 ·have hsb:(decide (a<0)==decide (b<0))=true:=by rw[hsg];simp
  simp[A.b165,o1,o3,Zah,Zak,hsb]
  simp only[hB]
  refine Zaa (Yh7 (Sl.keep hu kB) (Sl.keep hv kB) (Zb9 _) (Zb9 _) (by omega) (by omega)) ?_
  rintro v1 h1 n1 k1 ⟨l,q1,q2,q3,q4⟩
  rw[Zbd,Zbd]at q3
  have ez:(if decide (a<0)=true then -((a.natAbs+b.natAbs:Nat):Int) else ((a.natAbs+b.natAbs:Nat):Int))=a+b:=by
   by_cases h1:a<0<;>by_cases h2:b<0<;>simp[h1,h2]at hsg ⊢<;>omega
  simp[]
  refine Zaa (Zby (b:=decide (a<0)) (n:=a.natAbs+b.natAbs) q1 q2 (by rw[q3];try simp) (by omega)) ?_
  rintro v2 h2 n2 k2 hr2
  rw[ez]at hr2
  have le1:=k1.le
  have le2:=k2.le
  have g1:=(k2.get (N+1+1) (by omega)).trans ((k1.get (N+1+1) (by omega)).trans gr)
  obtain⟨u2,rfl,hu2⟩:=hr2
  have p1:=Sl.form hu2 |>.one
  have p2:=Sl.form hu2 |>.cells
  unfold V.one at p1
  unfold V.cells at p2
  simp[g1,p1,splice,Zal,Zah,slc,Ret,Zam.chk]
  exact⟨by split<;>simp[Zac],((kB.trans k1).trans k2).set (by omega),u2,rfl,Sl.setInt hu2 g1 nint rfl⟩
 ·have hsb:(decide (a<0)==decide (b<0))=false:=by simpa using hsg
  have hcm:=fun w=>Ztl (w:=w) (Sl.keep hu kB) (Sl.keep hv kB) (by omega) (by omega)
  by_cases hge:b.natAbs≤a.natAbs
  ·have hge':0≤Ycz a.natAbs b.natAbs:=Ycc.2 hge
   simp[A.b165,o1,o3,Zah,Zak,hsb]
   simp only[hB]
   simp[hcm,hge',gx,gy,Zah]
   refine Zaa (Zzc (Sl.keep hu kB) (Sl.keep hv kB) hge (by omega)) ?_
   rintro v1 h1 n1 k1 q1
   have q2:=Zb9 (a.natAbs-b.natAbs)
   have q3:=Zbd (a.natAbs-b.natAbs)
   have q4:=Zcn (Nat.sub_le a.natAbs b.natAbs)
   have ez:(if decide (a<0)=true then -((a.natAbs-b.natAbs:Nat):Int) else ((a.natAbs-b.natAbs:Nat):Int))=a+b:=by
    by_cases h1:a<0<;>by_cases h2:b<0<;>simp[h1,h2]at hsg ⊢<;>omega
   simp[]
   refine Zaa (Zby (b:=decide (a<0)) (n:=a.natAbs-b.natAbs) q1 q2 (by rw[q3];try simp) (by omega)) ?_
   rintro v2 h2 n2 k2 hr2
   rw[ez]at hr2
   have le1:=k1.le
   have le2:=k2.le
   have g1:=(k2.get (N+1+1) (by omega)).trans ((k1.get (N+1+1) (by omega)).trans gr)
   obtain⟨u2,rfl,hu2⟩:=hr2
   have p1:=Sl.form hu2 |>.one
   have p2:=Sl.form hu2 |>.cells
   unfold V.one at p1
   unfold V.cells at p2
   simp[g1,p1,splice,Zal,Zah,slc,Ret,Zam.chk]
   exact⟨by split<;>simp[Zac],((kB.trans k1).trans k2).set (by omega),u2,rfl,Sl.setInt hu2 g1 nint rfl⟩
  ·have hge':¬0≤Ycz a.natAbs b.natAbs:=fun hc=>hge (Ycc.1 hc)
   simp[A.b165,o1,o3,Zah,Zak,hsb]
   simp only[hB]
   simp[hcm,hge',gx,gy,Zah]
   refine Zaa (Zzc (Sl.keep hv kB) (Sl.keep hu kB) (by omega) (by omega)) ?_
   rintro v1 h1 n1 k1 q1
   have q2:=Zb9 (b.natAbs-a.natAbs)
   have q3:=Zbd (b.natAbs-a.natAbs)
   have q4:=Zcn (Nat.sub_le b.natAbs a.natAbs)
   have ez:(if decide (b<0)=true then -((b.natAbs-a.natAbs:Nat):Int) else ((b.natAbs-a.natAbs:Nat):Int))=a+b:=by
    by_cases h1:a<0<;>by_cases h2:b<0<;>simp[h1,h2]at hsg ⊢<;>omega
   simp[]
   refine Zaa (Zby (b:=decide (b<0)) (n:=b.natAbs-a.natAbs) q1 q2 (by rw[q3];try simp) (by omega)) ?_
   rintro v2 h2 n2 k2 hr2
   rw[ez]at hr2
   have le1:=k1.le
   have le2:=k2.le
   have g1:=(k2.get (N+1+1) (by omega)).trans ((k1.get (N+1+1) (by omega)).trans gr)
   obtain⟨u2,rfl,hu2⟩:=hr2
   have p1:=Sl.form hu2 |>.one
   have p2:=Sl.form hu2 |>.cells
   unfold V.one at p1
   unfold V.cells at p2
   simp[g1,p1,splice,Zal,Zah,slc,Ret,Zam.chk]
   exact⟨by split<;>simp[Zac],((kB.trans k1).trans k2).set (by omega),u2,rfl,Sl.setInt hu2 g1 nint rfl⟩
end
end Go.Mx
