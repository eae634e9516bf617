/-Numbers as strings-/
import Derived.Test.YtgnadghjglamaaaGreatDoorRbC
set_option linter.all false
namespace Go.Mx
noncomputable section
open Go
variable {s:aU}
def Zf2:∀{s t:aU},(∀c∈s,c.toNat≠47)->ai (s++47::t)=s.length
 |[],t,_=>rfl
 |c::s,t,h=>by
  have h1:=h c oM
  have:=Zf2 (s:=s) (t:=t) fun d hd=>h d (mD _ hd)
  simp[ai,h1,this]
def Ze9:∀{s:aU},(∀c∈s,c.toNat≠47)->ai s=s.length
 |[],_=>rfl
 |c::s,h=>by
  have h1:=h c oM
  have:=Ze9 (s:=s) fun d hd=>h d (mD _ hd)
  simp[ai,h1,this]
def Zmg:∀{s:aU},ai s<s.length->s.drop (ai s)=47::s.drop (ai s+1)
 |[],h=>by simp[ai]at h
 |c::s,h=>by
  by_cases hc:c.toNat=47
  ·have:c=47:=UInt8.toNat_inj.1 hc
   subst this
   simp[ai]
  ·simp only[ai,hc,if_false,ak]at h ⊢
   have:=Zmg (s:=s) (by omega)
   simpa using this
def Tm(h:cN s=true):∀c∈s,c.toNat≠47:=by
 intro c hc
 unfold cN at h
 rw[sN]at h
 have:=h c hc
 unfold kh at this
 simp only[decide_eq_true_eq]at this
 omega
def Yc4(z:Int):∀c∈aR z,c.toNat≠47:=by
 unfold aR
 split
 ·intro c hc
  rcases ku.1 hc with rfl|hc
  ·decide
  ·exact Tm (Bm _) c hc
 ·exact Tm (Bm _)
def Ya8(n:Nat):cP (av n)=false:=by
 obtain⟨c,t,e,h1,h2⟩:=Zoy (n:=n)
 rw[e]
 simp[cP];omega
def Pa(z:Int):cP (aR z)=decide (z<0):=by
 unfold aR
 split
 ·rename_i h;simp[cP,h]
 ·rename_i h;rw[Ya8];simp[h]
def Mg(z:Int):bu (aR z)=av z.natAbs:=by
 unfold bu
 rw[Pa]
 by_cases h:z<0
 ·simp[h,aR]
 ·simp[h,aR]
def Mh(q:Rat):ai (ax q)=(aR q.num).length:=by
 unfold ax
 split
 ·exact Ze9 (Yc4 _)
 ·exact Zf2 (Yc4 _)
def Pb(q:Rat):(ax q).take (ai (ax q))=aR q.num:=by
 rw[Mh]
 unfold ax
 split
 ·simp
 ·simp
def Pc(q:Rat)(h:q.den≠1):(ax q).drop (ai (ax q)+1)=av q.den:=by
 rw[Mh]
 unfold ax
 rw[aA h,<-List.drop_drop]
 simp
def CA(q:Rat):ai (ax q)<(ax q).length↔q.den≠1:=by
 rw[Mh]
 unfold ax
 split
 ·rename_i h;simp[h]
 ·rename_i h;simp[h]
def Ygo{a b:Int}(h:aR a=aR b):a=b:=by
 have h1:=congrArg cP h
 have h2:=congrArg bu h
 rw[Pa,Pa,decide_eq_decide]at h1
 rw[Mg,Mg]at h2
 have h3:=Zkb h2
 omega
def Yef{a b:Rat}(h:ax a=ax b):a=b:=by
 have h1:=Pb a
 rw[h,Pb b]at h1
 have h2:=Ygo h1
 have h3:a.den=b.den:=by
  by_cases ha:a.den=1
  ·have:=mt (CA a).1 (fun hc=>hc ha)
   rw[h]at this
   rw[CA]at this
   rw[ha];exact(Decidable.not_not.1 this).symm
  ·have:=(CA a).2 ha
   rw[h]at this
   have hb:=(CA b).1 this
   have e:=Pc a ha
   rw[h,Pc b hb]at e
   exact(Zkb e).symm
 exact Rat.ext h2.symm h3
def bJ(s:aU):Rat:=mkRat (if cP s then -(aK ((bu s).take (ai (bu s))):Int) else aK ((bu s).take (ai (bu s)))) (if ai (bu s)<(bu s).length then aK ((bu s).drop (ai (bu s)+1)) else 1)
def Ygw(h:aY s=0):gH (cP s) ((bu s).take (ai (bu s))) (decide (ai (bu s)<(bu s).length)) ((bu s).drop (ai (bu s)+1))=true/\((bu s).take (ai (bu s))).length<=600/\((bu s).drop (ai (bu s)+1)).length<=600/\(ai (bu s)<(bu s).length->Nat.gcd (aK ((bu s).take (ai (bu s)))) (aK ((bu s).drop (ai (bu s)+1)))=1):=by
 unfold aY Mi kj at h
 split at h
 ·cases h
 ·rename_i h1
  split at h
  ·cases h
  ·rename_i h2
   split at h
   ·cases h
   ·rename_i h3
    refine⟨by simpa using h1,by omega,by omega,fun hs=>?_⟩
    rw[decide_eq_true hs]at h3
    simpa using h3
def Zq9{n:Int}{d:Nat}(hd:d≠0)(h:Nat.gcd n.natAbs d=1):(mkRat n d).num=n/\(mkRat n d).den=d:=by
 have:mkRat n d=⟨n,d,hd,h⟩:=by
  rw[Rat.mkRat_def,dif_neg hd]
  exact Rat.normalize_eq_mk' _ _ hd h
 rw[this]
 exact⟨rfl,rfl⟩
def Zza(s:aU):s=(if cP s then [45] else [])++bu s:=by
 cases s with
 |nil=>rfl
 |cons c t=>
  unfold bu
  by_cases hc:c.toNat=45
  ·have:c=45:=UInt8.toNat_inj.1 hc
   subst this
   simp[cP]
  ·simp[cP,hc]
def BN(h:aY s=0):ax (bJ s)=s/\(av (bJ s).num.natAbs).length<=600/\(av (bJ s).den).length<=600:=by
 obtain⟨h1,h2,h3,h4⟩:=Ygw h
 have hle:=BQ (bu s)
 unfold gH at h1
 simp only[ji,IU,IV,decide_eq_true_eq]at h1
 obtain⟨⟨hp,hz⟩,hd⟩:=h1
 have CB:cP s=true->aK ((bu s).take (ai (bu s)))≠0:=by
  intro hn h0
  rw[hn,Bool.true_and,decide_eq_false_iff_not]at hz
  apply hz
  have:=Bn hp
  rw[h0]at this
  exact this.symm
 have Cv:(av (aK ((bu s).take (ai (bu s))))).length<=600:=by
  rw[Bn hp];exact h2
 have hb:=Zza s
 by_cases hs:ai (bu s)<(bu s).length
 ·have hd:ja ((bu s).drop (ai (bu s)+1))=true/\(bu s).drop (ai (bu s)+1)≠[48]/\(bu s).drop (ai (bu s)+1)≠[49]:=by
   rcases hd with hd|⟨⟨a,b⟩,c⟩
   ·exact absurd hs (by simpa using hd)
   ·exact⟨a,b,c⟩
  have hg:=h4 hs
  have kv:aK ((bu s).drop (ai (bu s)+1))≠0:=by
   intro h0
   have:=Bn hd.1
   rw[h0]at this
   exact hd.2.1 this.symm
  have sA:aK ((bu s).drop (ai (bu s)+1))≠1:=by
   intro h0
   have:=Bn hd.1
   rw[h0]at this
   exact hd.2.2 (this.symm.trans (by decide+kernel))
  have lK:(av (aK ((bu s).drop (ai (bu s)+1)))).length<=600:=by
   rw[Bn hd.1];exact h3
  have hv:bJ s=mkRat (if cP s then -(aK ((bu s).take (ai (bu s))):Int) else aK ((bu s).take (ai (bu s)))) (aK ((bu s).drop (ai (bu s)+1))):=by
   unfold bJ;rw[aQ hs]
  obtain⟨e1,e2⟩:=Zq9 (n:=if cP s then -(aK ((bu s).take (ai (bu s))):Int) else aK ((bu s).take (ai (bu s)))) kv (by split<;>simpa using hg)
  rw[<-hv]at e1 e2
  have Pd:bu s=(bu s).take (ai (bu s))++47::(bu s).drop (ai (bu s)+1):=by
   conv=>lhs;rw[<-A6 (ai (bu s)) (bu s)]
   rw[Zmg hs]
  refine⟨?_,?_,by rw[e2];exact lK⟩
  ·unfold ax
   rw[e2,aA sA,Bn hd.1,e1]
   conv=>rhs;rw[hb,Pd]
   unfold aR
   cases hn:cP s with
   |false=>
    simp only[gV,if_false]
    rw[aA (by omega),eG,Bn hp];rfl
   |true=>
    have:=CB hn
    simp only[if_true]
    rw[aQ (by omega),A7,eG,Bn hp];rfl
  ·rw[e1]
   split<;>simpa using Cv
 ·have hv:bJ s=mkRat (if cP s then -(aK ((bu s).take (ai (bu s))):Int) else aK ((bu s).take (ai (bu s)))) 1:=by
   unfold bJ;rw[aA hs]
  obtain⟨e1,e2⟩:=Zq9 (n:=if cP s then -(aK ((bu s).take (ai (bu s))):Int) else aK ((bu s).take (ai (bu s)))) (show (1:Nat)≠0 by decide) (Nat.gcd_one_right _)
  rw[<-hv]at e1 e2
  have ht:(bu s).take (ai (bu s))=bu s:=iP (by omega)
  rw[ht]at e1 hp CB Cv
  refine⟨?_,?_,by rw[e2];decide+kernel⟩
  ·unfold ax
   rw[e2,aQ rfl,e1]
   conv=>rhs;rw[hb]
   unfold aR
   cases hn:cP s with
   |false=>
    simp only[gV,if_false]
    rw[aA (by omega),eG,Bn hp];rfl
   |true=>
    have:=CB hn
    simp only[if_true]
    rw[aQ (by omega),A7,eG,Bn hp];rfl
  ·rw[e1]
   split<;>simpa using Cv
def Zr7(q:Rat):bu (ax q)=if q.den=1 then av q.num.natAbs else av q.num.natAbs++47::av q.den:=by
 have eI:∀t:aU,cP (aR q.num++t)=decide (q.num<0):=by
  intro t
  rw[<-Pa]
  have:aR q.num≠[]:=by
   unfold aR;split
   ·simp
   ·exact Mj _
  cases h:aR q.num with
  |nil=>exact absurd h this
  |cons c u=>rfl
 have hb:∀t:aU,bu (aR q.num++t)=av q.num.natAbs++t:=by
  intro t
  unfold bu
  rw[eI]
  by_cases h:q.num<0
  ·simp[h,aR]
  ·simp[h,aR]
 unfold ax
 split
 ·have:=hb [];simpa using this
 ·exact hb _
def Yw8(q:Rat):cP (ax q)=decide (q.num<0):=by
 have eI:∀t:aU,cP (aR q.num++t)=decide (q.num<0):=by
  intro t
  rw[<-Pa]
  have:aR q.num≠[]:=by
   unfold aR;split
   ·simp
   ·exact Mj _
  cases h:aR q.num with
  |nil=>exact absurd h this
  |cons c u=>rfl
 unfold ax
 split
 ·have:=eI [];simpa using this
 ·exact eI _
def Ypo(q:Rat):(bu (ax q)).take (ai (bu (ax q)))=av q.num.natAbs/\(ai (bu (ax q))<(bu (ax q)).length↔q.den≠1)/\(bu (ax q)).drop (ai (bu (ax q))+1)=if q.den=1 then [] else av q.den:=by
 rw[Zr7]
 by_cases h:q.den=1
 ·simp only[h,if_true]
  rw[Ze9 (Tm (Bm _))]
  simp
 ·simp only[h,if_false]
  rw[Zf2 (Tm (Bm _))]
  simp[h]
def BJ(q:Rat):Bool:=decide (600<(av q.num.natAbs).length\/600<(av q.den).length)
def Yyu:av 0=[48]:=rfl
def Zwb:av 1=[49]:=by decide+kernel
def Yxx(q:Rat):aY (ax q)=if BJ q then 4 else 0:=by
 obtain⟨h1,h2,h3⟩:=Ypo q
 have hf:gH (cP (ax q)) (av q.num.natAbs) (decide (q.den≠1)) (if q.den=1 then [] else av q.den)=true:=by
  unfold gH
  rw[Ye7,Yw8]
  have hz:(decide (q.num<0)&&decide (av q.num.natAbs=[48]))=false:=by
   by_cases hn:q.num<0
   ·have:av q.num.natAbs≠[48]:=by
     intro h
     have:=Zkb (h.trans Yyu.symm)
     omega
    simp[this]
   ·simp[hn]
  rw[hz]
  by_cases hd:q.den=1
  ·simp[hd]
  ·have a1:av q.den≠[48]:=fun h=>q.den_nz (Zkb (h.trans Yyu.symm))
   have a2:av q.den≠[49]:=fun h=>hd (Zkb (h.trans Zwb.symm))
   simp[hd,Ye7,a1,a2]
 have hb:(decide (ai (bu (ax q))<(bu (ax q)).length))=decide (q.den≠1):=decide_eq_decide.2 h2
 unfold aY Mi
 rw[h1,h3,hb]
 unfold kj
 rw[hf]
 have hg:¬(decide (q.den≠1)=true/\Nat.gcd (aK (av q.num.natAbs)) (aK (if q.den=1 then [] else av q.den))≠1):=by
  rintro⟨a,b⟩
  have a:q.den≠1:=by simpa using a
  rw[aA a,Kv,Kv]at b
  exact b q.reduced
 rw[aA (by simp),aA hg]
 unfold BJ
 by_cases hd:q.den=1
 ·rw[hd,Zwb]
  simp
 ·simp[hd]
def Zn3(q:Rat):bJ (ax q)=q:=by
 obtain⟨h1,h2,h3⟩:=Ypo q
 unfold bJ
 rw[h1,h3,Yw8,Kv]
 have hn:(if decide (q.num<0)=true then -(q.num.natAbs:Int) else (q.num.natAbs:Int))=q.num:=by
  by_cases h:q.num<0
  ·rw[aQ (by simpa using h)];omega
  ·rw[aA (by simpa using h)];omega
 rw[hn]
 by_cases hd:q.den=1
 ·rw[aA (fun h=>(h2.1 h) hd)]
  have:=Rat.mkRat_self q
  rw[hd]at this
  exact this
 ·rw[aQ (h2.2 hd),aA hd,Kv]
  exact Rat.mkRat_self q
variable {i j k n:Nat}
def Tn:∀{i n:Nat},i<(ds n).length->(ds n)[i]?=some ((n/1000000000^i%1000000000:Nat):Int)
 |i,n,h=>by
  by_cases hn:n=0
  ·rw[hn,sC]at h;simp at h
  ·rw[Aa hn]at h ⊢
   cases i with
   |zero=>simp
   |succ i=>
    rw[DI,Tn (by simpa using h),IW,fO,gk]
def Yh0(h:i<(ds n).length):n/1000000000^i≠0:=by
 intro hc
 have h1:n<1000000000^i:=(Nat.div_eq_zero_iff_lt (vU (by decide))).1 hc
 have:=Mk h1
 omega
def Yc2(h:i+1<(ds n).length):av (n/1000000000^i)=av (n/1000000000^(i+1))++iJ (n/1000000000^i%1000000000) 9:=by
 have h0:=Yh0 (i:=i) (n:=n) (by omega)
 have h1:=Yh0 (i:=i+1) (n:=n) h
 have e:n/1000000000^(i+1)=n/1000000000^i/1000000000:=by rw[fO,IW]
 rw[e]at h1 ⊢
 generalize n/1000000000^i=x at*
 unfold av
 rw[aA h0,aA h1]
 have:=Zoz (k:=9) (a:=x/1000000000) (b:=x%1000000000) h1 (by omega)
 rw[show (10:Nat)^9=1000000000 by decide]at this
 rw[<-this]
 congr 1
 omega
def Ygn(h:i+1=(ds n).length):av (n/1000000000^i)=iJ (n/1000000000^i%1000000000) 1:=by
 have h1:n<1000000000^(i+1):=by
  have h2:=vz (gm n)
  rw[gI,<-h]at h2
  unfold pI at h2
  have h3:(1000000000:Int)^(i+1)=((1000000000^(i+1):Nat):Int):=by rw[Int.natCast_pow];rfl
  rw[h3]at h2
  exact Int.ofNat_lt.1 h2
 rw[fO]at h1
 have h3:n/1000000000^i<1000000000:=Nat.div_lt_of_lt_mul h1
 rw[xA h3,Pe]
def Qb(k:Nat)(q:Rat):Prop:=q.num.natAbs<2^k/\q.den<2^k
def Pf(h:j<=k):2^j<=2^k:=pc (by decide) h
def Qb.mono{q:Rat}(h:Qb j q)(hk:j<=k):Qb k q:=⟨h_ h.1 (Pf hk),h_ h.2 (Pf hk)⟩
def R9{a b:Int}(hb:b≠0)(h1:a.natAbs<2^k)(h2:b.natAbs<2^k):Qb k (Rat.divInt a b):=by
 constructor
 ·rw[Rat.num_divInt]
  refine lG ?_ h1
  rw[Int.natAbs_ediv_of_dvd]
  ·rw[uI]
   have:b.sign.natAbs=1:=by rw[Int.natAbs_sign,aA hb]
   rw[this,Nat.one_mul]
   exact uZ _ _
  ·exact Int.dvd_trans (Int.gcd_dvd_right ..) (Int.dvd_mul_left ..)
 ·rw[Rat.den_divInt,aA hb]
  exact lG (uZ _ _) h2
def Qb.mul{p q:Rat}(hp:Qb j p)(hq:Qb k q):Qb (j+k) (p*q):=by
 have uQ:((p.den:Nat):Int)≠0:=by have:=p.den_nz;omega
 have xN:((q.den:Nat):Int)≠0:=by have:=q.den_nz;omega
 rw[<-AJ p,<-AJ q,Rat.divInt_mul_divInt]
 refine R9 (LL uQ xN) ?_ ?_
 ·rw[uI,iF]
  exact B4 hp.1 hq.1
 ·rw[uI,iF,eG,eG]
  exact B4 hp.2 hq.2
def Qb.add{p q:Rat}(hp:Qb j p)(hq:Qb k q):Qb (j+k+1) (p+q):=by
 have uQ:((p.den:Nat):Int)≠0:=by have:=p.den_nz;omega
 have xN:((q.den:Nat):Int)≠0:=by have:=q.den_nz;omega
 rw[<-AJ p,<-AJ q,Rat.divInt_add_divInt _ _ uQ xN]
 have e:2^(j+k+1)=2^j*2^k+2^k*2^j:=by rw[fO,iF,gk (2^k)];omega
 refine R9 (LL uQ xN) ?_ ?_
 ·refine lG (Int.natAbs_add_le ..) ?_
  rw[uI,uI,eG,eG,e]
  exact Nat.add_lt_add (B4 hp.1 hq.2) (B4 hq.1 hp.2)
 ·rw[uI,eG,eG,e]
  exact h_ (B4 hp.2 hq.2) (Nat.le_add_right _ _)
def Qb.neg{q:Rat}(h:Qb k q):Qb k (-q):=by
 refine⟨?_,?_⟩
 ·rw[Rat.neg_num,A7];exact h.1
 ·rw[Rat.neg_den];exact h.2
def Qb.sub{p q:Rat}(hp:Qb j p)(hq:Qb k q):Qb (j+k+1) (p-q):=by
 rw[Rat.sub_eq_add_neg];exact hp.add hq.neg
def Qb.inv{q:Rat}(h:Qb k q)(h0:q≠0):Qb k q⁻¹:=by
 have hn:q.num≠0:=fun hc=>h0 (Rat.num_eq_zero.1 hc)
 rw[<-AJ q,Rat.inv_divInt]
 exact R9 hn (by rw[eG];exact h.2) h.1
def Qb.int{z:Int}(h:z.natAbs<2^k)(hk:0<k):Qb k (z:Rat):=by
 refine⟨by simpa using h,?_⟩
 rw[Rat.den_intCast]
 exact h_ (by decide) (Pf (j:=1) hk)
def uc(h:n<2^k):(ds n).length<=k:=Mk (h_ h (Dq (by decide) k))
def Nn(h:n<2^k):(dq n).length<=k:=pn.1 (h_ h (Dq (by decide) k))
def Io(h:n<2^k):(av n).length<=k+1:=by
 have:=Nn h
 unfold av
 split<;>simp<;>omega
def Bo{z:Int}(h:z.natAbs<2^k):(aR z).length<=k+2:=by
 have:=Io h
 unfold aR
 split<;>simp<;>omega
def jt{q:Rat}(h:Qb k q):(ax q).length<=2*k+4:=by
 have h1:=Bo h.1
 have h2:=Io h.2
 unfold ax
 split<;>simp<;>omega
def Ymf(k:Nat):10^k<=2^(4*k):=by
 rw[Nat.pow_mul];exact Dq (by decide) k
def uJ{s:aU}(h:aY s=0)(hn:s.length<=n):Qb (4*n+4) (bJ s):=by
 obtain⟨e,_,_⟩:=BN h
 have hb:=Zr7 (bJ s)
 have l1:(bu (ax (bJ s))).length<=n:=by
  rw[e];unfold bu;split
  ·simp;omega
  ·exact hn
 rw[hb]at l1
 have g:∀m:Nat,(av m).length<=n+1->m<2^(4*n+4):=fun m hm=>by
  have:=(Sx (n:=m) (k:=n+1) (by omega)).1 hm
  exact h_ this (by have:=Ymf (n+1);rw[nL]at this;exact this)
 split at l1
 ·rename_i h1
  have h2:(av 1).length=1:=by rw[Zwb];rfl
  exact⟨g _ (by omega),by rw[h1];exact g 1 (by omega)⟩
 ·simp at l1
  exact⟨g _ (by omega),g _ (by omega)⟩
open Go Go.Proofs
set_option maxRecDepth 1000000
def A.b207:=A.q Tryz.f207
def A.k207:=@A.kk 207 13 [.tmp 4] A.b207 (by kernel_rfl) rfl
def A.Pg:=A.q Tryz.f153
def A.jN:=A.ql A.Pg 0 []
def A.b153:=(fun x0=>A.qb A.Pg [x0]) A.jN
def A.k153:=@A.kk 153 42 [.tmp 4] A.b153 (by kernel_rfl) rfl
def A.Ph:=A.q Tryz.f155
def A.mV:=A.ql A.Ph 0 []
def A.b155:=(fun x0=>A.qb A.Ph [x0]) A.mV
def A.k155:=@A.kk 155 35 [.tmp 4] A.b155 (by kernel_rfl) rfl
def Zp0{h:T O}{N:Nat}{v:V}{l:List Int}{i:Nat}{w:List Nat}(hs:Sl h N v (dI l))(hi:i<4611686018427387904)(hl:l.length<4611686018427387904):A.C.call (.func 207 [] []) [v,.int .i64 i] ⟨h,N,w⟩=some (.int .i64 (zI l i),⟨h,N,w⟩):=by
 apply Call.eq
 have hlen:=hs.len
 rw[g_]at hlen
 rw[aV,A.k207 (by simp)]
 by_cases hc:i<l.length
 ·have OT:(i:Int)<(l.length:Int):=by omega
  obtain⟨d,hd⟩:=fz hc
  obtain⟨j,o,c,e,rw,q1,q2,q3,q4⟩:=hs.at (gQ hd)
  simp(disch:=first|(simp;done)|omega|rfl) [-getElem?_pos,A.b207,hlen,hc,OT,q1,q3,q4,Yih hd]
 ·have OT:¬(i:Int)<(l.length:Int):=by omega
  simp(disch:=first|(simp;done)|omega|rfl) [-getElem?_pos,A.b207,hlen,hc,OT,Zsh (yl hc)]
structure AdI (h:T O) (N:Nat) (la lb:List Int) (m:Nat) (r:T V) (st:St):Prop where
 w:aD N st.w=[]
 ah:ae h N st.h st.n
 ex:∃k c out D,k+m=max la.length lb.length+1/\r.get 7=some (.int .i64 k)/\r.get 6=some (.int .i64 c)/\r.get 5=some out/\0<=c/\c<=1/\(m=0->c=0)/\Own 1 3 N st.h st.n out (po D)/\D.length=k/\Di D/\vI D+pI k*c=vI (la.take k)+vI (lb.take k)
def To{l:List Int}{k:Nat}(h:l.length<=k):l.take k=l:=iP h
def Yjc{h:T O}{N:Nat}{u v:V}{la lb:List Int}(hu:Sl h N u (dI la))(hv:Sl h N v (dI lb))(da:Di la)(db:Di lb)(l1:la.length<1099511627776)(l2:lb.length<1099511627776):Fn A.C 153 [u,v] h N (fun x h' n'=>∃l,Sl h' n' x (dI l)/\Di l/\vI l=vI la+vI lb/\l.length<=max la.length lb.length+1):=by
 intro w
 have lu:=hu.len
 have lv:=hv.len
 rw[g_]at lu lv
 rw[aV,A.k153 (by simp)]
 simp(disch:=first|(simp;done)|omega|rfl) [-getElem?_pos,A.b153]
 refine c_ [(5,40)] (fun e r st=>e=.exit 0/\aD N st.w=[]/\ae h N st.h st.n/\∃out D,r.get 5=some out/\Own 1 3 N st.h st.n out (po D)/\Di D/\vI D=vI la+vI lb/\D.length<=max la.length lb.length+1) (AdI h N la lb) (max la.length lb.length+1) ?_ ?_ ?_
 ·exact⟨by simp,ae.refl,0,0,.aa,[],by omega,by simp,by simp,by simp,by omega,by omega,fun _=>rfl,Own.nil,rfl,Di.nil,by simp[vI]⟩
 ·rintro m r ⟨H,n1,W⟩ hr hf ⟨hW,hK,k,c,out,D,hk,h7,h6,h5,c0,c1,cz,ho,hD,dD,oz⟩
  simp only at hW hK ho
  rw[dk]
  by_cases uO:k<la.length\/k<lb.length\/0<c
  ·obtain⟨m',rfl⟩:∃m',m=m'+1:=⟨m-1,by
    have:m≠0:=fun hm=>by have:=cz hm;omega
    omega⟩
   have dx:=Yii da k
   have dy:=Yii db k
   have e1:=fun w=>Zp0 (w:=w) (i:=k) (hu.ah hK) (by omega) (by omega)
   have e2:=fun w=>Zp0 (w:=w) (i:=k) (hv.ah hK) (by omega) (by omega)
   obtain⟨x,hx⟩:∃x,zI la k=x:=⟨_,rfl⟩
   obtain⟨y,hy⟩:∃y,zI lb k=y:=⟨_,rfl⟩
   rw[hx]at dx e1
   rw[hy]at dy e2
   have t1:(x+y+c).tmod 1000000000=(x+y+c)%1000000000:=DH (by omega)
   have t2:(x+y+c).tdiv 1000000000=(x+y+c)/1000000000:=A2 (by omega)
   have t3:bn .i64 (x+y)=x+y:=cL (by omega) (by omega)
   have t4:bn .i64 (x+y+c)=x+y+c:=cL (by omega) (by omega)
   have t5:bn .i64 ((x+y+c)/1000000000)=(x+y+c)/1000000000:=cL (by omega) (by omega)
   have qE:vI (D++[(x+y+c)%1000000000])+pI (k+1)*((x+y+c)/1000000000)=vI (la.take (k+1))+vI (lb.take (k+1)):=by
    rw[CC,hD,Zmb,Zmb,hx,hy,qD]
    have hm:=DF (x+y+c) 1000000000
    generalize (x+y+c)/1000000000=Q at*
    generalize (x+y+c)%1000000000=R at*
    have:R=x+y+c-1000000000*Q:=by omega
    subst this
    grind
   have hz:m'=0->(x+y+c)/1000000000=0:=fun hm=>by
    have:x=0:=by rw[<-hx];exact Zsh (by omega)
    have:y=0:=by rw[<-hy];exact Zsh (by omega)
    omega
   have xz:=ho.ah (ae.refl.new (.cells [.int .i64 ((x+y+c)%1000000000)] 3 true))
   obtain⟨v',h',w',f1,f2,f3,_,f5⟩:=xh (x:=[.int .i64 ((x+y+c)%1000000000)]) (u:=.slice n1 0 1 (some 1) 1) (bytes:=8) (w:=W) xz (by have:=hK.le;omega) (by decide) rfl (by simp[gp,St.row,aE]) (by simp[po];omega)
   rw[<-Ec]at f5
   have f6:aD N w'=[]:=by rw[f2];exact hW
   have kz:=(hK.new (.cells [.int .i64 ((x+y+c)%1000000000)] 3 true)).then f3
   have JA:k<la.length\/(¬k<la.length/\k<lb.length)\/(¬k<la.length/\¬k<lb.length/\0<c):=by omega
   rcases JA with g1|⟨g1,g2⟩|⟨g1,g2,g3⟩
   ·have i1:(k:Int)<(la.length:Int):=by omega
    simp(disch:=first|(simp;done)|omega|rfl) [-getElem?_pos,A.jN,hr,hf,h7,h6,h5,lu,lv,g1,i1,e1,e2,t1,t2,t3,t4,t5,ag]
    simp(disch:=first|(simp;done)|omega|rfl) [-getElem?_pos,f1,f6,hr,hf,h7]
    exact⟨m',by omega,⟨f6,kz,k+1,(x+y+c)/1000000000,v',D++[(x+y+c)%1000000000],by omega,by simp,by simp[t2],by simp,by omega,by omega,hz,f5,by simp[hD],dD.app (Di.one (by omega) (by omega)),qE⟩⟩
   ·have i1:¬(k:Int)<(la.length:Int):=by omega
    have i2:(k:Int)<(lb.length:Int):=by omega
    simp(disch:=first|(simp;done)|omega|rfl) [-getElem?_pos,A.jN,hr,hf,h7,h6,h5,lu,lv,g1,g2,i1,i2,e1,e2,t1,t2,t3,t4,t5,ag]
    simp(disch:=first|(simp;done)|omega|rfl) [-getElem?_pos,f1,f6,hr,hf,h7]
    exact⟨m',by omega,⟨f6,kz,k+1,(x+y+c)/1000000000,v',D++[(x+y+c)%1000000000],by omega,by simp,by simp[t2],by simp,by omega,by omega,hz,f5,by simp[hD],dD.app (Di.one (by omega) (by omega)),qE⟩⟩
   ·have i1:¬(k:Int)<(la.length:Int):=by omega
    have i2:¬(k:Int)<(lb.length:Int):=by omega
    simp(disch:=first|(simp;done)|omega|rfl) [-getElem?_pos,A.jN,hr,hf,h7,h6,h5,lu,lv,g1,g2,g3,i1,i2,e1,e2,t1,t2,t3,t4,t5,ag]
    simp(disch:=first|(simp;done)|omega|rfl) [-getElem?_pos,f1,f6,hr,hf,h7]
    exact⟨m',by omega,⟨f6,kz,k+1,(x+y+c)/1000000000,v',D++[(x+y+c)%1000000000],by omega,by simp,by simp[t2],by simp,by omega,by omega,hz,f5,by simp[hD],dD.app (Di.one (by omega) (by omega)),qE⟩⟩
  ·obtain⟨g1,g2,g3⟩:¬k<la.length/\¬k<lb.length/\¬0<c:=by omega
   have i1:¬(k:Int)<(la.length:Int):=by omega
   have i2:¬(k:Int)<(lb.length:Int):=by omega
   obtain rfl:c=0:=by omega
   rw[To (by omega),To (by omega),Int.mul_zero,Int.add_zero]at oz
   simp(disch:=first|(simp;done)|omega|rfl) [-getElem?_pos,A.jN,hr,hf,h7,h6,lu,lv,g1,g2,i1,i2,hW,hK]
   exact⟨out,h5,D,ho,dD,oz,by omega⟩
 ·rintro _ r ⟨H,n1,W⟩ hr ⟨rfl,hW,hK,out,D,h5,ho,dD,oz,hl⟩
  simp only at hW hK ho
  simp(disch:=first|(simp;done)|omega|rfl) [-getElem?_pos,hr,h5,aF,hW,hK]
  exact⟨D,ho.sl,dD,oz,hl⟩
variable {N:Nat} {h:T O}
def A.b66:=A.q Tryz.f66
def A.k66:=@A.kk 66 40 [.cell 4 (some 2)] A.b66 (by kernel_rfl) rfl
def A.b149:=A.q Tryz.f149
def A.k149:=@A.kk 149 9 [.cell 2 (some 2)] A.b149 (by kernel_rfl) rfl
def A.b67:=A.q Tryz.f67
def A.k67:=@A.kk 67 16 [.cell 4 (some 2)] A.b67 (by kernel_rfl) rfl
def Tp(k:Nat):pI k=((1000000000^k:Nat):Int):=by unfold pI;simp
def Rg.ah{h':T O}{N':Nat}{v:V}{z:Int}(s:Rg h N v z)(k:ae h N h' N'):Rg h' N' v z:=by
 obtain⟨u,h1,h2⟩:=s
 exact⟨u,h1,h2.ah k⟩
def jo:∀x∈[V.bool false,V.aa],∀k m,x≠.int k m:=by intro x hx k m;simp at hx;rcases hx with rfl|rfl<;>simp
def Ymn{b:Bool}{u:V}(hu:JB u):∀x∈[V.bool b,u],∀k m,x≠.int k m:=by
 intro x hx k m
 simp at hx
 rcases hx with rfl|rfl
 ·simp
 ·rcases hu with rfl|rfl|⟨_,_,_,_,_,rfl⟩<;>simp
def Zyz(a b:Nat):(ds (a*b)).length<=(ds a).length+(ds b).length:=by
 refine Mk ?_
 have h1:=vz (gm a)
 have h2:=vz (gm b)
 rw[gI]at h1 h2
 rw[Tp]at h1 h2
 rw[iF]
 exact B4 (Int.ofNat_lt.1 h1) (Int.ofNat_lt.1 h2)
def Zvq{v:V}{z:Int}(hs:Rg h N v z)(hl:(ds z.natAbs).length<1099511627776):Fn A.C 149 [v] h N (fun u h' n'=>Rg h' n' u (-z)):=by
 intro w
 obtain⟨u,rfl,hu⟩:=hs
 have o1:=Sl.form hu |>.one
 have o2:=Sl.form hu |>.cells
 unfold V.one at o1
 unfold V.cells at o2
 have kB:=(((ae.refl (h:=h) (n:=N)).new (.cells [.bool (decide (z<0)),u] 92 true)).new (.cells [.bool false,.aa] 92 true))
 rw[aV,A.k149 (by simp)]
 simp(disch:=first|(simp;done)|omega|rfl) [-getElem?_pos,A.b149,o1,o2,ag,aJ,aE]
 refine az (vS (b:=!decide (z<0)) (n:=z.natAbs) (Sl.ah hu kB) (gm _) (gI _) (by omega)) ?_
 rintro v2 h2 n2 k2 hv
 have vT:=k2.le
 have g1:=(k2.get (N+1) (by omega))
 rw[T.aj,aQ rfl]at g1
 have kk:=kB.trans k2
 have ez:(if (!decide (z<0))=true then -((z.natAbs:Nat):Int) else ((z.natAbs:Nat):Int))= -z:=by
  by_cases h0:z<0<;>simp[h0]<;>omega
 rw[ez]at hv
 obtain⟨u2,rfl,fD⟩:=hv
 have p1:=Sl.form fD |>.one
 have p2:=Sl.form fD |>.cells
 unfold V.one at p1
 unfold V.cells at p2
 simp(disch:=first|(simp;done)|omega|rfl) [-getElem?_pos,g1,p1,p2,ag,bE,aJ,aE,aF]
 exact⟨kk.set (by omega),u2,by simp,Sl.setInt fD g1 jo rfl⟩
def Yiw(a b:Int):(if (!(decide (a<0)==decide (b<0)))=true then -((a.natAbs*b.natAbs:Nat):Int) else ((a.natAbs*b.natAbs:Nat):Int))=a*b:=by
 have h0:((a.natAbs*b.natAbs:Nat):Int)=(a.natAbs:Int)*(b.natAbs:Int):=by simp
 rw[h0]
 by_cases h1:a<0<;>by_cases h2:b<0
 ·have ha:(a.natAbs:Int)= -a:=by omega
  have hb:(b.natAbs:Int)= -b:=by omega
  rw[ha,hb];simp[h1,h2,Int.neg_mul,Int.mul_neg]
 ·have ha:(a.natAbs:Int)= -a:=by omega
  have hb:(b.natAbs:Int)=b:=by omega
  rw[ha,hb];simp[h1,h2,Int.neg_mul,Int.mul_neg]
 ·have ha:(a.natAbs:Int)=a:=by omega
  have hb:(b.natAbs:Int)= -b:=by omega
  rw[ha,hb];simp[h1,h2,Int.neg_mul,Int.mul_neg]
 ·have ha:(a.natAbs:Int)=a:=by omega
  have hb:(b.natAbs:Int)=b:=by omega
  rw[ha,hb];simp[h1,h2,Int.neg_mul,Int.mul_neg]
def Pj{x y:V}{a b:Int}(hx:Rg h N x a)(hy:Rg h N y b)(l1:(ds a.natAbs).length<500000000000)(l2:(ds b.natAbs).length<500000000000):Fn A.C 67 [x,y] h N (fun u h' n'=>Rg h' n' u (a*b)):=by
 intro w
 obtain⟨u,rfl,hu⟩:=hx
 obtain⟨v,rfl,hv⟩:=hy
 have o1:=Sl.form hu |>.one
 have o2:=Sl.form hu |>.cells
 have o3:=Sl.form hv |>.one
 have o4:=Sl.form hv |>.cells
 unfold V.one at o1 o3
 unfold V.cells at o2 o4
 have kB:=((((ae.refl (h:=h) (n:=N)).new (.cells [.bool (decide (a<0)),u] 92 true)).new (.cells [.bool (decide (b<0)),v] 92 true)).new (.cells [.bool false,.aa] 92 true))
 rw[aV,A.k67 (by simp)]
 simp(disch:=first|(simp;done)|omega|rfl) [-getElem?_pos,A.b67,o1,o2,o3,o4,ag,aJ,aE,aL]
 generalize hB:((h.set N (.cells [.bool (decide (a<0)),u] 92 true)).set (N+1) (.cells [.bool (decide (b<0)),v] 92 true)).set (N+1+1) (.cells [.bool false,.aa] 92 true)=HB at*
 have gr:HB.get (N+1+1)=some (.cells [.bool false,.aa] 92 true):=by rw[<-hB];simp
 refine az (Zs4 (Sl.ah hu kB) (Sl.ah hv kB) (gm _) (gm _) (gI _) (gI _) (by omega)) ?_
 rintro v1 h1 n1 k1 q1
 have Ct:(ds (a.natAbs*b.natAbs)).length<1152921504606846976:=by
  have:=Zyz a.natAbs b.natAbs;omega
 simp(disch:=first|(simp;done)|omega|rfl) [-getElem?_pos,]
 refine az (vS (n:=a.natAbs*b.natAbs) q1 (gm _) (gI _) Ct) ?_
 rintro v2 h2 n2 k2 bK
 have uw:=k1.le
 have oP:=k2.le
 have g1:=(k2.get (N+1+1) (by omega)).trans ((k1.get (N+1+1) (by omega)).trans gr)
 have ez:(if (!(decide (a<0)==decide (b<0)))=true then -((a.natAbs*b.natAbs:Nat):Int) else ((a.natAbs*b.natAbs:Nat):Int))=a*b:=Yiw a b
 rw[ez]at bK
 obtain⟨u2,rfl,fD⟩:=bK
 have p1:=Sl.form fD |>.one
 have p2:=Sl.form fD |>.cells
 unfold V.one at p1
 unfold V.cells at p2
 simp(disch:=first|(simp;done)|omega|rfl) [-getElem?_pos,g1,p1,p2,ag,bE,aJ,aE,aF,bU.bZ]
 exact⟨by split<;>simp[aD],((kB.trans k1).trans k2).set (by omega),u2,rfl,Sl.setInt fD g1 jo rfl⟩
set_option maxHeartbeats 4000000
structure SuI (h:T O) (N:Nat) (la lb:List Int) (m:Nat) (r:T V) (st:St):Prop where
 w:aD N st.w=[]
 ah:ae h N st.h st.n
 ex:∃k c out D,k+m=la.length/\r.get 7=some (.int .i64 k)/\r.get 6=some (.int .i64 c)/\r.get 5=some out/\0<=c/\c<=1/\Own 1 3 N st.h st.n out (po D)/\D.length=k/\Di D/\vI D-pI k*c=vI (la.take k)-vI (lb.take k)
def Yaa{h:T O}{N:Nat}{u v:V}{a b:Nat}(hu:Dn h N u a)(hv:Dn h N v b)(ml:b<=a)(l1:(ds a).length<1099511627776):Fn A.C 155 [u,v] h N (fun x h' n'=>Dn h' n' x (a-b)):=by
 intro w
 have l2:=ud ml
 have da:=gm a
 have db:=gm b
 have va:=gI a
 have vb:=gI b
 have lu:=Sl.len hu
 have lv:=Sl.len hv
 rw[g_]at lu lv
 have hu:Sl h N u (dI (ds a)):=hu
 have hv:Sl h N v (dI (ds b)):=hv
 generalize hA:ds a=la at*
 generalize hB:ds b=lb at*
 rw[aV,A.k155 (by simp)]
 simp(disch:=first|(simp;done)|omega|rfl) [-getElem?_pos,A.b155]
 refine c_ [(5,32)] (fun e r st=>e=.exit 0/\SuI h N la lb 0 r st) (SuI h N la lb) la.length ?_ ?_ ?_
 ·exact⟨by simp,ae.refl,0,0,.aa,[],by omega,by simp,by simp,by simp,by omega,by omega,Own.nil,rfl,Di.nil,by simp[vI]⟩
 ·rintro m r ⟨H,n1,W⟩ hr hf ⟨hW,hK,k,c,out,D,hk,h7,h6,h5,c0,c1,ho,hD,dD,oz⟩
  simp only at hW hK ho
  rw[dk]
  cases m with
  |zero=>
   obtain rfl:k=la.length:=by omega
   simp(disch:=first|(simp;done)|omega|rfl) [-getElem?_pos,A.mV,hr,hf,h7,lu]
   exact⟨hW,hK,la.length,c,out,D,by omega,by simp[h7],by simp[h6],by simp[h5],c0,c1,ho,hD,dD,oz⟩
  |succ m=>
   have aP:k<la.length:=by omega
   have ew:(k:Int)<(la.length:Int):=by omega
   obtain⟨x,hx⟩:=fz aP
   have dx:=da.get hx
   have dy:=Yii db k
   obtain⟨i,o,cc,e,rw,q1,q2,q3,q4⟩:=(hu.ah hK).at (gQ hx)
   have e2:=fun w=>Zp0 (w:=w) (i:=k) (hv.ah hK) (by omega) (by omega)
   obtain⟨y,hy⟩:∃y,zI lb k=y:=⟨_,rfl⟩
   rw[hy]at dy e2
   have t3:bn .i64 (x-y)=x-y:=cL (by omega) (by omega)
   have t4:bn .i64 (x-y-c)=x-y-c:=cL (by omega) (by omega)
   have t5:bn .i64 (x-y-c+1000000000)=x-y-c+1000000000:=cL (by omega) (by omega)
   have hs:∀d c':Int,d-1000000000*c'=x-y-c->vI (D++[d])-pI (k+1)*c'=vI (la.take (k+1))-vI (lb.take (k+1)):=fun d c' he=>by
    rw[CC,hD,yy hx,Zmb,hy,qD]
    have:d=x-y-c+1000000000*c':=by omega
    subst this
    grind
   have ap:∀d:Int,∃v' h' w',l8 ⟨H.set n1 (.cells [.int .i64 d] 3 true),n1+1,W⟩ 1 8 3 out (.slice n1 0 1 (some 1) 1)=some (v',⟨h',n1+1+1,w'⟩)/\aD N w'=[]/\ae h N h' (n1+1+1)/\Own 1 3 N h' (n1+1+1) v' (po (D++[d])):=fun d=>by
    have xz:=ho.ah (ae.refl.new (.cells [.int .i64 d] 3 true))
    obtain⟨v',h',w',f1,f2,f3,_,f5⟩:=xh (x:=[.int .i64 d]) (u:=.slice n1 0 1 (some 1) 1) (bytes:=8) (w:=W) xz (by have:=hK.le;omega) (by decide) rfl (by simp[gp,St.row,aE]) (by simp[po];omega)
    rw[<-Ec]at f5
    exact⟨v',h',w',f1,by rw[f2];exact hW,(hK.new (.cells [.int .i64 d] 3 true)).then f3,f5⟩
   by_cases eI:x-y-c<0
   ·obtain⟨v',h',w',f1,f2,f3,f5⟩:=ap (x-y-c+1000000000)
    simp(disch:=first|(simp;done)|omega|rfl) [-getElem?_pos,A.mV,hr,hf,h7,h6,h5,lu,ew,aP,q1,q2,q3,q4,e2,t3,t4,t5,eI,ag,bU.bZ]
    simp(disch:=first|(simp;done)|omega|rfl) [-getElem?_pos,f1,hr,hf,h7]
    exact⟨m,by omega,⟨f2,f3,k+1,1,v',D++[x-y-c+1000000000],by omega,by simp,by simp,by simp,by omega,by omega,f5,by simp[hD],dD.app (Di.one (by omega) (by omega)),hs _ _ (by omega)⟩⟩
   ·obtain⟨v',h',w',f1,f2,f3,f5⟩:=ap (x-y-c)
    simp(disch:=first|(simp;done)|omega|rfl) [-getElem?_pos,A.mV,hr,hf,h7,h6,h5,lu,ew,aP,q1,q2,q3,q4,e2,t3,t4,eI,ag,bU.bZ]
    simp(disch:=first|(simp;done)|omega|rfl) [-getElem?_pos,f1,hr,hf,h7]
    exact⟨m,by omega,⟨f2,f3,k+1,0,v',D++[x-y-c],by omega,by simp,by simp,by simp,by omega,by omega,f5,by simp[hD],dD.app (Di.one (by omega) (by omega)),hs _ _ (by omega)⟩⟩
 ·rintro _ r ⟨H,n1,W⟩ hr ⟨rfl,hW,hK,k,c,out,D,hk,h7,h6,h5,c0,c1,ho,hD,dD,oz⟩
  simp only at hW hK ho
  obtain rfl:k=la.length:=by omega
  rw[To (aZ _),To (by omega),va,vb]at oz
  have aP:=vz dD
  rw[hD]at aP
  have c2:c=0:=by
   apply Int.le_antisymm _ c0
   apply DM
   intro hc
   have:c=1:=by omega
   subst this
   omega
  subst c2
  have hvD:vI D=((a-b:Nat):Int):=by omega
  simp(disch:=first|(simp;done)|omega|rfl) [-getElem?_pos,hr,h5]
  refine az (HW ho.sl (by omega)) ?_
  rintro v2 h2 n2 k2 q2
  rw[HZ dD hvD]at q2
  simp(disch:=first|(simp;done)|omega|rfl) [-getElem?_pos,aF,hW]
  exact⟨hK.trans k2,q2⟩
def Yde{a b:Nat}:(0<=Bp a b)↔b<=a:=by unfold Bp;split<;>(try split)<;>omega
def Yjf{h:T O}{N:Nat}{x y:V}{a b:Int}(hx:Rg h N x a)(hy:Rg h N y b)(l1:(ds a.natAbs).length<500000000000)(l2:(ds b.natAbs).length<500000000000):Fn A.C 66 [x,y] h N (fun u h' n'=>Rg h' n' u (a+b)):=by
 intro w
 obtain⟨u,rfl,hu⟩:=hx
 obtain⟨v,rfl,hv⟩:=hy
 have o1:=Sl.form hu |>.one
 have o2:=Sl.form hu |>.cells
 have o3:=Sl.form hv |>.one
 have o4:=Sl.form hv |>.cells
 unfold V.one at o1 o3
 unfold V.cells at o2 o4
 have kB:=((((ae.refl (h:=h) (n:=N)).new (.cells [.bool (decide (a<0)),u] 92 true)).new (.cells [.bool (decide (b<0)),v] 92 true)).new (.cells [.bool false,.aa] 92 true))
 rw[aV,A.k66 (by simp)]
 generalize hB:((h.set N (.cells [.bool (decide (a<0)),u] 92 true)).set (N+1) (.cells [.bool (decide (b<0)),v] 92 true)).set (N+1+1) (.cells [.bool false,.aa] 92 true)=HB at kB
 have gr:HB.get (N+1+1)=some (.cells [.bool false,.aa] 92 true):=by rw[<-hB];simp
 have gx:HB.get N=some (.cells [.bool (decide (a<0)),u] 92 true):=by rw[<-hB];simp
 have gy:HB.get (N+1)=some (.cells [.bool (decide (b<0)),v] 92 true):=by rw[<-hB];simp
 by_cases CD:decide (a<0)=decide (b<0)
 ·have JC:(decide (a<0)==decide (b<0))=true:=by rw[CD];simp
  simp(disch:=first|(simp;done)|omega|rfl) [-getElem?_pos,A.b66,o1,o2,o3,o4,ag,aJ,aE,aL,JC]
  simp only[hB]
  refine az (Yjc (Sl.ah hu kB) (Sl.ah hv kB) (gm _) (gm _) (by omega) (by omega)) ?_
  rintro v1 h1 n1 k1 ⟨l,q1,q2,q3,q4⟩
  rw[gI,gI]at q3
  have ez:(if decide (a<0)=true then -((a.natAbs+b.natAbs:Nat):Int) else ((a.natAbs+b.natAbs:Nat):Int))=a+b:=by
   by_cases h1:a<0<;>by_cases h2:b<0<;>simp[h1,h2]at CD ⊢<;>omega
  simp(disch:=first|(simp;done)|omega|rfl) [-getElem?_pos,]
  refine az (vS (b:=decide (a<0)) (n:=a.natAbs+b.natAbs) q1 q2 (by rw[q3];try simp) (by omega)) ?_
  rintro v2 h2 n2 k2 bK
  rw[ez]at bK
  have uw:=k1.le
  have oP:=k2.le
  have g1:=(k2.get (N+1+1) (by omega)).trans ((k1.get (N+1+1) (by omega)).trans gr)
  obtain⟨u2,rfl,fD⟩:=bK
  have p1:=Sl.form fD |>.one
  have p2:=Sl.form fD |>.cells
  unfold V.one at p1
  unfold V.cells at p2
  simp(disch:=first|(simp;done)|omega|rfl) [-getElem?_pos,g1,p1,p2,ag,bE,aJ,aE,aF,bU.bZ]
  exact⟨by split<;>simp[aD],((kB.trans k1).trans k2).set (by omega),u2,rfl,Sl.setInt fD g1 jo rfl⟩
 ·have JC:(decide (a<0)==decide (b<0))=false:=by simpa using CD
  have zX:=fun w=>Zui (w:=w) (Sl.ah hu kB) (Sl.ah hv kB) (by omega) (by omega)
  by_cases oV:b.natAbs<=a.natAbs
  ·have Ab:0<=Bp a.natAbs b.natAbs:=Yde.2 oV
   simp(disch:=first|(simp;done)|omega|rfl) [-getElem?_pos,A.b66,o1,o2,o3,o4,ag,aJ,aE,aL,JC]
   simp only[hB]
   simp(disch:=first|(simp;done)|omega|rfl) [-getElem?_pos,zX,Ab,gx,gy,aJ,ag,aE]
   refine az (Yaa (Sl.ah hu kB) (Sl.ah hv kB) oV (by omega)) ?_
   rintro v1 h1 n1 k1 q1
   have q2:=gm (a.natAbs-b.natAbs)
   have q3:=gI (a.natAbs-b.natAbs)
   have q4:=ud (Nat.sub_le a.natAbs b.natAbs)
   have ez:(if decide (a<0)=true then -((a.natAbs-b.natAbs:Nat):Int) else ((a.natAbs-b.natAbs:Nat):Int))=a+b:=by
    by_cases h1:a<0<;>by_cases h2:b<0<;>simp[h1,h2]at CD ⊢<;>omega
   simp(disch:=first|(simp;done)|omega|rfl) [-getElem?_pos,]
   refine az (vS (b:=decide (a<0)) (n:=a.natAbs-b.natAbs) q1 q2 (by rw[q3];try simp) (by omega)) ?_
   rintro v2 h2 n2 k2 bK
   rw[ez]at bK
   have uw:=k1.le
   have oP:=k2.le
   have g1:=(k2.get (N+1+1) (by omega)).trans ((k1.get (N+1+1) (by omega)).trans gr)
   obtain⟨u2,rfl,fD⟩:=bK
   have p1:=Sl.form fD |>.one
   have p2:=Sl.form fD |>.cells
   unfold V.one at p1
   unfold V.cells at p2
   simp(disch:=first|(simp;done)|omega|rfl) [-getElem?_pos,g1,p1,p2,ag,bE,aJ,aE,aF,bU.bZ]
   exact⟨by split<;>simp[aD],((kB.trans k1).trans k2).set (by omega),u2,rfl,Sl.setInt fD g1 jo rfl⟩
  ·have Ab:¬0<=Bp a.natAbs b.natAbs:=fun hc=>oV (Yde.1 hc)
   simp(disch:=first|(simp;done)|omega|rfl) [-getElem?_pos,A.b66,o1,o2,o3,o4,ag,aJ,aE,aL,JC]
   simp only[hB]
   simp(disch:=first|(simp;done)|omega|rfl) [-getElem?_pos,zX,Ab,gx,gy,aJ,ag,aE]
   refine az (Yaa (Sl.ah hv kB) (Sl.ah hu kB) (by omega) (by omega)) ?_
   rintro v1 h1 n1 k1 q1
   have q2:=gm (b.natAbs-a.natAbs)
   have q3:=gI (b.natAbs-a.natAbs)
   have q4:=ud (Nat.sub_le b.natAbs a.natAbs)
   have ez:(if decide (b<0)=true then -((b.natAbs-a.natAbs:Nat):Int) else ((b.natAbs-a.natAbs:Nat):Int))=a+b:=by
    by_cases h1:a<0<;>by_cases h2:b<0<;>simp[h1,h2]at CD ⊢<;>omega
   simp(disch:=first|(simp;done)|omega|rfl) [-getElem?_pos,]
   refine az (vS (b:=decide (b<0)) (n:=b.natAbs-a.natAbs) q1 q2 (by rw[q3];try simp) (by omega)) ?_
   rintro v2 h2 n2 k2 bK
   rw[ez]at bK
   have uw:=k1.le
   have oP:=k2.le
   have g1:=(k2.get (N+1+1) (by omega)).trans ((k1.get (N+1+1) (by omega)).trans gr)
   obtain⟨u2,rfl,fD⟩:=bK
   have p1:=Sl.form fD |>.one
   have p2:=Sl.form fD |>.cells
   unfold V.one at p1
   unfold V.cells at p2
   simp(disch:=first|(simp;done)|omega|rfl) [-getElem?_pos,g1,p1,p2,ag,bE,aJ,aE,aF,bU.bZ]
   exact⟨by split<;>simp[aD],((kB.trans k1).trans k2).set (by omega),u2,rfl,Sl.setInt fD g1 jo rfl⟩
end
end Go.Mx
