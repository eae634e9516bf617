/-Numbers as strings-/
import Derived.Test.YtlbnjhhebffhdaaGreatDoorRbB
set_option linter.all false
namespace Go.Mx
noncomputable section
open Go
variable {s:bj}
def TY:∀{s t:bj},(∀c∈s,c.toNat≠47)->ak (s++47::t)=s.length
 |[],t,_=>rfl
 |c::s,t,h=>by
  have h1:=h c oV
  have:=TY (s:=s) (t:=t) fun d hd=>h d (oY _ hd)
  simp[ak,h1,this]
def TZ:∀{s:bj},(∀c∈s,c.toNat≠47)->ak s=s.length
 |[],_=>rfl
 |c::s,h=>by
  have h1:=h c oV
  have:=TZ (s:=s) fun d hd=>h d (oY _ hd)
  simp[ak,h1,this]
def Znd:∀{s:bj},ak s<s.length->s.drop (ak s)=47::s.drop (ak s+1)
 |[],h=>by simp[ak]at h
 |c::s,h=>by
  by_cases hc:c.toNat=47
  ·have:c=47:=UInt8.toNat_inj.1 hc
   subst this
   simp[ak]
  ·simp only[ak,hc,if_false,bC]at h ⊢
   have:=Znd (s:=s) (by omega)
   simpa using this
def Mo(h:cO s=true):∀c∈s,c.toNat≠47:=by
 intro c hc
 unfold cO at h
 rw[uv]at h
 have:=h c hc
 unfold jN at this
 simp only[decide_eq_true_eq]at this
 omega
def Yft(z:Int):∀c∈aU z,c.toNat≠47:=by
 unfold aU
 split
 ·intro c hc
  rcases kV.1 hc with rfl|hc
  ·decide
  ·exact Mo (Zb9 _) c hc
 ·exact Mo (Zb9 _)
def Ydk(n:Nat):cF (aq n)=false:=by
 obtain⟨c,t,e,h1,h2⟩:=Zpw (n:=n)
 rw[e]
 simp[cF];omega
def Zf3(z:Int):cF (aU z)=decide (z<0):=by
 unfold aU
 split
 ·rename_i h;simp[cF,h]
 ·rename_i h;rw[Ydk];simp[h]
def Mq(z:Int):Zas (aU z)=aq z.natAbs:=by
 unfold Zas
 rw[Zf3]
 by_cases h:z<0
 ·simp[h,aU]
 ·simp[h,aU]
def Mr(q:Rat):ak (Zao q)=(aU q.num).length:=by
 unfold Zao
 split
 ·exact TZ (Yft _)
 ·exact TY (Yft _)
def Pg(q:Rat):(Zao q).take (ak (Zao q))=aU q.num:=by
 rw[Mr]
 unfold Zao
 split
 ·simp
 ·simp
def Ph(q:Rat)(h:q.den≠1):(Zao q).drop (ak (Zao q)+1)=aq q.den:=by
 rw[Mr]
 unfold Zao
 rw[aA h,<-List.drop_drop]
 simp
def yJ(q:Rat):ak (Zao q)<(Zao q).length↔q.den≠1:=by
 rw[Mr]
 unfold Zao
 split
 ·rename_i h;simp[h]
 ·rename_i h;simp[h]
def Yjl{a b:Int}(h:aU a=aU b):a=b:=by
 have h1:=congrArg cF h
 have h2:=congrArg Zas h
 rw[Zf3,Zf3,decide_eq_decide]at h1
 rw[Mq,Mq]at h2
 have h3:=Pj h2
 omega
def Zh8{a b:Rat}(h:Zao a=Zao b):a=b:=by
 have h1:=Pg a
 rw[h,Pg b]at h1
 have h2:=Yjl h1
 have h3:a.den=b.den:=by
  by_cases ha:a.den=1
  ·have:=mt (yJ a).1 (fun hc=>hc ha)
   rw[h]at this
   rw[yJ]at this
   rw[ha];exact(Decidable.not_not.1 this).symm
  ·have:=(yJ a).2 ha
   rw[h]at this
   have hb:=(yJ b).1 this
   have e:=Ph a ha
   rw[h,Ph b hb]at e
   exact(Pj e).symm
 exact Rat.ext h2.symm h3
def aY(s:bj):Rat:=mkRat (if cF s then -(aN ((Zas s).take (ak (Zas s))):Int) else aN ((Zas s).take (ak (Zas s)))) (if ak (Zas s)<(Zas s).length then aN ((Zas s).drop (ak (Zas s)+1)) else 1)
def Yjs(h:aV s=0):fP (cF s) ((Zas s).take (ak (Zas s))) (decide (ak (Zas s)<(Zas s).length)) ((Zas s).drop (ak (Zas s)+1))=true/\((Zas s).take (ak (Zas s))).length<=600/\((Zas s).drop (ak (Zas s)+1)).length<=600/\(ak (Zas s)<(Zas s).length->Nat.gcd (aN ((Zas s).take (ak (Zas s)))) (aN ((Zas s).drop (ak (Zas s)+1)))=1):=by
 unfold aV JB js at h
 split at h
 ·cases h
 ·rename_i h1
  split at h
  ·cases h
  ·rename_i h2
   split at h
   ·cases h
   ·rename_i h3
    refine⟨by simpa using h1,by omega,by omega,fun hs=>?_⟩
    rw[decide_eq_true hs]at h3
    simpa using h3
def Zsm{n:Int}{d:Nat}(hd:d≠0)(h:Nat.gcd n.natAbs d=1):(mkRat n d).num=n/\(mkRat n d).den=d:=by
 have:mkRat n d=⟨n,d,hd,h⟩:=by
  rw[Rat.mkRat_def,dif_neg hd]
  exact Rat.normalize_eq_mk' _ _ hd h
 rw[this]
 exact⟨rfl,rfl⟩
def Ybd(s:bj):s=(if cF s then [45] else [])++Zas s:=by
 cases s with
 |nil=>rfl
 |cons c t=>
  unfold Zas
  by_cases hc:c.toNat=45
  ·have:c=45:=UInt8.toNat_inj.1 hc
   subst this
   simp[cF]
  ·simp[cF,hc]
def kr(h:aV s=0):Zao (aY s)=s/\(aq (aY s).num.natAbs).length<=600/\(aq (aY s).den).length<=600:=by
 obtain⟨h1,h2,h3,h4⟩:=Yjs h
 have hle:=BN (Zas s)
 unfold fP at h1
 simp only[jc,IE,IF,decide_eq_true_eq]at h1
 obtain⟨⟨hp,hz⟩,hd⟩:=h1
 have JC:cF s=true->aN ((Zas s).take (ak (Zas s)))≠0:=by
  intro hn h0
  rw[hn,Bool.true_and,decide_eq_false_iff_not]at hz
  apply hz
  have:=Bi hp
  rw[h0]at this
  exact this.symm
 have Cq:(aq (aN ((Zas s).take (ak (Zas s))))).length<=600:=by
  rw[Bi hp];exact h2
 have hb:=Ybd s
 by_cases hs:ak (Zas s)<(Zas s).length
 ·have hd:ij ((Zas s).drop (ak (Zas s)+1))=true/\(Zas s).drop (ak (Zas s)+1)≠[48]/\(Zas s).drop (ak (Zas s)+1)≠[49]:=by
   rcases hd with hd|⟨⟨a,b⟩,c⟩
   ·exact absurd hs (by simpa using hd)
   ·exact⟨a,b,c⟩
  have hg:=h4 hs
  have lK:aN ((Zas s).drop (ak (Zas s)+1))≠0:=by
   intro h0
   have:=Bi hd.1
   rw[h0]at this
   exact hd.2.1 this.symm
  have rW:aN ((Zas s).drop (ak (Zas s)+1))≠1:=by
   intro h0
   have:=Bi hd.1
   rw[h0]at this
   exact hd.2.2 (this.symm.trans (by decide+kernel))
  have hdl:(aq (aN ((Zas s).drop (ak (Zas s)+1)))).length<=600:=by
   rw[Bi hd.1];exact h3
  have hv:aY s=mkRat (if cF s then -(aN ((Zas s).take (ak (Zas s))):Int) else aN ((Zas s).take (ak (Zas s)))) (aN ((Zas s).drop (ak (Zas s)+1))):=by
   unfold aY;rw[aR hs]
  obtain⟨e1,e2⟩:=Zsm (n:=if cF s then -(aN ((Zas s).take (ak (Zas s))):Int) else aN ((Zas s).take (ak (Zas s)))) lK (by split<;>simpa using hg)
  rw[<-hv]at e1 e2
  have Pk:Zas s=(Zas s).take (ak (Zas s))++47::(Zas s).drop (ak (Zas s)+1):=by
   conv=>lhs;rw[<-AO (ak (Zas s)) (Zas s)]
   rw[Znd hs]
  refine⟨?_,?_,by rw[e2];exact hdl⟩
  ·unfold Zao
   rw[e2,aA rW,Bi hd.1,e1]
   conv=>rhs;rw[hb,Pk]
   unfold aU
   cases hn:cF s with
   |false=>
    simp only[gj,if_false]
    rw[aA (by omega),eA,Bi hp];rfl
   |true=>
    have:=JC hn
    simp only[if_true]
    rw[aR (by omega),AR,eA,Bi hp];rfl
  ·rw[e1]
   split<;>simpa using Cq
 ·have hv:aY s=mkRat (if cF s then -(aN ((Zas s).take (ak (Zas s))):Int) else aN ((Zas s).take (ak (Zas s)))) 1:=by
   unfold aY;rw[aA hs]
  obtain⟨e1,e2⟩:=Zsm (n:=if cF s then -(aN ((Zas s).take (ak (Zas s))):Int) else aN ((Zas s).take (ak (Zas s)))) (show (1:Nat)≠0 by decide) (Nat.gcd_one_right _)
  rw[<-hv]at e1 e2
  have ht:(Zas s).take (ak (Zas s))=Zas s:=jP (by omega)
  rw[ht]at e1 hp JC Cq
  refine⟨?_,?_,by rw[e2];decide+kernel⟩
  ·unfold Zao
   rw[e2,aR rfl,e1]
   conv=>rhs;rw[hb]
   unfold aU
   cases hn:cF s with
   |false=>
    simp only[gj,if_false]
    rw[aA (by omega),eA,Bi hp];rfl
   |true=>
    have:=JC hn
    simp only[if_true]
    rw[aR (by omega),AR,eA,Bi hp];rfl
  ·rw[e1]
   split<;>simpa using Cq
def Ztm(q:Rat):Zas (Zao q)=if q.den=1 then aq q.num.natAbs else aq q.num.natAbs++47::aq q.den:=by
 have dN:∀t:bj,cF (aU q.num++t)=decide (q.num<0):=by
  intro t
  rw[<-Zf3]
  have:aU q.num≠[]:=by
   unfold aU;split
   ·simp
   ·exact JD _
  cases h:aU q.num with
  |nil=>exact absurd h this
  |cons c u=>rfl
 have hb:∀t:bj,Zas (aU q.num++t)=aq q.num.natAbs++t:=by
  intro t
  unfold Zas
  rw[dN]
  by_cases h:q.num<0
  ·simp[h,aU]
  ·simp[h,aU]
 unfold Zao
 split
 ·have:=hb [];simpa using this
 ·exact hb _
def Zxf(q:Rat):cF (Zao q)=decide (q.num<0):=by
 have dN:∀t:bj,cF (aU q.num++t)=decide (q.num<0):=by
  intro t
  rw[<-Zf3]
  have:aU q.num≠[]:=by
   unfold aU;split
   ·simp
   ·exact JD _
  cases h:aU q.num with
  |nil=>exact absurd h this
  |cons c u=>rfl
 unfold Zao
 split
 ·have:=dN [];simpa using this
 ·exact dN _
def Zrq(q:Rat):(Zas (Zao q)).take (ak (Zas (Zao q)))=aq q.num.natAbs/\(ak (Zas (Zao q))<(Zas (Zao q)).length↔q.den≠1)/\(Zas (Zao q)).drop (ak (Zas (Zao q))+1)=if q.den=1 then [] else aq q.den:=by
 rw[Ztm]
 by_cases h:q.den=1
 ·simp only[h,if_true]
  rw[TZ (Mo (Zb9 _))]
  simp
 ·simp only[h,if_false]
  rw[TY (Mo (Zb9 _))]
  simp[h]
def vk(q:Rat):Bool:=decide (600<(aq q.num.natAbs).length\/600<(aq q.den).length)
def Yld:aq 0=[48]:=rfl
def T0:aq 1=[49]:=by decide+kernel
def Yba(q:Rat):aV (Zao q)=if vk q then 4 else 0:=by
 obtain⟨h1,h2,h3⟩:=Zrq q
 have hf:fP (cF (Zao q)) (aq q.num.natAbs) (decide (q.den≠1)) (if q.den=1 then [] else aq q.den)=true:=by
  unfold fP
  rw[Zpu,Zxf]
  have hz:(decide (q.num<0)&&decide (aq q.num.natAbs=[48]))=false:=by
   by_cases hn:q.num<0
   ·have:aq q.num.natAbs≠[48]:=by
     intro h
     have:=Pj (h.trans Yld.symm)
     omega
    simp[this]
   ·simp[hn]
  rw[hz]
  by_cases hd:q.den=1
  ·simp[hd]
  ·have a1:aq q.den≠[48]:=fun h=>q.den_nz (Pj (h.trans Yld.symm))
   have a2:aq q.den≠[49]:=fun h=>hd (Pj (h.trans T0.symm))
   simp[hd,Zpu,a1,a2]
 have hb:(decide (ak (Zas (Zao q))<(Zas (Zao q)).length))=decide (q.den≠1):=decide_eq_decide.2 h2
 unfold aV JB
 rw[h1,h3,hb]
 unfold js
 rw[hf]
 have hg:¬(decide (q.den≠1)=true/\Nat.gcd (aN (aq q.num.natAbs)) (aN (if q.den=1 then [] else aq q.den))≠1):=by
  rintro⟨a,b⟩
  have a:q.den≠1:=by simpa using a
  rw[aA a,zU,zU]at b
  exact b q.reduced
 rw[aA (by simp),aA hg]
 unfold vk
 by_cases hd:q.den=1
 ·rw[hd,T0]
  simp
 ·simp[hd]
def og(q:Rat):aY (Zao q)=q:=by
 obtain⟨h1,h2,h3⟩:=Zrq q
 unfold aY
 rw[h1,h3,Zxf,zU]
 have hn:(if decide (q.num<0)=true then -(q.num.natAbs:Int) else (q.num.natAbs:Int))=q.num:=by
  by_cases h:q.num<0
  ·rw[aR (by simpa using h)];omega
  ·rw[aA (by simpa using h)];omega
 rw[hn]
 by_cases hd:q.den=1
 ·rw[aA (fun h=>(h2.1 h) hd)]
  have:=Rat.mkRat_self q
  rw[hd]at this
  exact this
 ·rw[aR (h2.2 hd),aA hd,zU]
  exact Rat.mkRat_self q
variable {i j k n:Nat}
def T1:∀{i n:Nat},i<(ds n).length->(ds n)[i]?=some ((n/1000000000^i%1000000000:Nat):Int)
 |i,n,h=>by
  by_cases hn:n=0
  ·rw[hn,ry]at h;simp at h
  ·rw[xN hn]at h ⊢
   cases i with
   |zero=>simp
   |succ i=>
    rw[Yx6,T1 (by simpa using h),ID,fV,iz]
def Ylb(h:i<(ds n).length):n/1000000000^i≠0:=by
 intro hc
 have h1:n<1000000000^i:=(Nat.div_eq_zero_iff_lt (vu (by decide))).1 hc
 have:=LS h1
 omega
def Yfr(h:i+1<(ds n).length):aq (n/1000000000^i)=aq (n/1000000000^(i+1))++Zip (n/1000000000^i%1000000000) 9:=by
 have h0:=Ylb (i:=i) (n:=n) (by omega)
 have h1:=Ylb (i:=i+1) (n:=n) h
 have e:n/1000000000^(i+1)=n/1000000000^i/1000000000:=by rw[fV,ID]
 rw[e]at h1 ⊢
 generalize n/1000000000^i=x at*
 unfold aq
 rw[aA h0,aA h1]
 have:=Zpx (k:=9) (a:=x/1000000000) (b:=x%1000000000) h1 (by omega)
 rw[show (10:Nat)^9=1000000000 by decide]at this
 rw[<-this]
 congr 1
 omega
def Yjk(h:i+1=(ds n).length):aq (n/1000000000^i)=Zip (n/1000000000^i%1000000000) 1:=by
 have h1:n<1000000000^(i+1):=by
  have h2:=uy (fW n)
  rw[ga,<-h]at h2
  unfold pI at h2
  have h3:(1000000000:Int)^(i+1)=((1000000000^(i+1):Nat):Int):=by rw[Int.natCast_pow];rfl
  rw[h3]at h2
  exact Int.ofNat_lt.1 h2
 rw[fV]at h1
 have h3:n/1000000000^i<1000000000:=Nat.div_lt_of_lt_mul h1
 rw[w6 h3,Zk2]
def Qb(k:Nat)(q:Rat):Prop:=q.num.natAbs<2^k/\q.den<2^k
def Pm(h:j<=k):2^j<=2^k:=Ywo (by decide) h
def Qb.mono{q:Rat}(h:Qb j q)(hk:j<=k):Qb k q:=⟨iL h.1 (Pm hk),iL h.2 (Pm hk)⟩
def Zhu{a b:Int}(hb:b≠0)(h1:a.natAbs<2^k)(h2:b.natAbs<2^k):Qb k (Rat.divInt a b):=by
 constructor
 ·rw[Rat.num_divInt]
  refine oe ?_ h1
  rw[Int.natAbs_ediv_of_dvd]
  ·rw[wY]
   have:b.sign.natAbs=1:=by rw[Int.natAbs_sign,aA hb]
   rw[this,Nat.one_mul]
   exact th _ _
  ·exact Int.dvd_trans (Int.gcd_dvd_right ..) (Int.dvd_mul_left ..)
 ·rw[Rat.den_divInt,aA hb]
  exact oe (th _ _) h2
def Qb.mul{p q:Rat}(hp:Qb j p)(hq:Qb k q):Qb (j+k) (p*q):=by
 have uH:((p.den:Nat):Int)≠0:=by have:=p.den_nz;omega
 have xw:((q.den:Nat):Int)≠0:=by have:=q.den_nz;omega
 rw[<-AA p,<-AA q,Rat.divInt_mul_divInt]
 refine Zhu (LF uH xw) ?_ ?_
 ·rw[wY,Yw8]
  exact BW hp.1 hq.1
 ·rw[wY,Yw8,eA,eA]
  exact BW hp.2 hq.2
def Qb.add{p q:Rat}(hp:Qb j p)(hq:Qb k q):Qb (j+k+1) (p+q):=by
 have uH:((p.den:Nat):Int)≠0:=by have:=p.den_nz;omega
 have xw:((q.den:Nat):Int)≠0:=by have:=q.den_nz;omega
 rw[<-AA p,<-AA q,Rat.divInt_add_divInt _ _ uH xw]
 have e:2^(j+k+1)=2^j*2^k+2^k*2^j:=by rw[fV,Yw8,iz (2^k)];omega
 refine Zhu (LF uH xw) ?_ ?_
 ·refine oe (Int.natAbs_add_le ..) ?_
  rw[wY,wY,eA,eA,e]
  exact Nat.add_lt_add (BW hp.1 hq.2) (BW hq.1 hp.2)
 ·rw[wY,eA,eA,e]
  exact iL (BW hp.2 hq.2) (Nat.le_add_right _ _)
def Qb.neg{q:Rat}(h:Qb k q):Qb k (-q):=by
 refine⟨?_,?_⟩
 ·rw[Rat.neg_num,AR];exact h.1
 ·rw[Rat.neg_den];exact h.2
def Qb.sub{p q:Rat}(hp:Qb j p)(hq:Qb k q):Qb (j+k+1) (p-q):=by
 rw[Rat.sub_eq_add_neg];exact hp.add hq.neg
def Qb.inv{q:Rat}(h:Qb k q)(h0:q≠0):Qb k q⁻¹:=by
 have hn:q.num≠0:=fun hc=>h0 (Rat.num_eq_zero.1 hc)
 rw[<-AA q,Rat.inv_divInt]
 exact Zhu hn (by rw[eA];exact h.2) h.1
def Qb.int{z:Int}(h:z.natAbs<2^k)(hk:0<k):Qb k (z:Rat):=by
 refine⟨by simpa using h,?_⟩
 rw[Rat.den_intCast]
 exact iL (by decide) (Pm (j:=1) hk)
def wk(h:n<2^k):(ds n).length<=k:=LS (iL h (IB (by decide) k))
def HT(h:n<2^k):(dk n).length<=k:=oS.1 (iL h (IB (by decide) k))
def Ie(h:n<2^k):(aq n).length<=k+1:=by
 have:=HT h
 unfold aq
 split<;>simp<;>omega
def BE{z:Int}(h:z.natAbs<2^k):(aU z).length<=k+2:=by
 have:=Ie h
 unfold aU
 split<;>simp<;>omega
def SN{q:Rat}(h:Qb k q):(Zao q).length<=2*k+4:=by
 have h1:=BE h.1
 have h2:=Ie h.2
 unfold Zao
 split<;>simp<;>omega
def Yqe(k:Nat):10^k<=2^(4*k):=by
 rw[Nat.pow_mul];exact IB (by decide) k
def yB{s:bj}(h:aV s=0)(hn:s.length<=n):Qb (4*n+4) (aY s):=by
 obtain⟨e,_,_⟩:=kr h
 have hb:=Ztm (aY s)
 have l1:(Zas (Zao (aY s))).length<=n:=by
  rw[e];unfold Zas;split
  ·simp;omega
  ·exact hn
 rw[hb]at l1
 have g:∀m:Nat,(aq m).length<=n+1->m<2^(4*n+4):=fun m hm=>by
  have:=(yK (n:=m) (k:=n+1) (by omega)).1 hm
  exact iL this (by have:=Yqe (n+1);rw[rX]at this;exact this)
 split at l1
 ·rename_i h1
  have h2:(aq 1).length=1:=by rw[T0];rfl
  exact⟨g _ (by omega),by rw[h1];exact g 1 (by omega)⟩
 ·simp at l1
  exact⟨g _ (by omega),g _ (by omega)⟩
open Go Go.Proofs
set_option maxRecDepth 1000000
def A.b219:=A.q Tryz.f219
def A.k219:=@A.kk 219 13 [.tmp 4] A.b219 (by kernel_rfl) rfl
def A.Po:=A.q Tryz.f169
def A.jt:=A.ql A.Po 0 []
def A.b169:=(fun x0=>A.qb A.Po [x0]) A.jt
def A.k169:=@A.kk 169 42 [.tmp 4] A.b169 (by kernel_rfl) rfl
def A.Pp:=A.q Tryz.f171
def A.me:=A.ql A.Pp 0 []
def A.b171:=(fun x0=>A.qb A.Pp [x0]) A.me
def A.k171:=@A.kk 171 35 [.tmp 4] A.b171 (by kernel_rfl) rfl
def Zq7{h:T O}{N:Nat}{v:V}{l:List Int}{i:Nat}{w:List Nat}(hs:Sl h N v (dI l))(hi:i<4611686018427387904)(hl:l.length<4611686018427387904):A.C.call (.func 219 [] []) [v,.int .i64 i] ⟨h,N,w⟩=some (.int .i64 (zI l i),⟨h,N,w⟩):=by
 apply Call.eq
 have hlen:=hs.len
 rw[gp]at hlen
 rw[aZ,A.k219 (by simp)]
 by_cases hc:i<l.length
 ·have O4:(i:Int)<(l.length:Int):=by omega
  obtain⟨d,hd⟩:=eQ hc
  obtain⟨j,o,c,e,rw,q1,q2,q3,q4⟩:=hs.at (fY hd)
  simp[A.b219,hlen,O4,q1,q3,q4,Ylr hd]
 ·have O4:¬(i:Int)<(l.length:Int):=by omega
  simp[A.b219,hlen,O4,Ztv (vD hc)]
structure AdI (h:T O) (N:Nat) (la lb:List Int) (m:Nat) (r:T V) (st:St):Prop where
 w:aL N st.w=[]
 ai:ah h N st.h st.n
 ex:∃k c out D,k+m=max la.length lb.length+1/\r.get 7=some (.int .i64 k)/\r.get 6=some (.int .i64 c)/\r.get 5=some out/\0<=c/\c<=1/\(m=0->c=0)/\Own 1 3 N st.h st.n out (oO D)/\D.length=k/\Di D/\vI D+pI k*c=vI (la.take k)+vI (lb.take k)
def T2{l:List Int}{k:Nat}(h:l.length<=k):l.take k=l:=jP h
def Yml{h:T O}{N:Nat}{u v:V}{la lb:List Int}(hu:Sl h N u (dI la))(hv:Sl h N v (dI lb))(da:Di la)(db:Di lb)(l1:la.length<1099511627776)(l2:lb.length<1099511627776):Fn A.C 169 [u,v] h N (fun x h' n'=>∃l,Sl h' n' x (dI l)/\Di l/\vI l=vI la+vI lb/\l.length<=max la.length lb.length+1):=by
 intro w
 have lu:=hu.len
 have lv:=hv.len
 rw[gp]at lu lv
 rw[aZ,A.k169 (by simp)]
 simp[A.b169]
 refine Zal [(5,40)] (fun e r st=>e=.exit 0/\aL N st.w=[]/\ah h N st.h st.n/\∃out D,r.get 5=some out/\Own 1 3 N st.h st.n out (oO D)/\Di D/\vI D=vI la+vI lb/\D.length<=max la.length lb.length+1) (AdI h N la lb) (max la.length lb.length+1) ?_ ?_ ?_
 ·exact⟨by simp,ah.refl,0,0,.ziA,[],by omega,by simp,by simp,by simp,by omega,by omega,fun _=>rfl,Own.nil,rfl,Di.nil,by simp[vI]⟩
 ·rintro m r ⟨H,n1,W⟩ hr hf ⟨hW,hK,k,c,out,D,hk,h7,h6,h5,c0,c1,cz,ho,hD,dD,nP⟩
  simp only at hW hK ho
  rw[cn]
  by_cases sJ:k<la.length\/k<lb.length\/0<c
  ·obtain⟨m',rfl⟩:∃m',m=m'+1:=⟨m-1,by
    have:m≠0:=fun hm=>by have:=cz hm;omega
    omega⟩
   have dx:=Yls da k
   have dy:=Yls db k
   have e1:=fun w=>Zq7 (w:=w) (i:=k) (hu.ai hK) (by omega) (by omega)
   have e2:=fun w=>Zq7 (w:=w) (i:=k) (hv.ai hK) (by omega) (by omega)
   obtain⟨x,hx⟩:∃x,zI la k=x:=⟨_,rfl⟩
   obtain⟨y,hy⟩:∃y,zI lb k=y:=⟨_,rfl⟩
   rw[hx]at dx e1
   rw[hy]at dy e2
   have t1:(x+y+c).tmod 1000000000=(x+y+c)%1000000000:=DE (by omega)
   have t2:(x+y+c).tdiv 1000000000=(x+y+c)/1000000000:=AL (by omega)
   have t3:bA .i64 (x+y)=x+y:=cH (by omega) (by omega)
   have t4:bA .i64 (x+y+c)=x+y+c:=cH (by omega) (by omega)
   have t5:bA .i64 ((x+y+c)/1000000000)=(x+y+c)/1000000000:=cH (by omega) (by omega)
   have uS:vI (D++[(x+y+c)%1000000000])+pI (k+1)*((x+y+c)/1000000000)=vI (la.take (k+1))+vI (lb.take (k+1)):=by
    rw[B9,hD,Zm8,Zm8,hx,hy,uw]
    have hm:=DG (x+y+c) 1000000000
    generalize (x+y+c)/1000000000=Q at*
    generalize (x+y+c)%1000000000=R at*
    have:R=x+y+c-1000000000*Q:=by omega
    subst this
    grind
   have hz:m'=0->(x+y+c)/1000000000=0:=fun hm=>by
    have:x=0:=by rw[<-hx];exact Ztv (by omega)
    have:y=0:=by rw[<-hy];exact Ztv (by omega)
    omega
   have wX:=ho.ai (ah.refl.new (.cells [.int .i64 ((x+y+c)%1000000000)] 3 true))
   obtain⟨v',h',w',f1,f2,f3,_,f5⟩:=Bj (x:=[.int .i64 ((x+y+c)%1000000000)]) (u:=.slice n1 0 1 (some 1) 1) (bytes:=8) (w:=W) wX (by have:=hK.le;omega) (by decide) rfl (by simp[oL,St.row,aK]) (by simp[oO];omega)
   rw[<-DU]at f5
   have f6:aL N w'=[]:=by rw[f2];exact hW
   have kz:=(hK.new (.cells [.int .i64 ((x+y+c)%1000000000)] 3 true)).then f3
   have JE:k<la.length\/(¬k<la.length/\k<lb.length)\/(¬k<la.length/\¬k<lb.length/\0<c):=by omega
   rcases JE with g1|⟨g1,g2⟩|⟨g1,g2,g3⟩
   ·have i1:(k:Int)<(la.length:Int):=by omega
    simp[A.jt,hr,h7,h6,h5,lu,i1,e1,e2,t1,t3,t4,aj]
    simp(disch:=first|(simp;done)|omega|rfl) [f1,hf,h7]
    exact⟨m',by omega,⟨f6,kz,k+1,(x+y+c)/1000000000,v',D++[(x+y+c)%1000000000],by omega,by simp,by simp[t2],by simp,by omega,by omega,hz,f5,by simp[hD],dD.app (Di.one (by omega) (by omega)),uS⟩⟩
   ·have i1:¬(k:Int)<(la.length:Int):=by omega
    have i2:(k:Int)<(lb.length:Int):=by omega
    simp[A.jt,hr,h7,h6,h5,lu,lv,i1,i2,e1,e2,t1,t3,t4,aj]
    simp(disch:=first|(simp;done)|omega|rfl) [f1,hf,h7]
    exact⟨m',by omega,⟨f6,kz,k+1,(x+y+c)/1000000000,v',D++[(x+y+c)%1000000000],by omega,by simp,by simp[t2],by simp,by omega,by omega,hz,f5,by simp[hD],dD.app (Di.one (by omega) (by omega)),uS⟩⟩
   ·have i1:¬(k:Int)<(la.length:Int):=by omega
    have i2:¬(k:Int)<(lb.length:Int):=by omega
    simp[A.jt,hr,h7,h6,h5,lu,lv,g3,i1,i2,e1,e2,t1,t3,t4,aj]
    simp(disch:=first|(simp;done)|omega|rfl) [f1,hf,h7]
    exact⟨m',by omega,⟨f6,kz,k+1,(x+y+c)/1000000000,v',D++[(x+y+c)%1000000000],by omega,by simp,by simp[t2],by simp,by omega,by omega,hz,f5,by simp[hD],dD.app (Di.one (by omega) (by omega)),uS⟩⟩
  ·obtain⟨g1,g2,g3⟩:¬k<la.length/\¬k<lb.length/\¬0<c:=by omega
   have i1:¬(k:Int)<(la.length:Int):=by omega
   have i2:¬(k:Int)<(lb.length:Int):=by omega
   obtain rfl:c=0:=by omega
   rw[T2 (by omega),T2 (by omega),Int.mul_zero,Int.add_zero]at nP
   simp[A.jt,hr,hf,h7,h6,lu,lv,i1,i2,hW,hK]
   exact⟨out,h5,D,ho,dD,nP,by omega⟩
 ·rintro _ r ⟨H,n1,W⟩ hr ⟨rfl,hW,hK,out,D,h5,ho,dD,nP,hl⟩
  simp only at hW hK ho
  simp[h5,Ret,hW,hK]
  exact⟨D,ho.sl,dD,nP,hl⟩
variable {N:Nat} {h:T O} {v:V}
def A.b98:=A.q Tryz.f98
def A.k98:=@A.kk 98 40 [.cell 4 (some 2)] A.b98 (by kernel_rfl) rfl
def A.b166:=A.q Tryz.f166
def A.k166:=@A.kk 166 9 [.cell 2 (some 2)] A.b166 (by kernel_rfl) rfl
def A.b99:=A.q Tryz.f99
def A.k99:=@A.kk 99 16 [.cell 4 (some 2)] A.b99 (by kernel_rfl) rfl
def T3(k:Nat):pI k=((1000000000^k:Nat):Int):=by unfold pI;simp
def Rg.ai{h':T O}{N':Nat}{z:Int}(s:Rg h N v z)(k:ah h N h' N'):Rg h' N' v z:=by
 obtain⟨u,h1,h2⟩:=s
 exact⟨u,h1,h2.ai k⟩
def iX:∀x∈[V.bool false,V.ziA],∀k m,x≠.int k m:=by intro x hx k m;simp at hx;rcases hx with rfl|rfl<;>simp
def Yqn{b:Bool}{u:V}(hu:I9 u):∀x∈[V.bool b,u],∀k m,x≠.int k m:=by
 intro x hx k m
 simp at hx
 rcases hx with rfl|rfl
 ·simp
 ·rcases hu with rfl|rfl|⟨_,_,_,_,_,rfl⟩<;>simp
def Rg.zhF{i:Nat}{z:Int}{c0 c1:List V}{e0 e1:TypeId}{w0 w1:Bool}(s:Rg h N v z)(hr:h.get i=some (.cells c0 e0 w0))(hn:∀x∈c0,∀k n,x≠.int k n)(hc:c1.length=c0.length):Rg (h.set i (.cells c1 e1 w1)) N v z:=by
 obtain⟨u,h1,h2⟩:=s
 exact⟨u,h1,Sl.setInt h2 hr hn hc⟩
def Ya2(a b:Nat):(ds (a*b)).length<=(ds a).length+(ds b).length:=by
 refine LS ?_
 have h1:=uy (fW a)
 have h2:=uy (fW b)
 rw[ga]at h1 h2
 rw[T3]at h1 h2
 rw[Yw8]
 exact BW (Int.ofNat_lt.1 h1) (Int.ofNat_lt.1 h2)
def Zxm{z:Int}(hs:Rg h N v z)(hl:(ds z.natAbs).length<1099511627776):Fn A.C 166 [v] h N (fun u h' n'=>Rg h' n' u (-z)):=by
 intro w
 obtain⟨u,rfl,hu⟩:=hs
 have o1:=Sl.form hu |>.one
 have o2:=Sl.form hu |>.cells
 unfold V.one at o1
 unfold V.cells at o2
 have kB:=(((ah.refl (h:=h) (n:=N)).new (.cells [.bool (decide (z<0)),u] 129 true)).new (.cells [.bool false,.ziA] 129 true))
 rw[aZ,A.k166 (by simp)]
 simp[A.b166,o1,aI]
 refine av (vj (b:=!decide (z<0)) (n:=z.natAbs) (Sl.ai hu kB) (fW _) (ga _) (by omega)) ?_
 rintro v2 h2 n2 k2 hv
 have xE:=k2.le
 have g1:=(k2.get (N+1) (by omega))
 rw[T.al,aR rfl]at g1
 have kk:=kB.trans k2
 have ez:(if (!decide (z<0))=true then -((z.natAbs:Nat):Int) else ((z.natAbs:Nat):Int))= -z:=by
  by_cases h0:z<0<;>simp[h0]<;>omega
 rw[ez]at hv
 obtain⟨u2,rfl,fi⟩:=hv
 have p1:=Sl.form fi |>.one
 have p2:=Sl.form fi |>.cells
 unfold V.one at p1
 unfold V.cells at p2
 simp[g1,p1,aj,bM,aI,aK,Ret]
 exact⟨kk.set (by omega),u2,by simp,Sl.setInt fi g1 iX rfl⟩
def Yl5(a b:Int):(if (!(decide (a<0)==decide (b<0)))=true then -((a.natAbs*b.natAbs:Nat):Int) else ((a.natAbs*b.natAbs:Nat):Int))=a*b:=by
 have h0:((a.natAbs*b.natAbs:Nat):Int)=(a.natAbs:Int)*(b.natAbs:Int):=by simp
 rw[h0]
 by_cases h1:a<0<;>by_cases h2:b<0
 ·have ha:(a.natAbs:Int)= -a:=by omega
  have hb:(b.natAbs:Int)= -b:=by omega
  rw[ha,hb];simp[h1,h2,Int.neg_mul,Int.mul_neg]
 ·have ha:(a.natAbs:Int)= -a:=by omega
  have hb:(b.natAbs:Int)=b:=by omega
  rw[ha,hb];simp[h1,h2,Int.neg_mul]
 ·have ha:(a.natAbs:Int)=a:=by omega
  have hb:(b.natAbs:Int)= -b:=by omega
  rw[ha,hb];simp[h1,h2,Int.mul_neg]
 ·have ha:(a.natAbs:Int)=a:=by omega
  have hb:(b.natAbs:Int)=b:=by omega
  rw[ha,hb];simp[h1,h2]
def Pq{x y:V}{a b:Int}(hx:Rg h N x a)(hy:Rg h N y b)(l1:(ds a.natAbs).length<500000000000)(l2:(ds b.natAbs).length<500000000000):Fn A.C 99 [x,y] h N (fun u h' n'=>Rg h' n' u (a*b)):=by
 intro w
 obtain⟨u,rfl,hu⟩:=hx
 obtain⟨v,rfl,hv⟩:=hy
 have o1:=Sl.form hu |>.one
 have o2:=Sl.form hu |>.cells
 have o3:=Sl.form hv |>.one
 have o4:=Sl.form hv |>.cells
 unfold V.one at o1 o3
 unfold V.cells at o2 o4
 have kB:=((((ah.refl (h:=h) (n:=N)).new (.cells [.bool (decide (a<0)),u] 129 true)).new (.cells [.bool (decide (b<0)),v] 129 true)).new (.cells [.bool false,.ziA] 129 true))
 rw[aZ,A.k99 (by simp)]
 simp[A.b99,o1,o3,aI,a_]
 generalize hB:((h.set N (.cells [.bool (decide (a<0)),u] 129 true)).set (N+1) (.cells [.bool (decide (b<0)),v] 129 true)).set (N+1+1) (.cells [.bool false,.ziA] 129 true)=HB at*
 have gr:HB.get (N+1+1)=some (.cells [.bool false,.ziA] 129 true):=by rw[<-hB];simp
 refine av (Zuj (Sl.ai hu kB) (Sl.ai hv kB) (fW _) (fW _) (ga _) (ga _) (by omega)) ?_
 rintro v1 h1 n1 k1 q1
 have CA:(ds (a.natAbs*b.natAbs)).length<1152921504606846976:=by
  have:=Ya2 a.natAbs b.natAbs;omega
 simp[]
 refine av (vj (n:=a.natAbs*b.natAbs) q1 (fW _) (ga _) CA) ?_
 rintro v2 h2 n2 k2 dw
 have xF:=k1.le
 have oH:=k2.le
 have g1:=(k2.get (N+1+1) (by omega)).trans ((k1.get (N+1+1) (by omega)).trans gr)
 have ez:(if (!(decide (a<0)==decide (b<0)))=true then -((a.natAbs*b.natAbs:Nat):Int) else ((a.natAbs*b.natAbs:Nat):Int))=a*b:=Yl5 a b
 rw[ez]at dw
 obtain⟨u2,rfl,fi⟩:=dw
 have p1:=Sl.form fi |>.one
 have p2:=Sl.form fi |>.cells
 unfold V.one at p1
 unfold V.cells at p2
 simp[g1,p1,aj,bM,aI,aK,Ret,b_.chk]
 exact⟨by split<;>simp[aL],((kB.trans k1).trans k2).set (by omega),u2,rfl,Sl.setInt fi g1 iX rfl⟩
set_option maxHeartbeats 4000000
structure SuI (h:T O) (N:Nat) (la lb:List Int) (m:Nat) (r:T V) (st:St):Prop where
 w:aL N st.w=[]
 ai:ah h N st.h st.n
 ex:∃k c out D,k+m=la.length/\r.get 7=some (.int .i64 k)/\r.get 6=some (.int .i64 c)/\r.get 5=some out/\0<=c/\c<=1/\Own 1 3 N st.h st.n out (oO D)/\D.length=k/\Di D/\vI D-pI k*c=vI (la.take k)-vI (lb.take k)
def Ycn{h:T O}{N:Nat}{u v:V}{a b:Nat}(hu:Dn h N u a)(hv:Dn h N v b)(jb:b<=a)(l1:(ds a).length<1099511627776):Fn A.C 171 [u,v] h N (fun x h' n'=>Dn h' n' x (a-b)):=by
 intro w
 have l2:=tJ jb
 have da:=fW a
 have db:=fW b
 have va:=ga a
 have vb:=ga b
 have lu:=Sl.len hu
 have lv:=Sl.len hv
 rw[gp]at lu lv
 have hu:Sl h N u (dI (ds a)):=hu
 have hv:Sl h N v (dI (ds b)):=hv
 generalize hA:ds a=la at*
 generalize hB:ds b=lb at*
 rw[aZ,A.k171 (by simp)]
 simp[A.b171]
 refine Zal [(5,32)] (fun e r st=>e=.exit 0/\SuI h N la lb 0 r st) (SuI h N la lb) la.length ?_ ?_ ?_
 ·exact⟨by simp,ah.refl,0,0,.ziA,[],by omega,by simp,by simp,by simp,by omega,by omega,Own.nil,rfl,Di.nil,by simp[vI]⟩
 ·rintro m r ⟨H,n1,W⟩ hr hf ⟨hW,hK,k,c,out,D,hk,h7,h6,h5,c0,c1,ho,hD,dD,nP⟩
  simp only at hW hK ho
  rw[cn]
  cases m with
  |zero=>
   obtain rfl:k=la.length:=by omega
   simp[A.me,hr,hf,h7,lu]
   exact⟨hW,hK,la.length,c,out,D,by omega,by simp[h7],by simp[h6],by simp[h5],c0,c1,ho,hD,dD,nP⟩
  |succ m=>
   have aW:k<la.length:=by omega
   have hk1:(k:Int)<(la.length:Int):=by omega
   obtain⟨x,hx⟩:=eQ aW
   have dx:=da.get hx
   have dy:=Yls db k
   obtain⟨i,o,cc,e,rw,q1,q2,q3,q4⟩:=(hu.ai hK).at (fY hx)
   have e2:=fun w=>Zq7 (w:=w) (i:=k) (hv.ai hK) (by omega) (by omega)
   obtain⟨y,hy⟩:∃y,zI lb k=y:=⟨_,rfl⟩
   rw[hy]at dy e2
   have t3:bA .i64 (x-y)=x-y:=cH (by omega) (by omega)
   have t4:bA .i64 (x-y-c)=x-y-c:=cH (by omega) (by omega)
   have t5:bA .i64 (x-y-c+1000000000)=x-y-c+1000000000:=cH (by omega) (by omega)
   have hs:∀d c':Int,d-1000000000*c'=x-y-c->vI (D++[d])-pI (k+1)*c'=vI (la.take (k+1))-vI (lb.take (k+1)):=fun d c' he=>by
    rw[B9,hD,xZ hx,Zm8,hy,uw]
    have:d=x-y-c+1000000000*c':=by omega
    subst this
    grind
   have ap:∀d:Int,∃v' h' w',tf ⟨H.set n1 (.cells [.int .i64 d] 3 true),n1+1,W⟩ 1 8 3 out (.slice n1 0 1 (some 1) 1)=some (v',⟨h',n1+1+1,w'⟩)/\aL N w'=[]/\ah h N h' (n1+1+1)/\Own 1 3 N h' (n1+1+1) v' (oO (D++[d])):=fun d=>by
    have wX:=ho.ai (ah.refl.new (.cells [.int .i64 d] 3 true))
    obtain⟨v',h',w',f1,f2,f3,_,f5⟩:=Bj (x:=[.int .i64 d]) (u:=.slice n1 0 1 (some 1) 1) (bytes:=8) (w:=W) wX (by have:=hK.le;omega) (by decide) rfl (by simp[oL,St.row,aK]) (by simp[oO];omega)
    rw[<-DU]at f5
    exact⟨v',h',w',f1,by rw[f2];exact hW,(hK.new (.cells [.int .i64 d] 3 true)).then f3,f5⟩
   by_cases dN:x-y-c<0
   ·obtain⟨v',h',w',f1,f2,f3,f5⟩:=ap (x-y-c+1000000000)
    simp[A.me,hr,h7,h6,h5,lu,hk1,q1,q2,q3,q4,e2,t3,t4,t5,dN,aj,b_.chk]
    simp(disch:=first|(simp;done)|omega|rfl) [f1,hf,h7]
    exact⟨m,by omega,⟨f2,f3,k+1,1,v',D++[x-y-c+1000000000],by omega,by simp,by simp,by simp,by omega,by omega,f5,by simp[hD],dD.app (Di.one (by omega) (by omega)),hs _ _ (by omega)⟩⟩
   ·obtain⟨v',h',w',f1,f2,f3,f5⟩:=ap (x-y-c)
    simp[A.me,hr,h7,h6,h5,lu,hk1,q1,q2,q3,q4,e2,t3,t4,dN,aj,b_.chk]
    simp(disch:=first|(simp;done)|omega|rfl) [f1,hf,h7]
    exact⟨m,by omega,⟨f2,f3,k+1,0,v',D++[x-y-c],by omega,by simp,by simp,by simp,by omega,by omega,f5,by simp[hD],dD.app (Di.one (by omega) (by omega)),hs _ _ (by omega)⟩⟩
 ·rintro _ r ⟨H,n1,W⟩ hr ⟨rfl,hW,hK,k,c,out,D,hk,h7,h6,h5,c0,c1,ho,hD,dD,nP⟩
  simp only at hW hK ho
  obtain rfl:k=la.length:=by omega
  rw[T2 (Yv5 _),T2 (by omega),va,vb]at nP
  have aW:=uy dD
  rw[hD]at aW
  have c2:c=0:=by
   apply Int.le_antisymm _ c0
   apply DF
   intro hc
   have:c=1:=by omega
   subst this
   omega
  subst c2
  have hvD:vI D=((a-b:Nat):Int):=by omega
  simp[h5]
  refine av (HP ho.sl (by omega)) ?_
  rintro v2 h2 n2 k2 q2
  rw[HR dD hvD]at q2
  simp[Ret,hW]
  exact⟨hK.trans k2,q2⟩
def Yf2{a b:Nat}:(0<=Bk a b)↔b<=a:=by unfold Bk;split<;>(try split)<;>omega
def Ymp{h:T O}{N:Nat}{x y:V}{a b:Int}(hx:Rg h N x a)(hy:Rg h N y b)(l1:(ds a.natAbs).length<500000000000)(l2:(ds b.natAbs).length<500000000000):Fn A.C 98 [x,y] h N (fun u h' n'=>Rg h' n' u (a+b)):=by
 intro w
 obtain⟨u,rfl,hu⟩:=hx
 obtain⟨v,rfl,hv⟩:=hy
 have o1:=Sl.form hu |>.one
 have o2:=Sl.form hu |>.cells
 have o3:=Sl.form hv |>.one
 have o4:=Sl.form hv |>.cells
 unfold V.one at o1 o3
 unfold V.cells at o2 o4
 have kB:=((((ah.refl (h:=h) (n:=N)).new (.cells [.bool (decide (a<0)),u] 129 true)).new (.cells [.bool (decide (b<0)),v] 129 true)).new (.cells [.bool false,.ziA] 129 true))
 rw[aZ,A.k98 (by simp)]
 generalize hB:((h.set N (.cells [.bool (decide (a<0)),u] 129 true)).set (N+1) (.cells [.bool (decide (b<0)),v] 129 true)).set (N+1+1) (.cells [.bool false,.ziA] 129 true)=HB at kB
 have gr:HB.get (N+1+1)=some (.cells [.bool false,.ziA] 129 true):=by rw[<-hB];simp
 have gx:HB.get N=some (.cells [.bool (decide (a<0)),u] 129 true):=by rw[<-hB];simp
 have gy:HB.get (N+1)=some (.cells [.bool (decide (b<0)),v] 129 true):=by rw[<-hB];simp
 by_cases CD:decide (a<0)=decide (b<0)
 ·have JF:(decide (a<0)==decide (b<0))=true:=by rw[CD];simp
  simp[A.b98,o1,o3,aI,a_,JF]
  simp only[hB]
  refine av (Yml (Sl.ai hu kB) (Sl.ai hv kB) (fW _) (fW _) (by omega) (by omega)) ?_
  rintro v1 h1 n1 k1 ⟨l,q1,q2,q3,q4⟩
  rw[ga,ga]at q3
  have ez:(if decide (a<0)=true then -((a.natAbs+b.natAbs:Nat):Int) else ((a.natAbs+b.natAbs:Nat):Int))=a+b:=by
   by_cases h1:a<0<;>by_cases h2:b<0<;>simp[h1,h2]at CD ⊢<;>omega
  simp[]
  refine av (vj (b:=decide (a<0)) (n:=a.natAbs+b.natAbs) q1 q2 (by rw[q3];try simp) (by omega)) ?_
  rintro v2 h2 n2 k2 dw
  rw[ez]at dw
  have xF:=k1.le
  have oH:=k2.le
  have g1:=(k2.get (N+1+1) (by omega)).trans ((k1.get (N+1+1) (by omega)).trans gr)
  obtain⟨u2,rfl,fi⟩:=dw
  have p1:=Sl.form fi |>.one
  have p2:=Sl.form fi |>.cells
  unfold V.one at p1
  unfold V.cells at p2
  simp[g1,p1,aj,bM,aI,aK,Ret,b_.chk]
  exact⟨by split<;>simp[aL],((kB.trans k1).trans k2).set (by omega),u2,rfl,Sl.setInt fi g1 iX rfl⟩
 ·have JF:(decide (a<0)==decide (b<0))=false:=by simpa using CD
  have hcm:=fun w=>Zvy (w:=w) (Sl.ai hu kB) (Sl.ai hv kB) (by omega) (by omega)
  by_cases oB:b.natAbs<=a.natAbs
  ·have zV:0<=Bk a.natAbs b.natAbs:=Yf2.2 oB
   simp[A.b98,o1,o3,aI,a_,JF]
   simp only[hB]
   simp[hcm,zV,gx,gy,aI]
   refine av (Ycn (Sl.ai hu kB) (Sl.ai hv kB) oB (by omega)) ?_
   rintro v1 h1 n1 k1 q1
   have q2:=fW (a.natAbs-b.natAbs)
   have q3:=ga (a.natAbs-b.natAbs)
   have q4:=tJ (Nat.sub_le a.natAbs b.natAbs)
   have ez:(if decide (a<0)=true then -((a.natAbs-b.natAbs:Nat):Int) else ((a.natAbs-b.natAbs:Nat):Int))=a+b:=by
    by_cases h1:a<0<;>by_cases h2:b<0<;>simp[h1,h2]at CD ⊢<;>omega
   simp[]
   refine av (vj (b:=decide (a<0)) (n:=a.natAbs-b.natAbs) q1 q2 (by rw[q3];try simp) (by omega)) ?_
   rintro v2 h2 n2 k2 dw
   rw[ez]at dw
   have xF:=k1.le
   have oH:=k2.le
   have g1:=(k2.get (N+1+1) (by omega)).trans ((k1.get (N+1+1) (by omega)).trans gr)
   obtain⟨u2,rfl,fi⟩:=dw
   have p1:=Sl.form fi |>.one
   have p2:=Sl.form fi |>.cells
   unfold V.one at p1
   unfold V.cells at p2
   simp[g1,p1,aj,bM,aI,aK,Ret,b_.chk]
   exact⟨by split<;>simp[aL],((kB.trans k1).trans k2).set (by omega),u2,rfl,Sl.setInt fi g1 iX rfl⟩
  ·have zV:¬0<=Bk a.natAbs b.natAbs:=fun hc=>oB (Yf2.1 hc)
   simp[A.b98,o1,o3,aI,a_,JF]
   simp only[hB]
   simp[hcm,zV,gx,gy,aI]
   refine av (Ycn (Sl.ai hv kB) (Sl.ai hu kB) (by omega) (by omega)) ?_
   rintro v1 h1 n1 k1 q1
   have q2:=fW (b.natAbs-a.natAbs)
   have q3:=ga (b.natAbs-a.natAbs)
   have q4:=tJ (Nat.sub_le b.natAbs a.natAbs)
   have ez:(if decide (b<0)=true then -((b.natAbs-a.natAbs:Nat):Int) else ((b.natAbs-a.natAbs:Nat):Int))=a+b:=by
    by_cases h1:a<0<;>by_cases h2:b<0<;>simp[h1,h2]at CD ⊢<;>omega
   simp[]
   refine av (vj (b:=decide (b<0)) (n:=b.natAbs-a.natAbs) q1 q2 (by rw[q3];try simp) (by omega)) ?_
   rintro v2 h2 n2 k2 dw
   rw[ez]at dw
   have xF:=k1.le
   have oH:=k2.le
   have g1:=(k2.get (N+1+1) (by omega)).trans ((k1.get (N+1+1) (by omega)).trans gr)
   obtain⟨u2,rfl,fi⟩:=dw
   have p1:=Sl.form fi |>.one
   have p2:=Sl.form fi |>.cells
   unfold V.one at p1
   unfold V.cells at p2
   simp[g1,p1,aj,bM,aI,aK,Ret,b_.chk]
   exact⟨by split<;>simp[aL],((kB.trans k1).trans k2).set (by omega),u2,rfl,Sl.setInt fi g1 iX rfl⟩
end
end Go.Mx
