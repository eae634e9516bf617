/-Numbers as strings-/
import Derived.Test.YtgnadghjglamaaaGreatDoorRbC
set_option linter.all false
namespace Go.Mx
noncomputable section
open Go
variable {s:Str}
def Zf2:∀{s t:Str},(∀c∈s,c.toNat≠47)→slashAt (s++47::t)=s.length
 |[],t,_=>rfl
 |c::s,t,h=>by
  have h1:=h c Yst
  have:=Zf2 (s:=s) (t:=t) fun d hd=>h d (Ysj _ hd)
  simp[slashAt,h1,this]
def Ze9:∀{s:Str},(∀c∈s,c.toNat≠47)→slashAt s=s.length
 |[],_=>rfl
 |c::s,h=>by
  have h1:=h c Yst
  have:=Ze9 (s:=s) fun d hd=>h d (Ysj _ hd)
  simp[slashAt,h1,this]
def Zmg:∀{s:Str},slashAt s<s.length→s.drop (slashAt s)=47::s.drop (slashAt s+1)
 |[],h=>by simp[slashAt]at h
 |c::s,h=>by
  by_cases hc:c.toNat=47
  ·have:c=47:=UInt8.toNat_inj.1 hc
   subst this
   simp[slashAt]
  ·simp only[slashAt,hc,if_false,Yrr]at h ⊢
   have:=Zmg (s:=s) (by omega)
   simpa using this
def Zk2(h:Zb7 s=true):∀c∈s,c.toNat≠47:=by
 intro c hc
 unfold Zb7 at h
 rw[Ys5]at h
 have:=h c hc
 unfold Zko at this
 simp only[decide_eq_true_eq]at this
 omega
def Yc4(z:Int):∀c∈decI z,c.toNat≠47:=by
 unfold decI
 split
 ·intro c hc
  rcases Yss.1 hc with rfl|hc
  ·decide
  ·exact Zk2 (Zb6 _) c hc
 ·exact Zk2 (Zb6 _)
def Ya8(n:Nat):negS (decN n)=false:=by
 obtain⟨c,t,e,h1,h2⟩:=Zoy (n:=n)
 rw[e]
 simp[negS];omega
def Zfn(z:Int):negS (decI z)=decide (z<0):=by
 unfold decI
 split
 ·rename_i h;simp[negS,h]
 ·rename_i h;rw[Ya8];simp[h]
def Zex(z:Int):Zaq (decI z)=decN z.natAbs:=by
 unfold Zaq
 rw[Zfn]
 by_cases h:z<0
 ·simp[h,decI]
 ·simp[h,decI]
def Zdx(q:Rat):slashAt (Zas q)=(decI q.num).length:=by
 unfold Zas
 split
 ·exact Ze9 (Yc4 _)
 ·exact Zf2 (Yc4 _)
def Zjd(q:Rat):(Zas q).take (slashAt (Zas q))=decI q.num:=by
 rw[Zdx]
 unfold Zas
 split
 ·simp
 ·simp
def Zjf(q:Rat)(h:q.den≠1):(Zas q).drop (slashAt (Zas q)+1)=decN q.den:=by
 rw[Zdx]
 unfold Zas
 rw[Yrt h,←List.drop_drop]
 simp
def Zje(q:Rat):slashAt (Zas q)<(Zas q).length↔q.den≠1:=by
 rw[Zdx]
 unfold Zas
 split
 ·rename_i h;simp[h]
 ·rename_i h;simp[h]
def Ygo{a b:Int}(h:decI a=decI b):a=b:=by
 have h1:=congrArg negS h
 have h2:=congrArg Zaq h
 rw[Zfn,Zfn,decide_eq_decide]at h1
 rw[Zex,Zex]at h2
 have h3:=Zkb h2
 omega
def Yef{a b:Rat}(h:Zas a=Zas b):a=b:=by
 have h1:=Zjd a
 rw[h,Zjd b]at h1
 have h2:=Ygo h1
 have h3:a.den=b.den:=by
  by_cases ha:a.den=1
  ·have:=mt (Zje a).1 (fun hc=>hc ha)
   rw[h]at this
   rw[Zje]at this
   rw[ha];exact(Decidable.not_not.1 this).symm
  ·have:=(Zje a).2 ha
   rw[h]at this
   have hb:=(Zje b).1 this
   have e:=Zjf a ha
   rw[h,Zjf b hb]at e
   exact(Zkb e).symm
 exact Rat.ext h2.symm h3
def ratS(s:Str):Rat:=mkRat (if negS s then -(numV ((Zaq s).take (slashAt (Zaq s))):Int) else numV ((Zaq s).take (slashAt (Zaq s)))) (if slashAt (Zaq s)<(Zaq s).length then numV ((Zaq s).drop (slashAt (Zaq s)+1)) else 1)
def Ygw(h:chkNum s=0):Zcb (negS s) ((Zaq s).take (slashAt (Zaq s))) (decide (slashAt (Zaq s)<(Zaq s).length)) ((Zaq s).drop (slashAt (Zaq s)+1))=true∧((Zaq s).take (slashAt (Zaq s))).length≤600∧((Zaq s).drop (slashAt (Zaq s)+1)).length≤600∧(slashAt (Zaq s)<(Zaq s).length→Nat.gcd (numV ((Zaq s).take (slashAt (Zaq s)))) (numV ((Zaq s).drop (slashAt (Zaq s)+1)))=1):=by
 unfold chkNum Yk8 Zkh at h
 split at h
 ·cases h
 ·rename_i h1
  split at h
  ·cases h
  ·rename_i h2
   split at h
   ·cases h
   ·rename_i h3
    refine⟨by simpa using h1,by omega,by omega,fun hs=>?_⟩
    rw[decide_eq_true hs]at h3
    simpa using h3
def Zq9{n:Int}{d:Nat}(hd:d≠0)(h:Nat.gcd n.natAbs d=1):(mkRat n d).num=n∧(mkRat n d).den=d:=by
 have:mkRat n d=⟨n,d,hd,h⟩:=by
  rw[Rat.mkRat_def,dif_neg hd]
  exact Rat.normalize_eq_mk' _ _ hd h
 rw[this]
 exact⟨rfl,rfl⟩
def Zza(s:Str):s=(if negS s then [45] else [])++Zaq s:=by
 cases s with
 |nil=>rfl
 |cons c t=>
  unfold Zaq
  by_cases hc:c.toNat=45
  ·have:c=45:=UInt8.toNat_inj.1 hc
   subst this
   simp[negS]
  ·simp[negS,hc]
def Zcd(h:chkNum s=0):Zas (ratS s)=s∧(decN (ratS s).num.natAbs).length≤600∧(decN (ratS s).den).length≤600:=by
 obtain⟨h1,h2,h3,h4⟩:=Ygw h
 have hle:=Zdc (Zaq s)
 unfold Zcb at h1
 simp only[Ysd,Yu2,Yu6,decide_eq_true_eq]at h1
 obtain⟨⟨hp,hz⟩,hd⟩:=h1
 have hpz:negS s=true→numV ((Zaq s).take (slashAt (Zaq s)))≠0:=by
  intro hn h0
  rw[hn,Bool.true_and,decide_eq_false_iff_not]at hz
  apply hz
  have:=Zcy hp
  rw[h0]at this
  exact this.symm
 have hpl:(decN (numV ((Zaq s).take (slashAt (Zaq s))))).length≤600:=by
  rw[Zcy hp];exact h2
 have hb:=Zza s
 by_cases hs:slashAt (Zaq s)<(Zaq s).length
 ·have hd:Zcs ((Zaq s).drop (slashAt (Zaq s)+1))=true∧(Zaq s).drop (slashAt (Zaq s)+1)≠[48]∧(Zaq s).drop (slashAt (Zaq s)+1)≠[49]:=by
   rcases hd with hd|⟨⟨a,b⟩,c⟩
   ·exact absurd hs (by simpa using hd)
   ·exact⟨a,b,c⟩
  have hg:=h4 hs
  have hd0:numV ((Zaq s).drop (slashAt (Zaq s)+1))≠0:=by
   intro h0
   have:=Zcy hd.1
   rw[h0]at this
   exact hd.2.1 this.symm
  have hd1:numV ((Zaq s).drop (slashAt (Zaq s)+1))≠1:=by
   intro h0
   have:=Zcy hd.1
   rw[h0]at this
   exact hd.2.2 (this.symm.trans (by decide+kernel))
  have hdl:(decN (numV ((Zaq s).drop (slashAt (Zaq s)+1)))).length≤600:=by
   rw[Zcy hd.1];exact h3
  have hv:ratS s=mkRat (if negS s then -(numV ((Zaq s).take (slashAt (Zaq s))):Int) else numV ((Zaq s).take (slashAt (Zaq s)))) (numV ((Zaq s).drop (slashAt (Zaq s)+1))):=by
   unfold ratS;rw[Yrw hs]
  obtain⟨e1,e2⟩:=Zq9 (n:=if negS s then -(numV ((Zaq s).take (slashAt (Zaq s))):Int) else numV ((Zaq s).take (slashAt (Zaq s)))) hd0 (by split<;>simpa using hg)
  rw[←hv]at e1 e2
  have hbody:Zaq s=(Zaq s).take (slashAt (Zaq s))++47::(Zaq s).drop (slashAt (Zaq s)+1):=by
   conv=>lhs;rw[←Ytj (slashAt (Zaq s)) (Zaq s)]
   rw[Zmg hs]
  refine⟨?_,?_,by rw[e2];exact hdl⟩
  ·unfold Zas
   rw[e2,Yrt hd1,Zcy hd.1,e1]
   conv=>rhs;rw[hb,hbody]
   unfold decI
   cases hn:negS s with
   |false=>
    simp only[Yr3,if_false]
    rw[Yrt (by omega),Yrz,Zcy hp];rfl
   |true=>
    have:=hpz hn
    simp only[if_true]
    rw[Yrw (by omega),Yuo,Yrz,Zcy hp];rfl
  ·rw[e1]
   split<;>simpa using hpl
 ·have hv:ratS s=mkRat (if negS s then -(numV ((Zaq s).take (slashAt (Zaq s))):Int) else numV ((Zaq s).take (slashAt (Zaq s)))) 1:=by
   unfold ratS;rw[Yrt hs]
  obtain⟨e1,e2⟩:=Zq9 (n:=if negS s then -(numV ((Zaq s).take (slashAt (Zaq s))):Int) else numV ((Zaq s).take (slashAt (Zaq s)))) (show (1:Nat)≠0 by decide) (Nat.gcd_one_right _)
  rw[←hv]at e1 e2
  have ht:(Zaq s).take (slashAt (Zaq s))=Zaq s:=Yr2 (by omega)
  rw[ht]at e1 hp hpz hpl
  refine⟨?_,?_,by rw[e2];decide+kernel⟩
  ·unfold Zas
   rw[e2,Yrw rfl,e1]
   conv=>rhs;rw[hb]
   unfold decI
   cases hn:negS s with
   |false=>
    simp only[Yr3,if_false]
    rw[Yrt (by omega),Yrz,Zcy hp];rfl
   |true=>
    have:=hpz hn
    simp only[if_true]
    rw[Yrw (by omega),Yuo,Yrz,Zcy hp];rfl
  ·rw[e1]
   split<;>simpa using hpl
def Zr7(q:Rat):Zaq (Zas q)=if q.den=1 then decN q.num.natAbs else decN q.num.natAbs++47::decN q.den:=by
 have hneg:∀t:Str,negS (decI q.num++t)=decide (q.num<0):=by
  intro t
  rw[←Zfn]
  have:decI q.num≠[]:=by
   unfold decI;split
   ·simp
   ·exact Ziy _
  cases h:decI q.num with
  |nil=>exact absurd h this
  |cons c u=>rfl
 have hb:∀t:Str,Zaq (decI q.num++t)=decN q.num.natAbs++t:=by
  intro t
  unfold Zaq
  rw[hneg]
  by_cases h:q.num<0
  ·simp[h,decI]
  ·simp[h,decI]
 unfold Zas
 split
 ·have:=hb [];simpa using this
 ·exact hb _
def Zvl(q:Rat):negS (Zas q)=decide (q.num<0):=by
 have hneg:∀t:Str,negS (decI q.num++t)=decide (q.num<0):=by
  intro t
  rw[←Zfn]
  have:decI q.num≠[]:=by
   unfold decI;split
   ·simp
   ·exact Ziy _
  cases h:decI q.num with
  |nil=>exact absurd h this
  |cons c u=>rfl
 unfold Zas
 split
 ·have:=hneg [];simpa using this
 ·exact hneg _
def Zqi(q:Rat):(Zaq (Zas q)).take (slashAt (Zaq (Zas q)))=decN q.num.natAbs∧(slashAt (Zaq (Zas q))<(Zaq (Zas q)).length↔q.den≠1)∧(Zaq (Zas q)).drop (slashAt (Zaq (Zas q))+1)=if q.den=1 then [] else decN q.den:=by
 rw[Zr7]
 by_cases h:q.den=1
 ·simp only[h,if_true]
  rw[Ze9 (Zk2 (Zb6 _))]
  simp
 ·simp only[h,if_false]
  rw[Zf2 (Zk2 (Zb6 _))]
  simp[h]
def Yd4(q:Rat):Bool:=decide (600<(decN q.num.natAbs).length∨600<(decN q.den).length)
def Yh2:decN 0=[48]:=rfl
def Zwb:decN 1=[49]:=by decide+kernel
def Zo1(q:Rat):chkNum (Zas q)=if Yd4 q then 4 else 0:=by
 obtain⟨h1,h2,h3⟩:=Zqi q
 have hf:Zcb (negS (Zas q)) (decN q.num.natAbs) (decide (q.den≠1)) (if q.den=1 then [] else decN q.den)=true:=by
  unfold Zcb
  rw[Zow,Zvl]
  have hz:(decide (q.num<0)&&decide (decN q.num.natAbs=[48]))=false:=by
   by_cases hn:q.num<0
   ·have:decN q.num.natAbs≠[48]:=by
     intro h
     have:=Zkb (h.trans Yh2.symm)
     omega
    simp[this]
   ·simp[hn]
  rw[hz]
  by_cases hd:q.den=1
  ·simp[hd]
  ·have a1:decN q.den≠[48]:=fun h=>q.den_nz (Zkb (h.trans Yh2.symm))
   have a2:decN q.den≠[49]:=fun h=>hd (Zkb (h.trans Zwb.symm))
   simp[hd,Zow,a1,a2]
 have hb:(decide (slashAt (Zaq (Zas q))<(Zaq (Zas q)).length))=decide (q.den≠1):=decide_eq_decide.2 h2
 unfold chkNum Yk8
 rw[h1,h3,hb]
 unfold Zkh
 rw[hf]
 have hg:¬(decide (q.den≠1)=true∧Nat.gcd (numV (decN q.num.natAbs)) (numV (if q.den=1 then [] else decN q.den))≠1):=by
  rintro⟨a,b⟩
  have a:q.den≠1:=by simpa using a
  rw[Yrt a,Zck,Zck]at b
  exact b q.reduced
 rw[Yrt (by simp),Yrt hg]
 unfold Yd4
 by_cases hd:q.den=1
 ·rw[hd,Zwb]
  simp
 ·simp[hd]
def Zlu(q:Rat):ratS (Zas q)=q:=by
 obtain⟨h1,h2,h3⟩:=Zqi q
 unfold ratS
 rw[h1,h3,Zvl,Zck]
 have hn:(if decide (q.num<0)=true then -(q.num.natAbs:Int) else (q.num.natAbs:Int))=q.num:=by
  by_cases h:q.num<0
  ·rw[Yrw (by simpa using h)];omega
  ·rw[Yrt (by simpa using h)];omega
 rw[hn]
 by_cases hd:q.den=1
 ·rw[Yrt (fun h=>(h2.1 h) hd)]
  have:=Rat.mkRat_self q
  rw[hd]at this
  exact this
 ·rw[Yrw (h2.2 hd),Yrt hd,Zck]
  exact Rat.mkRat_self q
variable {i j k n:Nat}
def Zv6:∀{i n:Nat},i<(ds n).length→(ds n)[i]?=some ((n/1000000000^i%1000000000:Nat):Int)
 |i,n,h=>by
  by_cases hn:n=0
  ·rw[hn,Zcm]at h;simp at h
  ·rw[Zhe hn]at h ⊢
   cases i with
   |zero=>simp
   |succ i=>
    rw[Ytv,Zv6 (by simpa using h),Yud,Ysg,Ysk]
def Yh0(h:i<(ds n).length):n/1000000000^i≠0:=by
 intro hc
 have h1:n<1000000000^i:=(Nat.div_eq_zero_iff_lt (Yuv (by decide))).1 hc
 have:=Zfq h1
 omega
def Yc2(h:i+1<(ds n).length):decN (n/1000000000^i)=decN (n/1000000000^(i+1))++Zh1 (n/1000000000^i%1000000000) 9:=by
 have h0:=Yh0 (i:=i) (n:=n) (by omega)
 have h1:=Yh0 (i:=i+1) (n:=n) h
 have e:n/1000000000^(i+1)=n/1000000000^i/1000000000:=by rw[Ysg,Yud]
 rw[e]at h1 ⊢
 generalize n/1000000000^i=x at*
 unfold decN
 rw[Yrt h0,Yrt h1]
 have:=Zoz (k:=9) (a:=x/1000000000) (b:=x%1000000000) h1 (by omega)
 rw[show (10:Nat)^9=1000000000 by decide]at this
 rw[←this]
 congr 1
 omega
def Ygn(h:i+1=(ds n).length):decN (n/1000000000^i)=Zh1 (n/1000000000^i%1000000000) 1:=by
 have h1:n<1000000000^(i+1):=by
  have h2:=Zii (Zce n)
  rw[Zbg,←h]at h2
  unfold pI at h2
  have h3:(1000000000:Int)^(i+1)=((1000000000^(i+1):Nat):Int):=by rw[Int.natCast_pow];rfl
  rw[h3]at h2
  exact Int.ofNat_lt.1 h2
 rw[Ysg]at h1
 have h3:n/1000000000^i<1000000000:=Nat.div_lt_of_lt_mul h1
 rw[Ytl h3,Zka]
def Qb(k:Nat)(q:Rat):Prop:=q.num.natAbs<2^k∧q.den<2^k
def Zmp(h:j≤k):2^j≤2^k:=Ysu (by decide) h
def Qb.mono{q:Rat}(h:Qb j q)(hk:j≤k):Qb k q:=⟨Yr5 h.1 (Zmp hk),Yr5 h.2 (Zmp hk)⟩
def Zhf{a b:Int}(hb:b≠0)(h1:a.natAbs<2^k)(h2:b.natAbs<2^k):Qb k (Rat.divInt a b):=by
 constructor
 ·rw[Rat.num_divInt]
  refine Ysl ?_ h1
  rw[Int.natAbs_ediv_of_dvd]
  ·rw[Ytk]
   have:b.sign.natAbs=1:=by rw[Int.natAbs_sign,Yrt hb]
   rw[this,Nat.one_mul]
   exact Yti _ _
  ·exact Int.dvd_trans (Int.gcd_dvd_right ..) (Int.dvd_mul_left ..)
 ·rw[Rat.den_divInt,Yrt hb]
  exact Ysl (Yti _ _) h2
def Qb.mul{p q:Rat}(hp:Qb j p)(hq:Qb k q):Qb (j+k) (p*q):=by
 have hp0:((p.den:Nat):Int)≠0:=by have:=p.den_nz;omega
 have hq0:((q.den:Nat):Int)≠0:=by have:=q.den_nz;omega
 rw[←Yt7 p,←Yt7 q,Rat.divInt_mul_divInt]
 refine Zhf (Yvg hp0 hq0) ?_ ?_
 ·rw[Ytk,Ysr]
  exact Yul hp.1 hq.1
 ·rw[Ytk,Ysr,Yrz,Yrz]
  exact Yul hp.2 hq.2
def Qb.add{p q:Rat}(hp:Qb j p)(hq:Qb k q):Qb (j+k+1) (p+q):=by
 have hp0:((p.den:Nat):Int)≠0:=by have:=p.den_nz;omega
 have hq0:((q.den:Nat):Int)≠0:=by have:=q.den_nz;omega
 rw[←Yt7 p,←Yt7 q,Rat.divInt_add_divInt _ _ hp0 hq0]
 have e:2^(j+k+1)=2^j*2^k+2^k*2^j:=by rw[Ysg,Ysr,Ysk (2^k)];omega
 refine Zhf (Yvg hp0 hq0) ?_ ?_
 ·refine Ysl (Int.natAbs_add_le ..) ?_
  rw[Ytk,Ytk,Yrz,Yrz,e]
  exact Nat.add_lt_add (Yul hp.1 hq.2) (Yul hq.1 hp.2)
 ·rw[Ytk,Yrz,Yrz,e]
  exact Yr5 (Yul hp.2 hq.2) (Nat.le_add_right _ _)
def Qb.neg{q:Rat}(h:Qb k q):Qb k (-q):=by
 refine⟨?_,?_⟩
 ·rw[Rat.neg_num,Yuo];exact h.1
 ·rw[Rat.neg_den];exact h.2
def Qb.sub{p q:Rat}(hp:Qb j p)(hq:Qb k q):Qb (j+k+1) (p-q):=by
 rw[Rat.sub_eq_add_neg];exact hp.add hq.neg
def Qb.int{z:Int}(h:z.natAbs<2^k)(hk:0<k):Qb k (z:Rat):=by
 refine⟨by simpa using h,?_⟩
 rw[Rat.den_intCast]
 exact Yr5 (by decide) (Zmp (j:=1) hk)
def Zj9(h:n<2^k):(ds n).length≤k:=Zfq (Yr5 h (Yuf (by decide) k))
def Znj(h:n<2^k):(Zcz n).length≤k:=Zay.1 (Yr5 h (Yuf (by decide) k))
def Zix(h:n<2^k):(decN n).length≤k+1:=by
 have:=Znj h
 unfold decN
 split<;>simp<;>omega
def Zgl{z:Int}(h:z.natAbs<2^k):(decI z).length≤k+2:=by
 have:=Zix h
 unfold decI
 split<;>simp<;>omega
def Yhc{q:Rat}(h:Qb k q):(Zas q).length≤2*k+4:=by
 have h1:=Zgl h.1
 have h2:=Zix h.2
 unfold Zas
 split<;>simp<;>omega
def Ymf(k:Nat):10^k≤2^(4*k):=by
 rw[Nat.pow_mul];exact Yuf (by decide) k
def Znl{s:Str}(h:chkNum s=0)(hn:s.length≤n):Qb (4*n+4) (ratS s):=by
 obtain⟨e,_,_⟩:=Zcd h
 have hb:=Zr7 (ratS s)
 have l1:(Zaq (Zas (ratS s))).length≤n:=by
  rw[e];unfold Zaq;split
  ·simp;omega
  ·exact hn
 rw[hb]at l1
 have g:∀m:Nat,(decN m).length≤n+1→m<2^(4*n+4):=fun m hm=>by
  have:=(Zcn (n:=m) (k:=n+1) (by omega)).1 hm
  exact Yr5 this (by have:=Ymf (n+1);rw[Ys8]at this;exact this)
 split at l1
 ·rename_i h1
  have h2:(decN 1).length=1:=by rw[Zwb];rfl
  exact⟨g _ (by omega),by rw[h1];exact g 1 (by omega)⟩
 ·simp at l1
  exact⟨g _ (by omega),g _ (by omega)⟩
open Go Go.Proofs
set_option maxRecDepth 1000000
def A.b207:=A.q Tryz.f207
def A.k207:=@A.kk 207 13 [.tmp 4] A.b207 (by kernel_rfl) rfl
def A.w153:=A.q Tryz.f153
def A.lb153_0:=A.ql A.w153 0 []
def A.b153:=(fun x0=>A.qb A.w153 [x0]) A.lb153_0
def A.k153:=@A.kk 153 42 [.tmp 4] A.b153 (by kernel_rfl) rfl
def A.w155:=A.q Tryz.f155
def A.lb155_0:=A.ql A.w155 0 []
def A.b155:=(fun x0=>A.qb A.w155 [x0]) A.lb155_0
def A.k155:=@A.kk 155 35 [.tmp 4] A.b155 (by kernel_rfl) rfl
def Zp0{h:T O}{N:Nat}{v:V}{l:List Int}{i:Nat}{w:List Nat}(hs:Sl h N v (dI l))(hi:i<4611686018427387904)(hl:l.length<4611686018427387904):A.C.call (.func 207 [] []) [v,.int .i64 i] ⟨h,N,w⟩=some (.int .i64 (zI l i),⟨h,N,w⟩):=by
 apply Call.eq
 have hlen:=hs.len
 rw[Zat]at hlen
 rw[Zaf,A.k207 (by simp)]
 by_cases hc:i<l.length
 ·have hc1:(i:Int)<(l.length:Int):=by omega
  obtain⟨d,hd⟩:=Zao hc
  obtain⟨j,o,c,e,rw,q1,q2,q3,q4⟩:=hs.at (Zbj hd)
  simp(disch:=first|(simp;done)|omega|rfl) [-getElem?_pos,A.b207,hlen,hc,hc1,q1,q3,q4,Yih hd]
 ·have hc1:¬(i:Int)<(l.length:Int):=by omega
  simp(disch:=first|(simp;done)|omega|rfl) [-getElem?_pos,A.b207,hlen,hc,hc1,Zsh (Ytr hc)]
structure AdI (h:T O) (N:Nat) (la lb:List Int) (m:Nat) (r:T V) (st:St):Prop where
 w:Zae N st.w=[]
 keep:Keeps h N st.h st.n
 ex:∃k c out D,k+m=max la.length lb.length+1∧r.get 7=some (.int .i64 k)∧r.get 6=some (.int .i64 c)∧r.get 5=some out∧0≤c∧c≤1∧(m=0→c=0)∧Own 1 3 N st.h st.n out (Zfc D)∧D.length=k∧Di D∧vI D+pI k*c=vI (la.take k)+vI (lb.take k)
def Zlp{l:List Int}{k:Nat}(h:l.length≤k):l.take k=l:=Yr2 h
def Yjc{h:T O}{N:Nat}{u v:V}{la lb:List Int}(hu:Sl h N u (dI la))(hv:Sl h N v (dI lb))(da:Di la)(db:Di lb)(l1:la.length<1099511627776)(l2:lb.length<1099511627776):Fn A.C 153 [u,v] h N (fun x h' n'=>∃l,Sl h' n' x (dI l)∧Di l∧vI l=vI la+vI lb∧l.length≤max la.length lb.length+1):=by
 intro w
 have lu:=hu.len
 have lv:=hv.len
 rw[Zat]at lu lv
 rw[Zaf,A.k153 (by simp)]
 simp(disch:=first|(simp;done)|omega|rfl) [-getElem?_pos,A.b153]
 refine Zak [(5,40)] (fun e r st=>e=.exit 0∧Zae N st.w=[]∧Keeps h N st.h st.n∧∃out D,r.get 5=some out∧Own 1 3 N st.h st.n out (Zfc D)∧Di D∧vI D=vI la+vI lb∧D.length≤max la.length lb.length+1) (AdI h N la lb) (max la.length lb.length+1) ?_ ?_ ?_
 ·exact⟨by simp,Keeps.refl,0,0,.nilslice,[],by omega,by simp,by simp,by simp,by omega,by omega,fun _=>rfl,Own.nil,rfl,Di.nil,by simp[vI]⟩
 ·rintro m r ⟨H,n1,W⟩ hr hf ⟨hW,hK,k,c,out,D,hk,h7,h6,h5,c0,c1,cz,ho,hD,dD,hv0⟩
  simp only at hW hK ho
  rw[Zai]
  by_cases hgo:k<la.length∨k<lb.length∨0<c
  ·obtain⟨m',rfl⟩:∃m',m=m'+1:=⟨m-1,by
    have:m≠0:=fun hm=>by have:=cz hm;omega
    omega⟩
   have dx:=Yii da k
   have dy:=Yii db k
   have e1:=fun w=>Zp0 (w:=w) (i:=k) (hu.keep hK) (by omega) (by omega)
   have e2:=fun w=>Zp0 (w:=w) (i:=k) (hv.keep hK) (by omega) (by omega)
   obtain⟨x,hx⟩:∃x,zI la k=x:=⟨_,rfl⟩
   obtain⟨y,hy⟩:∃y,zI lb k=y:=⟨_,rfl⟩
   rw[hx]at dx e1
   rw[hy]at dy e2
   have t1:(x+y+c).tmod 1000000000=(x+y+c)%1000000000:=Ytm (by omega)
   have t2:(x+y+c).tdiv 1000000000=(x+y+c)/1000000000:=Ys3 (by omega)
   have t3:Zap .i64 (x+y)=x+y:=Zah (by omega) (by omega)
   have t4:Zap .i64 (x+y+c)=x+y+c:=Zah (by omega) (by omega)
   have t5:Zap .i64 ((x+y+c)/1000000000)=(x+y+c)/1000000000:=Zah (by omega) (by omega)
   have hfin:vI (D++[(x+y+c)%1000000000])+pI (k+1)*((x+y+c)/1000000000)=vI (la.take (k+1))+vI (lb.take (k+1)):=by
    rw[Zfx,hD,Zmb,Zmb,hx,hy,Zc2]
    have hm:=Yt6 (x+y+c) 1000000000
    generalize (x+y+c)/1000000000=Q at*
    generalize (x+y+c)%1000000000=R at*
    have:R=x+y+c-1000000000*Q:=by omega
    subst this
    grind
   have hz:m'=0→(x+y+c)/1000000000=0:=fun hm=>by
    have:x=0:=by rw[←hx];exact Zsh (by omega)
    have:y=0:=by rw[←hy];exact Zsh (by omega)
    omega
   have ho2:=ho.keep (Keeps.refl.new (.cells [.int .i64 ((x+y+c)%1000000000)] 3 true))
   obtain⟨v',h',w',f1,f2,f3,_,f5⟩:=Zb5 (x:=[.int .i64 ((x+y+c)%1000000000)]) (u:=.slice n1 0 1 (some 1) 1) (bytes:=8) (w:=W) ho2 (by have:=hK.le;omega) (by decide) rfl (by simp[Za0,St.row,slc]) (by simp[Zfc];omega)
   rw[←Zdd]at f5
   have f6:Zae N w'=[]:=by rw[f2];exact hW
   have kz:=(hK.new (.cells [.int .i64 ((x+y+c)%1000000000)] 3 true)).then f3
   have hgo':k<la.length∨(¬k<la.length∧k<lb.length)∨(¬k<la.length∧¬k<lb.length∧0<c):=by omega
   rcases hgo' with g1|⟨g1,g2⟩|⟨g1,g2,g3⟩
   ·have i1:(k:Int)<(la.length:Int):=by omega
    simp(disch:=first|(simp;done)|omega|rfl) [-getElem?_pos,A.lb153_0,hr,hf,h7,h6,h5,lu,lv,g1,i1,e1,e2,t1,t2,t3,t4,t5,splice]
    simp(disch:=first|(simp;done)|omega|rfl) [-getElem?_pos,f1,f6,hr,hf,h7]
    exact⟨m',by omega,⟨f6,kz,k+1,(x+y+c)/1000000000,v',D++[(x+y+c)%1000000000],by omega,by simp,by simp[t2],by simp,by omega,by omega,hz,f5,by simp[hD],dD.app (Di.one (by omega) (by omega)),hfin⟩⟩
   ·have i1:¬(k:Int)<(la.length:Int):=by omega
    have i2:(k:Int)<(lb.length:Int):=by omega
    simp(disch:=first|(simp;done)|omega|rfl) [-getElem?_pos,A.lb153_0,hr,hf,h7,h6,h5,lu,lv,g1,g2,i1,i2,e1,e2,t1,t2,t3,t4,t5,splice]
    simp(disch:=first|(simp;done)|omega|rfl) [-getElem?_pos,f1,f6,hr,hf,h7]
    exact⟨m',by omega,⟨f6,kz,k+1,(x+y+c)/1000000000,v',D++[(x+y+c)%1000000000],by omega,by simp,by simp[t2],by simp,by omega,by omega,hz,f5,by simp[hD],dD.app (Di.one (by omega) (by omega)),hfin⟩⟩
   ·have i1:¬(k:Int)<(la.length:Int):=by omega
    have i2:¬(k:Int)<(lb.length:Int):=by omega
    simp(disch:=first|(simp;done)|omega|rfl) [-getElem?_pos,A.lb153_0,hr,hf,h7,h6,h5,lu,lv,g1,g2,g3,i1,i2,e1,e2,t1,t2,t3,t4,t5,splice]
    simp(disch:=first|(simp;done)|omega|rfl) [-getElem?_pos,f1,f6,hr,hf,h7]
    exact⟨m',by omega,⟨f6,kz,k+1,(x+y+c)/1000000000,v',D++[(x+y+c)%1000000000],by omega,by simp,by simp[t2],by simp,by omega,by omega,hz,f5,by simp[hD],dD.app (Di.one (by omega) (by omega)),hfin⟩⟩
  ·obtain⟨g1,g2,g3⟩:¬k<la.length∧¬k<lb.length∧¬0<c:=by omega
   have i1:¬(k:Int)<(la.length:Int):=by omega
   have i2:¬(k:Int)<(lb.length:Int):=by omega
   obtain rfl:c=0:=by omega
   rw[Zlp (by omega),Zlp (by omega),Int.mul_zero,Int.add_zero]at hv0
   simp(disch:=first|(simp;done)|omega|rfl) [-getElem?_pos,A.lb153_0,hr,hf,h7,h6,lu,lv,g1,g2,i1,i2,hW,hK]
   exact⟨out,h5,D,ho,dD,hv0,by omega⟩
 ·rintro _ r ⟨H,n1,W⟩ hr ⟨rfl,hW,hK,out,D,h5,ho,dD,hv0,hl⟩
  simp only at hW hK ho
  simp(disch:=first|(simp;done)|omega|rfl) [-getElem?_pos,hr,h5,Ret,hW,hK]
  exact⟨D,ho.sl,dD,hv0,hl⟩
variable {N:Nat} {h:T O}
def A.b66:=A.q Tryz.f66
def A.k66:=@A.kk 66 40 [.cell 4 (some 2)] A.b66 (by kernel_rfl) rfl
def A.b149:=A.q Tryz.f149
def A.k149:=@A.kk 149 9 [.cell 2 (some 2)] A.b149 (by kernel_rfl) rfl
def A.b67:=A.q Tryz.f67
def A.k67:=@A.kk 67 16 [.cell 4 (some 2)] A.b67 (by kernel_rfl) rfl
def Zpn(k:Nat):pI k=((1000000000^k:Nat):Int):=by unfold pI;simp
def Rg.keep{h':T O}{N':Nat}{v:V}{z:Int}(s:Rg h N v z)(k:Keeps h N h' N'):Rg h' N' v z:=by
 obtain⟨u,h1,h2⟩:=s
 exact⟨u,h1,h2.keep k⟩
def nint:∀x∈[V.bool false,V.nilslice],∀k m,x≠.int k m:=by intro x hx k m;simp at hx;rcases hx with rfl|rfl<;>simp
def Ymn{b:Bool}{u:V}(hu:SlF u):∀x∈[V.bool b,u],∀k m,x≠.int k m:=by
 intro x hx k m
 simp at hx
 rcases hx with rfl|rfl
 ·simp
 ·rcases hu with rfl|rfl|⟨_,_,_,_,_,rfl⟩<;>simp
def Zyz(a b:Nat):(ds (a*b)).length≤(ds a).length+(ds b).length:=by
 refine Zfq ?_
 have h1:=Zii (Zce a)
 have h2:=Zii (Zce b)
 rw[Zbg]at h1 h2
 rw[Zpn]at h1 h2
 rw[Ysr]
 exact Yul (Int.ofNat_lt.1 h1) (Int.ofNat_lt.1 h2)
def Zvq{v:V}{z:Int}(hs:Rg h N v z)(hl:(ds z.natAbs).length<1099511627776):Fn A.C 149 [v] h N (fun u h' n'=>Rg h' n' u (-z)):=by
 intro w
 obtain⟨u,rfl,hu⟩:=hs
 have o1:=Sl.form hu |>.one
 have o2:=Sl.form hu |>.cells
 unfold V.one at o1
 unfold V.cells at o2
 have kB:=(((Keeps.refl (h:=h) (n:=N)).new (.cells [.bool (decide (z<0)),u] 92 true)).new (.cells [.bool false,.nilslice] 92 true))
 rw[Zaf,A.k149 (by simp)]
 simp(disch:=first|(simp;done)|omega|rfl) [-getElem?_pos,A.b149,o1,o2,splice,Zaj,slc]
 refine Zac (Zbz (b:=!decide (z<0)) (n:=z.natAbs) (Sl.keep hu kB) (Zce _) (Zbg _) (by omega)) ?_
 rintro v2 h2 n2 k2 hv
 have kle:=k2.le
 have g1:=(k2.get (N+1) (by omega))
 rw[T.get_set,Yrw rfl]at g1
 have kk:=kB.trans k2
 have ez:(if (!decide (z<0))=true then -((z.natAbs:Nat):Int) else ((z.natAbs:Nat):Int))= -z:=by
  by_cases h0:z<0<;>simp[h0]<;>omega
 rw[ez]at hv
 obtain⟨u2,rfl,hu2⟩:=hv
 have p1:=Sl.form hu2 |>.one
 have p2:=Sl.form hu2 |>.cells
 unfold V.one at p1
 unfold V.cells at p2
 simp(disch:=first|(simp;done)|omega|rfl) [-getElem?_pos,g1,p1,p2,splice,Zam,Zaj,slc,Ret]
 exact⟨kk.set (by omega),u2,by simp,Sl.setInt hu2 g1 nint rfl⟩
def Yiw(a b:Int):(if (!(decide (a<0)==decide (b<0)))=true then -((a.natAbs*b.natAbs:Nat):Int) else ((a.natAbs*b.natAbs:Nat):Int))=a*b:=by
 have h0:((a.natAbs*b.natAbs:Nat):Int)=(a.natAbs:Int)*(b.natAbs:Int):=by simp
 rw[h0]
 by_cases h1:a<0<;>by_cases h2:b<0
 ·have ha:(a.natAbs:Int)= -a:=by omega
  have hb:(b.natAbs:Int)= -b:=by omega
  rw[ha,hb];simp[h1,h2,Int.neg_mul,Int.mul_neg]
 ·have ha:(a.natAbs:Int)= -a:=by omega
  have hb:(b.natAbs:Int)=b:=by omega
  rw[ha,hb];simp[h1,h2,Int.neg_mul,Int.mul_neg]
 ·have ha:(a.natAbs:Int)=a:=by omega
  have hb:(b.natAbs:Int)= -b:=by omega
  rw[ha,hb];simp[h1,h2,Int.neg_mul,Int.mul_neg]
 ·have ha:(a.natAbs:Int)=a:=by omega
  have hb:(b.natAbs:Int)=b:=by omega
  rw[ha,hb];simp[h1,h2,Int.neg_mul,Int.mul_neg]
def Zjj{x y:V}{a b:Int}(hx:Rg h N x a)(hy:Rg h N y b)(l1:(ds a.natAbs).length<500000000000)(l2:(ds b.natAbs).length<500000000000):Fn A.C 67 [x,y] h N (fun u h' n'=>Rg h' n' u (a*b)):=by
 intro w
 obtain⟨u,rfl,hu⟩:=hx
 obtain⟨v,rfl,hv⟩:=hy
 have o1:=Sl.form hu |>.one
 have o2:=Sl.form hu |>.cells
 have o3:=Sl.form hv |>.one
 have o4:=Sl.form hv |>.cells
 unfold V.one at o1 o3
 unfold V.cells at o2 o4
 have kB:=((((Keeps.refl (h:=h) (n:=N)).new (.cells [.bool (decide (a<0)),u] 92 true)).new (.cells [.bool (decide (b<0)),v] 92 true)).new (.cells [.bool false,.nilslice] 92 true))
 rw[Zaf,A.k67 (by simp)]
 simp(disch:=first|(simp;done)|omega|rfl) [-getElem?_pos,A.b67,o1,o2,o3,o4,splice,Zaj,slc,Zag]
 generalize hB:((h.set N (.cells [.bool (decide (a<0)),u] 92 true)).set (N+1) (.cells [.bool (decide (b<0)),v] 92 true)).set (N+1+1) (.cells [.bool false,.nilslice] 92 true)=HB at*
 have gr:HB.get (N+1+1)=some (.cells [.bool false,.nilslice] 92 true):=by rw[←hB];simp
 refine Zac (Zs4 (Sl.keep hu kB) (Sl.keep hv kB) (Zce _) (Zce _) (Zbg _) (Zbg _) (by omega)) ?_
 rintro v1 h1 n1 k1 q1
 have hlm:(ds (a.natAbs*b.natAbs)).length<1152921504606846976:=by
  have:=Zyz a.natAbs b.natAbs;omega
 simp(disch:=first|(simp;done)|omega|rfl) [-getElem?_pos,]
 refine Zac (Zbz (n:=a.natAbs*b.natAbs) q1 (Zce _) (Zbg _) hlm) ?_
 rintro v2 h2 n2 k2 hr2
 have le1:=k1.le
 have le2:=k2.le
 have g1:=(k2.get (N+1+1) (by omega)).trans ((k1.get (N+1+1) (by omega)).trans gr)
 have ez:(if (!(decide (a<0)==decide (b<0)))=true then -((a.natAbs*b.natAbs:Nat):Int) else ((a.natAbs*b.natAbs:Nat):Int))=a*b:=Yiw a b
 rw[ez]at hr2
 obtain⟨u2,rfl,hu2⟩:=hr2
 have p1:=Sl.form hu2 |>.one
 have p2:=Sl.form hu2 |>.cells
 unfold V.one at p1
 unfold V.cells at p2
 simp(disch:=first|(simp;done)|omega|rfl) [-getElem?_pos,g1,p1,p2,splice,Zam,Zaj,slc,Ret,Zal.chk]
 exact⟨by split<;>simp[Zae],((kB.trans k1).trans k2).set (by omega),u2,rfl,Sl.setInt hu2 g1 nint rfl⟩
set_option maxHeartbeats 4000000
structure SuI (h:T O) (N:Nat) (la lb:List Int) (m:Nat) (r:T V) (st:St):Prop where
 w:Zae N st.w=[]
 keep:Keeps h N st.h st.n
 ex:∃k c out D,k+m=la.length∧r.get 7=some (.int .i64 k)∧r.get 6=some (.int .i64 c)∧r.get 5=some out∧0≤c∧c≤1∧Own 1 3 N st.h st.n out (Zfc D)∧D.length=k∧Di D∧vI D-pI k*c=vI (la.take k)-vI (lb.take k)
def Yaa{h:T O}{N:Nat}{u v:V}{a b:Nat}(hu:Dn h N u a)(hv:Dn h N v b)(hab:b≤a)(l1:(ds a).length<1099511627776):Fn A.C 155 [u,v] h N (fun x h' n'=>Dn h' n' x (a-b)):=by
 intro w
 have l2:=Zct hab
 have da:=Zce a
 have db:=Zce b
 have va:=Zbg a
 have vb:=Zbg b
 have lu:=Sl.len hu
 have lv:=Sl.len hv
 rw[Zat]at lu lv
 have hu:Sl h N u (dI (ds a)):=hu
 have hv:Sl h N v (dI (ds b)):=hv
 generalize hA:ds a=la at*
 generalize hB:ds b=lb at*
 rw[Zaf,A.k155 (by simp)]
 simp(disch:=first|(simp;done)|omega|rfl) [-getElem?_pos,A.b155]
 refine Zak [(5,32)] (fun e r st=>e=.exit 0∧SuI h N la lb 0 r st) (SuI h N la lb) la.length ?_ ?_ ?_
 ·exact⟨by simp,Keeps.refl,0,0,.nilslice,[],by omega,by simp,by simp,by simp,by omega,by omega,Own.nil,rfl,Di.nil,by simp[vI]⟩
 ·rintro m r ⟨H,n1,W⟩ hr hf ⟨hW,hK,k,c,out,D,hk,h7,h6,h5,c0,c1,ho,hD,dD,hv0⟩
  simp only at hW hK ho
  rw[Zai]
  cases m with
  |zero=>
   obtain rfl:k=la.length:=by omega
   simp(disch:=first|(simp;done)|omega|rfl) [-getElem?_pos,A.lb155_0,hr,hf,h7,lu]
   exact⟨hW,hK,la.length,c,out,D,by omega,by simp[h7],by simp[h6],by simp[h5],c0,c1,ho,hD,dD,hv0⟩
  |succ m=>
   have hlt:k<la.length:=by omega
   have hk1:(k:Int)<(la.length:Int):=by omega
   obtain⟨x,hx⟩:=Zao hlt
   have dx:=da.get hx
   have dy:=Yii db k
   obtain⟨i,o,cc,e,rw,q1,q2,q3,q4⟩:=(hu.keep hK).at (Zbj hx)
   have e2:=fun w=>Zp0 (w:=w) (i:=k) (hv.keep hK) (by omega) (by omega)
   obtain⟨y,hy⟩:∃y,zI lb k=y:=⟨_,rfl⟩
   rw[hy]at dy e2
   have t3:Zap .i64 (x-y)=x-y:=Zah (by omega) (by omega)
   have t4:Zap .i64 (x-y-c)=x-y-c:=Zah (by omega) (by omega)
   have t5:Zap .i64 (x-y-c+1000000000)=x-y-c+1000000000:=Zah (by omega) (by omega)
   have hs:∀d c':Int,d-1000000000*c'=x-y-c→vI (D++[d])-pI (k+1)*c'=vI (la.take (k+1))-vI (lb.take (k+1)):=fun d c' he=>by
    rw[Zfx,hD,Zbf hx,Zmb,hy,Zc2]
    have:d=x-y-c+1000000000*c':=by omega
    subst this
    grind
   have ap:∀d:Int,∃v' h' w',Zbi ⟨H.set n1 (.cells [.int .i64 d] 3 true),n1+1,W⟩ 1 8 3 out (.slice n1 0 1 (some 1) 1)=some (v',⟨h',n1+1+1,w'⟩)∧Zae N w'=[]∧Keeps h N h' (n1+1+1)∧Own 1 3 N h' (n1+1+1) v' (Zfc (D++[d])):=fun d=>by
    have ho2:=ho.keep (Keeps.refl.new (.cells [.int .i64 d] 3 true))
    obtain⟨v',h',w',f1,f2,f3,_,f5⟩:=Zb5 (x:=[.int .i64 d]) (u:=.slice n1 0 1 (some 1) 1) (bytes:=8) (w:=W) ho2 (by have:=hK.le;omega) (by decide) rfl (by simp[Za0,St.row,slc]) (by simp[Zfc];omega)
    rw[←Zdd]at f5
    exact⟨v',h',w',f1,by rw[f2];exact hW,(hK.new (.cells [.int .i64 d] 3 true)).then f3,f5⟩
   by_cases hneg:x-y-c<0
   ·obtain⟨v',h',w',f1,f2,f3,f5⟩:=ap (x-y-c+1000000000)
    simp(disch:=first|(simp;done)|omega|rfl) [-getElem?_pos,A.lb155_0,hr,hf,h7,h6,h5,lu,hk1,hlt,q1,q2,q3,q4,e2,t3,t4,t5,hneg,splice,Zal.chk]
    simp(disch:=first|(simp;done)|omega|rfl) [-getElem?_pos,f1,hr,hf,h7]
    exact⟨m,by omega,⟨f2,f3,k+1,1,v',D++[x-y-c+1000000000],by omega,by simp,by simp,by simp,by omega,by omega,f5,by simp[hD],dD.app (Di.one (by omega) (by omega)),hs _ _ (by omega)⟩⟩
   ·obtain⟨v',h',w',f1,f2,f3,f5⟩:=ap (x-y-c)
    simp(disch:=first|(simp;done)|omega|rfl) [-getElem?_pos,A.lb155_0,hr,hf,h7,h6,h5,lu,hk1,hlt,q1,q2,q3,q4,e2,t3,t4,hneg,splice,Zal.chk]
    simp(disch:=first|(simp;done)|omega|rfl) [-getElem?_pos,f1,hr,hf,h7]
    exact⟨m,by omega,⟨f2,f3,k+1,0,v',D++[x-y-c],by omega,by simp,by simp,by simp,by omega,by omega,f5,by simp[hD],dD.app (Di.one (by omega) (by omega)),hs _ _ (by omega)⟩⟩
 ·rintro _ r ⟨H,n1,W⟩ hr ⟨rfl,hW,hK,k,c,out,D,hk,h7,h6,h5,c0,c1,ho,hD,dD,hv0⟩
  simp only at hW hK ho
  obtain rfl:k=la.length:=by omega
  rw[Zlp (Yru _),Zlp (by omega),va,vb]at hv0
  have hlt:=Zii dD
  rw[hD]at hlt
  have c2:c=0:=by
   apply Int.le_antisymm _ c0
   apply Yuy
   intro hc
   have:c=1:=by omega
   subst this
   omega
  subst c2
  have hvD:vI D=((a-b:Nat):Int):=by omega
  simp(disch:=first|(simp;done)|omega|rfl) [-getElem?_pos,hr,h5]
  refine Zac (Zf5 ho.sl (by omega)) ?_
  rintro v2 h2 n2 k2 q2
  rw[Zfz dD hvD]at q2
  simp(disch:=first|(simp;done)|omega|rfl) [-getElem?_pos,Ret,hW]
  exact⟨hK.trans k2,q2⟩
def Yde{a b:Nat}:(0≤Yd3 a b)↔b≤a:=by unfold Yd3;split<;>(try split)<;>omega
def Yjf{h:T O}{N:Nat}{x y:V}{a b:Int}(hx:Rg h N x a)(hy:Rg h N y b)(l1:(ds a.natAbs).length<500000000000)(l2:(ds b.natAbs).length<500000000000):Fn A.C 66 [x,y] h N (fun u h' n'=>Rg h' n' u (a+b)):=by
 intro w
 obtain⟨u,rfl,hu⟩:=hx
 obtain⟨v,rfl,hv⟩:=hy
 have o1:=Sl.form hu |>.one
 have o2:=Sl.form hu |>.cells
 have o3:=Sl.form hv |>.one
 have o4:=Sl.form hv |>.cells
 unfold V.one at o1 o3
 unfold V.cells at o2 o4
 have kB:=((((Keeps.refl (h:=h) (n:=N)).new (.cells [.bool (decide (a<0)),u] 92 true)).new (.cells [.bool (decide (b<0)),v] 92 true)).new (.cells [.bool false,.nilslice] 92 true))
 rw[Zaf,A.k66 (by simp)]
 generalize hB:((h.set N (.cells [.bool (decide (a<0)),u] 92 true)).set (N+1) (.cells [.bool (decide (b<0)),v] 92 true)).set (N+1+1) (.cells [.bool false,.nilslice] 92 true)=HB at kB
 have gr:HB.get (N+1+1)=some (.cells [.bool false,.nilslice] 92 true):=by rw[←hB];simp
 have gx:HB.get N=some (.cells [.bool (decide (a<0)),u] 92 true):=by rw[←hB];simp
 have gy:HB.get (N+1)=some (.cells [.bool (decide (b<0)),v] 92 true):=by rw[←hB];simp
 by_cases hsg:decide (a<0)=decide (b<0)
 ·have hsb:(decide (a<0)==decide (b<0))=true:=by rw[hsg];simp
  simp(disch:=first|(simp;done)|omega|rfl) [-getElem?_pos,A.b66,o1,o2,o3,o4,splice,Zaj,slc,Zag,hsb]
  simp only[hB]
  refine Zac (Yjc (Sl.keep hu kB) (Sl.keep hv kB) (Zce _) (Zce _) (by omega) (by omega)) ?_
  rintro v1 h1 n1 k1 ⟨l,q1,q2,q3,q4⟩
  rw[Zbg,Zbg]at q3
  have ez:(if decide (a<0)=true then -((a.natAbs+b.natAbs:Nat):Int) else ((a.natAbs+b.natAbs:Nat):Int))=a+b:=by
   by_cases h1:a<0<;>by_cases h2:b<0<;>simp[h1,h2]at hsg ⊢<;>omega
  simp(disch:=first|(simp;done)|omega|rfl) [-getElem?_pos,]
  refine Zac (Zbz (b:=decide (a<0)) (n:=a.natAbs+b.natAbs) q1 q2 (by rw[q3];try simp) (by omega)) ?_
  rintro v2 h2 n2 k2 hr2
  rw[ez]at hr2
  have le1:=k1.le
  have le2:=k2.le
  have g1:=(k2.get (N+1+1) (by omega)).trans ((k1.get (N+1+1) (by omega)).trans gr)
  obtain⟨u2,rfl,hu2⟩:=hr2
  have p1:=Sl.form hu2 |>.one
  have p2:=Sl.form hu2 |>.cells
  unfold V.one at p1
  unfold V.cells at p2
  simp(disch:=first|(simp;done)|omega|rfl) [-getElem?_pos,g1,p1,p2,splice,Zam,Zaj,slc,Ret,Zal.chk]
  exact⟨by split<;>simp[Zae],((kB.trans k1).trans k2).set (by omega),u2,rfl,Sl.setInt hu2 g1 nint rfl⟩
 ·have hsb:(decide (a<0)==decide (b<0))=false:=by simpa using hsg
  have hcm:=fun w=>Zui (w:=w) (Sl.keep hu kB) (Sl.keep hv kB) (by omega) (by omega)
  by_cases hge:b.natAbs≤a.natAbs
  ·have hge':0≤Yd3 a.natAbs b.natAbs:=Yde.2 hge
   simp(disch:=first|(simp;done)|omega|rfl) [-getElem?_pos,A.b66,o1,o2,o3,o4,splice,Zaj,slc,Zag,hsb]
   simp only[hB]
   simp(disch:=first|(simp;done)|omega|rfl) [-getElem?_pos,hcm,hge',gx,gy,Zaj,splice,slc]
   refine Zac (Yaa (Sl.keep hu kB) (Sl.keep hv kB) hge (by omega)) ?_
   rintro v1 h1 n1 k1 q1
   have q2:=Zce (a.natAbs-b.natAbs)
   have q3:=Zbg (a.natAbs-b.natAbs)
   have q4:=Zct (Nat.sub_le a.natAbs b.natAbs)
   have ez:(if decide (a<0)=true then -((a.natAbs-b.natAbs:Nat):Int) else ((a.natAbs-b.natAbs:Nat):Int))=a+b:=by
    by_cases h1:a<0<;>by_cases h2:b<0<;>simp[h1,h2]at hsg ⊢<;>omega
   simp(disch:=first|(simp;done)|omega|rfl) [-getElem?_pos,]
   refine Zac (Zbz (b:=decide (a<0)) (n:=a.natAbs-b.natAbs) q1 q2 (by rw[q3];try simp) (by omega)) ?_
   rintro v2 h2 n2 k2 hr2
   rw[ez]at hr2
   have le1:=k1.le
   have le2:=k2.le
   have g1:=(k2.get (N+1+1) (by omega)).trans ((k1.get (N+1+1) (by omega)).trans gr)
   obtain⟨u2,rfl,hu2⟩:=hr2
   have p1:=Sl.form hu2 |>.one
   have p2:=Sl.form hu2 |>.cells
   unfold V.one at p1
   unfold V.cells at p2
   simp(disch:=first|(simp;done)|omega|rfl) [-getElem?_pos,g1,p1,p2,splice,Zam,Zaj,slc,Ret,Zal.chk]
   exact⟨by split<;>simp[Zae],((kB.trans k1).trans k2).set (by omega),u2,rfl,Sl.setInt hu2 g1 nint rfl⟩
  ·have hge':¬0≤Yd3 a.natAbs b.natAbs:=fun hc=>hge (Yde.1 hc)
   simp(disch:=first|(simp;done)|omega|rfl) [-getElem?_pos,A.b66,o1,o2,o3,o4,splice,Zaj,slc,Zag,hsb]
   simp only[hB]
   simp(disch:=first|(simp;done)|omega|rfl) [-getElem?_pos,hcm,hge',gx,gy,Zaj,splice,slc]
   refine Zac (Yaa (Sl.keep hv kB) (Sl.keep hu kB) (by omega) (by omega)) ?_
   rintro v1 h1 n1 k1 q1
   have q2:=Zce (b.natAbs-a.natAbs)
   have q3:=Zbg (b.natAbs-a.natAbs)
   have q4:=Zct (Nat.sub_le b.natAbs a.natAbs)
   have ez:(if decide (b<0)=true then -((b.natAbs-a.natAbs:Nat):Int) else ((b.natAbs-a.natAbs:Nat):Int))=a+b:=by
    by_cases h1:a<0<;>by_cases h2:b<0<;>simp[h1,h2]at hsg ⊢<;>omega
   simp(disch:=first|(simp;done)|omega|rfl) [-getElem?_pos,]
   refine Zac (Zbz (b:=decide (b<0)) (n:=b.natAbs-a.natAbs) q1 q2 (by rw[q3];try simp) (by omega)) ?_
   rintro v2 h2 n2 k2 hr2
   rw[ez]at hr2
   have le1:=k1.le
   have le2:=k2.le
   have g1:=(k2.get (N+1+1) (by omega)).trans ((k1.get (N+1+1) (by omega)).trans gr)
   obtain⟨u2,rfl,hu2⟩:=hr2
   have p1:=Sl.form hu2 |>.one
   have p2:=Sl.form hu2 |>.cells
   unfold V.one at p1
   unfold V.cells at p2
   simp(disch:=first|(simp;done)|omega|rfl) [-getElem?_pos,g1,p1,p2,splice,Zam,Zaj,slc,Ret,Zal.chk]
   exact⟨by split<;>simp[Zae],((kB.trans k1).trans k2).set (by omega),u2,rfl,Sl.setInt hu2 g1 nint rfl⟩
end
end Go.Mx
