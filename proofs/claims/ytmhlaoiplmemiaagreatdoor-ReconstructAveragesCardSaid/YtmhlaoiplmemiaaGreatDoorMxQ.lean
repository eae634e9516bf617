/-Decimal notations of integers and of fra-/
import Derived.Test.YtmhlaoiplmemiaaGreatDoorRbA
set_option linter.all false
namespace Go.Mx
open Go
variable {n:Nat}
def dch(n:Nat):UInt8:=UInt8.ofNat (48+n%10)
def Zi6(n:Nat):(dch n).toNat=48+n%10:=by
 unfold dch
 simp
 omega
def Zc1(n:Nat):Str:=if h:n=0 then [] else Zc1 (n/10)++[dch n]
termination_by n
decreasing_by omega
def Zbi:Zc1 0=[]:=by unfold Zc1;simp
def Zcg(h:n≠0):Zc1 n=Zc1 (n/10)++[dch n]:=by
 conv=>lhs;unfold Zc1
 rw[dif_neg h]
def decN(n:Nat):Str:=if n=0 then [48] else Zc1 n
def Zh8(n k:Nat):Str:=List.replicate (k-(Zc1 n).length) 48++Zc1 n
def decI(z:Int):Str:=if z<0 then 45::decN z.natAbs else decN z.natAbs
def Zas(q:Rat):Str:=if q.den=1 then decI q.num else decI q.num++47::decN q.den
def Zry:∀(n:Nat),numV (Zc1 n)=n:=by
 intro n
 induction n using Nat.strongRecOn with
 |_ n ih=>
  by_cases h:n=0
  ·subst h;rw[Zbi];rfl
  ·rw[Zcg h,Zhg,ih (n/10) (by omega),Zi6]
   omega
def Zcl(n:Nat):numV (decN n)=n:=by
 unfold decN
 split
 ·subst_vars;rfl
 ·exact Zry n
def Zs6{s:Str}{c:UInt8}:Zb8 (s++[c])=(Zb8 s&&Zkt c):=by simp[Zb8]
def Yig(n:Nat):Zkt (dch n)=true:=by
 unfold Zkt
 rw[Zi6]
 simp
 omega
def Yex:∀(n:Nat),Zb8 (Zc1 n)=true:=by
 intro n
 induction n using Nat.strongRecOn with
 |_ n ih=>
  by_cases h:n=0
  ·subst h;rw[Zbi];rfl
  ·rw[Zcg h,Zs6,ih (n/10) (by omega),Yig];rfl
def Zb7(n:Nat):Zb8 (decN n)=true:=by
 unfold decN
 split
 ·rfl
 ·exact Yex n
def Zay:∀{k n:Nat},n<10^k↔(Zc1 n).length≤k
 |0,n=>by
  simp only[Yyd,Nat.lt_one_iff,Nat.le_zero,List.length_eq_zero_iff]
  constructor
  ·rintro rfl;exact Zbi
  ·intro h
   have:=Zry n
   rw[h]at this
   exact this.symm
 |k+1,n=>by
  by_cases h:n=0
  ·subst h;rw[Zbi];simp;exact Yx0 (by decide)
  ·rw[Zcg h,Yu8,Ywl,Yvm]
   have:=Zay (k:=k) (n:=n/10)
   rw[Nat.succ_le_succ_iff,←this]
   exact(Yvo (by decide)).symm
def Zke:∀{n:Nat},n≠0→∃c t,Zc1 n=c::t∧c.toNat≠48:=by
 intro n
 induction n using Nat.strongRecOn with
 |_ n ih=>
  intro h
  rw[Zcg h]
  by_cases h0:n/10=0
  ·rw[h0,Zbi]
   refine⟨dch n,[],rfl,?_⟩
   rw[Zi6];omega
  ·obtain⟨c,t,e,hc⟩:=ih (n/10) (by omega) h0
   rw[e]
   exact⟨c,t++[dch n],rfl,hc⟩
def Zi5(n:Nat):decN n≠[]:=by
 unfold decN
 split
 ·simp
 ·rename_i h
  obtain⟨c,t,e,_⟩:=Zke h
  rw[e];simp
def Zpj(n:Nat):Zcu (decN n)=true:=by
 have ha:=Zb7 n
 by_cases h:n=0
 ·subst h;rfl
 ·obtain⟨c,t,e,hc⟩:=Zke h
  have e2:decN n=c::t:=by unfold decN;rw[Yur h,e]
  rw[e2]at ha ⊢
  show (Zb8 (c::t)&&(decide (c.toNat≠48)||decide (t=[])))=true
  rw[ha,decide_eq_true hc];rfl
def Yj8{c:UInt8}(h:Zkt c=true){k:Nat}:dch (10*k+(c.toNat-48))=c:=by
 unfold Zkt at h
 simp only[decide_eq_true_eq]at h
 apply UInt8.toNat_inj.1
 rw[Zi6];omega
def Yeb:∀(t:Str) (c:UInt8),Zb8 (c::t)=true→c.toNat≠48→Zc1 (numV (c::t))=c::t:=by
 intro t
 generalize hn:t.length=n
 induction n generalizing t with
 |zero=>
  intro c ha hc
  have:t=[]:=Yu6 hn
  subst this
  have hd:Zkt c=true:=by simpa[Zb8]using ha
  have:=Yj8 hd (k:=0)
  have h2:48≤c.toNat∧c.toNat≤57:=by simpa[Zkt]using hd
  have e:numV [c]=c.toNat-48:=by simp[numV]
  rw[e,Zcg (by omega),show (c.toNat-48)/10=0 by omega,Zbi]
  simp only[Nat.mul_zero,Ywn]at this
  rw[this];rfl
 |succ n ih=>
  intro c ha hc
  obtain⟨u,d,rfl⟩:∃u d,t=u++[d]:=⟨t.dropLast,t.getLast (by rintro rfl;simp at hn),(Yyl _).symm⟩
  simp at hn
  have ha':Zb8 (c::u)=true∧Zkt d=true:=by
   rw[←Yxb,Zs6,Yu4]at ha
   exact ha
  have ih':=ih u (by omega) c ha'.1 hc
  have h2:48≤d.toNat∧d.toNat≤57:=by simpa[Zkt]using ha'.2
  rw[←Yxb,Zhg]
  have hpos:numV (c::u)≠0:=by
   intro h0
   rw[h0,Zbi]at ih'
   cases ih'
  rw[Zcg (by omega),show (10*numV (c::u)+(d.toNat-48))/10=numV (c::u) by omega,ih',Yj8 ha'.2]
def Zc0{s:Str}(h:Zcu s=true):decN (numV s)=s:=by
 cases s with
 |nil=>cases h
 |cons c t=>
  have h:(Zb8 (c::t)&&(decide (c.toNat≠48)||decide (t=[])))=true:=h
  rw[Yu4,Yx6,decide_eq_true_eq,decide_eq_true_eq]at h
  obtain⟨ha,hc⟩:=h
  by_cases h48:c.toNat=48
  ·rcases hc with hc|hc
   ·exact absurd h48 hc
   ·subst hc
    have:c=48:=UInt8.toNat_inj.1 h48
    subst this;rfl
  ·have e:=Yeb t c ha h48
   have:numV (c::t)≠0:=by
    intro h0
    rw[h0,Zbi]at e
    cases e
   unfold decN
   rw[Yur this,e]
def Zkd{a b:Nat}(h:decN a=decN b):a=b:=by rw[←Zcl a,h,Zcl]
def Zpo:∀{k a b:Nat},a≠0→b<10^k→Zc1 (a*10^k+b)=Zc1 a++Zh8 b k:=by
 intro k
 induction k with
 |zero=>
  intro a b ha hb
  have:b=0:=by simpa using hb
  subst this
  simp[Zh8,Zbi]
 |succ k ih=>
  intro a b ha hb
  rw[Yvm]at hb ⊢
  have hb2:b/10<10^k:=(Yvo (by decide)).2 hb
  have hp:0<10^k:=Yx0 (by decide)
  have hpos:a*(10^k*10)+b≠0:=by
   have:=Yx4 (Nat.pos_of_ne_zero ha) (Yx4 hp (by decide:0<10));omega
  have e1:(a*(10^k*10)+b)/10=a*10^k+b/10:=by
   rw[←Yx8,Yvp _ 10,Nat.mul_add_div (by decide)]
  have e2:dch (a*(10^k*10)+b)=dch b:=by
   apply UInt8.toNat_inj.1
   rw[Zi6,Zi6,←Yx8,Yvp _ 10,Nat.mul_add_mod]
  rw[Zcg hpos,e1,ih ha hb2,e2,Yvz]
  congr 1
  by_cases hb0:b=0
  ·subst hb0
   unfold Zh8
   rw[Nat.zero_div,Zbi]
   simp only[List.length_nil,Nat.sub_zero,Ywo]
   rw[List.replicate_succ']
   rfl
  ·unfold Zh8
   rw[Zcg hb0,Yu8,Ywl,←Yvz]
   rw[show k+1-((Zc1 (b/10)).length+1)=k-(Zc1 (b/10)).length by omega]
def Yih{b k:Nat}(h:b<10^k):(Zh8 b k).length=k:=by
 have:=Zay.1 h
 simp[Zh8];omega
def Zkc(b:Nat):Zh8 b 1=decN b:=by
 unfold Zh8 decN
 split
 ·subst_vars;rw[Zbi];rfl
 ·rename_i h
  obtain⟨c,t,e,_⟩:=Zke h
  rw[e]
  simp
def Zsy(h:n≠0):0<(Zc1 n).length:=by
 obtain⟨c,t,e,_⟩:=Zke h
 rw[e];simp
def Zb2{k:Nat}(hk:0<k):(decN n).length≤k↔n<10^k:=by
 unfold decN
 split
 ·subst_vars
  simp
  exact⟨fun _=>Yx0 (by decide),fun _=>hk⟩
 ·exact Zay.symm
def Zpn{n:Nat}:∃c t,decN n=c::t∧48≤c.toNat∧c.toNat≤57:=by
 have h:=Zb7 n
 cases hs:decN n with
 |nil=>exact absurd hs (Zi5 n)
 |cons c t=>
  rw[hs]at h
  have:Zkt c=true:=by
   simp[Zb8]at h;exact h.1
  exact⟨c,t,rfl,by simpa[Zkt]using this⟩
variable {s:Str}
def Zgf:∀{s t:Str},(∀c∈s,c.toNat≠47)→slashAt (s++47::t)=s.length
 |[],t,_=>rfl
 |c::s,t,h=>by
  have h1:=h c Yvg
  have:=Zgf (s:=s) (t:=t) fun d hd=>h d (Yu1 _ hd)
  simp[slashAt,h1,this]
def Zfh:∀{s:Str},(∀c∈s,c.toNat≠47)→slashAt s=s.length
 |[],_=>rfl
 |c::s,h=>by
  have h1:=h c Yvg
  have:=Zfh (s:=s) fun d hd=>h d (Yu1 _ hd)
  simp[slashAt,h1,this]
def Zmt:∀{s:Str},slashAt s<s.length→s.drop (slashAt s)=47::s.drop (slashAt s+1)
 |[],h=>by simp[slashAt]at h
 |c::s,h=>by
  by_cases hc:c.toNat=47
  ·have:c=47:=UInt8.toNat_inj.1 hc
   subst this
   simp[slashAt]
  ·simp only[slashAt,hc,if_false,Yuq]at h ⊢
   have:=Zmt (s:=s) (by omega)
   simpa using this
def Zlc(h:Zb8 s=true):∀c∈s,c.toNat≠47:=by
 intro c hc
 unfold Zb8 at h
 rw[Yvk]at h
 have:=h c hc
 unfold Zkt at this
 simp only[decide_eq_true_eq]at this
 omega
def Yd9(z:Int):∀c∈decI z,c.toNat≠47:=by
 unfold decI
 split
 ·intro c hc
  rcases Yvt.1 hc with rfl|hc
  ·decide
  ·exact Zlc (Zb7 _) c hc
 ·exact Zlc (Zb7 _)
def Ycc(n:Nat):negS (decN n)=false:=by
 obtain⟨c,t,e,h1,h2⟩:=Zpn (n:=n)
 rw[e]
 simp[negS];omega
def Zfw(z:Int):negS (decI z)=decide (z<0):=by
 unfold decI
 split
 ·rename_i h;simp[negS,h]
 ·rename_i h;rw[Ycc];simp[h]
def Ze3(z:Int):Zap (decI z)=decN z.natAbs:=by
 unfold Zap
 rw[Zfw]
 by_cases h:z<0
 ·simp[h,decI]
 ·simp[h,decI]
def Zd1(q:Rat):slashAt (Zas q)=(decI q.num).length:=by
 unfold Zas
 split
 ·exact Zfh (Yd9 _)
 ·exact Zgf (Yd9 _)
def Zjj(q:Rat):(Zas q).take (slashAt (Zas q))=decI q.num:=by
 rw[Zd1]
 unfold Zas
 split
 ·simp
 ·simp
def Zjl(q:Rat)(h:q.den≠1):(Zas q).drop (slashAt (Zas q)+1)=decN q.den:=by
 rw[Zd1]
 unfold Zas
 rw[Yur h,←List.drop_drop]
 simp
def Zjk(q:Rat):slashAt (Zas q)<(Zas q).length↔q.den≠1:=by
 rw[Zd1]
 unfold Zas
 split
 ·rename_i h;simp[h]
 ·rename_i h;simp[h]
def Yij{a b:Int}(h:decI a=decI b):a=b:=by
 have h1:=congrArg negS h
 have h2:=congrArg Zap h
 rw[Zfw,Zfw,decide_eq_decide]at h1
 rw[Ze3,Ze3]at h2
 have h3:=Zkd h2
 omega
def Yfm{a b:Rat}(h:Zas a=Zas b):a=b:=by
 have h1:=Zjj a
 rw[h,Zjj b]at h1
 have h2:=Yij h1
 have h3:a.den=b.den:=by
  by_cases ha:a.den=1
  ·have:=mt (Zjk a).1 (fun hc=>hc ha)
   rw[h]at this
   rw[Zjk]at this
   rw[ha];exact(Decidable.not_not.1 this).symm
  ·have:=(Zjk a).2 ha
   rw[h]at this
   have hb:=(Zjk b).1 this
   have e:=Zjl a ha
   rw[h,Zjl b hb]at e
   exact(Zkd e).symm
 exact Rat.ext h2.symm h3
def Zfb(s:Str):Rat:=mkRat (if negS s then -(numV ((Zap s).take (slashAt (Zap s))):Int) else numV ((Zap s).take (slashAt (Zap s)))) (if slashAt (Zap s)<(Zap s).length then numV ((Zap s).drop (slashAt (Zap s)+1)) else 1)
def Yiq(h:chkNum s=0):Zcc (negS s) ((Zap s).take (slashAt (Zap s))) (decide (slashAt (Zap s)<(Zap s).length)) ((Zap s).drop (slashAt (Zap s)+1))=true∧((Zap s).take (slashAt (Zap s))).length≤600∧((Zap s).drop (slashAt (Zap s)+1)).length≤600∧(slashAt (Zap s)<(Zap s).length→Nat.gcd (numV ((Zap s).take (slashAt (Zap s)))) (numV ((Zap s).drop (slashAt (Zap s)+1)))=1):=by
 unfold chkNum Ynr Zkj at h
 split at h
 ·cases h
 ·rename_i h1
  split at h
  ·cases h
  ·rename_i h2
   split at h
   ·cases h
   ·rename_i h3
    refine⟨by simpa using h1,by omega,by omega,fun hs=>?_⟩
    rw[decide_eq_true hs]at h3
    simpa using h3
def Zr6{n:Int}{d:Nat}(hd:d≠0)(h:Nat.gcd n.natAbs d=1):(mkRat n d).num=n∧(mkRat n d).den=d:=by
 have:mkRat n d=⟨n,d,hd,h⟩:=by
  rw[Rat.mkRat_def,dif_neg hd]
  exact Rat.normalize_eq_mk' _ _ hd h
 rw[this]
 exact⟨rfl,rfl⟩
def Zz1(s:Str):s=(if negS s then [45] else [])++Zap s:=by
 cases s with
 |nil=>rfl
 |cons c t=>
  unfold Zap
  by_cases hc:c.toNat=45
  ·have:c=45:=UInt8.toNat_inj.1 hc
   subst this
   simp[negS]
  ·simp[negS,hc]
def Zhq(h:chkNum s=0):Zas (Zfb s)=s∧(decN (Zfb s).num.natAbs).length≤600∧(decN (Zfb s).den).length≤600:=by
 obtain⟨h1,h2,h3,h4⟩:=Yiq h
 have hle:=Zdd (Zap s)
 unfold Zcc at h1
 simp only[Yu4,Yx3,Yx6,decide_eq_true_eq]at h1
 obtain⟨⟨hp,hz⟩,hd⟩:=h1
 have hpz:negS s=true→numV ((Zap s).take (slashAt (Zap s)))≠0:=by
  intro hn h0
  rw[hn,Bool.true_and,decide_eq_false_iff_not]at hz
  apply hz
  have:=Zc0 hp
  rw[h0]at this
  exact this.symm
 have hpl:(decN (numV ((Zap s).take (slashAt (Zap s))))).length≤600:=by
  rw[Zc0 hp];exact h2
 have hb:=Zz1 s
 by_cases hs:slashAt (Zap s)<(Zap s).length
 ·have hd:Zcu ((Zap s).drop (slashAt (Zap s)+1))=true∧(Zap s).drop (slashAt (Zap s)+1)≠[48]∧(Zap s).drop (slashAt (Zap s)+1)≠[49]:=by
   rcases hd with hd|⟨⟨a,b⟩,c⟩
   ·exact absurd hs (by simpa using hd)
   ·exact⟨a,b,c⟩
  have hg:=h4 hs
  have hd0:numV ((Zap s).drop (slashAt (Zap s)+1))≠0:=by
   intro h0
   have:=Zc0 hd.1
   rw[h0]at this
   exact hd.2.1 this.symm
  have hd1:numV ((Zap s).drop (slashAt (Zap s)+1))≠1:=by
   intro h0
   have:=Zc0 hd.1
   rw[h0]at this
   exact hd.2.2 (this.symm.trans (by decide+kernel))
  have hdl:(decN (numV ((Zap s).drop (slashAt (Zap s)+1)))).length≤600:=by
   rw[Zc0 hd.1];exact h3
  have hv:Zfb s=mkRat (if negS s then -(numV ((Zap s).take (slashAt (Zap s))):Int) else numV ((Zap s).take (slashAt (Zap s)))) (numV ((Zap s).drop (slashAt (Zap s)+1))):=by
   unfold Zfb;rw[Yuu hs]
  obtain⟨e1,e2⟩:=Zr6 (n:=if negS s then -(numV ((Zap s).take (slashAt (Zap s))):Int) else numV ((Zap s).take (slashAt (Zap s)))) hd0 (by split<;>simpa using hg)
  rw[←hv]at e1 e2
  have hbody:Zap s=(Zap s).take (slashAt (Zap s))++47::(Zap s).drop (slashAt (Zap s)+1):=by
   conv=>lhs;rw[←Ywz (slashAt (Zap s)) (Zap s)]
   rw[Zmt hs]
  refine⟨?_,?_,by rw[e2];exact hdl⟩
  ·unfold Zas
   rw[e2,Yur hd1,Zc0 hd.1,e1]
   conv=>rhs;rw[hb,hbody]
   unfold decI
   cases hn:negS s with
   |false=>
    simp only[Yu5,if_false]
    rw[Yur (by omega),Yuw,Zc0 hp];rfl
   |true=>
    have:=hpz hn
    simp only[if_true]
    rw[Yuu (by omega),Yxf,Yuw,Zc0 hp];rfl
  ·rw[e1]
   split<;>simpa using hpl
 ·have hv:Zfb s=mkRat (if negS s then -(numV ((Zap s).take (slashAt (Zap s))):Int) else numV ((Zap s).take (slashAt (Zap s)))) 1:=by
   unfold Zfb;rw[Yur hs]
  obtain⟨e1,e2⟩:=Zr6 (n:=if negS s then -(numV ((Zap s).take (slashAt (Zap s))):Int) else numV ((Zap s).take (slashAt (Zap s)))) (show (1:Nat)≠0 by decide) (Nat.gcd_one_right _)
  rw[←hv]at e1 e2
  have ht:(Zap s).take (slashAt (Zap s))=Zap s:=Yuy (by omega)
  rw[ht]at e1 hp hpz hpl
  refine⟨?_,?_,by rw[e2];decide+kernel⟩
  ·unfold Zas
   rw[e2,Yuu rfl,e1]
   conv=>rhs;rw[hb]
   unfold decI
   cases hn:negS s with
   |false=>
    simp only[Yu5,if_false]
    rw[Yur (by omega),Yuw,Zc0 hp];rfl
   |true=>
    have:=hpz hn
    simp only[if_true]
    rw[Yuu (by omega),Yxf,Yuw,Zc0 hp];rfl
  ·rw[e1]
   split<;>simpa using hpl
def Zoc(q:Rat):Zap (Zas q)=if q.den=1 then decN q.num.natAbs else decN q.num.natAbs++47::decN q.den:=by
 have hneg:∀t:Str,negS (decI q.num++t)=decide (q.num<0):=by
  intro t
  rw[←Zfw]
  have:decI q.num≠[]:=by
   unfold decI;split
   ·simp
   ·exact Zi5 _
  cases h:decI q.num with
  |nil=>exact absurd h this
  |cons c u=>rfl
 have hb:∀t:Str,Zap (decI q.num++t)=decN q.num.natAbs++t:=by
  intro t
  unfold Zap
  rw[hneg]
  by_cases h:q.num<0
  ·simp[h,decI]
  ·simp[h,decI]
 unfold Zas
 split
 ·have:=hb [];simpa using this
 ·exact hb _
def Zwe(q:Rat):negS (Zas q)=decide (q.num<0):=by
 have hneg:∀t:Str,negS (decI q.num++t)=decide (q.num<0):=by
  intro t
  rw[←Zfw]
  have:decI q.num≠[]:=by
   unfold decI;split
   ·simp
   ·exact Zi5 _
  cases h:decI q.num with
  |nil=>exact absurd h this
  |cons c u=>rfl
 unfold Zas
 split
 ·have:=hneg [];simpa using this
 ·exact hneg _
def Zq7(q:Rat):(Zap (Zas q)).take (slashAt (Zap (Zas q)))=decN q.num.natAbs∧(slashAt (Zap (Zas q))<(Zap (Zas q)).length↔q.den≠1)∧(Zap (Zas q)).drop (slashAt (Zap (Zas q))+1)=if q.den=1 then [] else decN q.den:=by
 rw[Zoc]
 by_cases h:q.den=1
 ·simp only[h,if_true]
  rw[Zfh (Zlc (Zb7 _))]
  simp
 ·simp only[h,if_false]
  rw[Zgf (Zlc (Zb7 _))]
  simp[h]
def Zxf(q:Rat):Bool:=decide (600<(decN q.num.natAbs).length∨600<(decN q.den).length)
def Yj7:decN 0=[48]:=rfl
def Zsw:decN 1=[49]:=by decide+kernel
def Zk9(q:Rat):chkNum (Zas q)=if Zxf q then 4 else 0:=by
 obtain⟨h1,h2,h3⟩:=Zq7 q
 have hf:Zcc (negS (Zas q)) (decN q.num.natAbs) (decide (q.den≠1)) (if q.den=1 then [] else decN q.den)=true:=by
  unfold Zcc
  rw[Zpj,Zwe]
  have hz:(decide (q.num<0)&&decide (decN q.num.natAbs=[48]))=false:=by
   by_cases hn:q.num<0
   ·have:decN q.num.natAbs≠[48]:=by
     intro h
     have:=Zkd (h.trans Yj7.symm)
     omega
    simp[this]
   ·simp[hn]
  rw[hz]
  by_cases hd:q.den=1
  ·simp[hd]
  ·have a1:decN q.den≠[48]:=fun h=>q.den_nz (Zkd (h.trans Yj7.symm))
   have a2:decN q.den≠[49]:=fun h=>hd (Zkd (h.trans Zsw.symm))
   simp[hd,Zpj,a1,a2]
 have hb:(decide (slashAt (Zap (Zas q))<(Zap (Zas q)).length))=decide (q.den≠1):=decide_eq_decide.2 h2
 unfold chkNum Ynr
 rw[h1,h3,hb]
 unfold Zkj
 rw[hf]
 have hg:¬(decide (q.den≠1)=true∧Nat.gcd (numV (decN q.num.natAbs)) (numV (if q.den=1 then [] else decN q.den))≠1):=by
  rintro⟨a,b⟩
  have a:q.den≠1:=by simpa using a
  rw[Yur a,Zcl,Zcl]at b
  exact b q.reduced
 rw[Yur (by simp),Yur hg]
 unfold Zxf
 by_cases hd:q.den=1
 ·rw[hd,Zsw]
  simp
 ·simp[hd]
def Zv2(q:Rat):Zfb (Zas q)=q:=by
 obtain⟨h1,h2,h3⟩:=Zq7 q
 unfold Zfb
 rw[h1,h3,Zwe,Zcl]
 have hn:(if decide (q.num<0)=true then -(q.num.natAbs:Int) else (q.num.natAbs:Int))=q.num:=by
  by_cases h:q.num<0
  ·rw[Yuu (by simpa using h)];omega
  ·rw[Yur (by simpa using h)];omega
 rw[hn]
 by_cases hd:q.den=1
 ·rw[Yur (fun h=>(h2.1 h) hd)]
  have:=Rat.mkRat_self q
  rw[hd]at this
  exact this
 ·rw[Yuu (h2.2 hd),Yur hd,Zcl]
  exact Rat.mkRat_self q
variable {i j k n:Nat}
def Zw0:∀{i n:Nat},i<(ds n).length→(ds n)[i]?=some ((n/1000000000^i%1000000000:Nat):Int)
 |i,n,h=>by
  by_cases hn:n=0
  ·rw[hn,Zcn]at h;simp at h
  ·rw[Zhm hn]at h ⊢
   cases i with
   |zero=>simp
   |succ i=>
    rw[Yw2,Zw0 (by simpa using h),Yxg,Yvm,Yvp]
def Yj3(h:i<(ds n).length):n/1000000000^i≠0:=by
 intro hc
 have h1:n<1000000000^i:=(Nat.div_eq_zero_iff_lt (Yx0 (by decide))).1 hc
 have:=Zf0 h1
 omega
def Yd7(h:i+1<(ds n).length):decN (n/1000000000^i)=decN (n/1000000000^(i+1))++Zh8 (n/1000000000^i%1000000000) 9:=by
 have h0:=Yj3 (i:=i) (n:=n) (by omega)
 have h1:=Yj3 (i:=i+1) (n:=n) h
 have e:n/1000000000^(i+1)=n/1000000000^i/1000000000:=by rw[Yvm,Yxg]
 rw[e]at h1 ⊢
 generalize n/1000000000^i=x at*
 unfold decN
 rw[Yur h0,Yur h1]
 have:=Zpo (k:=9) (a:=x/1000000000) (b:=x%1000000000) h1 (by omega)
 rw[show (10:Nat)^9=1000000000 by decide]at this
 rw[←this]
 congr 1
 omega
def Yii(h:i+1=(ds n).length):decN (n/1000000000^i)=Zh8 (n/1000000000^i%1000000000) 1:=by
 have h1:n<1000000000^(i+1):=by
  have h2:=Zip (Zce n)
  rw[Zbf,←h]at h2
  unfold pI at h2
  have h3:(1000000000:Int)^(i+1)=((1000000000^(i+1):Nat):Int):=by rw[Int.natCast_pow];rfl
  rw[h3]at h2
  exact Int.ofNat_lt.1 h2
 rw[Yvm]at h1
 have h3:n/1000000000^i<1000000000:=Nat.div_lt_of_lt_mul h1
 rw[Ywp h3,Zkc]
def Qb(k:Nat)(q:Rat):Prop:=q.num.natAbs<2^k∧q.den<2^k
def Zm6(h:j≤k):2^j≤2^k:=Yvs (by decide) h
def Qb.mono{q:Rat}(h:Qb j q)(hk:j≤k):Qb k q:=⟨Yu0 h.1 (Zm6 hk),Yu0 h.2 (Zm6 hk)⟩
def Zlo{a b:Int}(hb:b≠0)(h1:a.natAbs<2^k)(h2:b.natAbs<2^k):Qb k (Rat.divInt a b):=by
 constructor
 ·rw[Rat.num_divInt]
  refine Yvl ?_ h1
  rw[Int.natAbs_ediv_of_dvd]
  ·rw[Yv6]
   have:b.sign.natAbs=1:=by rw[Int.natAbs_sign,Yur hb]
   rw[this,Nat.one_mul]
   exact Yv9 _ _
  ·exact Int.dvd_trans (Int.gcd_dvd_right ..) (Int.dvd_mul_left ..)
 ·rw[Rat.den_divInt,Yur hb]
  exact Yvl (Yv9 _ _) h2
def Qb.mul{p q:Rat}(hp:Qb j p)(hq:Qb k q):Qb (j+k) (p*q):=by
 have hp0:((p.den:Nat):Int)≠0:=by have:=p.den_nz;omega
 have hq0:((q.den:Nat):Int)≠0:=by have:=q.den_nz;omega
 rw[←Ywr p,←Ywr q,Rat.divInt_mul_divInt]
 refine Zlo (Yx2 hp0 hq0) ?_ ?_
 ·rw[Yv6,Yv2]
  exact Yxm hp.1 hq.1
 ·rw[Yv6,Yv2,Yuw,Yuw]
  exact Yxm hp.2 hq.2
def Qb.add{p q:Rat}(hp:Qb j p)(hq:Qb k q):Qb (j+k+1) (p+q):=by
 have hp0:((p.den:Nat):Int)≠0:=by have:=p.den_nz;omega
 have hq0:((q.den:Nat):Int)≠0:=by have:=q.den_nz;omega
 rw[←Ywr p,←Ywr q,Rat.divInt_add_divInt _ _ hp0 hq0]
 have e:2^(j+k+1)=2^j*2^k+2^k*2^j:=by rw[Yvm,Yv2,Yvp (2^k)];omega
 refine Zlo (Yx2 hp0 hq0) ?_ ?_
 ·refine Yvl (Int.natAbs_add_le ..) ?_
  rw[Yv6,Yv6,Yuw,Yuw,e]
  exact Nat.add_lt_add (Yxm hp.1 hq.2) (Yxm hq.1 hp.2)
 ·rw[Yv6,Yuw,Yuw,e]
  exact Yu0 (Yxm hp.2 hq.2) (Nat.le_add_right _ _)
def Qb.neg{q:Rat}(h:Qb k q):Qb k (-q):=by
 refine⟨?_,?_⟩
 ·rw[Rat.neg_num,Yxf];exact h.1
 ·rw[Rat.neg_den];exact h.2
def Qb.sub{p q:Rat}(hp:Qb j p)(hq:Qb k q):Qb (j+k+1) (p-q):=by
 rw[Rat.sub_eq_add_neg];exact hp.add hq.neg
def Qb.int{z:Int}(h:z.natAbs<2^k)(hk:0<k):Qb k (z:Rat):=by
 refine⟨by simpa using h,?_⟩
 rw[Rat.den_intCast]
 exact Yu0 (by decide) (Zm6 (j:=1) hk)
def Zi2(h:n<2^k):(ds n).length≤k:=Zf0 (Yu0 h (Yxs (by decide) k))
def Zn2(h:n<2^k):(Zc1 n).length≤k:=Zay.1 (Yu0 h (Yxs (by decide) k))
def Zk8(h:n<2^k):(decN n).length≤k+1:=by
 have:=Zn2 h
 unfold decN
 split<;>simp<;>omega
def Zn1{z:Int}(h:z.natAbs<2^k):(decI z).length≤k+2:=by
 have:=Zk8 h
 unfold decI
 split<;>simp<;>omega
def Yjh(k:Nat):10^k≤2^(4*k):=by
 rw[Nat.pow_mul];exact Yxs (by decide) k
def Yel{s:Str}(h:chkNum s=0)(hn:s.length≤n):Qb (4*n+4) (Zfb s):=by
 obtain⟨e,_,_⟩:=Zhq h
 have hb:=Zoc (Zfb s)
 have l1:(Zap (Zas (Zfb s))).length≤n:=by
  rw[e];unfold Zap;split
  ·simp;omega
  ·exact hn
 rw[hb]at l1
 have g:∀m:Nat,(decN m).length≤n+1→m<2^(4*n+4):=fun m hm=>by
  have:=(Zb2 (n:=m) (k:=n+1) (by omega)).1 hm
  exact Yu0 this (by have:=Yjh (n+1);rw[Yw1]at this;exact this)
 split at l1
 ·rename_i h1
  have h2:(decN 1).length=1:=by rw[Zsw];rfl
  exact⟨g _ (by omega),by rw[h1];exact g 1 (by omega)⟩
 ·simp at l1
  exact⟨g _ (by omega),g _ (by omega)⟩
open Go Go.Proofs
set_option maxRecDepth 1000000
noncomputable def A.b207:=A.q Tryz.f207
def A.k207:=@A.kk 207 13 [.tmp 4] A.b207 (by kernel_rfl) rfl
noncomputable def A.w155:=A.q Tryz.f155
noncomputable def A.lb155_0:=A.ql A.w155 0 []
noncomputable def A.b155:=(fun x0=>A.qb A.w155 [x0]) A.lb155_0
def A.k155:=@A.kk 155 42 [.tmp 4] A.b155 (by kernel_rfl) rfl
noncomputable def A.w157:=A.q Tryz.f157
noncomputable def A.lb157_0:=A.ql A.w157 0 []
noncomputable def A.b157:=(fun x0=>A.qb A.w157 [x0]) A.lb157_0
def A.k157:=@A.kk 157 35 [.tmp 4] A.b157 (by kernel_rfl) rfl
def Zqp{h:T O}{N:Nat}{v:V}{l:List Int}{i:Nat}{w:List Nat}(hs:Sl h N v (dI l))(hi:i<4611686018427387904)(hl:l.length<4611686018427387904):A.C.call (.func 207 [] []) [v,.int .i64 i] ⟨h,N,w⟩=some (.int .i64 (zI l i),⟨h,N,w⟩):=by
 apply Call.eq
 have hlen:=hs.len
 rw[Zau]at hlen
 rw[Zaa,A.k207 (by simp)]
 by_cases hc:i<l.length
 ·have hc1:(i:Int)<(l.length:Int):=by omega
  obtain⟨d,hd⟩:=Zaf hc
  obtain⟨j,o,c,e,rw,q1,q2,q3,q4⟩:=hs.at (Zbj hd)
  simp[A.b207,hlen,hc,hc1,q1,q3,q4,Ykn hd]
 ·have hc1:¬(i:Int)<(l.length:Int):=by omega
  simp[A.b207,hlen,hc,hc1,Ztd (Ywu hc)]
structure AdI (h:T O) (N:Nat) (la lb:List Int) (m:Nat) (r:T V) (st:St):Prop where
 w:oldIds N st.w=[]
 keep:Keeps h N st.h st.n
 ex:∃k c out D,k+m=max la.length lb.length+1∧r.get 7=some (.int .i64 k)∧r.get 6=some (.int .i64 c)∧r.get 5=some out∧0≤c∧c≤1∧(m=0→c=0)∧Own 1 3 N st.h st.n out (Zfk D)∧D.length=k∧Di D∧vI D+pI k*c=vI (la.take k)+vI (lb.take k)
def Zl3{l:List Int}{k:Nat}(h:l.length≤k):l.take k=l:=Yuy h
def Ylg{h:T O}{N:Nat}{u v:V}{la lb:List Int}(hu:Sl h N u (dI la))(hv:Sl h N v (dI lb))(da:Di la)(db:Di lb)(l1:la.length<1099511627776)(l2:lb.length<1099511627776):Fn A.C 155 [u,v] h N (fun x h' n'=>∃l,Sl h' n' x (dI l)∧Di l∧vI l=vI la+vI lb∧l.length≤max la.length lb.length+1):=by
 intro w
 have lu:=hu.len
 have lv:=hv.len
 rw[Zau]at lu lv
 rw[Zaa,A.k155 (by simp)]
 simp[A.b155]
 refine Zag [(5,40)] (fun e r st=>e=.exit 0∧oldIds N st.w=[]∧Keeps h N st.h st.n∧∃out D,r.get 5=some out∧Own 1 3 N st.h st.n out (Zfk D)∧Di D∧vI D=vI la+vI lb∧D.length≤max la.length lb.length+1) (AdI h N la lb) (max la.length lb.length+1) ?_ ?_ ?_
 ·exact⟨by simp,Keeps.refl,0,0,.nilslice,[],by omega,by simp,by simp,by simp,by omega,by omega,fun _=>rfl,Own.nil,rfl,Di.nil,by simp[vI]⟩
 ·rintro m r ⟨H,n1,W⟩ hr hf ⟨hW,hK,k,c,out,D,hk,h7,h6,h5,c0,c1,cz,ho,hD,dD,hv0⟩
  simp only at hW hK ho
  rw[Zah]
  by_cases hgo:k<la.length∨k<lb.length∨0<c
  ·obtain⟨m',rfl⟩:∃m',m=m'+1:=⟨m-1,by
    have:m≠0:=fun hm=>by have:=cz hm;omega
    omega⟩
   have dx:=Yko da k
   have dy:=Yko db k
   have e1:=fun w=>Zqp (w:=w) (i:=k) (hu.keep hK) (by omega) (by omega)
   have e2:=fun w=>Zqp (w:=w) (i:=k) (hv.keep hK) (by omega) (by omega)
   obtain⟨x,hx⟩:∃x,zI la k=x:=⟨_,rfl⟩
   obtain⟨y,hy⟩:∃y,zI lb k=y:=⟨_,rfl⟩
   rw[hx]at dx e1
   rw[hy]at dy e2
   have t1:(x+y+c).tmod 1000000000=(x+y+c)%1000000000:=Ywk (by omega)
   have t2:(x+y+c).tdiv 1000000000=(x+y+c)/1000000000:=Yv8 (by omega)
   have t3:Zao .i64 (x+y)=x+y:=Zai (by omega) (by omega)
   have t4:Zao .i64 (x+y+c)=x+y+c:=Zai (by omega) (by omega)
   have t5:Zao .i64 ((x+y+c)/1000000000)=(x+y+c)/1000000000:=Zai (by omega) (by omega)
   have hfin:vI (D++[(x+y+c)%1000000000])+pI (k+1)*((x+y+c)/1000000000)=vI (la.take (k+1))+vI (lb.take (k+1)):=by
    rw[Zf9,hD,Zmn,Zmn,hx,hy,Zc4]
    have hm:=Yw8 (x+y+c) 1000000000
    generalize (x+y+c)/1000000000=Q at*
    generalize (x+y+c)%1000000000=R at*
    have:R=x+y+c-1000000000*Q:=by omega
    subst this
    grind
   have hz:m'=0→(x+y+c)/1000000000=0:=fun hm=>by
    have:x=0:=by rw[←hx];exact Ztd (by omega)
    have:y=0:=by rw[←hy];exact Ztd (by omega)
    omega
   have ho2:=ho.keep (Keeps.refl.new (.cells [.int .i64 ((x+y+c)%1000000000)] 3 true))
   obtain⟨v',h',w',f1,f2,f3,_,f5⟩:=Zb6 (x:=[.int .i64 ((x+y+c)%1000000000)]) (u:=.slice n1 0 1 (some 1) 1) (bytes:=8) (w:=W) ho2 (by have:=hK.le;omega) (by decide) rfl (by simp[Zat,St.row,slc]) (by simp[Zfk];omega)
   rw[←Zde]at f5
   have f6:oldIds N w'=[]:=by rw[f2];exact hW
   have kz:=(hK.new (.cells [.int .i64 ((x+y+c)%1000000000)] 3 true)).then f3
   have hgo':k<la.length∨(¬k<la.length∧k<lb.length)∨(¬k<la.length∧¬k<lb.length∧0<c):=by omega
   rcases hgo' with g1|⟨g1,g2⟩|⟨g1,g2,g3⟩
   ·have i1:(k:Int)<(la.length:Int):=by omega
    simp[A.lb155_0,hr,hf,h7,h6,h5,lu,lv,g1,i1,e1,e2,t1,t2,t3,t4,t5,splice]
    simp(disch:=first|(simp;done)|omega|rfl) [f1,f6,hr,hf,h7]
    exact⟨m',by omega,⟨f6,kz,k+1,(x+y+c)/1000000000,v',D++[(x+y+c)%1000000000],by omega,by simp,by simp[t2],by simp,by omega,by omega,hz,f5,by simp[hD],dD.app (Di.one (by omega) (by omega)),hfin⟩⟩
   ·have i1:¬(k:Int)<(la.length:Int):=by omega
    have i2:(k:Int)<(lb.length:Int):=by omega
    simp[A.lb155_0,hr,hf,h7,h6,h5,lu,lv,g1,g2,i1,i2,e1,e2,t1,t2,t3,t4,t5,splice]
    simp(disch:=first|(simp;done)|omega|rfl) [f1,f6,hr,hf,h7]
    exact⟨m',by omega,⟨f6,kz,k+1,(x+y+c)/1000000000,v',D++[(x+y+c)%1000000000],by omega,by simp,by simp[t2],by simp,by omega,by omega,hz,f5,by simp[hD],dD.app (Di.one (by omega) (by omega)),hfin⟩⟩
   ·have i1:¬(k:Int)<(la.length:Int):=by omega
    have i2:¬(k:Int)<(lb.length:Int):=by omega
    simp[A.lb155_0,hr,hf,h7,h6,h5,lu,lv,g1,g2,g3,i1,i2,e1,e2,t1,t2,t3,t4,t5,splice]
    simp(disch:=first|(simp;done)|omega|rfl) [f1,f6,hr,hf,h7]
    exact⟨m',by omega,⟨f6,kz,k+1,(x+y+c)/1000000000,v',D++[(x+y+c)%1000000000],by omega,by simp,by simp[t2],by simp,by omega,by omega,hz,f5,by simp[hD],dD.app (Di.one (by omega) (by omega)),hfin⟩⟩
  ·obtain⟨g1,g2,g3⟩:¬k<la.length∧¬k<lb.length∧¬0<c:=by omega
   have i1:¬(k:Int)<(la.length:Int):=by omega
   have i2:¬(k:Int)<(lb.length:Int):=by omega
   obtain rfl:c=0:=by omega
   rw[Zl3 (by omega),Zl3 (by omega),Int.mul_zero,Int.add_zero]at hv0
   simp[A.lb155_0,hr,hf,h7,h6,lu,lv,g1,g2,i1,i2,hW,hK]
   exact⟨out,h5,D,ho,dD,hv0,by omega⟩
 ·rintro _ r ⟨H,n1,W⟩ hr ⟨rfl,hW,hK,out,D,h5,ho,dD,hv0,hl⟩
  simp only at hW hK ho
  simp[hr,h5,Ret,hW,hK]
  exact⟨D,ho.sl,dD,hv0,hl⟩
variable {N:Nat} {h:T O}
noncomputable def A.b69:=A.q Tryz.f69
def A.k69:=@A.kk 69 40 [.cell 4 (some 2)] A.b69 (by kernel_rfl) rfl
noncomputable def A.b153:=A.q Tryz.f153
def A.k153:=@A.kk 153 9 [.cell 2 (some 2)] A.b153 (by kernel_rfl) rfl
noncomputable def A.b70:=A.q Tryz.f70
def A.k70:=@A.kk 70 16 [.cell 4 (some 2)] A.b70 (by kernel_rfl) rfl
def Zqd(k:Nat):pI k=((1000000000^k:Nat):Int):=by unfold pI;simp
def Rg.keep{h':T O}{N':Nat}{v:V}{z:Int}(s:Rg h N v z)(k:Keeps h N h' N'):Rg h' N' v z:=by
 obtain⟨u,h1,h2⟩:=s
 exact⟨u,h1,h2.keep k⟩
def nint:∀x∈[V.bool false,V.nilslice],∀k m,x≠.int k m:=by intro x hx k m;simp at hx;rcases hx with rfl|rfl<;>simp
def Ypf{b:Bool}{u:V}(hu:SlF u):∀x∈[V.bool b,u],∀k m,x≠.int k m:=by
 intro x hx k m
 simp at hx
 rcases hx with rfl|rfl
 ·simp
 ·rcases hu with rfl|rfl|⟨_,_,_,_,_,rfl⟩<;>simp
def Zzt(a b:Nat):(ds (a*b)).length≤(ds a).length+(ds b).length:=by
 refine Zf0 ?_
 have h1:=Zip (Zce a)
 have h2:=Zip (Zce b)
 rw[Zbf]at h1 h2
 rw[Zqd]at h1 h2
 rw[Yv2]
 exact Yxm (Int.ofNat_lt.1 h1) (Int.ofNat_lt.1 h2)
def Zwh{v:V}{z:Int}(hs:Rg h N v z)(hl:(ds z.natAbs).length<1099511627776):Fn A.C 153 [v] h N (fun u h' n'=>Rg h' n' u (-z)):=by
 intro w
 obtain⟨u,rfl,hu⟩:=hs
 have o1:=Sl.form hu |>.one
 have o2:=Sl.form hu |>.cells
 unfold V.one at o1
 unfold V.cells at o2
 have kB:=(((Keeps.refl (h:=h) (n:=N)).new (.cells [.bool (decide (z<0)),u] 72 true)).new (.cells [.bool false,.nilslice] 72 true))
 rw[Zaa,A.k153 (by simp)]
 simp[A.b153,o1,o2,splice,Zaj,slc]
 refine Zab (Zb0 (b:=!decide (z<0)) (n:=z.natAbs) (Sl.keep hu kB) (Zce _) (Zbf _) (by omega)) ?_
 rintro v2 h2 n2 k2 hv
 have kle:=k2.le
 have g1:=(k2.get (N+1) (by omega))
 rw[T.get_set,Yuu rfl]at g1
 have kk:=kB.trans k2
 have ez:(if (!decide (z<0))=true then -((z.natAbs:Nat):Int) else ((z.natAbs:Nat):Int))= -z:=by
  by_cases h0:z<0<;>simp[h0]<;>omega
 rw[ez]at hv
 obtain⟨u2,rfl,hu2⟩:=hv
 have p1:=Sl.form hu2 |>.one
 have p2:=Sl.form hu2 |>.cells
 unfold V.one at p1
 unfold V.cells at p2
 simp[g1,p1,p2,splice,Zak,Zaj,slc,Ret]
 exact⟨kk.set (by omega),u2,by simp,Sl.setInt hu2 g1 nint rfl⟩
def Yk2(a b:Int):(if (!(decide (a<0)==decide (b<0)))=true then -((a.natAbs*b.natAbs:Nat):Int) else ((a.natAbs*b.natAbs:Nat):Int))=a*b:=by
 have h0:((a.natAbs*b.natAbs:Nat):Int)=(a.natAbs:Int)*(b.natAbs:Int):=by simp
 rw[h0]
 by_cases h1:a<0<;>by_cases h2:b<0
 ·have ha:(a.natAbs:Int)= -a:=by omega
  have hb:(b.natAbs:Int)= -b:=by omega
  rw[ha,hb];simp[h1,h2,Int.neg_mul,Int.mul_neg]
 ·have ha:(a.natAbs:Int)= -a:=by omega
  have hb:(b.natAbs:Int)=b:=by omega
  rw[ha,hb];simp[h1,h2,Int.neg_mul]
 ·have ha:(a.natAbs:Int)=a:=by omega
  have hb:(b.natAbs:Int)= -b:=by omega
  rw[ha,hb];simp[h1,h2,Int.mul_neg]
 ·have ha:(a.natAbs:Int)=a:=by omega
  have hb:(b.natAbs:Int)=b:=by omega
  rw[ha,hb];simp[h1,h2]
def Zjo{x y:V}{a b:Int}(hx:Rg h N x a)(hy:Rg h N y b)(l1:(ds a.natAbs).length<500000000000)(l2:(ds b.natAbs).length<500000000000):Fn A.C 70 [x,y] h N (fun u h' n'=>Rg h' n' u (a*b)):=by
 intro w
 obtain⟨u,rfl,hu⟩:=hx
 obtain⟨v,rfl,hv⟩:=hy
 have o1:=Sl.form hu |>.one
 have o2:=Sl.form hu |>.cells
 have o3:=Sl.form hv |>.one
 have o4:=Sl.form hv |>.cells
 unfold V.one at o1 o3
 unfold V.cells at o2 o4
 have kB:=((((Keeps.refl (h:=h) (n:=N)).new (.cells [.bool (decide (a<0)),u] 72 true)).new (.cells [.bool (decide (b<0)),v] 72 true)).new (.cells [.bool false,.nilslice] 72 true))
 rw[Zaa,A.k70 (by simp)]
 simp[A.b70,o1,o2,o3,o4,splice,Zaj,slc,Zae]
 generalize hB:((h.set N (.cells [.bool (decide (a<0)),u] 72 true)).set (N+1) (.cells [.bool (decide (b<0)),v] 72 true)).set (N+1+1) (.cells [.bool false,.nilslice] 72 true)=HB at*
 have gr:HB.get (N+1+1)=some (.cells [.bool false,.nilslice] 72 true):=by rw[←hB];simp
 refine Zab (Zt1 (Sl.keep hu kB) (Sl.keep hv kB) (Zce _) (Zce _) (Zbf _) (Zbf _) (by omega)) ?_
 rintro v1 h1 n1 k1 q1
 have hlm:(ds (a.natAbs*b.natAbs)).length<1152921504606846976:=by
  have:=Zzt a.natAbs b.natAbs;omega
 simp[]
 refine Zab (Zb0 (n:=a.natAbs*b.natAbs) q1 (Zce _) (Zbf _) hlm) ?_
 rintro v2 h2 n2 k2 hr2
 have le1:=k1.le
 have le2:=k2.le
 have g1:=(k2.get (N+1+1) (by omega)).trans ((k1.get (N+1+1) (by omega)).trans gr)
 have ez:(if (!(decide (a<0)==decide (b<0)))=true then -((a.natAbs*b.natAbs:Nat):Int) else ((a.natAbs*b.natAbs:Nat):Int))=a*b:=Yk2 a b
 rw[ez]at hr2
 obtain⟨u2,rfl,hu2⟩:=hr2
 have p1:=Sl.form hu2 |>.one
 have p2:=Sl.form hu2 |>.cells
 unfold V.one at p1
 unfold V.cells at p2
 simp[g1,p1,p2,splice,Zak,Zaj,slc,Ret,Zam.chk]
 exact⟨by split<;>simp[oldIds],((kB.trans k1).trans k2).set (by omega),u2,rfl,Sl.setInt hu2 g1 nint rfl⟩
end Go.Mx
