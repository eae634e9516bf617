/-Decimal notations of integers and of fra-/
import Derived.Test.YthekjfgljafnaaaGreatDoorRbA
set_option linter.all false
namespace Go.Mx
open Go
variable {n:Nat}
def dch(n:Nat):UInt8:=UInt8.ofNat (48+n%10)
def Zji(n:Nat):(dch n).toNat=48+n%10:=by
 unfold dch
 simp
 omega
def Zc9(n:Nat):Str:=if h:n=0 then [] else Zc9 (n/10)++[dch n]
termination_by n
decreasing_by omega
def Zbk:Zc9 0=[]:=by unfold Zc9;simp
def Zco(h:n≠0):Zc9 n=Zc9 (n/10)++[dch n]:=by
 conv=>lhs;unfold Zc9
 rw[dif_neg h]
def decN(n:Nat):Str:=if n=0 then [48] else Zc9 n
def Zim(n k:Nat):Str:=List.replicate (k-(Zc9 n).length) 48++Zc9 n
def decI(z:Int):Str:=if z<0 then 45::decN z.natAbs else decN z.natAbs
def Zax(q:Rat):Str:=if q.den=1 then decI q.num else decI q.num++47::decN q.den
def Zse:∀(n:Nat),numV (Zc9 n)=n:=by
 intro n
 induction n using Nat.strongRecOn with
 |_ n ih=>
  by_cases h:n=0
  ·subst h;rw[Zbk];rfl
  ·rw[Zco h,Zhs,ih (n/10) (by omega),Zji]
   omega
def Zcs(n:Nat):numV (decN n)=n:=by
 unfold decN
 split
 ·subst_vars;rfl
 ·exact Zse n
def Ztl{s:Str}{c:UInt8}:Zcd (s++[c])=(Zcd s&&Zk8 c):=by simp[Zcd]
def Yi1(n:Nat):Zk8 (dch n)=true:=by
 unfold Zk8
 rw[Zji]
 simp
 omega
def Yfo:∀(n:Nat),Zcd (Zc9 n)=true:=by
 intro n
 induction n using Nat.strongRecOn with
 |_ n ih=>
  by_cases h:n=0
  ·subst h;rw[Zbk];rfl
  ·rw[Zco h,Ztl,ih (n/10) (by omega),Yi1];rfl
def Zca(n:Nat):Zcd (decN n)=true:=by
 unfold decN
 split
 ·rfl
 ·exact Yfo n
def Za3:∀{k n:Nat},n<10^k↔(Zc9 n).length≤k
 |0,n=>by
  simp only[Yzs,Nat.lt_one_iff,Nat.le_zero,List.length_eq_zero_iff]
  constructor
  ·rintro rfl;exact Zbk
  ·intro h
   have:=Zse n
   rw[h]at this
   exact this.symm
 |k+1,n=>by
  by_cases h:n=0
  ·subst h;rw[Zbk];simp;exact Yzf (by decide)
  ·rw[Zco h,Ywl,Yxx,Ywx]
   have:=Za3 (k:=k) (n:=n/10)
   rw[Nat.succ_le_succ_iff,←this]
   exact(Ywz (by decide)).symm
def Zku:∀{n:Nat},n≠0→∃c t,Zc9 n=c::t∧c.toNat≠48:=by
 intro n
 induction n using Nat.strongRecOn with
 |_ n ih=>
  intro h
  rw[Zco h]
  by_cases h0:n/10=0
  ·rw[h0,Zbk]
   refine⟨dch n,[],rfl,?_⟩
   rw[Zji];omega
  ·obtain⟨c,t,e,hc⟩:=ih (n/10) (by omega) h0
   rw[e]
   exact⟨c,t++[dch n],rfl,hc⟩
def Zjh(n:Nat):decN n≠[]:=by
 unfold decN
 split
 ·simp
 ·rename_i h
  obtain⟨c,t,e,_⟩:=Zku h
  rw[e];simp
def Zpv(n:Nat):Zc3 (decN n)=true:=by
 have ha:=Zca n
 by_cases h:n=0
 ·subst h;rfl
 ·obtain⟨c,t,e,hc⟩:=Zku h
  have e2:decN n=c::t:=by unfold decN;rw[Yv4 h,e]
  rw[e2]at ha ⊢
  show (Zcd (c::t)&&(decide (c.toNat≠48)||decide (t=[])))=true
  rw[ha,decide_eq_true hc];rfl
def Ykw{c:UInt8}(h:Zk8 c=true){k:Nat}:dch (10*k+(c.toNat-48))=c:=by
 unfold Zk8 at h
 simp only[decide_eq_true_eq]at h
 apply UInt8.toNat_inj.1
 rw[Zji];omega
def Ye3:∀(t:Str) (c:UInt8),Zcd (c::t)=true→c.toNat≠48→Zc9 (numV (c::t))=c::t:=by
 intro t
 generalize hn:t.length=n
 induction n generalizing t with
 |zero=>
  intro c ha hc
  have:t=[]:=Yws hn
  subst this
  have hd:Zk8 c=true:=by simpa[Zcd]using ha
  have:=Ykw hd (k:=0)
  have h2:48≤c.toNat∧c.toNat≤57:=by simpa[Zk8]using hd
  have e:numV [c]=c.toNat-48:=by simp[numV]
  rw[e,Zco (by omega),show (c.toNat-48)/10=0 by omega,Zbk]
  simp only[Nat.mul_zero,Yyt]at this
  rw[this];rfl
 |succ n ih=>
  intro c ha hc
  obtain⟨u,d,rfl⟩:∃u d,t=u++[d]:=⟨t.dropLast,t.getLast (by rintro rfl;simp at hn),(Yzj _).symm⟩
  simp at hn
  have ha':Zcd (c::u)=true∧Zk8 d=true:=by
   rw[←Yy4,Ztl,Ywo]at ha
   exact ha
  have ih':=ih u (by omega) c ha'.1 hc
  have h2:48≤d.toNat∧d.toNat≤57:=by simpa[Zk8]using ha'.2
  rw[←Yy4,Zhs]
  have hpos:numV (c::u)≠0:=by
   intro h0
   rw[h0,Zbk]at ih'
   cases ih'
  rw[Zco (by omega),show (10*numV (c::u)+(d.toNat-48))/10=numV (c::u) by omega,ih',Ykw ha'.2]
def Zc8{s:Str}(h:Zc3 s=true):decN (numV s)=s:=by
 cases s with
 |nil=>cases h
 |cons c t=>
  have h:(Zcd (c::t)&&(decide (c.toNat≠48)||decide (t=[])))=true:=h
  rw[Ywo,Yzl,decide_eq_true_eq,decide_eq_true_eq]at h
  obtain⟨ha,hc⟩:=h
  by_cases h48:c.toNat=48
  ·rcases hc with hc|hc
   ·exact absurd h48 hc
   ·subst hc
    have:c=48:=UInt8.toNat_inj.1 h48
    subst this;rfl
  ·have e:=Ye3 t c ha h48
   have:numV (c::t)≠0:=by
    intro h0
    rw[h0,Zbk]at e
    cases e
   unfold decN
   rw[Yv4 this,e]
def Zkt{a b:Nat}(h:decN a=decN b):a=b:=by rw[←Zcs a,h,Zcs]
def Zp3:∀{k a b:Nat},a≠0→b<10^k→Zc9 (a*10^k+b)=Zc9 a++Zim b k:=by
 intro k
 induction k with
 |zero=>
  intro a b ha hb
  have:b=0:=by simpa using hb
  subst this
  simp[Zim,Zbk]
 |succ k ih=>
  intro a b ha hb
  rw[Ywx]at hb ⊢
  have hb2:b/10<10^k:=(Ywz (by decide)).2 hb
  have hp:0<10^k:=Yzf (by decide)
  have hpos:a*(10^k*10)+b≠0:=by
   have:=Yzg (Nat.pos_of_ne_zero ha) (Yzg hp (by decide:0<10));omega
  have e1:(a*(10^k*10)+b)/10=a*10^k+b/10:=by
   rw[←Yzn,Yw4 _ 10,Nat.mul_add_div (by decide)]
  have e2:dch (a*(10^k*10)+b)=dch b:=by
   apply UInt8.toNat_inj.1
   rw[Zji,Zji,←Yzn,Yw4 _ 10,Nat.mul_add_mod]
  rw[Zco hpos,e1,ih ha hb2,e2,Yxf]
  congr 1
  by_cases hb0:b=0
  ·subst hb0
   unfold Zim
   rw[Nat.zero_div,Zbk]
   simp only[List.length_nil,Nat.sub_zero,Yyb]
   rw[List.replicate_succ']
   rfl
  ·unfold Zim
   rw[Zco hb0,Ywl,Yxx,←Yxf]
   rw[show k+1-((Zc9 (b/10)).length+1)=k-(Zc9 (b/10)).length by omega]
def Yi5{b k:Nat}(h:b<10^k):(Zim b k).length=k:=by
 have:=Za3.1 h
 simp[Zim];omega
def Zks(b:Nat):Zim b 1=decN b:=by
 unfold Zim decN
 split
 ·subst_vars;rw[Zbk];rfl
 ·rename_i h
  obtain⟨c,t,e,_⟩:=Zku h
  rw[e]
  simp
def Ztd(h:n≠0):0<(Zc9 n).length:=by
 obtain⟨c,t,e,_⟩:=Zku h
 rw[e];simp
def Zb4{k:Nat}(hk:0<k):(decN n).length≤k↔n<10^k:=by
 unfold decN
 split
 ·subst_vars
  simp
  exact⟨fun _=>Yzf (by decide),fun _=>hk⟩
 ·exact Za3.symm
def Zp2{n:Nat}:∃c t,decN n=c::t∧48≤c.toNat∧c.toNat≤57:=by
 have h:=Zca n
 cases hs:decN n with
 |nil=>exact absurd hs (Zjh n)
 |cons c t=>
  rw[hs]at h
  have:Zk8 c=true:=by
   simp[Zcd]at h;exact h.1
  exact⟨c,t,rfl,by simpa[Zk8]using this⟩
variable {s:Str}
def Zgp:∀{s t:Str},(∀c∈s,c.toNat≠47)→slashAt (s++47::t)=s.length
 |[],t,_=>rfl
 |c::s,t,h=>by
  have h1:=h c Yw6
  have:=Zgp (s:=s) (t:=t) fun d hd=>h d (Yw2 _ hd)
  simp[slashAt,h1,this]
def Zfp:∀{s:Str},(∀c∈s,c.toNat≠47)→slashAt s=s.length
 |[],_=>rfl
 |c::s,h=>by
  have h1:=h c Yw6
  have:=Zfp (s:=s) fun d hd=>h d (Yw2 _ hd)
  simp[slashAt,h1,this]
def Zm6:∀{s:Str},slashAt s<s.length→s.drop (slashAt s)=47::s.drop (slashAt s+1)
 |[],h=>by simp[slashAt]at h
 |c::s,h=>by
  by_cases hc:c.toNat=47
  ·have:c=47:=UInt8.toNat_inj.1 hc
   subst this
   simp[slashAt]
  ·simp only[slashAt,hc,if_false,Yv8]at h ⊢
   have:=Zm6 (s:=s) (by omega)
   simpa using this
def Zlp(h:Zcd s=true):∀c∈s,c.toNat≠47:=by
 intro c hc
 unfold Zcd at h
 rw[Yw1]at h
 have:=h c hc
 unfold Zk8 at this
 simp only[decide_eq_true_eq]at this
 omega
def Ye1(z:Int):∀c∈decI z,c.toNat≠47:=by
 unfold decI
 split
 ·intro c hc
  rcases Yxa.1 hc with rfl|hc
  ·decide
  ·exact Zlp (Zca _) c hc
 ·exact Zlp (Zca _)
def Ycz(n:Nat):negS (decN n)=false:=by
 obtain⟨c,t,e,h1,h2⟩:=Zp2 (n:=n)
 rw[e]
 simp[negS];omega
def Zf8(z:Int):negS (decI z)=decide (z<0):=by
 unfold decI
 split
 ·rename_i h;simp[negS,h]
 ·rename_i h;rw[Ycz];simp[h]
def Zfc(z:Int):Zaq (decI z)=decN z.natAbs:=by
 unfold Zaq
 rw[Zf8]
 by_cases h:z<0
 ·simp[h,decI]
 ·simp[h,decI]
def Zd9(q:Rat):slashAt (Zax q)=(decI q.num).length:=by
 unfold Zax
 split
 ·exact Zfp (Ye1 _)
 ·exact Zgp (Ye1 _)
def Zjx(q:Rat):(Zax q).take (slashAt (Zax q))=decI q.num:=by
 rw[Zd9]
 unfold Zax
 split
 ·simp
 ·simp
def Zjz(q:Rat)(h:q.den≠1):(Zax q).drop (slashAt (Zax q)+1)=decN q.den:=by
 rw[Zd9]
 unfold Zax
 rw[Yv4 h,←List.drop_drop]
 simp
def Zjy(q:Rat):slashAt (Zax q)<(Zax q).length↔q.den≠1:=by
 rw[Zd9]
 unfold Zax
 split
 ·rename_i h;simp[h]
 ·rename_i h;simp[h]
def Yi7{a b:Int}(h:decI a=decI b):a=b:=by
 have h1:=congrArg negS h
 have h2:=congrArg Zaq h
 rw[Zf8,Zf8,decide_eq_decide]at h1
 rw[Zfc,Zfc]at h2
 have h3:=Zkt h2
 omega
def Yf9{a b:Rat}(h:Zax a=Zax b):a=b:=by
 have h1:=Zjx a
 rw[h,Zjx b]at h1
 have h2:=Yi7 h1
 have h3:a.den=b.den:=by
  by_cases ha:a.den=1
  ·have:=mt (Zjy a).1 (fun hc=>hc ha)
   rw[h]at this
   rw[Zjy]at this
   rw[ha];exact(Decidable.not_not.1 this).symm
  ·have:=(Zjy a).2 ha
   rw[h]at this
   have hb:=(Zjy b).1 this
   have e:=Zjz a ha
   rw[h,Zjz b hb]at e
   exact(Zkt e).symm
 exact Rat.ext h2.symm h3
def Zo0(s:Str):Rat:=mkRat (if negS s then -(numV ((Zaq s).take (slashAt (Zaq s))):Int) else numV ((Zaq s).take (slashAt (Zaq s)))) (if slashAt (Zaq s)<(Zaq s).length then numV ((Zaq s).drop (slashAt (Zaq s)+1)) else 1)
def Yjc(h:chkNum s=0):Zch (negS s) ((Zaq s).take (slashAt (Zaq s))) (decide (slashAt (Zaq s)<(Zaq s).length)) ((Zaq s).drop (slashAt (Zaq s)+1))=true∧((Zaq s).take (slashAt (Zaq s))).length≤600∧((Zaq s).drop (slashAt (Zaq s)+1)).length≤600∧(slashAt (Zaq s)<(Zaq s).length→Nat.gcd (numV ((Zaq s).take (slashAt (Zaq s)))) (numV ((Zaq s).drop (slashAt (Zaq s)+1)))=1):=by
 unfold chkNum Yox Zkz at h
 split at h
 ·cases h
 ·rename_i h1
  split at h
  ·cases h
  ·rename_i h2
   split at h
   ·cases h
   ·rename_i h3
    refine⟨by simpa using h1,by omega,by omega,fun hs=>?_⟩
    rw[decide_eq_true hs]at h3
    simpa using h3
def Zsm{n:Int}{d:Nat}(hd:d≠0)(h:Nat.gcd n.natAbs d=1):(mkRat n d).num=n∧(mkRat n d).den=d:=by
 have:mkRat n d=⟨n,d,hd,h⟩:=by
  rw[Rat.mkRat_def,dif_neg hd]
  exact Rat.normalize_eq_mk' _ _ hd h
 rw[this]
 exact⟨rfl,rfl⟩
def Yan(s:Str):s=(if negS s then [45] else [])++Zaq s:=by
 cases s with
 |nil=>rfl
 |cons c t=>
  unfold Zaq
  by_cases hc:c.toNat=45
  ·have:c=45:=UInt8.toNat_inj.1 hc
   subst this
   simp[negS]
  ·simp[negS,hc]
def Zoh(h:chkNum s=0):Zax (Zo0 s)=s∧(decN (Zo0 s).num.natAbs).length≤600∧(decN (Zo0 s).den).length≤600:=by
 obtain⟨h1,h2,h3,h4⟩:=Yjc h
 have hle:=Zdm (Zaq s)
 unfold Zch at h1
 simp only[Ywo,Yzi,Yzl,decide_eq_true_eq]at h1
 obtain⟨⟨hp,hz⟩,hd⟩:=h1
 have hpz:negS s=true→numV ((Zaq s).take (slashAt (Zaq s)))≠0:=by
  intro hn h0
  rw[hn,Bool.true_and,decide_eq_false_iff_not]at hz
  apply hz
  have:=Zc8 hp
  rw[h0]at this
  exact this.symm
 have hpl:(decN (numV ((Zaq s).take (slashAt (Zaq s))))).length≤600:=by
  rw[Zc8 hp];exact h2
 have hb:=Yan s
 by_cases hs:slashAt (Zaq s)<(Zaq s).length
 ·have hd:Zc3 ((Zaq s).drop (slashAt (Zaq s)+1))=true∧(Zaq s).drop (slashAt (Zaq s)+1)≠[48]∧(Zaq s).drop (slashAt (Zaq s)+1)≠[49]:=by
   rcases hd with hd|⟨⟨a,b⟩,c⟩
   ·exact absurd hs (by simpa using hd)
   ·exact⟨a,b,c⟩
  have hg:=h4 hs
  have hd0:numV ((Zaq s).drop (slashAt (Zaq s)+1))≠0:=by
   intro h0
   have:=Zc8 hd.1
   rw[h0]at this
   exact hd.2.1 this.symm
  have hd1:numV ((Zaq s).drop (slashAt (Zaq s)+1))≠1:=by
   intro h0
   have:=Zc8 hd.1
   rw[h0]at this
   exact hd.2.2 (this.symm.trans (by decide+kernel))
  have hdl:(decN (numV ((Zaq s).drop (slashAt (Zaq s)+1)))).length≤600:=by
   rw[Zc8 hd.1];exact h3
  have hv:Zo0 s=mkRat (if negS s then -(numV ((Zaq s).take (slashAt (Zaq s))):Int) else numV ((Zaq s).take (slashAt (Zaq s)))) (numV ((Zaq s).drop (slashAt (Zaq s)+1))):=by
   unfold Zo0;rw[Yv6 hs]
  obtain⟨e1,e2⟩:=Zsm (n:=if negS s then -(numV ((Zaq s).take (slashAt (Zaq s))):Int) else numV ((Zaq s).take (slashAt (Zaq s)))) hd0 (by split<;>simpa using hg)
  rw[←hv]at e1 e2
  have hbody:Zaq s=(Zaq s).take (slashAt (Zaq s))++47::(Zaq s).drop (slashAt (Zaq s)+1):=by
   conv=>lhs;rw[←Yx2 (slashAt (Zaq s)) (Zaq s)]
   rw[Zm6 hs]
  refine⟨?_,?_,by rw[e2];exact hdl⟩
  ·unfold Zax
   rw[e2,Yv4 hd1,Zc8 hd.1,e1]
   conv=>rhs;rw[hb,hbody]
   unfold decI
   cases hn:negS s with
   |false=>
    simp only[Ywi,if_false]
    rw[Yv4 (by omega),Ywc,Zc8 hp];rfl
   |true=>
    have:=hpz hn
    simp only[if_true]
    rw[Yv6 (by omega),Yyz,Ywc,Zc8 hp];rfl
  ·rw[e1]
   split<;>simpa using hpl
 ·have hv:Zo0 s=mkRat (if negS s then -(numV ((Zaq s).take (slashAt (Zaq s))):Int) else numV ((Zaq s).take (slashAt (Zaq s)))) 1:=by
   unfold Zo0;rw[Yv4 hs]
  obtain⟨e1,e2⟩:=Zsm (n:=if negS s then -(numV ((Zaq s).take (slashAt (Zaq s))):Int) else numV ((Zaq s).take (slashAt (Zaq s)))) (show (1:Nat)≠0 by decide) (Nat.gcd_one_right _)
  rw[←hv]at e1 e2
  have ht:(Zaq s).take (slashAt (Zaq s))=Zaq s:=Ywe (by omega)
  rw[ht]at e1 hp hpz hpl
  refine⟨?_,?_,by rw[e2];decide+kernel⟩
  ·unfold Zax
   rw[e2,Yv6 rfl,e1]
   conv=>rhs;rw[hb]
   unfold decI
   cases hn:negS s with
   |false=>
    simp only[Ywi,if_false]
    rw[Yv4 (by omega),Ywc,Zc8 hp];rfl
   |true=>
    have:=hpz hn
    simp only[if_true]
    rw[Yv6 (by omega),Yyz,Ywc,Zc8 hp];rfl
  ·rw[e1]
   split<;>simpa using hpl
def Zoq(q:Rat):Zaq (Zax q)=if q.den=1 then decN q.num.natAbs else decN q.num.natAbs++47::decN q.den:=by
 have hneg:∀t:Str,negS (decI q.num++t)=decide (q.num<0):=by
  intro t
  rw[←Zf8]
  have:decI q.num≠[]:=by
   unfold decI;split
   ·simp
   ·exact Zjh _
  cases h:decI q.num with
  |nil=>exact absurd h this
  |cons c u=>rfl
 have hb:∀t:Str,Zaq (decI q.num++t)=decN q.num.natAbs++t:=by
  intro t
  unfold Zaq
  rw[hneg]
  by_cases h:q.num<0
  ·simp[h,decI]
  ·simp[h,decI]
 unfold Zax
 split
 ·have:=hb [];simpa using this
 ·exact hb _
def Zwy(q:Rat):negS (Zax q)=decide (q.num<0):=by
 have hneg:∀t:Str,negS (decI q.num++t)=decide (q.num<0):=by
  intro t
  rw[←Zf8]
  have:decI q.num≠[]:=by
   unfold decI;split
   ·simp
   ·exact Zjh _
  cases h:decI q.num with
  |nil=>exact absurd h this
  |cons c u=>rfl
 unfold Zax
 split
 ·have:=hneg [];simpa using this
 ·exact hneg _
def Zrr(q:Rat):(Zaq (Zax q)).take (slashAt (Zaq (Zax q)))=decN q.num.natAbs∧(slashAt (Zaq (Zax q))<(Zaq (Zax q)).length↔q.den≠1)∧(Zaq (Zax q)).drop (slashAt (Zaq (Zax q))+1)=if q.den=1 then [] else decN q.den:=by
 rw[Zoq]
 by_cases h:q.den=1
 ·simp only[h,if_true]
  rw[Zfp (Zlp (Zca _))]
  simp
 ·simp only[h,if_false]
  rw[Zgp (Zlp (Zca _))]
  simp[h]
def Yav(q:Rat):Bool:=decide (600<(decN q.num.natAbs).length∨600<(decN q.den).length)
def Ykv:decN 0=[48]:=rfl
def Ztb:decN 1=[49]:=by decide+kernel
def Yak(q:Rat):chkNum (Zax q)=if Yav q then 4 else 0:=by
 obtain⟨h1,h2,h3⟩:=Zrr q
 have hf:Zch (negS (Zax q)) (decN q.num.natAbs) (decide (q.den≠1)) (if q.den=1 then [] else decN q.den)=true:=by
  unfold Zch
  rw[Zpv,Zwy]
  have hz:(decide (q.num<0)&&decide (decN q.num.natAbs=[48]))=false:=by
   by_cases hn:q.num<0
   ·have:decN q.num.natAbs≠[48]:=by
     intro h
     have:=Zkt (h.trans Ykv.symm)
     omega
    simp[this]
   ·simp[hn]
  rw[hz]
  by_cases hd:q.den=1
  ·simp[hd]
  ·have a1:decN q.den≠[48]:=fun h=>q.den_nz (Zkt (h.trans Ykv.symm))
   have a2:decN q.den≠[49]:=fun h=>hd (Zkt (h.trans Ztb.symm))
   simp[hd,Zpv,a1,a2]
 have hb:(decide (slashAt (Zaq (Zax q))<(Zaq (Zax q)).length))=decide (q.den≠1):=decide_eq_decide.2 h2
 unfold chkNum Yox
 rw[h1,h3,hb]
 unfold Zkz
 rw[hf]
 have hg:¬(decide (q.den≠1)=true∧Nat.gcd (numV (decN q.num.natAbs)) (numV (if q.den=1 then [] else decN q.den))≠1):=by
  rintro⟨a,b⟩
  have a:q.den≠1:=by simpa using a
  rw[Yv4 a,Zcs,Zcs]at b
  exact b q.reduced
 rw[Yv4 (by simp),Yv4 hg]
 unfold Yav
 by_cases hd:q.den=1
 ·rw[hd,Ztb]
  simp
 ·simp[hd]
def Yg4(q:Rat):Zo0 (Zax q)=q:=by
 obtain⟨h1,h2,h3⟩:=Zrr q
 unfold Zo0
 rw[h1,h3,Zwy,Zcs]
 have hn:(if decide (q.num<0)=true then -(q.num.natAbs:Int) else (q.num.natAbs:Int))=q.num:=by
  by_cases h:q.num<0
  ·rw[Yv6 (by simpa using h)];omega
  ·rw[Yv4 (by simpa using h)];omega
 rw[hn]
 by_cases hd:q.den=1
 ·rw[Yv4 (fun h=>(h2.1 h) hd)]
  have:=Rat.mkRat_self q
  rw[hd]at this
  exact this
 ·rw[Yv6 (h2.2 hd),Yv4 hd,Zcs]
  exact Rat.mkRat_self q
variable {i j k n:Nat}
def Zxn:∀{i n:Nat},i<(ds n).length→(ds n)[i]?=some ((n/1000000000^i%1000000000:Nat):Int)
 |i,n,h=>by
  by_cases hn:n=0
  ·rw[hn,Zcv]at h;simp at h
  ·rw[Zh0 hn]at h ⊢
   cases i with
   |zero=>simp
   |succ i=>
    rw[Yyh,Zxn (by simpa using h),Yy0,Ywx,Yw4]
def Ykt(h:i<(ds n).length):n/1000000000^i≠0:=by
 intro hc
 have h1:n<1000000000^i:=(Nat.div_eq_zero_iff_lt (Yzf (by decide))).1 hc
 have:=Zgb h1
 omega
def Yez(h:i+1<(ds n).length):decN (n/1000000000^i)=decN (n/1000000000^(i+1))++Zim (n/1000000000^i%1000000000) 9:=by
 have h0:=Ykt (i:=i) (n:=n) (by omega)
 have h1:=Ykt (i:=i+1) (n:=n) h
 have e:n/1000000000^(i+1)=n/1000000000^i/1000000000:=by rw[Ywx,Yy0]
 rw[e]at h1 ⊢
 generalize n/1000000000^i=x at*
 unfold decN
 rw[Yv4 h0,Yv4 h1]
 have:=Zp3 (k:=9) (a:=x/1000000000) (b:=x%1000000000) h1 (by omega)
 rw[show (10:Nat)^9=1000000000 by decide]at this
 rw[←this]
 congr 1
 omega
def Yi6(h:i+1=(ds n).length):decN (n/1000000000^i)=Zim (n/1000000000^i%1000000000) 1:=by
 have h1:n<1000000000^(i+1):=by
  have h2:=Zi0 (Zcm n)
  rw[Zbf,←h]at h2
  unfold pI at h2
  have h3:(1000000000:Int)^(i+1)=((1000000000^(i+1):Nat):Int):=by rw[Int.natCast_pow];rfl
  rw[h3]at h2
  exact Int.ofNat_lt.1 h2
 rw[Ywx]at h1
 have h3:n/1000000000^i<1000000000:=Nat.div_lt_of_lt_mul h1
 rw[Yx5 h3,Zks]
def Qb(k:Nat)(q:Rat):Prop:=q.num.natAbs<2^k∧q.den<2^k
def Znk(h:j≤k):2^j≤2^k:=Yw3 (by decide) h
def Qb.mono{q:Rat}(h:Qb j q)(hk:j≤k):Qb k q:=⟨Ywf h.1 (Znk hk),Ywf h.2 (Znk hk)⟩
def Zh1{a b:Int}(hb:b≠0)(h1:a.natAbs<2^k)(h2:b.natAbs<2^k):Qb k (Rat.divInt a b):=by
 constructor
 ·rw[Rat.num_divInt]
  refine Yww ?_ h1
  rw[Int.natAbs_ediv_of_dvd]
  ·rw[Yx3]
   have:b.sign.natAbs=1:=by rw[Int.natAbs_sign,Yv4 hb]
   rw[this,Nat.one_mul]
   exact Yxz _ _
  ·exact Int.dvd_trans (Int.gcd_dvd_right ..) (Int.dvd_mul_left ..)
 ·rw[Rat.den_divInt,Yv4 hb]
  exact Yww (Yxz _ _) h2
def Qb.mul{p q:Rat}(hp:Qb j p)(hq:Qb k q):Qb (j+k) (p*q):=by
 have hp0:((p.den:Nat):Int)≠0:=by have:=p.den_nz;omega
 have hq0:((q.den:Nat):Int)≠0:=by have:=q.den_nz;omega
 rw[←Yx7 p,←Yx7 q,Rat.divInt_mul_divInt]
 refine Zh1 (Yzv hp0 hq0) ?_ ?_
 ·rw[Yx3,Yxe]
  exact Yyx hp.1 hq.1
 ·rw[Yx3,Yxe,Ywc,Ywc]
  exact Yyx hp.2 hq.2
def Qb.add{p q:Rat}(hp:Qb j p)(hq:Qb k q):Qb (j+k+1) (p+q):=by
 have hp0:((p.den:Nat):Int)≠0:=by have:=p.den_nz;omega
 have hq0:((q.den:Nat):Int)≠0:=by have:=q.den_nz;omega
 rw[←Yx7 p,←Yx7 q,Rat.divInt_add_divInt _ _ hp0 hq0]
 have e:2^(j+k+1)=2^j*2^k+2^k*2^j:=by rw[Ywx,Yxe,Yw4 (2^k)];omega
 refine Zh1 (Yzv hp0 hq0) ?_ ?_
 ·refine Yww (Int.natAbs_add_le ..) ?_
  rw[Yx3,Yx3,Ywc,Ywc,e]
  exact Nat.add_lt_add (Yyx hp.1 hq.2) (Yyx hq.1 hp.2)
 ·rw[Yx3,Ywc,Ywc,e]
  exact Ywf (Yyx hp.2 hq.2) (Nat.le_add_right _ _)
def Qb.int{z:Int}(h:z.natAbs<2^k)(hk:0<k):Qb k (z:Rat):=by
 refine⟨by simpa using h,?_⟩
 rw[Rat.den_intCast]
 exact Ywf (by decide) (Znk (j:=1) hk)
def Zkr(h:n<2^k):(ds n).length≤k:=Zgb (Ywf h (Yy9 (by decide) k))
def Zoe(h:n<2^k):(Zc9 n).length≤k:=Za3.1 (Ywf h (Yy9 (by decide) k))
def Zln(h:n<2^k):(decN n).length≤k+1:=by
 have:=Zoe h
 unfold decN
 split<;>simp<;>omega
def Zod{z:Int}(h:z.natAbs<2^k):(decI z).length≤k+2:=by
 have:=Zln h
 unfold decI
 split<;>simp<;>omega
def Yj6(k:Nat):10^k≤2^(4*k):=by
 rw[Nat.pow_mul];exact Yy9 (by decide) k
def Yrt{s:Str}(h:chkNum s=0)(hn:s.length≤n):Qb (4*n+4) (Zo0 s):=by
 obtain⟨e,_,_⟩:=Zoh h
 have hb:=Zoq (Zo0 s)
 have l1:(Zaq (Zax (Zo0 s))).length≤n:=by
  rw[e];unfold Zaq;split
  ·simp;omega
  ·exact hn
 rw[hb]at l1
 have g:∀m:Nat,(decN m).length≤n+1→m<2^(4*n+4):=fun m hm=>by
  have:=(Zb4 (n:=m) (k:=n+1) (by omega)).1 hm
  exact Ywf this (by have:=Yj6 (n+1);rw[Yyg]at this;exact this)
 split at l1
 ·rename_i h1
  have h2:(decN 1).length=1:=by rw[Ztb];rfl
  exact⟨g _ (by omega),by rw[h1];exact g 1 (by omega)⟩
 ·simp at l1
  exact⟨g _ (by omega),g _ (by omega)⟩
open Go Go.Proofs
set_option maxRecDepth 1000000
noncomputable def A.b199:=A.q Tryz.f199
def A.k199:=@A.kk 199 13 [.tmp 4] A.b199 (by kernel_rfl) rfl
noncomputable def A.w145:=A.q Tryz.f145
noncomputable def A.lb145_0:=A.ql A.w145 0 []
noncomputable def A.b145:=(fun x0=>A.qb A.w145 [x0]) A.lb145_0
def A.k145:=@A.kk 145 42 [.tmp 4] A.b145 (by kernel_rfl) rfl
noncomputable def A.w147:=A.q Tryz.f147
noncomputable def A.lb147_0:=A.ql A.w147 0 []
noncomputable def A.b147:=(fun x0=>A.qb A.w147 [x0]) A.lb147_0
def A.k147:=@A.kk 147 35 [.tmp 4] A.b147 (by kernel_rfl) rfl
def Zq6{h:T O}{N:Nat}{v:V}{l:List Int}{i:Nat}{w:List Nat}(hs:Sl h N v (dI l))(hi:i<4611686018427387904)(hl:l.length<4611686018427387904):A.C.call (.func 199 [] []) [v,.int .i64 i] ⟨h,N,w⟩=some (.int .i64 (zI l i),⟨h,N,w⟩):=by
 apply Call.eq
 have hlen:=hs.len
 rw[Zat]at hlen
 rw[Zab,A.k199 (by simp)]
 by_cases hc:i<l.length
 ·have hc1:(i:Int)<(l.length:Int):=by omega
  obtain⟨d,hd⟩:=Zae hc
  obtain⟨j,o,c,e,rw,q1,q2,q3,q4⟩:=hs.at (Zbg hd)
  simp[A.b199,hlen,hc,hc1,q1,q3,q4,Yk9 hd]
 ·have hc1:¬(i:Int)<(l.length:Int):=by omega
  simp[A.b199,hlen,hc,hc1,Zts (Yyc hc)]
structure AdI (h:T O) (N:Nat) (la lb:List Int) (m:Nat) (r:T V) (st:St):Prop where
 w:Zaa N st.w=[]
 keep:Keeps h N st.h st.n
 ex:∃k c out D,k+m=max la.length lb.length+1∧r.get 7=some (.int .i64 k)∧r.get 6=some (.int .i64 c)∧r.get 5=some out∧0≤c∧c≤1∧(m=0→c=0)∧Own 1 3 N st.h st.n out (Zfs D)∧D.length=k∧Di D∧vI D+pI k*c=vI (la.take k)+vI (lb.take k)
def Zme{l:List Int}{k:Nat}(h:l.length≤k):l.take k=l:=Ywe h
def Ymc{h:T O}{N:Nat}{u v:V}{la lb:List Int}(hu:Sl h N u (dI la))(hv:Sl h N v (dI lb))(da:Di la)(db:Di lb)(l1:la.length<1099511627776)(l2:lb.length<1099511627776):Fn A.C 145 [u,v] h N (fun x h' n'=>∃l,Sl h' n' x (dI l)∧Di l∧vI l=vI la+vI lb∧l.length≤max la.length lb.length+1):=by
 intro w
 have lu:=hu.len
 have lv:=hv.len
 rw[Zat]at lu lv
 rw[Zab,A.k145 (by simp)]
 simp[A.b145]
 refine Zai [(5,40)] (fun e r st=>e=.exit 0∧Zaa N st.w=[]∧Keeps h N st.h st.n∧∃out D,r.get 5=some out∧Own 1 3 N st.h st.n out (Zfs D)∧Di D∧vI D=vI la+vI lb∧D.length≤max la.length lb.length+1) (AdI h N la lb) (max la.length lb.length+1) ?_ ?_ ?_
 ·exact⟨by simp,Keeps.refl,0,0,.nilslice,[],by omega,by simp,by simp,by simp,by omega,by omega,fun _=>rfl,Own.nil,rfl,Di.nil,by simp[vI]⟩
 ·rintro m r ⟨H,n1,W⟩ hr hf ⟨hW,hK,k,c,out,D,hk,h7,h6,h5,c0,c1,cz,ho,hD,dD,hv0⟩
  simp only at hW hK ho
  rw[Zah]
  by_cases hgo:k<la.length∨k<lb.length∨0<c
  ·obtain⟨m',rfl⟩:∃m',m=m'+1:=⟨m-1,by
    have:m≠0:=fun hm=>by have:=cz hm;omega
    omega⟩
   have dx:=Yla da k
   have dy:=Yla db k
   have e1:=fun w=>Zq6 (w:=w) (i:=k) (hu.keep hK) (by omega) (by omega)
   have e2:=fun w=>Zq6 (w:=w) (i:=k) (hv.keep hK) (by omega) (by omega)
   obtain⟨x,hx⟩:∃x,zI la k=x:=⟨_,rfl⟩
   obtain⟨y,hy⟩:∃y,zI lb k=y:=⟨_,rfl⟩
   rw[hx]at dx e1
   rw[hy]at dy e2
   have t1:(x+y+c).tmod 1000000000=(x+y+c)%1000000000:=Yx6 (by omega)
   have t2:(x+y+c).tdiv 1000000000=(x+y+c)/1000000000:=Yxr (by omega)
   have t3:Zar .i64 (x+y)=x+y:=Zaj (by omega) (by omega)
   have t4:Zar .i64 (x+y+c)=x+y+c:=Zaj (by omega) (by omega)
   have t5:Zar .i64 ((x+y+c)/1000000000)=(x+y+c)/1000000000:=Zaj (by omega) (by omega)
   have hfin:vI (D++[(x+y+c)%1000000000])+pI (k+1)*((x+y+c)/1000000000)=vI (la.take (k+1))+vI (lb.take (k+1)):=by
    rw[Zgk,hD,Zmz,Zmz,hx,hy,Zdc]
    have hm:=Yyu (x+y+c) 1000000000
    generalize (x+y+c)/1000000000=Q at*
    generalize (x+y+c)%1000000000=R at*
    have:R=x+y+c-1000000000*Q:=by omega
    subst this
    grind
   have hz:m'=0→(x+y+c)/1000000000=0:=fun hm=>by
    have:x=0:=by rw[←hx];exact Zts (by omega)
    have:y=0:=by rw[←hy];exact Zts (by omega)
    omega
   have ho2:=ho.keep (Keeps.refl.new (.cells [.int .i64 ((x+y+c)%1000000000)] 3 true))
   obtain⟨v',h',w',f1,f2,f3,_,f5⟩:=Zbs (x:=[.int .i64 ((x+y+c)%1000000000)]) (u:=.slice n1 0 1 (some 1) 1) (bytes:=8) (w:=W) ho2 (by have:=hK.le;omega) (by decide) rfl (by simp[Zaz,St.row,slc]) (by simp[Zfs];omega)
   rw[←Zdn]at f5
   have f6:Zaa N w'=[]:=by rw[f2];exact hW
   have kz:=(hK.new (.cells [.int .i64 ((x+y+c)%1000000000)] 3 true)).then f3
   have hgo':k<la.length∨(¬k<la.length∧k<lb.length)∨(¬k<la.length∧¬k<lb.length∧0<c):=by omega
   rcases hgo' with g1|⟨g1,g2⟩|⟨g1,g2,g3⟩
   ·have i1:(k:Int)<(la.length:Int):=by omega
    simp[A.lb145_0,hr,hf,h7,h6,h5,lu,lv,g1,i1,e1,e2,t1,t2,t3,t4,t5,splice]
    simp(disch:=first|(simp;done)|omega|rfl) [f1,f6,hr,hf,h7]
    exact⟨m',by omega,⟨f6,kz,k+1,(x+y+c)/1000000000,v',D++[(x+y+c)%1000000000],by omega,by simp,by simp[t2],by simp,by omega,by omega,hz,f5,by simp[hD],dD.app (Di.one (by omega) (by omega)),hfin⟩⟩
   ·have i1:¬(k:Int)<(la.length:Int):=by omega
    have i2:(k:Int)<(lb.length:Int):=by omega
    simp[A.lb145_0,hr,hf,h7,h6,h5,lu,lv,g1,g2,i1,i2,e1,e2,t1,t2,t3,t4,t5,splice]
    simp(disch:=first|(simp;done)|omega|rfl) [f1,f6,hr,hf,h7]
    exact⟨m',by omega,⟨f6,kz,k+1,(x+y+c)/1000000000,v',D++[(x+y+c)%1000000000],by omega,by simp,by simp[t2],by simp,by omega,by omega,hz,f5,by simp[hD],dD.app (Di.one (by omega) (by omega)),hfin⟩⟩
   ·have i1:¬(k:Int)<(la.length:Int):=by omega
    have i2:¬(k:Int)<(lb.length:Int):=by omega
    simp[A.lb145_0,hr,hf,h7,h6,h5,lu,lv,g1,g2,g3,i1,i2,e1,e2,t1,t2,t3,t4,t5,splice]
    simp(disch:=first|(simp;done)|omega|rfl) [f1,f6,hr,hf,h7]
    exact⟨m',by omega,⟨f6,kz,k+1,(x+y+c)/1000000000,v',D++[(x+y+c)%1000000000],by omega,by simp,by simp[t2],by simp,by omega,by omega,hz,f5,by simp[hD],dD.app (Di.one (by omega) (by omega)),hfin⟩⟩
  ·obtain⟨g1,g2,g3⟩:¬k<la.length∧¬k<lb.length∧¬0<c:=by omega
   have i1:¬(k:Int)<(la.length:Int):=by omega
   have i2:¬(k:Int)<(lb.length:Int):=by omega
   obtain rfl:c=0:=by omega
   rw[Zme (by omega),Zme (by omega),Int.mul_zero,Int.add_zero]at hv0
   simp[A.lb145_0,hr,hf,h7,h6,lu,lv,g1,g2,i1,i2,hW,hK]
   exact⟨out,h5,D,ho,dD,hv0,by omega⟩
 ·rintro _ r ⟨H,n1,W⟩ hr ⟨rfl,hW,hK,out,D,h5,ho,dD,hv0,hl⟩
  simp only at hW hK ho
  simp[hr,h5,Ret,hW,hK]
  exact⟨D,ho.sl,dD,hv0,hl⟩
variable {N:Nat} {h:T O}
noncomputable def A.b63:=A.q Tryz.f63
def A.k63:=@A.kk 63 40 [.cell 4 (some 2)] A.b63 (by kernel_rfl) rfl
noncomputable def A.b140:=A.q Tryz.f140
def A.k140:=@A.kk 140 9 [.cell 2 (some 2)] A.b140 (by kernel_rfl) rfl
noncomputable def A.b64:=A.q Tryz.f64
def A.k64:=@A.kk 64 16 [.cell 4 (some 2)] A.b64 (by kernel_rfl) rfl
def Zqs(k:Nat):pI k=((1000000000^k:Nat):Int):=by unfold pI;simp
def Rg.keep{h':T O}{N':Nat}{v:V}{z:Int}(s:Rg h N v z)(k:Keeps h N h' N'):Rg h' N' v z:=by
 obtain⟨u,h1,h2⟩:=s
 exact⟨u,h1,h2.keep k⟩
def nint:∀x∈[V.bool false,V.nilslice],∀k m,x≠.int k m:=by intro x hx k m;simp at hx;rcases hx with rfl|rfl<;>simp
def Yqr{b:Bool}{u:V}(hu:SlF u):∀x∈[V.bool b,u],∀k m,x≠.int k m:=by
 intro x hx k m
 simp at hx
 rcases hx with rfl|rfl
 ·simp
 ·rcases hu with rfl|rfl|⟨_,_,_,_,_,rfl⟩<;>simp
def Yad(a b:Nat):(ds (a*b)).length≤(ds a).length+(ds b).length:=by
 refine Zgb ?_
 have h1:=Zi0 (Zcm a)
 have h2:=Zi0 (Zcm b)
 rw[Zbf]at h1 h2
 rw[Zqs]at h1 h2
 rw[Yxe]
 exact Yyx (Int.ofNat_lt.1 h1) (Int.ofNat_lt.1 h2)
def Zw2{v:V}{z:Int}(hs:Rg h N v z)(hl:(ds z.natAbs).length<1099511627776):Fn A.C 140 [v] h N (fun u h' n'=>Rg h' n' u (-z)):=by
 intro w
 obtain⟨u,rfl,hu⟩:=hs
 have o1:=Sl.form hu |>.one
 have o2:=Sl.form hu |>.cells
 unfold V.one at o1
 unfold V.cells at o2
 have kB:=(((Keeps.refl (h:=h) (n:=N)).new (.cells [.bool (decide (z<0)),u] 92 true)).new (.cells [.bool false,.nilslice] 92 true))
 rw[Zab,A.k140 (by simp)]
 simp[A.b140,o1,o2,splice,Zak,slc]
 refine Zac (Zb2 (b:=!decide (z<0)) (n:=z.natAbs) (Sl.keep hu kB) (Zcm _) (Zbf _) (by omega)) ?_
 rintro v2 h2 n2 k2 hv
 have kle:=k2.le
 have g1:=(k2.get (N+1) (by omega))
 rw[T.get_set,Yv6 rfl]at g1
 have kk:=kB.trans k2
 have ez:(if (!decide (z<0))=true then -((z.natAbs:Nat):Int) else ((z.natAbs:Nat):Int))= -z:=by
  by_cases h0:z<0<;>simp[h0]<;>omega
 rw[ez]at hv
 obtain⟨u2,rfl,hu2⟩:=hv
 have p1:=Sl.form hu2 |>.one
 have p2:=Sl.form hu2 |>.cells
 unfold V.one at p1
 unfold V.cells at p2
 simp[g1,p1,p2,splice,Zal,Zak,slc,Ret]
 exact⟨kk.set (by omega),u2,by simp,Sl.setInt hu2 g1 nint rfl⟩
def Ylu(a b:Int):(if (!(decide (a<0)==decide (b<0)))=true then -((a.natAbs*b.natAbs:Nat):Int) else ((a.natAbs*b.natAbs:Nat):Int))=a*b:=by
 have h0:((a.natAbs*b.natAbs:Nat):Int)=(a.natAbs:Int)*(b.natAbs:Int):=by simp
 rw[h0]
 by_cases h1:a<0<;>by_cases h2:b<0
 ·have ha:(a.natAbs:Int)= -a:=by omega
  have hb:(b.natAbs:Int)= -b:=by omega
  rw[ha,hb];simp[h1,h2,Int.neg_mul,Int.mul_neg]
 ·have ha:(a.natAbs:Int)= -a:=by omega
  have hb:(b.natAbs:Int)=b:=by omega
  rw[ha,hb];simp[h1,h2,Int.neg_mul]
 ·have ha:(a.natAbs:Int)=a:=by omega
  have hb:(b.natAbs:Int)= -b:=by omega
  rw[ha,hb];simp[h1,h2,Int.mul_neg]
 ·have ha:(a.natAbs:Int)=a:=by omega
  have hb:(b.natAbs:Int)=b:=by omega
  rw[ha,hb];simp[h1,h2]
def Zj2{x y:V}{a b:Int}(hx:Rg h N x a)(hy:Rg h N y b)(l1:(ds a.natAbs).length<500000000000)(l2:(ds b.natAbs).length<500000000000):Fn A.C 64 [x,y] h N (fun u h' n'=>Rg h' n' u (a*b)):=by
 intro w
 obtain⟨u,rfl,hu⟩:=hx
 obtain⟨v,rfl,hv⟩:=hy
 have o1:=Sl.form hu |>.one
 have o2:=Sl.form hu |>.cells
 have o3:=Sl.form hv |>.one
 have o4:=Sl.form hv |>.cells
 unfold V.one at o1 o3
 unfold V.cells at o2 o4
 have kB:=((((Keeps.refl (h:=h) (n:=N)).new (.cells [.bool (decide (a<0)),u] 92 true)).new (.cells [.bool (decide (b<0)),v] 92 true)).new (.cells [.bool false,.nilslice] 92 true))
 rw[Zab,A.k64 (by simp)]
 simp[A.b64,o1,o2,o3,o4,splice,Zak,slc,Zad]
 generalize hB:((h.set N (.cells [.bool (decide (a<0)),u] 92 true)).set (N+1) (.cells [.bool (decide (b<0)),v] 92 true)).set (N+1+1) (.cells [.bool false,.nilslice] 92 true)=HB at*
 have gr:HB.get (N+1+1)=some (.cells [.bool false,.nilslice] 92 true):=by rw[←hB];simp
 refine Zac (Zud (Sl.keep hu kB) (Sl.keep hv kB) (Zcm _) (Zcm _) (Zbf _) (Zbf _) (by omega)) ?_
 rintro v1 h1 n1 k1 q1
 have hlm:(ds (a.natAbs*b.natAbs)).length<1152921504606846976:=by
  have:=Yad a.natAbs b.natAbs;omega
 simp[]
 refine Zac (Zb2 (n:=a.natAbs*b.natAbs) q1 (Zcm _) (Zbf _) hlm) ?_
 rintro v2 h2 n2 k2 hr2
 have le1:=k1.le
 have le2:=k2.le
 have g1:=(k2.get (N+1+1) (by omega)).trans ((k1.get (N+1+1) (by omega)).trans gr)
 have ez:(if (!(decide (a<0)==decide (b<0)))=true then -((a.natAbs*b.natAbs:Nat):Int) else ((a.natAbs*b.natAbs:Nat):Int))=a*b:=Ylu a b
 rw[ez]at hr2
 obtain⟨u2,rfl,hu2⟩:=hr2
 have p1:=Sl.form hu2 |>.one
 have p2:=Sl.form hu2 |>.cells
 unfold V.one at p1
 unfold V.cells at p2
 simp[g1,p1,p2,splice,Zal,Zak,slc,Ret,Zao.chk]
 exact⟨by split<;>simp[Zaa],((kB.trans k1).trans k2).set (by omega),u2,rfl,Sl.setInt hu2 g1 nint rfl⟩
end Go.Mx
