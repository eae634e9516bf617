/-Decimal notations of integers and of fra-/
import Derived.Test.YteojhfjdbpdolaaGreatDoorRbA
set_option linter.all false
namespace Go.Mx
noncomputable section
open Go
variable {n:Nat}
def c_(n:Nat):UInt8:=UInt8.ofNat (48+n%10)
def Hg(n:Nat):(c_ n).toNat=48+n%10:=by
 unfold c_
 simp
 omega
def df(n:Nat):aQ:=if h:n=0 then [] else df (n/10)++[c_ n]
termination_by n
decreasing_by omega
def tG:df 0=[]:=by unfold df;simp
def xC(h:n≠0):df n=df (n/10)++[c_ n]:=by
 conv=>lhs;unfold df
 rw[dif_neg h]
def ar(n:Nat):aQ:=if n=0 then [48] else df n
def h_(n k:Nat):aQ:=List.replicate (k-(df n).length) 48++df n
def aP(z:Int):aQ:=if z<0 then 45::ar z.natAbs else ar z.natAbs
def aS(q:Rat):aQ:=if q.den=1 then aP q.num else aP q.num++47::ar q.den
def Ztk:∀(n:Nat),aH (df n)=n:=by
 intro n
 induction n using Nat.strongRecOn with
 |_ n ih=>
  by_cases h:n=0
  ·subst h;rw[tG];rfl
  ·rw[xC h,Lf,ih (n/10) (by omega),Hg]
   omega
def Hh(n:Nat):aH (ar n)=n:=by
 unfold ar
 split
 ·subst_vars;rfl
 ·exact Ztk n
def Zut{s:aQ}{c:UInt8}:cJ (s++[c])=(cJ s&&kj c):=by simp[cJ]
def Ykw(n:Nat):kj (c_ n)=true:=by
 unfold kj
 rw[Hg]
 simp
 omega
def Yhd:∀(n:Nat),cJ (df n)=true:=by
 intro n
 induction n using Nat.strongRecOn with
 |_ n ih=>
  by_cases h:n=0
  ·subst h;rw[tG];rfl
  ·rw[xC h,Zut,ih (n/10) (by omega),Ykw];rfl
def BJ(n:Nat):cJ (ar n)=true:=by
 unfold ar
 split
 ·rfl
 ·exact Yhd n
def pC:∀{k n:Nat},n<10^k↔(df n).length<=k
 |0,n=>by
  simp only[D8,Nat.lt_one_iff,Nat.le_zero,List.length_eq_zero_iff]
  constructor
  ·rintro rfl;exact tG
  ·intro h
   have:=Ztk n
   rw[h]at this
   exact this.symm
 |k+1,n=>by
  by_cases h:n=0
  ·subst h;rw[tG];simp;exact z_ (by decide)
  ·rw[xC h,iI,zY,gg]
   have:=pC (k:=k) (n:=n/10)
   rw[Nat.succ_le_succ_iff,<-this]
   exact(pU (by decide)).symm
def XN:∀{n:Nat},n≠0->∃c t,df n=c::t/\c.toNat≠48:=by
 intro n
 induction n using Nat.strongRecOn with
 |_ n ih=>
  intro h
  rw[xC h]
  by_cases h0:n/10=0
  ·rw[h0,tG]
   refine⟨c_ n,[],rfl,?_⟩
   rw[Hg];omega
  ·obtain⟨c,t,e,hc⟩:=ih (n/10) (by omega) h0
   rw[e]
   exact⟨c,t++[c_ n],rfl,hc⟩
def JM(n:Nat):ar n≠[]:=by
 unfold ar
 split
 ·simp
 ·rename_i h
  obtain⟨c,t,e,_⟩:=XN h
  rw[e];simp
def Ym1{c:UInt8}(h:kj c=true){k:Nat}:c_ (10*k+(c.toNat-48))=c:=by
 unfold kj at h
 simp only[decide_eq_true_eq]at h
 apply UInt8.toNat_inj.1
 rw[Hg];omega
def Ygt:∀(t:aQ) (c:UInt8),cJ (c::t)=true->c.toNat≠48->df (aH (c::t))=c::t:=by
 intro t
 generalize hn:t.length=n
 induction n generalizing t with
 |zero=>
  intro c ha hc
  have:t=[]:=qE hn
  subst this
  have hd:kj c=true:=by simpa[cJ]using ha
  have:=Ym1 hd (k:=0)
  have h2:48<=c.toNat/\c.toNat<=57:=by simpa[kj]using hd
  have e:aH [c]=c.toNat-48:=by simp[aH]
  rw[e,xC (by omega),show (c.toNat-48)/10=0 by omega,tG]
  simp only[Nat.mul_zero,xg]at this
  rw[this];rfl
 |succ n ih=>
  intro c ha hc
  obtain⟨u,d,rfl⟩:∃u d,t=u++[d]:=⟨t.dropLast,t.getLast (by rintro rfl;simp at hn),(Qk _).symm⟩
  simp at hn
  have XO:cJ (c::u)=true/\kj d=true:=by
   rw[<-Co,Zut,iE]at ha
   exact ha
  have XP:=ih u (by omega) c XO.1 hc
  have h2:48<=d.toNat/\d.toNat<=57:=by simpa[kj]using XO.2
  rw[<-Co,Lf]
  have qC:aH (c::u)≠0:=by
   intro h0
   rw[h0,tG]at XP
   cases XP
  rw[xC (by omega),show (10*aH (c::u)+(d.toNat-48))/10=aH (c::u) by omega,XP,Ym1 XO.2]
def BK{s:aQ}(h:iT s=true):ar (aH s)=s:=by
 cases s with
 |nil=>cases h
 |cons c t=>
  have h:(cJ (c::t)&&(decide (c.toNat≠48)||decide (t=[])))=true:=h
  rw[iE,Gg,decide_eq_true_eq,decide_eq_true_eq]at h
  obtain⟨ha,hc⟩:=h
  by_cases h48:c.toNat=48
  ·rcases hc with hc|hc
   ·exact absurd h48 hc
   ·subst hc
    have:c=48:=UInt8.toNat_inj.1 h48
    subst this;rfl
  ·have e:=Ygt t c ha h48
   have:aH (c::t)≠0:=by
    intro h0
    rw[h0,tG]at e
    cases e
   unfold ar
   rw[ak this,e]
def Zy5{a b:Nat}(h:ar a=ar b):a=b:=by rw[<-Hh a,h,Hh]
def Zq5:∀{k a b:Nat},a≠0->b<10^k->df (a*10^k+b)=df a++h_ b k:=by
 intro k
 induction k with
 |zero=>
  intro a b ha hb
  have:b=0:=by simpa using hb
  subst this
  simp[h_,tG]
 |succ k ih=>
  intro a b ha hb
  rw[gg]at hb ⊢
  have rC:b/10<10^k:=(pU (by decide)).2 hb
  have hp:0<10^k:=z_ (by decide)
  have qC:a*(10^k*10)+b≠0:=by
   have:=yK (Nat.pos_of_ne_zero ha) (yK hp (by decide:0<10));omega
  have e1:(a*(10^k*10)+b)/10=a*10^k+b/10:=by
   rw[<-D7,jb _ 10,Nat.mul_add_div (by decide)]
  have e2:c_ (a*(10^k*10)+b)=c_ b:=by
   apply UInt8.toNat_inj.1
   rw[Hg,Hg,<-D7,jb _ 10,Nat.mul_add_mod]
  rw[xC qC,e1,ih ha rC,e2,td]
  congr 1
  by_cases lG:b=0
  ·subst lG
   unfold h_
   rw[Nat.zero_div,tG]
   simp only[List.length_nil,Nat.sub_zero,wU]
   rw[List.replicate_succ']
   rfl
  ·unfold h_
   rw[xC lG,iI,zY,<-td]
   rw[show k+1-((df (b/10)).length+1)=k-(df (b/10)).length by omega]
def Yk0{b k:Nat}(h:b<10^k):(h_ b k).length=k:=by
 have:=pC.1 h
 simp[h_];omega
def Mj(b:Nat):h_ b 1=ar b:=by
 unfold h_ ar
 split
 ·subst_vars;rw[tG];rfl
 ·rename_i h
  obtain⟨c,t,e,_⟩:=XN h
  rw[e]
  simp
def Zuk(h:n≠0):0<(df n).length:=by
 obtain⟨c,t,e,_⟩:=XN h
 rw[e];simp
def PE{k:Nat}(hk:0<k):(ar n).length<=k↔n<10^k:=by
 unfold ar
 split
 ·subst_vars
  simp
  exact⟨fun _=>z_ (by decide),fun _=>hk⟩
 ·exact pC.symm
def Zq4{n:Nat}:∃c t,ar n=c::t/\48<=c.toNat/\c.toNat<=57:=by
 have h:=BJ n
 cases hs:ar n with
 |nil=>exact absurd hs (JM n)
 |cons c t=>
  rw[hs]at h
  have:kj c=true:=by
   simp[cJ]at h;exact h.1
  exact⟨c,t,rfl,by simpa[kj]using this⟩
variable {s:aQ}
def XQ:∀{s t:aQ},(∀c∈s,c.toNat≠47)->ah (s++47::t)=s.length
 |[],t,_=>rfl
 |c::s,t,h=>by
  have h1:=h c ph
  have:=XQ (s:=s) (t:=t) fun d hd=>h d (oU _ hd)
  simp[ah,h1,this]
def XR:∀{s:aQ},(∀c∈s,c.toNat≠47)->ah s=s.length
 |[],_=>rfl
 |c::s,h=>by
  have h1:=h c ph
  have:=XR (s:=s) fun d hd=>h d (oU _ hd)
  simp[ah,h1,this]
def Zn0:∀{s:aQ},ah s<s.length->s.drop (ah s)=47::s.drop (ah s+1)
 |[],h=>by simp[ah]at h
 |c::s,h=>by
  by_cases hc:c.toNat=47
  ·have:c=47:=UInt8.toNat_inj.1 hc
   subst this
   simp[ah]
  ·simp only[ah,hc,if_false,bo]at h ⊢
   have:=Zn0 (s:=s) (by omega)
   simpa using this
def Q2(h:cJ s=true):∀c∈s,c.toNat≠47:=by
 intro c hc
 unfold cJ at h
 rw[lB]at h
 have:=h c hc
 unfold kj at this
 simp only[decide_eq_true_eq]at this
 omega
def Ygr(z:Int):∀c∈aP z,c.toNat≠47:=by
 unfold aP
 split
 ·intro c hc
  rcases kW.1 hc with rfl|hc
  ·decide
  ·exact Q2 (BJ _) c hc
 ·exact Q2 (BJ _)
def Yek(n:Nat):cK (ar n)=false:=by
 obtain⟨c,t,e,h1,h2⟩:=Zq4 (n:=n)
 rw[e]
 simp[cK];omega
def Mk(z:Int):cK (aP z)=decide (z<0):=by
 unfold aP
 split
 ·rename_i h;simp[cK,h]
 ·rename_i h;rw[Yek];simp[h]
def JN(z:Int):bn (aP z)=ar z.natAbs:=by
 unfold bn
 rw[Mk]
 by_cases h:z<0
 ·simp[h,aP]
 ·simp[h,aP]
def JO(q:Rat):ah (aS q)=(aP q.num).length:=by
 unfold aS
 split
 ·exact XR (Ygr _)
 ·exact XQ (Ygr _)
def Ml(q:Rat):(aS q).take (ah (aS q))=aP q.num:=by
 rw[JO]
 unfold aS
 split
 ·simp
 ·simp
def Mm(q:Rat)(h:q.den≠1):(aS q).drop (ah (aS q)+1)=ar q.den:=by
 rw[JO]
 unfold aS
 rw[ak h,<-List.drop_drop]
 simp
def C2(q:Rat):ah (aS q)<(aS q).length↔q.den≠1:=by
 rw[JO]
 unfold aS
 split
 ·rename_i h;simp[h]
 ·rename_i h;simp[h]
def Yk2{a b:Int}(h:aP a=aP b):a=b:=by
 have h1:=congrArg cK h
 have h2:=congrArg bn h
 rw[Mk,Mk,decide_eq_decide]at h1
 rw[JN,JN]at h2
 have h3:=Zy5 h2
 omega
def Yh0{a b:Rat}(h:aS a=aS b):a=b:=by
 have h1:=Ml a
 rw[h,Ml b]at h1
 have h2:=Yk2 h1
 have h3:a.den=b.den:=by
  by_cases ha:a.den=1
  ·have:=mt (C2 a).1 (fun hc=>hc ha)
   rw[h]at this
   rw[C2]at this
   rw[ha];exact(Decidable.not_not.1 this).symm
  ·have:=(C2 a).2 ha
   rw[h]at this
   have hb:=(C2 b).1 this
   have e:=Mm a ha
   rw[h,Mm b hb]at e
   exact(Zy5 e).symm
 exact Rat.ext h2.symm h3
def wO(s:aQ):Rat:=mkRat (if cK s then -(aH ((bn s).take (ah (bn s))):Int) else aH ((bn s).take (ah (bn s)))) (if ah (bn s)<(bn s).length then aH ((bn s).drop (ah (bn s)+1)) else 1)
def Ylb(h:cf s=0):gm (cK s) ((bn s).take (ah (bn s))) (decide (ah (bn s)<(bn s).length)) ((bn s).drop (ah (bn s)+1))=true/\((bn s).take (ah (bn s))).length<=600/\((bn s).drop (ah (bn s)+1)).length<=600/\(ah (bn s)<(bn s).length->Nat.gcd (aH ((bn s).take (ah (bn s)))) (aH ((bn s).drop (ah (bn s)+1)))=1):=by
 unfold cf JP ko at h
 split at h
 ·cases h
 ·rename_i h1
  split at h
  ·cases h
  ·rename_i h2
   split at h
   ·cases h
   ·rename_i h3
    refine⟨by simpa using h1,by omega,by omega,fun hs=>?_⟩
    rw[decide_eq_true hs]at h3
    simpa using h3
def Zts{n:Int}{d:Nat}(hd:d≠0)(h:Nat.gcd n.natAbs d=1):(mkRat n d).num=n/\(mkRat n d).den=d:=by
 have:mkRat n d=⟨n,d,hd,h⟩:=by
  rw[Rat.mkRat_def,dif_neg hd]
  exact Rat.normalize_eq_mk' _ _ hd h
 rw[this]
 exact⟨rfl,rfl⟩
def Yb5(s:aQ):s=(if cK s then [45] else [])++bn s:=by
 cases s with
 |nil=>rfl
 |cons c t=>
  unfold bn
  by_cases hc:c.toNat=45
  ·have:c=45:=UInt8.toNat_inj.1 hc
   subst this
   simp[cK]
  ·simp[cK,hc]
def UW(h:cf s=0):aS (wO s)=s/\(ar (wO s).num.natAbs).length<=600/\(ar (wO s).den).length<=600:=by
 obtain⟨h1,h2,h3,h4⟩:=Ylb h
 have hle:=EJ (bn s)
 unfold gm at h1
 simp only[iE,Gf,Gg,decide_eq_true_eq]at h1
 obtain⟨⟨hp,hz⟩,hd⟩:=h1
 have C3:cK s=true->aH ((bn s).take (ah (bn s)))≠0:=by
  intro hn h0
  rw[hn,Bool.true_and,decide_eq_false_iff_not]at hz
  apply hz
  have:=BK hp
  rw[h0]at this
  exact this.symm
 have gw:(ar (aH ((bn s).take (ah (bn s))))).length<=600:=by
  rw[BK hp];exact h2
 have hb:=Yb5 s
 by_cases hs:ah (bn s)<(bn s).length
 ·have hd:iT ((bn s).drop (ah (bn s)+1))=true/\(bn s).drop (ah (bn s)+1)≠[48]/\(bn s).drop (ah (bn s)+1)≠[49]:=by
   rcases hd with hd|⟨⟨a,b⟩,c⟩
   ·exact absurd hs (by simpa using hd)
   ·exact⟨a,b,c⟩
  have hg:=h4 hs
  have nY:aH ((bn s).drop (ah (bn s)+1))≠0:=by
   intro h0
   have:=BK hd.1
   rw[h0]at this
   exact hd.2.1 this.symm
  have tr:aH ((bn s).drop (ah (bn s)+1))≠1:=by
   intro h0
   have:=BK hd.1
   rw[h0]at this
   exact hd.2.2 (this.symm.trans (by decide+kernel))
  have gZ:(ar (aH ((bn s).drop (ah (bn s)+1)))).length<=600:=by
   rw[BK hd.1];exact h3
  have hv:wO s=mkRat (if cK s then -(aH ((bn s).take (ah (bn s))):Int) else aH ((bn s).take (ah (bn s)))) (aH ((bn s).drop (ah (bn s)+1))):=by
   unfold wO;rw[av hs]
  obtain⟨e1,e2⟩:=Zts (n:=if cK s then -(aH ((bn s).take (ah (bn s))):Int) else aH ((bn s).take (ah (bn s)))) nY (by split<;>simpa using hg)
  rw[<-hv]at e1 e2
  have Mn:bn s=(bn s).take (ah (bn s))++47::(bn s).drop (ah (bn s)+1):=by
   conv=>lhs;rw[<-Cl (ah (bn s)) (bn s)]
   rw[Zn0 hs]
  refine⟨?_,?_,by rw[e2];exact gZ⟩
  ·unfold aS
   rw[e2,ak tr,BK hd.1,e1]
   conv=>rhs;rw[hb,Mn]
   unfold aP
   cases hn:cK s with
   |false=>
    simp only[fH,if_false]
    rw[ak (by omega),dR,BK hp];rfl
   |true=>
    have:=C3 hn
    simp only[if_true]
    rw[av (by omega),xY,dR,BK hp];rfl
  ·rw[e1]
   split<;>simpa using gw
 ·have hv:wO s=mkRat (if cK s then -(aH ((bn s).take (ah (bn s))):Int) else aH ((bn s).take (ah (bn s)))) 1:=by
   unfold wO;rw[ak hs]
  obtain⟨e1,e2⟩:=Zts (n:=if cK s then -(aH ((bn s).take (ah (bn s))):Int) else aH ((bn s).take (ah (bn s)))) (show (1:Nat)≠0 by decide) (Nat.gcd_one_right _)
  rw[<-hv]at e1 e2
  have ht:(bn s).take (ah (bn s))=bn s:=fe (by omega)
  rw[ht]at e1 hp C3 gw
  refine⟨?_,?_,by rw[e2];decide+kernel⟩
  ·unfold aS
   rw[e2,av rfl,e1]
   conv=>rhs;rw[hb]
   unfold aP
   cases hn:cK s with
   |false=>
    simp only[fH,if_false]
    rw[ak (by omega),dR,BK hp];rfl
   |true=>
    have:=C3 hn
    simp only[if_true]
    rw[av (by omega),xY,dR,BK hp];rfl
  ·rw[e1]
   split<;>simpa using gw
def Zup(q:Rat):bn (aS q)=if q.den=1 then ar q.num.natAbs else ar q.num.natAbs++47::ar q.den:=by
 have eC:∀t:aQ,cK (aP q.num++t)=decide (q.num<0):=by
  intro t
  rw[<-Mk]
  have:aP q.num≠[]:=by
   unfold aP;split
   ·simp
   ·exact JM _
  cases h:aP q.num with
  |nil=>exact absurd h this
  |cons c u=>rfl
 have hb:∀t:aQ,bn (aP q.num++t)=ar q.num.natAbs++t:=by
  intro t
  unfold bn
  rw[eC]
  by_cases h:q.num<0
  ·simp[h,aP]
  ·simp[h,aP]
 unfold aS
 split
 ·have:=hb [];simpa using this
 ·exact hb _
def A6(q:Rat):Bool:=decide (600<(ar q.num.natAbs).length\/600<(ar q.den).length)
def Kv:ar 1=[49]:=by decide+kernel
variable {i j k n:Nat}
def Q3:∀{i n:Nat},i<(ds n).length->(ds n)[i]?=some ((n/1000000000^i%1000000000:Nat):Int)
 |i,n,h=>by
  by_cases hn:n=0
  ·rw[hn,th]at h;simp at h
  ·rw[Ag hn]at h ⊢
   cases i with
   |zero=>simp
   |succ i=>
    rw[D5,Q3 (by simpa using h),Gb,gg,jb]
def Ymz(h:i<(ds n).length):n/1000000000^i≠0:=by
 intro hc
 have h1:n<1000000000^i:=(Nat.div_eq_zero_iff_lt (z_ (by decide))).1 hc
 have:=Jt h1
 omega
def Ygp(h:i+1<(ds n).length):ar (n/1000000000^i)=ar (n/1000000000^(i+1))++h_ (n/1000000000^i%1000000000) 9:=by
 have h0:=Ymz (i:=i) (n:=n) (by omega)
 have h1:=Ymz (i:=i+1) (n:=n) h
 have e:n/1000000000^(i+1)=n/1000000000^i/1000000000:=by rw[gg,Gb]
 rw[e]at h1 ⊢
 generalize n/1000000000^i=x at*
 unfold ar
 rw[ak h0,ak h1]
 have:=Zq5 (k:=9) (a:=x/1000000000) (b:=x%1000000000) h1 (by omega)
 rw[show (10:Nat)^9=1000000000 by decide]at this
 rw[<-this]
 congr 1
 omega
def Yk1(h:i+1=(ds n).length):ar (n/1000000000^i)=h_ (n/1000000000^i%1000000000) 1:=by
 have h1:n<1000000000^(i+1):=by
  have h2:=vC (fV n)
  rw[gk,<-h]at h2
  unfold pI at h2
  have h3:(1000000000:Int)^(i+1)=((1000000000^(i+1):Nat):Int):=by rw[Int.natCast_pow];rfl
  rw[h3]at h2
  exact Int.ofNat_lt.1 h2
 rw[gg]at h1
 have h3:n/1000000000^i<1000000000:=Nat.div_lt_of_lt_mul h1
 rw[yn h3,Mj]
def Qb(k:Nat)(q:Rat):Prop:=q.num.natAbs<2^k/\q.den<2^k
def Mo(h:j<=k):2^j<=2^k:=qS (by decide) h
def Qb.mono{q:Rat}(h:Qb j q)(hk:j<=k):Qb k q:=⟨eX h.1 (Mo hk),eX h.2 (Mo hk)⟩
def VH{a b:Int}(hb:b≠0)(h1:a.natAbs<2^k)(h2:b.natAbs<2^k):Qb k (Rat.divInt a b):=by
 constructor
 ·rw[Rat.num_divInt]
  refine qP ?_ h1
  rw[Int.natAbs_ediv_of_dvd]
  ·rw[u_]
   have:b.sign.natAbs=1:=by rw[Int.natAbs_sign,ak hb]
   rw[this,Nat.one_mul]
   exact vk _ _
  ·exact Int.dvd_trans (Int.gcd_dvd_right ..) (Int.dvd_mul_left ..)
 ·rw[Rat.den_divInt,ak hb]
  exact qP (vk _ _) h2
def Qb.mul{p q:Rat}(hp:Qb j p)(hq:Qb k q):Qb (j+k) (p*q):=by
 have tn:((p.den:Nat):Int)≠0:=by have:=p.den_nz;omega
 have sI:((q.den:Nat):Int)≠0:=by have:=q.den_nz;omega
 rw[<-Cd p,<-Cd q,Rat.divInt_mul_divInt]
 refine VH (Jg tn sI) ?_ ?_
 ·rw[u_,ke]
  exact Bg hp.1 hq.1
 ·rw[u_,ke,dR,dR]
  exact Bg hp.2 hq.2
def Qb.add{p q:Rat}(hp:Qb j p)(hq:Qb k q):Qb (j+k+1) (p+q):=by
 have tn:((p.den:Nat):Int)≠0:=by have:=p.den_nz;omega
 have sI:((q.den:Nat):Int)≠0:=by have:=q.den_nz;omega
 rw[<-Cd p,<-Cd q,Rat.divInt_add_divInt _ _ tn sI]
 have e:2^(j+k+1)=2^j*2^k+2^k*2^j:=by rw[gg,ke,jb (2^k)];omega
 refine VH (Jg tn sI) ?_ ?_
 ·refine qP (Int.natAbs_add_le ..) ?_
  rw[u_,u_,dR,dR,e]
  exact Nat.add_lt_add (Bg hp.1 hq.2) (Bg hq.1 hp.2)
 ·rw[u_,dR,dR,e]
  exact eX (Bg hp.2 hq.2) (Nat.le_add_right _ _)
def Qb.neg{q:Rat}(h:Qb k q):Qb k (-q):=by
 refine⟨?_,?_⟩
 ·rw[Rat.neg_num,xY];exact h.1
 ·rw[Rat.neg_den];exact h.2
def Qb.sub{p q:Rat}(hp:Qb j p)(hq:Qb k q):Qb (j+k+1) (p-q):=by
 rw[Rat.sub_eq_add_neg];exact hp.add hq.neg
def Qb.int{z:Int}(h:z.natAbs<2^k)(hk:0<k):Qb k (z:Rat):=by
 refine⟨by simpa using h,?_⟩
 rw[Rat.den_intCast]
 exact eX (by decide) (Mo (j:=1) hk)
def uB(h:n<2^k):(ds n).length<=k:=Jt (eX h (Gc (by decide) k))
def Mp(h:n<2^k):(df n).length<=k:=pC.1 (eX h (Gc (by decide) k))
def DI(h:n<2^k):(ar n).length<=k+1:=by
 have:=Mp h
 unfold ar
 split<;>simp<;>omega
def FB{z:Int}(h:z.natAbs<2^k):(aP z).length<=k+2:=by
 have:=DI h
 unfold aP
 split<;>simp<;>omega
def Ymf(k:Nat):10^k<=2^(4*k):=by
 rw[Nat.pow_mul];exact Gc (by decide) k
def Yua{s:aQ}(h:cf s=0)(hn:s.length<=n):Qb (4*n+4) (wO s):=by
 obtain⟨e,_,_⟩:=UW h
 have hb:=Zup (wO s)
 have l1:(bn (aS (wO s))).length<=n:=by
  rw[e];unfold bn;split
  ·simp;omega
  ·exact hn
 rw[hb]at l1
 have g:∀m:Nat,(ar m).length<=n+1->m<2^(4*n+4):=fun m hm=>by
  have:=(PE (n:=m) (k:=n+1) (by omega)).1 hm
  exact eX this (by have:=Ymf (n+1);rw[tf]at this;exact this)
 split at l1
 ·rename_i h1
  have h2:(ar 1).length=1:=by rw[Kv];rfl
  exact⟨g _ (by omega),by rw[h1];exact g 1 (by omega)⟩
 ·simp at l1
  exact⟨g _ (by omega),g _ (by omega)⟩
open Go Go.Proofs
set_option maxRecDepth 1000000
def A.b263:=A.q Tryz.f263
def A.k263:=@A.kk 263 13 [.tmp 4] A.b263 (by kernel_rfl) rfl
def A.Mq:=A.q Tryz.f230
def A.jL:=A.ql A.Mq 0 []
def A.b230:=(fun x0=>A.qb A.Mq [x0]) A.jL
def A.k230:=@A.kk 230 42 [.tmp 4] A.b230 (by kernel_rfl) rfl
def A.Mr:=A.q Tryz.f232
def A.mT:=A.ql A.Mr 0 []
def A.b232:=(fun x0=>A.qb A.Mr [x0]) A.mT
def A.k232:=@A.kk 232 35 [.tmp 4] A.b232 (by kernel_rfl) rfl
def XT{h:T O}{N:Nat}{v:V}{l:List Int}{i:Nat}{w:List Nat}(hs:Sl h N v (dI l))(hi:i<4611686018427387904)(hl:l.length<4611686018427387904):A.C.call (.func 263 [] []) [v,.int .i64 i] ⟨h,N,w⟩=some (.int .i64 (zI l i),⟨h,N,w⟩):=by
 apply Call.eq
 have hlen:=hs.len
 rw[fZ]at hlen
 rw[aR,A.k263 (by simp)]
 by_cases hc:i<l.length
 ·have Ha:(i:Int)<(l.length:Int):=by omega
  obtain⟨d,hd⟩:=bk hc
  obtain⟨j,o,c,e,rw,q1,q2,q3,q4⟩:=hs.at (fS hd)
  simp[A.b263,hlen,hc,Ha,q1,q3,q4,Ync hd]
 ·have Ha:¬(i:Int)<(l.length:Int):=by omega
  simp[A.b263,hlen,hc,Ha,Wq (yX hc)]
structure AdI (h:T O) (N:Nat) (la lb:List Int) (m:Nat) (r:T V) (st:St):Prop where
 w:ax N st.w=[]
 ae:ab h N st.h st.n
 ex:∃k c out D,k+m=max la.length lb.length+1/\r.get 7=some (.int .i64 k)/\r.get 6=some (.int .i64 c)/\r.get 5=some out/\0<=c/\c<=1/\(m=0->c=0)/\Own 1 3 N st.h st.n out (pz D)/\D.length=k/\Di D/\vI D+pI k*c=vI (la.take k)+vI (lb.take k)
def Q4{l:List Int}{k:Nat}(h:l.length<=k):l.take k=l:=fe h
def Yok{h:T O}{N:Nat}{u v:V}{la lb:List Int}(hu:Sl h N u (dI la))(hv:Sl h N v (dI lb))(da:Di la)(db:Di lb)(l1:la.length<1099511627776)(l2:lb.length<1099511627776):Fn A.C 230 [u,v] h N (fun x h' n'=>∃l,Sl h' n' x (dI l)/\Di l/\vI l=vI la+vI lb/\l.length<=max la.length lb.length+1):=by
 intro w
 have lu:=hu.len
 have lv:=hv.len
 rw[fZ]at lu lv
 rw[aR,A.k230 (by simp)]
 simp[A.b230]
 refine bL [(5,40)] (fun e r st=>e=.exit 0/\ax N st.w=[]/\ab h N st.h st.n/\∃out D,r.get 5=some out/\Own 1 3 N st.h st.n out (pz D)/\Di D/\vI D=vI la+vI lb/\D.length<=max la.length lb.length+1) (AdI h N la lb) (max la.length lb.length+1) ?_ ?_ ?_
 ·exact⟨by simp,ab.refl,0,0,.aa,[],by omega,by simp,by simp,by simp,by omega,by omega,fun _=>rfl,Own.nil,rfl,Di.nil,by simp[vI]⟩
 ·rintro m r ⟨H,n1,W⟩ hr hf ⟨hW,hK,k,c,out,D,hk,h7,h6,h5,c0,c1,cz,ho,hD,dD,mj⟩
  simp only at hW hK ho
  rw[bl]
  by_cases tE:k<la.length\/k<lb.length\/0<c
  ·obtain⟨m',rfl⟩:∃m',m=m'+1:=⟨m-1,by
    have:m≠0:=fun hm=>by have:=cz hm;omega
    omega⟩
   have dx:=Wr da k
   have dy:=Wr db k
   have e1:=fun w=>XT (w:=w) (i:=k) (hu.ae hK) (by omega) (by omega)
   have e2:=fun w=>XT (w:=w) (i:=k) (hv.ae hK) (by omega) (by omega)
   obtain⟨x,hx⟩:∃x,zI la k=x:=⟨_,rfl⟩
   obtain⟨y,hy⟩:∃y,zI lb k=y:=⟨_,rfl⟩
   rw[hx]at dx e1
   rw[hy]at dy e2
   have t1:(x+y+c).tmod 1000000000=(x+y+c)%1000000000:=D4 (by omega)
   have t2:(x+y+c).tdiv 1000000000=(x+y+c)/1000000000:=Bm (by omega)
   have t3:bj .i64 (x+y)=x+y:=cD (by omega) (by omega)
   have t4:bj .i64 (x+y+c)=x+y+c:=cD (by omega) (by omega)
   have t5:bj .i64 ((x+y+c)/1000000000)=(x+y+c)/1000000000:=cD (by omega) (by omega)
   have oC:vI (D++[(x+y+c)%1000000000])+pI (k+1)*((x+y+c)/1000000000)=vI (la.take (k+1))+vI (lb.take (k+1)):=by
    rw[CG,hD,Ws,Ws,hx,hy,vz]
    have hm:=DZ (x+y+c) 1000000000
    generalize (x+y+c)/1000000000=Q at*
    generalize (x+y+c)%1000000000=R at*
    have:R=x+y+c-1000000000*Q:=by omega
    subst this
    grind
   have hz:m'=0->(x+y+c)/1000000000=0:=fun hm=>by
    have:x=0:=by rw[<-hx];exact Wq (by omega)
    have:y=0:=by rw[<-hy];exact Wq (by omega)
    omega
   have ym:=ho.ae (ab.refl.new (.cells [.int .i64 ((x+y+c)%1000000000)] 3 true))
   obtain⟨v',h',w',f1,f2,f3,_,f5⟩:=tU (x:=[.int .i64 ((x+y+c)%1000000000)]) (u:=.slice n1 0 1 (some 1) 1) (bytes:=8) (w:=W) ym (by have:=hK.le;omega) (by decide) rfl (by simp[eL,St.row,aF]) (by simp[pz];omega)
   rw[<-El]at f5
   have f6:ax N w'=[]:=by rw[f2];exact hW
   have kz:=(hK.new (.cells [.int .i64 ((x+y+c)%1000000000)] 3 true)).then f3
   have Hi:k<la.length\/(¬k<la.length/\k<lb.length)\/(¬k<la.length/\¬k<lb.length/\0<c):=by omega
   rcases Hi with g1|⟨g1,g2⟩|⟨g1,g2,g3⟩
   ·have i1:(k:Int)<(la.length:Int):=by omega
    simp[A.jL,hr,hf,h7,h6,h5,lu,lv,g1,i1,e1,e2,t1,t2,t3,t4,t5,ad]
    simp(disch:=first|(simp;done)|omega|rfl) [f1,f6,hr,hf,h7]
    exact⟨m',by omega,⟨f6,kz,k+1,(x+y+c)/1000000000,v',D++[(x+y+c)%1000000000],by omega,by simp,by simp[t2],by simp,by omega,by omega,hz,f5,by simp[hD],dD.app (Di.one (by omega) (by omega)),oC⟩⟩
   ·have i1:¬(k:Int)<(la.length:Int):=by omega
    have i2:(k:Int)<(lb.length:Int):=by omega
    simp[A.jL,hr,hf,h7,h6,h5,lu,lv,g1,g2,i1,i2,e1,e2,t1,t2,t3,t4,t5,ad]
    simp(disch:=first|(simp;done)|omega|rfl) [f1,f6,hr,hf,h7]
    exact⟨m',by omega,⟨f6,kz,k+1,(x+y+c)/1000000000,v',D++[(x+y+c)%1000000000],by omega,by simp,by simp[t2],by simp,by omega,by omega,hz,f5,by simp[hD],dD.app (Di.one (by omega) (by omega)),oC⟩⟩
   ·have i1:¬(k:Int)<(la.length:Int):=by omega
    have i2:¬(k:Int)<(lb.length:Int):=by omega
    simp[A.jL,hr,hf,h7,h6,h5,lu,lv,g1,g2,g3,i1,i2,e1,e2,t1,t2,t3,t4,t5,ad]
    simp(disch:=first|(simp;done)|omega|rfl) [f1,f6,hr,hf,h7]
    exact⟨m',by omega,⟨f6,kz,k+1,(x+y+c)/1000000000,v',D++[(x+y+c)%1000000000],by omega,by simp,by simp[t2],by simp,by omega,by omega,hz,f5,by simp[hD],dD.app (Di.one (by omega) (by omega)),oC⟩⟩
  ·obtain⟨g1,g2,g3⟩:¬k<la.length/\¬k<lb.length/\¬0<c:=by omega
   have i1:¬(k:Int)<(la.length:Int):=by omega
   have i2:¬(k:Int)<(lb.length:Int):=by omega
   obtain rfl:c=0:=by omega
   rw[Q4 (by omega),Q4 (by omega),Int.mul_zero,Int.add_zero]at mj
   simp[A.jL,hr,hf,h7,h6,lu,lv,g1,g2,i1,i2,hW,hK]
   exact⟨out,h5,D,ho,dD,mj,by omega⟩
 ·rintro _ r ⟨H,n1,W⟩ hr ⟨rfl,hW,hK,out,D,h5,ho,dD,mj,hl⟩
  simp only at hW hK ho
  simp[hr,h5,aE,hW,hK]
  exact⟨D,ho.sl,dD,mj,hl⟩
variable {N:Nat} {h:T O}
def A.b190:=A.q Tryz.f190
def A.k190:=@A.kk 190 40 [.cell 4 (some 2)] A.b190 (by kernel_rfl) rfl
def A.b227:=A.q Tryz.f227
def A.k227:=@A.kk 227 9 [.cell 2 (some 2)] A.b227 (by kernel_rfl) rfl
def A.b191:=A.q Tryz.f191
def A.k191:=@A.kk 191 16 [.cell 4 (some 2)] A.b191 (by kernel_rfl) rfl
def Q5(k:Nat):pI k=((1000000000^k:Nat):Int):=by unfold pI;simp
def Rg.ae{h':T O}{N':Nat}{v:V}{z:Int}(s:Rg h N v z)(k:ab h N h' N'):Rg h' N' v z:=by
 obtain⟨u,h1,h2⟩:=s
 exact⟨u,h1,h2.ae k⟩
def jh:∀x∈[V.bool false,V.aa],∀k m,x≠.int k m:=by intro x hx k m;simp at hx;rcases hx with rfl|rfl<;>simp
def Ysy{b:Bool}{u:V}(hu:GJ u):∀x∈[V.bool b,u],∀k m,x≠.int k m:=by
 intro x hx k m
 simp at hx
 rcases hx with rfl|rfl
 ·simp
 ·rcases hu with rfl|rfl|⟨_,_,_,_,_,rfl⟩<;>simp
def Ybw(a b:Nat):(ds (a*b)).length<=(ds a).length+(ds b).length:=by
 refine Jt ?_
 have h1:=vC (fV a)
 have h2:=vC (fV b)
 rw[gk]at h1 h2
 rw[Q5]at h1 h2
 rw[ke]
 exact Bg (Int.ofNat_lt.1 h1) (Int.ofNat_lt.1 h2)
def Zyi{v:V}{z:Int}(hs:Rg h N v z)(hl:(ds z.natAbs).length<1099511627776):Fn A.C 227 [v] h N (fun u h' n'=>Rg h' n' u (-z)):=by
 intro w
 obtain⟨u,rfl,hu⟩:=hs
 have o1:=Sl.form hu |>.one
 have o2:=Sl.form hu |>.cells
 unfold V.one at o1
 unfold V.cells at o2
 have kB:=(((ab.refl (h:=h) (n:=N)).new (.cells [.bool (decide (z<0)),u] 180 true)).new (.cells [.bool false,.aa] 180 true))
 rw[aR,A.k227 (by simp)]
 simp[A.b227,o1,o2,ad,aO,aF]
 refine aA (xD (b:=!decide (z<0)) (n:=z.natAbs) (Sl.ae hu kB) (fV _) (gk _) (by omega)) ?_
 rintro v2 h2 n2 k2 hv
 have ve:=k2.le
 have g1:=(k2.get (N+1) (by omega))
 rw[T.ag,av rfl]at g1
 have kk:=kB.trans k2
 have ez:(if (!decide (z<0))=true then -((z.natAbs:Nat):Int) else ((z.natAbs:Nat):Int))= -z:=by
  by_cases h0:z<0<;>simp[h0]<;>omega
 rw[ez]at hv
 obtain⟨u2,rfl,fG⟩:=hv
 have p1:=Sl.form fG |>.one
 have p2:=Sl.form fG |>.cells
 unfold V.one at p1
 unfold V.cells at p2
 simp[g1,p1,p2,ad,bC,aO,aF,aE]
 exact⟨kk.set (by omega),u2,by simp,Sl.setInt fG g1 jh rfl⟩
def Yn2(a b:Int):(if (!(decide (a<0)==decide (b<0)))=true then -((a.natAbs*b.natAbs:Nat):Int) else ((a.natAbs*b.natAbs:Nat):Int))=a*b:=by
 have h0:((a.natAbs*b.natAbs:Nat):Int)=(a.natAbs:Int)*(b.natAbs:Int):=by simp
 rw[h0]
 by_cases h1:a<0<;>by_cases h2:b<0
 ·have ha:(a.natAbs:Int)= -a:=by omega
  have hb:(b.natAbs:Int)= -b:=by omega
  rw[ha,hb];simp[h1,h2,Int.neg_mul,Int.mul_neg]
 ·have ha:(a.natAbs:Int)= -a:=by omega
  have hb:(b.natAbs:Int)=b:=by omega
  rw[ha,hb];simp[h1,h2,Int.neg_mul]
 ·have ha:(a.natAbs:Int)=a:=by omega
  have hb:(b.natAbs:Int)= -b:=by omega
  rw[ha,hb];simp[h1,h2,Int.mul_neg]
 ·have ha:(a.natAbs:Int)=a:=by omega
  have hb:(b.natAbs:Int)=b:=by omega
  rw[ha,hb];simp[h1,h2]
def Ms{x y:V}{a b:Int}(hx:Rg h N x a)(hy:Rg h N y b)(l1:(ds a.natAbs).length<500000000000)(l2:(ds b.natAbs).length<500000000000):Fn A.C 191 [x,y] h N (fun u h' n'=>Rg h' n' u (a*b)):=by
 intro w
 obtain⟨u,rfl,hu⟩:=hx
 obtain⟨v,rfl,hv⟩:=hy
 have o1:=Sl.form hu |>.one
 have o2:=Sl.form hu |>.cells
 have o3:=Sl.form hv |>.one
 have o4:=Sl.form hv |>.cells
 unfold V.one at o1 o3
 unfold V.cells at o2 o4
 have kB:=((((ab.refl (h:=h) (n:=N)).new (.cells [.bool (decide (a<0)),u] 180 true)).new (.cells [.bool (decide (b<0)),v] 180 true)).new (.cells [.bool false,.aa] 180 true))
 rw[aR,A.k191 (by simp)]
 simp[A.b191,o1,o2,o3,o4,ad,aO,aF,aG]
 generalize hB:((h.set N (.cells [.bool (decide (a<0)),u] 180 true)).set (N+1) (.cells [.bool (decide (b<0)),v] 180 true)).set (N+1+1) (.cells [.bool false,.aa] 180 true)=HB at*
 have gr:HB.get (N+1+1)=some (.cells [.bool false,.aa] 180 true):=by rw[<-hB];simp
 refine aA (XU (Sl.ae hu kB) (Sl.ae hv kB) (fV _) (fV _) (gk _) (gk _) (by omega)) ?_
 rintro v1 h1 n1 k1 q1
 have CZ:(ds (a.natAbs*b.natAbs)).length<1152921504606846976:=by
  have:=Ybw a.natAbs b.natAbs;omega
 simp[]
 refine aA (xD (n:=a.natAbs*b.natAbs) q1 (fV _) (gk _) CZ) ?_
 rintro v2 h2 n2 k2 cZ
 have sJ:=k1.le
 have kX:=k2.le
 have g1:=(k2.get (N+1+1) (by omega)).trans ((k1.get (N+1+1) (by omega)).trans gr)
 have ez:(if (!(decide (a<0)==decide (b<0)))=true then -((a.natAbs*b.natAbs:Nat):Int) else ((a.natAbs*b.natAbs:Nat):Int))=a*b:=Yn2 a b
 rw[ez]at cZ
 obtain⟨u2,rfl,fG⟩:=cZ
 have p1:=Sl.form fG |>.one
 have p2:=Sl.form fG |>.cells
 unfold V.one at p1
 unfold V.cells at p2
 simp[g1,p1,p2,ad,bC,aO,aF,aE,ct.cv]
 exact⟨by split<;>simp[ax],((kB.trans k1).trans k2).set (by omega),u2,rfl,Sl.setInt fG g1 jh rfl⟩
set_option maxHeartbeats 4000000
structure SuI (h:T O) (N:Nat) (la lb:List Int) (m:Nat) (r:T V) (st:St):Prop where
 w:ax N st.w=[]
 ae:ab h N st.h st.n
 ex:∃k c out D,k+m=la.length/\r.get 7=some (.int .i64 k)/\r.get 6=some (.int .i64 c)/\r.get 5=some out/\0<=c/\c<=1/\Own 1 3 N st.h st.n out (pz D)/\D.length=k/\Di D/\vI D-pI k*c=vI (la.take k)-vI (lb.take k)
def Ydl{h:T O}{N:Nat}{u v:V}{a b:Nat}(hu:Dn h N u a)(hv:Dn h N v b)(gp:b<=a)(l1:(ds a).length<1099511627776):Fn A.C 232 [u,v] h N (fun x h' n'=>Dn h' n' x (a-b)):=by
 intro w
 have l2:=uC gp
 have da:=fV a
 have db:=fV b
 have va:=gk a
 have vb:=gk b
 have lu:=Sl.len hu
 have lv:=Sl.len hv
 rw[fZ]at lu lv
 have hu:Sl h N u (dI (ds a)):=hu
 have hv:Sl h N v (dI (ds b)):=hv
 generalize hA:ds a=la at*
 generalize hB:ds b=lb at*
 rw[aR,A.k232 (by simp)]
 simp[A.b232]
 refine bL [(5,32)] (fun e r st=>e=.exit 0/\SuI h N la lb 0 r st) (SuI h N la lb) la.length ?_ ?_ ?_
 ·exact⟨by simp,ab.refl,0,0,.aa,[],by omega,by simp,by simp,by simp,by omega,by omega,Own.nil,rfl,Di.nil,by simp[vI]⟩
 ·rintro m r ⟨H,n1,W⟩ hr hf ⟨hW,hK,k,c,out,D,hk,h7,h6,h5,c0,c1,ho,hD,dD,mj⟩
  simp only at hW hK ho
  rw[bl]
  cases m with
  |zero=>
   obtain rfl:k=la.length:=by omega
   simp[A.mT,hr,hf,h7,lu]
   exact⟨hW,hK,la.length,c,out,D,by omega,by simp[h7],by simp[h6],by simp[h5],c0,c1,ho,hD,dD,mj⟩
  |succ m=>
   have ay:k<la.length:=by omega
   have bM:(k:Int)<(la.length:Int):=by omega
   obtain⟨x,hx⟩:=bk ay
   have dx:=da.get hx
   have dy:=Wr db k
   obtain⟨i,o,cc,e,rw,q1,q2,q3,q4⟩:=(hu.ae hK).at (fS hx)
   have e2:=fun w=>XT (w:=w) (i:=k) (hv.ae hK) (by omega) (by omega)
   obtain⟨y,hy⟩:∃y,zI lb k=y:=⟨_,rfl⟩
   rw[hy]at dy e2
   have t3:bj .i64 (x-y)=x-y:=cD (by omega) (by omega)
   have t4:bj .i64 (x-y-c)=x-y-c:=cD (by omega) (by omega)
   have t5:bj .i64 (x-y-c+1000000000)=x-y-c+1000000000:=cD (by omega) (by omega)
   have hs:∀d c':Int,d-1000000000*c'=x-y-c->vI (D++[d])-pI (k+1)*c'=vI (la.take (k+1))-vI (lb.take (k+1)):=fun d c' he=>by
    rw[CG,hD,zf hx,Ws,hy,vz]
    have:d=x-y-c+1000000000*c':=by omega
    subst this
    grind
   have ap:∀d:Int,∃v' h' w',fY ⟨H.set n1 (.cells [.int .i64 d] 3 true),n1+1,W⟩ 1 8 3 out (.slice n1 0 1 (some 1) 1)=some (v',⟨h',n1+1+1,w'⟩)/\ax N w'=[]/\ab h N h' (n1+1+1)/\Own 1 3 N h' (n1+1+1) v' (pz (D++[d])):=fun d=>by
    have ym:=ho.ae (ab.refl.new (.cells [.int .i64 d] 3 true))
    obtain⟨v',h',w',f1,f2,f3,_,f5⟩:=tU (x:=[.int .i64 d]) (u:=.slice n1 0 1 (some 1) 1) (bytes:=8) (w:=W) ym (by have:=hK.le;omega) (by decide) rfl (by simp[eL,St.row,aF]) (by simp[pz];omega)
    rw[<-El]at f5
    exact⟨v',h',w',f1,by rw[f2];exact hW,(hK.new (.cells [.int .i64 d] 3 true)).then f3,f5⟩
   by_cases eC:x-y-c<0
   ·obtain⟨v',h',w',f1,f2,f3,f5⟩:=ap (x-y-c+1000000000)
    simp[A.mT,hr,hf,h7,h6,h5,lu,bM,ay,q1,q2,q3,q4,e2,t3,t4,t5,eC,ad,ct.cv]
    simp(disch:=first|(simp;done)|omega|rfl) [f1,hr,hf,h7]
    exact⟨m,by omega,⟨f2,f3,k+1,1,v',D++[x-y-c+1000000000],by omega,by simp,by simp,by simp,by omega,by omega,f5,by simp[hD],dD.app (Di.one (by omega) (by omega)),hs _ _ (by omega)⟩⟩
   ·obtain⟨v',h',w',f1,f2,f3,f5⟩:=ap (x-y-c)
    simp[A.mT,hr,hf,h7,h6,h5,lu,bM,ay,q1,q2,q3,q4,e2,t3,t4,eC,ad,ct.cv]
    simp(disch:=first|(simp;done)|omega|rfl) [f1,hr,hf,h7]
    exact⟨m,by omega,⟨f2,f3,k+1,0,v',D++[x-y-c],by omega,by simp,by simp,by simp,by omega,by omega,f5,by simp[hD],dD.app (Di.one (by omega) (by omega)),hs _ _ (by omega)⟩⟩
 ·rintro _ r ⟨H,n1,W⟩ hr ⟨rfl,hW,hK,k,c,out,D,hk,h7,h6,h5,c0,c1,ho,hD,dD,mj⟩
  simp only at hW hK ho
  obtain rfl:k=la.length:=by omega
  rw[Q4 (aM _),Q4 (by omega),va,vb]at mj
  have ay:=vC dD
  rw[hD]at ay
  have c2:c=0:=by
   apply Int.le_antisymm _ c0
   apply Ea
   intro hc
   have:c=1:=by omega
   subst this
   omega
  subst c2
  have hvD:vI D=((a-b:Nat):Int):=by omega
  simp[hr,h5]
  refine aA (Hj ho.sl (by omega)) ?_
  rintro v2 h2 n2 k2 q2
  rw[GI dD hvD]at q2
  simp[aE,hW]
  exact⟨hK.trans k2,q2⟩
def Yg1{a b:Nat}:(0<=BL a b)↔b<=a:=by unfold BL;split<;>(try split)<;>omega
def Yoq{h:T O}{N:Nat}{x y:V}{a b:Int}(hx:Rg h N x a)(hy:Rg h N y b)(l1:(ds a.natAbs).length<500000000000)(l2:(ds b.natAbs).length<500000000000):Fn A.C 190 [x,y] h N (fun u h' n'=>Rg h' n' u (a+b)):=by
 intro w
 obtain⟨u,rfl,hu⟩:=hx
 obtain⟨v,rfl,hv⟩:=hy
 have o1:=Sl.form hu |>.one
 have o2:=Sl.form hu |>.cells
 have o3:=Sl.form hv |>.one
 have o4:=Sl.form hv |>.cells
 unfold V.one at o1 o3
 unfold V.cells at o2 o4
 have kB:=((((ab.refl (h:=h) (n:=N)).new (.cells [.bool (decide (a<0)),u] 180 true)).new (.cells [.bool (decide (b<0)),v] 180 true)).new (.cells [.bool false,.aa] 180 true))
 rw[aR,A.k190 (by simp)]
 generalize hB:((h.set N (.cells [.bool (decide (a<0)),u] 180 true)).set (N+1) (.cells [.bool (decide (b<0)),v] 180 true)).set (N+1+1) (.cells [.bool false,.aa] 180 true)=HB at kB
 have gr:HB.get (N+1+1)=some (.cells [.bool false,.aa] 180 true):=by rw[<-hB];simp
 have gx:HB.get N=some (.cells [.bool (decide (a<0)),u] 180 true):=by rw[<-hB];simp
 have gy:HB.get (N+1)=some (.cells [.bool (decide (b<0)),v] 180 true):=by rw[<-hB];simp
 by_cases C4:decide (a<0)=decide (b<0)
 ·have zn:(decide (a<0)==decide (b<0))=true:=by rw[C4];simp
  simp[A.b190,o1,o2,o3,o4,ad,aO,aF,aG,zn]
  simp only[hB]
  refine aA (Yok (Sl.ae hu kB) (Sl.ae hv kB) (fV _) (fV _) (by omega) (by omega)) ?_
  rintro v1 h1 n1 k1 ⟨l,q1,q2,q3,q4⟩
  rw[gk,gk]at q3
  have ez:(if decide (a<0)=true then -((a.natAbs+b.natAbs:Nat):Int) else ((a.natAbs+b.natAbs:Nat):Int))=a+b:=by
   by_cases h1:a<0<;>by_cases h2:b<0<;>simp[h1,h2]at C4 ⊢<;>omega
  simp[]
  refine aA (xD (b:=decide (a<0)) (n:=a.natAbs+b.natAbs) q1 q2 (by rw[q3];try simp) (by omega)) ?_
  rintro v2 h2 n2 k2 cZ
  rw[ez]at cZ
  have sJ:=k1.le
  have kX:=k2.le
  have g1:=(k2.get (N+1+1) (by omega)).trans ((k1.get (N+1+1) (by omega)).trans gr)
  obtain⟨u2,rfl,fG⟩:=cZ
  have p1:=Sl.form fG |>.one
  have p2:=Sl.form fG |>.cells
  unfold V.one at p1
  unfold V.cells at p2
  simp[g1,p1,p2,ad,bC,aO,aF,aE,ct.cv]
  exact⟨by split<;>simp[ax],((kB.trans k1).trans k2).set (by omega),u2,rfl,Sl.setInt fG g1 jh rfl⟩
 ·have zn:(decide (a<0)==decide (b<0))=false:=by simpa using C4
  have AB:=fun w=>XV (w:=w) (Sl.ae hu kB) (Sl.ae hv kB) (by omega) (by omega)
  by_cases o8:b.natAbs<=a.natAbs
  ·have AG:0<=BL a.natAbs b.natAbs:=Yg1.2 o8
   simp[A.b190,o1,o2,o3,o4,ad,aO,aF,aG,zn]
   simp only[hB]
   simp[AB,AG,gx,gy,aO,ad,aF]
   refine aA (Ydl (Sl.ae hu kB) (Sl.ae hv kB) o8 (by omega)) ?_
   rintro v1 h1 n1 k1 q1
   have q2:=fV (a.natAbs-b.natAbs)
   have q3:=gk (a.natAbs-b.natAbs)
   have q4:=uC (Nat.sub_le a.natAbs b.natAbs)
   have ez:(if decide (a<0)=true then -((a.natAbs-b.natAbs:Nat):Int) else ((a.natAbs-b.natAbs:Nat):Int))=a+b:=by
    by_cases h1:a<0<;>by_cases h2:b<0<;>simp[h1,h2]at C4 ⊢<;>omega
   simp[]
   refine aA (xD (b:=decide (a<0)) (n:=a.natAbs-b.natAbs) q1 q2 (by rw[q3];try simp) (by omega)) ?_
   rintro v2 h2 n2 k2 cZ
   rw[ez]at cZ
   have sJ:=k1.le
   have kX:=k2.le
   have g1:=(k2.get (N+1+1) (by omega)).trans ((k1.get (N+1+1) (by omega)).trans gr)
   obtain⟨u2,rfl,fG⟩:=cZ
   have p1:=Sl.form fG |>.one
   have p2:=Sl.form fG |>.cells
   unfold V.one at p1
   unfold V.cells at p2
   simp[g1,p1,p2,ad,bC,aO,aF,aE,ct.cv]
   exact⟨by split<;>simp[ax],((kB.trans k1).trans k2).set (by omega),u2,rfl,Sl.setInt fG g1 jh rfl⟩
  ·have AG:¬0<=BL a.natAbs b.natAbs:=fun hc=>o8 (Yg1.1 hc)
   simp[A.b190,o1,o2,o3,o4,ad,aO,aF,aG,zn]
   simp only[hB]
   simp[AB,AG,gx,gy,aO,ad,aF]
   refine aA (Ydl (Sl.ae hv kB) (Sl.ae hu kB) (by omega) (by omega)) ?_
   rintro v1 h1 n1 k1 q1
   have q2:=fV (b.natAbs-a.natAbs)
   have q3:=gk (b.natAbs-a.natAbs)
   have q4:=uC (Nat.sub_le b.natAbs a.natAbs)
   have ez:(if decide (b<0)=true then -((b.natAbs-a.natAbs:Nat):Int) else ((b.natAbs-a.natAbs:Nat):Int))=a+b:=by
    by_cases h1:a<0<;>by_cases h2:b<0<;>simp[h1,h2]at C4 ⊢<;>omega
   simp[]
   refine aA (xD (b:=decide (b<0)) (n:=b.natAbs-a.natAbs) q1 q2 (by rw[q3];try simp) (by omega)) ?_
   rintro v2 h2 n2 k2 cZ
   rw[ez]at cZ
   have sJ:=k1.le
   have kX:=k2.le
   have g1:=(k2.get (N+1+1) (by omega)).trans ((k1.get (N+1+1) (by omega)).trans gr)
   obtain⟨u2,rfl,fG⟩:=cZ
   have p1:=Sl.form fG |>.one
   have p2:=Sl.form fG |>.cells
   unfold V.one at p1
   unfold V.cells at p2
   simp[g1,p1,p2,ad,bC,aO,aF,aE,ct.cv]
   exact⟨by split<;>simp[ax],((kB.trans k1).trans k2).set (by omega),u2,rfl,Sl.setInt fG g1 jh rfl⟩
end
end Go.Mx
