/-Decimal notations of integers and of fra-/
import Derived.Test.YtlfdeoomaccciaaGreatDoorRbA
set_option linter.all false
namespace Go.Mx
noncomputable section
open Go
variable {n:Nat}
def cZ(n:Nat):UInt8:=UInt8.ofNat (48+n%10)
def Hg(n:Nat):(cZ n).toNat=48+n%10:=by
 unfold cZ
 simp
 omega
def de(n:Nat):aM:=if h:n=0 then [] else de (n/10)++[cZ n]
termination_by n
decreasing_by omega
def tO:de 0=[]:=by unfold de;simp
def xB(h:n≠0):de n=de (n/10)++[cZ n]:=by
 conv=>lhs;unfold de
 rw[dif_neg h]
def ar(n:Nat):aM:=if n=0 then [48] else de n
def iA(n k:Nat):aM:=List.replicate (k-(de n).length) 48++de n
def aK(z:Int):aM:=if z<0 then 45::ar z.natAbs else ar z.natAbs
def aR(q:Rat):aM:=if q.den=1 then aK q.num else aK q.num++47::ar q.den
def Zsy:∀(n:Nat),aG (de n)=n:=by
 intro n
 induction n using Nat.strongRecOn with
 |_ n ih=>
  by_cases h:n=0
  ·subst h;rw[tO];rfl
  ·rw[xB h,La,ih (n/10) (by omega),Hg]
   omega
def Hh(n:Nat):aG (ar n)=n:=by
 unfold ar
 split
 ·subst_vars;rfl
 ·exact Zsy n
def Zt6{s:aM}{c:UInt8}:cE (s++[c])=(cE s&&ko c):=by simp[cE]
def Yjf(n:Nat):ko (cZ n)=true:=by
 unfold ko
 rw[Hg]
 simp
 omega
def Yfu:∀(n:Nat),cE (de n)=true:=by
 intro n
 induction n using Nat.strongRecOn with
 |_ n ih=>
  by_cases h:n=0
  ·subst h;rw[tO];rfl
  ·rw[xB h,Zt6,ih (n/10) (by omega),Yjf];rfl
def BH(n:Nat):cE (ar n)=true:=by
 unfold ar
 split
 ·rfl
 ·exact Yfu n
def pK:∀{k n:Nat},n<10^k↔(de n).length<=k
 |0,n=>by
  simp only[DY,Nat.lt_one_iff,Nat.le_zero,List.length_eq_zero_iff]
  constructor
  ·rintro rfl;exact tO
  ·intro h
   have:=Zsy n
   rw[h]at this
   exact this.symm
 |k+1,n=>by
  by_cases h:n=0
  ·subst h;rw[tO];simp;exact zX (by decide)
  ·rw[xB h,i_,zW,fZ]
   have:=pK (k:=k) (n:=n/10)
   rw[Nat.succ_le_succ_iff,<-this]
   exact(qc (by decide)).symm
def Xw:∀{n:Nat},n≠0->∃c t,de n=c::t/\c.toNat≠48:=by
 intro n
 induction n using Nat.strongRecOn with
 |_ n ih=>
  intro h
  rw[xB h]
  by_cases h0:n/10=0
  ·rw[h0,tO]
   refine⟨cZ n,[],rfl,?_⟩
   rw[Hg];omega
  ·obtain⟨c,t,e,hc⟩:=ih (n/10) (by omega) h0
   rw[e]
   exact⟨c,t++[cZ n],rfl,hc⟩
def JO(n:Nat):ar n≠[]:=by
 unfold ar
 split
 ·simp
 ·rename_i h
  obtain⟨c,t,e,_⟩:=Xw h
  rw[e];simp
def Yld{c:UInt8}(h:ko c=true){k:Nat}:cZ (10*k+(c.toNat-48))=c:=by
 unfold ko at h
 simp only[decide_eq_true_eq]at h
 apply UInt8.toNat_inj.1
 rw[Hg];omega
def Ye7:∀(t:aM) (c:UInt8),cE (c::t)=true->c.toNat≠48->de (aG (c::t))=c::t:=by
 intro t
 generalize hn:t.length=n
 induction n generalizing t with
 |zero=>
  intro c ha hc
  have:t=[]:=q8 hn
  subst this
  have hd:ko c=true:=by simpa[cE]using ha
  have:=Yld hd (k:=0)
  have h2:48<=c.toNat/\c.toNat<=57:=by simpa[ko]using hd
  have e:aG [c]=c.toNat-48:=by simp[aG]
  rw[e,xB (by omega),show (c.toNat-48)/10=0 by omega,tO]
  simp only[Nat.mul_zero,wX]at this
  rw[this];rfl
 |succ n ih=>
  intro c ha hc
  obtain⟨u,d,rfl⟩:∃u d,t=u++[d]:=⟨t.dropLast,t.getLast (by rintro rfl;simp at hn),(VY _).symm⟩
  simp at hn
  have Xx:cE (c::u)=true/\ko d=true:=by
   rw[<-Co,Zt6,iy]at ha
   exact ha
  have Xy:=ih u (by omega) c Xx.1 hc
  have h2:48<=d.toNat/\d.toNat<=57:=by simpa[ko]using Xx.2
  rw[<-Co,La]
  have ry:aG (c::u)≠0:=by
   intro h0
   rw[h0,tO]at Xy
   cases Xy
  rw[xB (by omega),show (10*aG (c::u)+(d.toNat-48))/10=aG (c::u) by omega,Xy,Yld Xx.2]
def BI{s:aM}(h:jc s=true):ar (aG s)=s:=by
 cases s with
 |nil=>cases h
 |cons c t=>
  have h:(cE (c::t)&&(decide (c.toNat≠48)||decide (t=[])))=true:=h
  rw[iy,Gj,decide_eq_true_eq,decide_eq_true_eq]at h
  obtain⟨ha,hc⟩:=h
  by_cases h48:c.toNat=48
  ·rcases hc with hc|hc
   ·exact absurd h48 hc
   ·subst hc
    have:c=48:=UInt8.toNat_inj.1 h48
    subst this;rfl
  ·have e:=Ye7 t c ha h48
   have:aG (c::t)≠0:=by
    intro h0
    rw[h0,tO]at e
    cases e
   unfold ar
   rw[ak this,e]
def Zx1{a b:Nat}(h:ar a=ar b):a=b:=by rw[<-Hh a,h,Hh]
def Zqb:∀{k a b:Nat},a≠0->b<10^k->de (a*10^k+b)=de a++iA b k:=by
 intro k
 induction k with
 |zero=>
  intro a b ha hb
  have:b=0:=by simpa using hb
  subst this
  simp[iA,tO]
 |succ k ih=>
  intro a b ha hb
  rw[fZ]at hb ⊢
  have rz:b/10<10^k:=(qc (by decide)).2 hb
  have hp:0<10^k:=zX (by decide)
  have ry:a*(10^k*10)+b≠0:=by
   have:=yF (Nat.pos_of_ne_zero ha) (yF hp (by decide:0<10));omega
  have e1:(a*(10^k*10)+b)/10=a*10^k+b/10:=by
   rw[<-D7,jk _ 10,Nat.mul_add_div (by decide)]
  have e2:cZ (a*(10^k*10)+b)=cZ b:=by
   apply UInt8.toNat_inj.1
   rw[Hg,Hg,<-D7,jk _ 10,Nat.mul_add_mod]
  rw[xB ry,e1,ih ha rz,e2,tv]
  congr 1
  by_cases lS:b=0
  ·subst lS
   unfold iA
   rw[Nat.zero_div,tO]
   simp only[List.length_nil,Nat.sub_zero,zy]
   rw[List.replicate_succ']
   rfl
  ·unfold iA
   rw[xB lS,i_,zW,<-tv]
   rw[show k+1-((de (b/10)).length+1)=k-(de (b/10)).length by omega]
def Yjj{b k:Nat}(h:b<10^k):(iA b k).length=k:=by
 have:=pK.1 h
 simp[iA];omega
def Mc(b:Nat):iA b 1=ar b:=by
 unfold iA ar
 split
 ·subst_vars;rw[tO];rfl
 ·rename_i h
  obtain⟨c,t,e,_⟩:=Xw h
  rw[e]
  simp
def Ztx(h:n≠0):0<(de n).length:=by
 obtain⟨c,t,e,_⟩:=Xw h
 rw[e];simp
def PQ{k:Nat}(hk:0<k):(ar n).length<=k↔n<10^k:=by
 unfold ar
 split
 ·subst_vars
  simp
  exact⟨fun _=>zX (by decide),fun _=>hk⟩
 ·exact pK.symm
def Zqa{n:Nat}:∃c t,ar n=c::t/\48<=c.toNat/\c.toNat<=57:=by
 have h:=BH n
 cases hs:ar n with
 |nil=>exact absurd hs (JO n)
 |cons c t=>
  rw[hs]at h
  have:ko c=true:=by
   simp[cE]at h;exact h.1
  exact⟨c,t,rfl,by simpa[ko]using this⟩
variable {s:aM}
def Xz:∀{s t:aM},(∀c∈s,c.toNat≠47)->ah (s++47::t)=s.length
 |[],t,_=>rfl
 |c::s,t,h=>by
  have h1:=h c nR
  have:=Xz (s:=s) (t:=t) fun d hd=>h d (nS _ hd)
  simp[ah,h1,this]
def XA:∀{s:aM},(∀c∈s,c.toNat≠47)->ah s=s.length
 |[],_=>rfl
 |c::s,h=>by
  have h1:=h c nR
  have:=XA (s:=s) fun d hd=>h d (nS _ hd)
  simp[ah,h1,this]
def Znc:∀{s:aM},ah s<s.length->s.drop (ah s)=47::s.drop (ah s+1)
 |[],h=>by simp[ah]at h
 |c::s,h=>by
  by_cases hc:c.toNat=47
  ·have:c=47:=UInt8.toNat_inj.1 hc
   subst this
   simp[ah]
  ·simp only[ah,hc,if_false,bp]at h ⊢
   have:=Znc (s:=s) (by omega)
   simpa using this
def QP(h:cE s=true):∀c∈s,c.toNat≠47:=by
 intro c hc
 unfold cE at h
 rw[l7]at h
 have:=h c hc
 unfold ko at this
 simp only[decide_eq_true_eq]at this
 omega
def Ye5(z:Int):∀c∈aK z,c.toNat≠47:=by
 unfold aK
 split
 ·intro c hc
  rcases kv.1 hc with rfl|hc
  ·decide
  ·exact QP (BH _) c hc
 ·exact QP (BH _)
def Yc7(n:Nat):cF (ar n)=false:=by
 obtain⟨c,t,e,h1,h2⟩:=Zqa (n:=n)
 rw[e]
 simp[cF];omega
def Md(z:Int):cF (aK z)=decide (z<0):=by
 unfold aK
 split
 ·rename_i h;simp[cF,h]
 ·rename_i h;rw[Yc7];simp[h]
def JP(z:Int):bn (aK z)=ar z.natAbs:=by
 unfold bn
 rw[Md]
 by_cases h:z<0
 ·simp[h,aK]
 ·simp[h,aK]
def JQ(q:Rat):ah (aR q)=(aK q.num).length:=by
 unfold aR
 split
 ·exact XA (Ye5 _)
 ·exact Xz (Ye5 _)
def Me(q:Rat):(aR q).take (ah (aR q))=aK q.num:=by
 rw[JQ]
 unfold aR
 split
 ·simp
 ·simp
def Mf(q:Rat)(h:q.den≠1):(aR q).drop (ah (aR q)+1)=ar q.den:=by
 rw[JQ]
 unfold aR
 rw[ak h,<-List.drop_drop]
 simp
def CZ(q:Rat):ah (aR q)<(aR q).length↔q.den≠1:=by
 rw[JQ]
 unfold aR
 split
 ·rename_i h;simp[h]
 ·rename_i h;simp[h]
def Yjl{a b:Int}(h:aK a=aK b):a=b:=by
 have h1:=congrArg cF h
 have h2:=congrArg bn h
 rw[Md,Md,decide_eq_decide]at h1
 rw[JP,JP]at h2
 have h3:=Zx1 h2
 omega
def Ygh{a b:Rat}(h:aR a=aR b):a=b:=by
 have h1:=Me a
 rw[h,Me b]at h1
 have h2:=Yjl h1
 have h3:a.den=b.den:=by
  by_cases ha:a.den=1
  ·have:=mt (CZ a).1 (fun hc=>hc ha)
   rw[h]at this
   rw[CZ]at this
   rw[ha];exact(Decidable.not_not.1 this).symm
  ·have:=(CZ a).2 ha
   rw[h]at this
   have hb:=(CZ b).1 this
   have e:=Mf a ha
   rw[h,Mf b hb]at e
   exact(Zx1 e).symm
 exact Rat.ext h2.symm h3
def fw(s:aM):Rat:=mkRat (if cF s then -(aG ((bn s).take (ah (bn s))):Int) else aG ((bn s).take (ah (bn s)))) (if ah (bn s)<(bn s).length then aG ((bn s).drop (ah (bn s)+1)) else 1)
def Yjv(h:bf s=0):gw (cF s) ((bn s).take (ah (bn s))) (decide (ah (bn s)<(bn s).length)) ((bn s).drop (ah (bn s)+1))=true/\((bn s).take (ah (bn s))).length<=600/\((bn s).drop (ah (bn s)+1)).length<=600/\(ah (bn s)<(bn s).length->Nat.gcd (aG ((bn s).take (ah (bn s)))) (aG ((bn s).drop (ah (bn s)+1)))=1):=by
 unfold bf JR ks at h
 split at h
 ·cases h
 ·rename_i h1
  split at h
  ·cases h
  ·rename_i h2
   split at h
   ·cases h
   ·rename_i h3
    refine⟨by simpa using h1,by omega,by omega,fun hs=>?_⟩
    rw[decide_eq_true hs]at h3
    simpa using h3
def Zs6{n:Int}{d:Nat}(hd:d≠0)(h:Nat.gcd n.natAbs d=1):(mkRat n d).num=n/\(mkRat n d).den=d:=by
 have:mkRat n d=⟨n,d,hd,h⟩:=by
  rw[Rat.mkRat_def,dif_neg hd]
  exact Rat.normalize_eq_mk' _ _ hd h
 rw[this]
 exact⟨rfl,rfl⟩
def Ya3(s:aM):s=(if cF s then [45] else [])++bn s:=by
 cases s with
 |nil=>rfl
 |cons c t=>
  unfold bn
  by_cases hc:c.toNat=45
  ·have:c=45:=UInt8.toNat_inj.1 hc
   subst this
   simp[cF]
  ·simp[cF,hc]
def FR(h:bf s=0):aR (fw s)=s/\(ar (fw s).num.natAbs).length<=600/\(ar (fw s).den).length<=600:=by
 obtain⟨h1,h2,h3,h4⟩:=Yjv h
 have hle:=EK (bn s)
 unfold gw at h1
 simp only[iy,Gi,Gj,decide_eq_true_eq]at h1
 obtain⟨⟨hp,hz⟩,hd⟩:=h1
 have C0:cF s=true->aG ((bn s).take (ah (bn s)))≠0:=by
  intro hn h0
  rw[hn,Bool.true_and,decide_eq_false_iff_not]at hz
  apply hz
  have:=BI hp
  rw[h0]at this
  exact this.symm
 have iH:(ar (aG ((bn s).take (ah (bn s))))).length<=600:=by
  rw[BI hp];exact h2
 have hb:=Ya3 s
 by_cases hs:ah (bn s)<(bn s).length
 ·have hd:jc ((bn s).drop (ah (bn s)+1))=true/\(bn s).drop (ah (bn s)+1)≠[48]/\(bn s).drop (ah (bn s)+1)≠[49]:=by
   rcases hd with hd|⟨⟨a,b⟩,c⟩
   ·exact absurd hs (by simpa using hd)
   ·exact⟨a,b,c⟩
  have hg:=h4 hs
  have nT:aG ((bn s).drop (ah (bn s)+1))≠0:=by
   intro h0
   have:=BI hd.1
   rw[h0]at this
   exact hd.2.1 this.symm
  have tG:aG ((bn s).drop (ah (bn s)+1))≠1:=by
   intro h0
   have:=BI hd.1
   rw[h0]at this
   exact hd.2.2 (this.symm.trans (by decide+kernel))
  have iw:(ar (aG ((bn s).drop (ah (bn s)+1)))).length<=600:=by
   rw[BI hd.1];exact h3
  have hv:fw s=mkRat (if cF s then -(aG ((bn s).take (ah (bn s))):Int) else aG ((bn s).take (ah (bn s)))) (aG ((bn s).drop (ah (bn s)+1))):=by
   unfold fw;rw[ay hs]
  obtain⟨e1,e2⟩:=Zs6 (n:=if cF s then -(aG ((bn s).take (ah (bn s))):Int) else aG ((bn s).take (ah (bn s)))) nT (by split<;>simpa using hg)
  rw[<-hv]at e1 e2
  have Mg:bn s=(bn s).take (ah (bn s))++47::(bn s).drop (ah (bn s)+1):=by
   conv=>lhs;rw[<-Cl (ah (bn s)) (bn s)]
   rw[Znc hs]
  refine⟨?_,?_,by rw[e2];exact iw⟩
  ·unfold aR
   rw[e2,ak tG,BI hd.1,e1]
   conv=>rhs;rw[hb,Mg]
   unfold aK
   cases hn:cF s with
   |false=>
    simp only[fI,if_false]
    rw[ak (by omega),dC,BI hp];rfl
   |true=>
    have:=C0 hn
    simp only[if_true]
    rw[ay (by omega),Bc,dC,BI hp];rfl
  ·rw[e1]
   split<;>simpa using iH
 ·have hv:fw s=mkRat (if cF s then -(aG ((bn s).take (ah (bn s))):Int) else aG ((bn s).take (ah (bn s)))) 1:=by
   unfold fw;rw[ak hs]
  obtain⟨e1,e2⟩:=Zs6 (n:=if cF s then -(aG ((bn s).take (ah (bn s))):Int) else aG ((bn s).take (ah (bn s)))) (show (1:Nat)≠0 by decide) (Nat.gcd_one_right _)
  rw[<-hv]at e1 e2
  have ht:(bn s).take (ah (bn s))=bn s:=eZ (by omega)
  rw[ht]at e1 hp C0 iH
  refine⟨?_,?_,by rw[e2];decide+kernel⟩
  ·unfold aR
   rw[e2,ay rfl,e1]
   conv=>rhs;rw[hb]
   unfold aK
   cases hn:cF s with
   |false=>
    simp only[fI,if_false]
    rw[ak (by omega),dC,BI hp];rfl
   |true=>
    have:=C0 hn
    simp only[if_true]
    rw[ay (by omega),Bc,dC,BI hp];rfl
  ·rw[e1]
   split<;>simpa using iH
def Zt2(q:Rat):bn (aR q)=if q.den=1 then ar q.num.natAbs else ar q.num.natAbs++47::ar q.den:=by
 have er:∀t:aM,cF (aK q.num++t)=decide (q.num<0):=by
  intro t
  rw[<-Md]
  have:aK q.num≠[]:=by
   unfold aK;split
   ·simp
   ·exact JO _
  cases h:aK q.num with
  |nil=>exact absurd h this
  |cons c u=>rfl
 have hb:∀t:aM,bn (aK q.num++t)=ar q.num.natAbs++t:=by
  intro t
  unfold bn
  rw[er]
  by_cases h:q.num<0
  ·simp[h,aK]
  ·simp[h,aK]
 unfold aR
 split
 ·have:=hb [];simpa using this
 ·exact hb _
def BJ(q:Rat):Bool:=decide (600<(ar q.num.natAbs).length\/600<(ar q.den).length)
def PR:ar 1=[49]:=by decide+kernel
variable {i j k n:Nat}
def QQ:∀{i n:Nat},i<(ds n).length->(ds n)[i]?=some ((n/1000000000^i%1000000000:Nat):Int)
 |i,n,h=>by
  by_cases hn:n=0
  ·rw[hn,tB]at h;simp at h
  ·rw[Ae hn]at h ⊢
   cases i with
   |zero=>simp
   |succ i=>
    rw[DZ,QQ (by simpa using h),Gk,fZ,jk]
def Yk9(h:i<(ds n).length):n/1000000000^i≠0:=by
 intro hc
 have h1:n<1000000000^i:=(Nat.div_eq_zero_iff_lt (zX (by decide))).1 hc
 have:=Jv h1
 omega
def Ye3(h:i+1<(ds n).length):ar (n/1000000000^i)=ar (n/1000000000^(i+1))++iA (n/1000000000^i%1000000000) 9:=by
 have h0:=Yk9 (i:=i) (n:=n) (by omega)
 have h1:=Yk9 (i:=i+1) (n:=n) h
 have e:n/1000000000^(i+1)=n/1000000000^i/1000000000:=by rw[fZ,Gk]
 rw[e]at h1 ⊢
 generalize n/1000000000^i=x at*
 unfold ar
 rw[ak h0,ak h1]
 have:=Zqb (k:=9) (a:=x/1000000000) (b:=x%1000000000) h1 (by omega)
 rw[show (10:Nat)^9=1000000000 by decide]at this
 rw[<-this]
 congr 1
 omega
def Yjk(h:i+1=(ds n).length):ar (n/1000000000^i)=iA (n/1000000000^i%1000000000) 1:=by
 have h1:n<1000000000^(i+1):=by
  have h2:=vG (fY n)
  rw[gm,<-h]at h2
  unfold pI at h2
  have h3:(1000000000:Int)^(i+1)=((1000000000^(i+1):Nat):Int):=by rw[Int.natCast_pow];rfl
  rw[h3]at h2
  exact Int.ofNat_lt.1 h2
 rw[fZ]at h1
 have h3:n/1000000000^i<1000000000:=Nat.div_lt_of_lt_mul h1
 rw[yk h3,Mc]
def Qb(k:Nat)(q:Rat):Prop:=q.num.natAbs<2^k/\q.den<2^k
def Mh(h:j<=k):2^j<=2^k:=qz (by decide) h
def Qb.mono{q:Rat}(h:Qb j q)(hk:j<=k):Qb k q:=⟨eY h.1 (Mh hk),eY h.2 (Mh hk)⟩
def UC{a b:Int}(hb:b≠0)(h1:a.natAbs<2^k)(h2:b.natAbs<2^k):Qb k (Rat.divInt a b):=by
 constructor
 ·rw[Rat.num_divInt]
  refine qx ?_ h1
  rw[Int.natAbs_ediv_of_dvd]
  ·rw[uO]
   have:b.sign.natAbs=1:=by rw[Int.natAbs_sign,ak hb]
   rw[this,Nat.one_mul]
   exact vu _ _
  ·exact Int.dvd_trans (Int.gcd_dvd_right ..) (Int.dvd_mul_left ..)
 ·rw[Rat.den_divInt,ak hb]
  exact qx (vu _ _) h2
def Qb.mul{p q:Rat}(hp:Qb j p)(hq:Qb k q):Qb (j+k) (p*q):=by
 have tu:((p.den:Nat):Int)≠0:=by have:=p.den_nz;omega
 have pj:((q.den:Nat):Int)≠0:=by have:=q.den_nz;omega
 rw[<-BZ p,<-BZ q,Rat.divInt_mul_divInt]
 refine UC (Jg tu pj) ?_ ?_
 ·rw[uO,kf]
  exact A3 hp.1 hq.1
 ·rw[uO,kf,dC,dC]
  exact A3 hp.2 hq.2
def Qb.add{p q:Rat}(hp:Qb j p)(hq:Qb k q):Qb (j+k+1) (p+q):=by
 have tu:((p.den:Nat):Int)≠0:=by have:=p.den_nz;omega
 have pj:((q.den:Nat):Int)≠0:=by have:=q.den_nz;omega
 rw[<-BZ p,<-BZ q,Rat.divInt_add_divInt _ _ tu pj]
 have e:2^(j+k+1)=2^j*2^k+2^k*2^j:=by rw[fZ,kf,jk (2^k)];omega
 refine UC (Jg tu pj) ?_ ?_
 ·refine qx (Int.natAbs_add_le ..) ?_
  rw[uO,uO,dC,dC,e]
  exact Nat.add_lt_add (A3 hp.1 hq.2) (A3 hq.1 hp.2)
 ·rw[uO,dC,dC,e]
  exact eY (A3 hp.2 hq.2) (Nat.le_add_right _ _)
def Qb.int{z:Int}(h:z.natAbs<2^k)(hk:0<k):Qb k (z:Rat):=by
 refine⟨by simpa using h,?_⟩
 rw[Rat.den_intCast]
 exact eY (by decide) (Mh (j:=1) hk)
def uH(h:n<2^k):(ds n).length<=k:=Jv (eY h (Gl (by decide) k))
def Mi(h:n<2^k):(de n).length<=k:=pK.1 (eY h (Gl (by decide) k))
def EL(h:n<2^k):(ar n).length<=k+1:=by
 have:=Mi h
 unfold ar
 split<;>simp<;>omega
def Hi{z:Int}(h:z.natAbs<2^k):(aK z).length<=k+2:=by
 have:=EL h
 unfold aK
 split<;>simp<;>omega
def Yks(k:Nat):10^k<=2^(4*k):=by
 rw[Nat.pow_mul];exact Gl (by decide) k
def Va{s:aM}(h:bf s=0)(hn:s.length<=n):Qb (4*n+4) (fw s):=by
 obtain⟨e,_,_⟩:=FR h
 have hb:=Zt2 (fw s)
 have l1:(bn (aR (fw s))).length<=n:=by
  rw[e];unfold bn;split
  ·simp;omega
  ·exact hn
 rw[hb]at l1
 have g:∀m:Nat,(ar m).length<=n+1->m<2^(4*n+4):=fun m hm=>by
  have:=(PQ (n:=m) (k:=n+1) (by omega)).1 hm
  exact eY this (by have:=Yks (n+1);rw[tA]at this;exact this)
 split at l1
 ·rename_i h1
  have h2:(ar 1).length=1:=by rw[PR];rfl
  exact⟨g _ (by omega),by rw[h1];exact g 1 (by omega)⟩
 ·simp at l1
  exact⟨g _ (by omega),g _ (by omega)⟩
open Go Go.Proofs
set_option maxRecDepth 1000000
def A.b245:=A.q Tryz.f245
def A.k245:=@A.kk 245 13 [.tmp 4] A.b245 (by kernel_rfl) rfl
def A.Mj:=A.q Tryz.f208
def A.jP:=A.ql A.Mj 0 []
def A.b208:=(fun x0=>A.qb A.Mj [x0]) A.jP
def A.k208:=@A.kk 208 42 [.tmp 4] A.b208 (by kernel_rfl) rfl
def A.Mk:=A.q Tryz.f210
def A.mV:=A.ql A.Mk 0 []
def A.b210:=(fun x0=>A.qb A.Mk [x0]) A.mV
def A.k210:=@A.kk 210 35 [.tmp 4] A.b210 (by kernel_rfl) rfl
def XB{h:T O}{N:Nat}{v:V}{l:List Int}{i:Nat}{w:List Nat}(hs:Sl h N v (dI l))(hi:i<4611686018427387904)(hl:l.length<4611686018427387904):A.C.call (.func 245 [] []) [v,.int .i64 i] ⟨h,N,w⟩=some (.int .i64 (zI l i),⟨h,N,w⟩):=by
 apply Call.eq
 have hlen:=hs.len
 rw[ib]at hlen
 rw[aN,A.k245 (by simp)]
 by_cases hc:i<l.length
 ·have LJ:(i:Int)<(l.length:Int):=by omega
  obtain⟨d,hd⟩:=bh hc
  obtain⟨j,o,c,e,rw,q1,q2,q3,q4⟩:=hs.at (ic hd)
  simp[A.b245,hlen,hc,LJ,q1,q3,q4,Yls hd]
 ·have LJ:¬(i:Int)<(l.length:Int):=by omega
  simp[A.b245,hlen,hc,LJ,Wb (yY hc)]
structure AdI (h:T O) (N:Nat) (la lb:List Int) (m:Nat) (r:T V) (st:St):Prop where
 w:av N st.w=[]
 ae:ab h N st.h st.n
 ex:∃k c out D,k+m=max la.length lb.length+1/\r.get 7=some (.int .i64 k)/\r.get 6=some (.int .i64 c)/\r.get 5=some out/\0<=c/\c<=1/\(m=0->c=0)/\Own 1 3 N st.h st.n out (pH D)/\D.length=k/\Di D/\vI D+pI k*c=vI (la.take k)+vI (lb.take k)
def QR{l:List Int}{k:Nat}(h:l.length<=k):l.take k=l:=eZ h
def Ym0{h:T O}{N:Nat}{u v:V}{la lb:List Int}(hu:Sl h N u (dI la))(hv:Sl h N v (dI lb))(da:Di la)(db:Di lb)(l1:la.length<1099511627776)(l2:lb.length<1099511627776):Fn A.C 208 [u,v] h N (fun x h' n'=>∃l,Sl h' n' x (dI l)/\Di l/\vI l=vI la+vI lb/\l.length<=max la.length lb.length+1):=by
 intro w
 have lu:=hu.len
 have lv:=hv.len
 rw[ib]at lu lv
 rw[aN,A.k208 (by simp)]
 simp[A.b208]
 refine bG [(5,40)] (fun e r st=>e=.exit 0/\av N st.w=[]/\ab h N st.h st.n/\∃out D,r.get 5=some out/\Own 1 3 N st.h st.n out (pH D)/\Di D/\vI D=vI la+vI lb/\D.length<=max la.length lb.length+1) (AdI h N la lb) (max la.length lb.length+1) ?_ ?_ ?_
 ·exact⟨by simp,ab.refl,0,0,.aa,[],by omega,by simp,by simp,by simp,by omega,by omega,fun _=>rfl,Own.nil,rfl,Di.nil,by simp[vI]⟩
 ·rintro m r ⟨H,n1,W⟩ hr hf ⟨hW,hK,k,c,out,D,hk,h7,h6,h5,c0,c1,cz,ho,hD,dD,my⟩
  simp only at hW hK ho
  rw[bk]
  by_cases tM:k<la.length\/k<lb.length\/0<c
  ·obtain⟨m',rfl⟩:∃m',m=m'+1:=⟨m-1,by
    have:m≠0:=fun hm=>by have:=cz hm;omega
    omega⟩
   have dx:=Wc da k
   have dy:=Wc db k
   have e1:=fun w=>XB (w:=w) (i:=k) (hu.ae hK) (by omega) (by omega)
   have e2:=fun w=>XB (w:=w) (i:=k) (hv.ae hK) (by omega) (by omega)
   obtain⟨x,hx⟩:∃x,zI la k=x:=⟨_,rfl⟩
   obtain⟨y,hy⟩:∃y,zI lb k=y:=⟨_,rfl⟩
   rw[hx]at dx e1
   rw[hy]at dy e2
   have t1:(x+y+c).tmod 1000000000=(x+y+c)%1000000000:=D5 (by omega)
   have t2:(x+y+c).tdiv 1000000000=(x+y+c)/1000000000:=Bl (by omega)
   have t3:bl .i64 (x+y)=x+y:=cA (by omega) (by omega)
   have t4:bl .i64 (x+y+c)=x+y+c:=cA (by omega) (by omega)
   have t5:bl .i64 ((x+y+c)/1000000000)=(x+y+c)/1000000000:=cA (by omega) (by omega)
   have oM:vI (D++[(x+y+c)%1000000000])+pI (k+1)*((x+y+c)/1000000000)=vI (la.take (k+1))+vI (lb.take (k+1)):=by
    rw[CF,hD,Wd,Wd,hx,hy,vE]
    have hm:=D8 (x+y+c) 1000000000
    generalize (x+y+c)/1000000000=Q at*
    generalize (x+y+c)%1000000000=R at*
    have:R=x+y+c-1000000000*Q:=by omega
    subst this
    grind
   have hz:m'=0->(x+y+c)/1000000000=0:=fun hm=>by
    have:x=0:=by rw[<-hx];exact Wb (by omega)
    have:y=0:=by rw[<-hy];exact Wb (by omega)
    omega
   have yi:=ho.ae (ab.refl.new (.cells [.int .i64 ((x+y+c)%1000000000)] 3 true))
   obtain⟨v',h',w',f1,f2,f3,_,f5⟩:=tP (x:=[.int .i64 ((x+y+c)%1000000000)]) (u:=.slice n1 0 1 (some 1) 1) (bytes:=8) (w:=W) yi (by have:=hK.le;omega) (by decide) rfl (by simp[eA,St.row,aD]) (by simp[pH];omega)
   rw[<-Ek]at f5
   have f6:av N w'=[]:=by rw[f2];exact hW
   have kz:=(hK.new (.cells [.int .i64 ((x+y+c)%1000000000)] 3 true)).then f3
   have Hj:k<la.length\/(¬k<la.length/\k<lb.length)\/(¬k<la.length/\¬k<lb.length/\0<c):=by omega
   rcases Hj with g1|⟨g1,g2⟩|⟨g1,g2,g3⟩
   ·have i1:(k:Int)<(la.length:Int):=by omega
    simp[A.jP,hr,hf,h7,h6,h5,lu,lv,g1,i1,e1,e2,t1,t2,t3,t4,t5,ad]
    simp(disch:=first|(simp;done)|omega|rfl) [f1,f6,hr,hf,h7]
    exact⟨m',by omega,⟨f6,kz,k+1,(x+y+c)/1000000000,v',D++[(x+y+c)%1000000000],by omega,by simp,by simp[t2],by simp,by omega,by omega,hz,f5,by simp[hD],dD.app (Di.one (by omega) (by omega)),oM⟩⟩
   ·have i1:¬(k:Int)<(la.length:Int):=by omega
    have i2:(k:Int)<(lb.length:Int):=by omega
    simp[A.jP,hr,hf,h7,h6,h5,lu,lv,g1,g2,i1,i2,e1,e2,t1,t2,t3,t4,t5,ad]
    simp(disch:=first|(simp;done)|omega|rfl) [f1,f6,hr,hf,h7]
    exact⟨m',by omega,⟨f6,kz,k+1,(x+y+c)/1000000000,v',D++[(x+y+c)%1000000000],by omega,by simp,by simp[t2],by simp,by omega,by omega,hz,f5,by simp[hD],dD.app (Di.one (by omega) (by omega)),oM⟩⟩
   ·have i1:¬(k:Int)<(la.length:Int):=by omega
    have i2:¬(k:Int)<(lb.length:Int):=by omega
    simp[A.jP,hr,hf,h7,h6,h5,lu,lv,g1,g2,g3,i1,i2,e1,e2,t1,t2,t3,t4,t5,ad]
    simp(disch:=first|(simp;done)|omega|rfl) [f1,f6,hr,hf,h7]
    exact⟨m',by omega,⟨f6,kz,k+1,(x+y+c)/1000000000,v',D++[(x+y+c)%1000000000],by omega,by simp,by simp[t2],by simp,by omega,by omega,hz,f5,by simp[hD],dD.app (Di.one (by omega) (by omega)),oM⟩⟩
  ·obtain⟨g1,g2,g3⟩:¬k<la.length/\¬k<lb.length/\¬0<c:=by omega
   have i1:¬(k:Int)<(la.length:Int):=by omega
   have i2:¬(k:Int)<(lb.length:Int):=by omega
   obtain rfl:c=0:=by omega
   rw[QR (by omega),QR (by omega),Int.mul_zero,Int.add_zero]at my
   simp[A.jP,hr,hf,h7,h6,lu,lv,g1,g2,i1,i2,hW,hK]
   exact⟨out,h5,D,ho,dD,my,by omega⟩
 ·rintro _ r ⟨H,n1,W⟩ hr ⟨rfl,hW,hK,out,D,h5,ho,dD,my,hl⟩
  simp only at hW hK ho
  simp[hr,h5,aA,hW,hK]
  exact⟨D,ho.sl,dD,my,hl⟩
variable {N:Nat} {h:T O}
def A.b137:=A.q Tryz.f137
def A.k137:=@A.kk 137 40 [.cell 4 (some 2)] A.b137 (by kernel_rfl) rfl
def A.b205:=A.q Tryz.f205
def A.k205:=@A.kk 205 9 [.cell 2 (some 2)] A.b205 (by kernel_rfl) rfl
def A.b138:=A.q Tryz.f138
def A.k138:=@A.kk 138 16 [.cell 4 (some 2)] A.b138 (by kernel_rfl) rfl
def QS(k:Nat):pI k=((1000000000^k:Nat):Int):=by unfold pI;simp
def Rg.ae{h':T O}{N':Nat}{v:V}{z:Int}(s:Rg h N v z)(k:ab h N h' N'):Rg h' N' v z:=by
 obtain⟨u,h1,h2⟩:=s
 exact⟨u,h1,h2.ae k⟩
def jo:∀x∈[V.bool false,V.aa],∀k m,x≠.int k m:=by intro x hx k m;simp at hx;rcases hx with rfl|rfl<;>simp
def Yrd{b:Bool}{u:V}(hu:GN u):∀x∈[V.bool b,u],∀k m,x≠.int k m:=by
 intro x hx k m
 simp at hx
 rcases hx with rfl|rfl
 ·simp
 ·rcases hu with rfl|rfl|⟨_,_,_,_,_,rfl⟩<;>simp
def Yat(a b:Nat):(ds (a*b)).length<=(ds a).length+(ds b).length:=by
 refine Jv ?_
 have h1:=vG (fY a)
 have h2:=vG (fY b)
 rw[gm]at h1 h2
 rw[QS]at h1 h2
 rw[kf]
 exact A3 (Int.ofNat_lt.1 h1) (Int.ofNat_lt.1 h2)
def Zxe{v:V}{z:Int}(hs:Rg h N v z)(hl:(ds z.natAbs).length<1099511627776):Fn A.C 205 [v] h N (fun u h' n'=>Rg h' n' u (-z)):=by
 intro w
 obtain⟨u,rfl,hu⟩:=hs
 have o1:=Sl.form hu |>.one
 have o2:=Sl.form hu |>.cells
 unfold V.one at o1
 unfold V.cells at o2
 have kB:=(((ab.refl (h:=h) (n:=N)).new (.cells [.bool (decide (z<0)),u] 146 true)).new (.cells [.bool false,.aa] 146 true))
 rw[aN,A.k205 (by simp)]
 simp[A.b205,o1,o2,ad,aO,aD]
 refine aB (xC (b:=!decide (z<0)) (n:=z.natAbs) (Sl.ae hu kB) (fY _) (gm _) (by omega)) ?_
 rintro v2 h2 n2 k2 hv
 have xD:=k2.le
 have g1:=(k2.get (N+1) (by omega))
 rw[T.ag,ay rfl]at g1
 have kk:=kB.trans k2
 have ez:(if (!decide (z<0))=true then -((z.natAbs:Nat):Int) else ((z.natAbs:Nat):Int))= -z:=by
  by_cases h0:z<0<;>simp[h0]<;>omega
 rw[ez]at hv
 obtain⟨u2,rfl,fm⟩:=hv
 have p1:=Sl.form fm |>.one
 have p2:=Sl.form fm |>.cells
 unfold V.one at p1
 unfold V.cells at p2
 simp[g1,p1,p2,ad,bD,aO,aD,aA]
 exact⟨kk.set (by omega),u2,by simp,Sl.setInt fm g1 jo rfl⟩
def Ymh(a b:Int):(if (!(decide (a<0)==decide (b<0)))=true then -((a.natAbs*b.natAbs:Nat):Int) else ((a.natAbs*b.natAbs:Nat):Int))=a*b:=by
 have h0:((a.natAbs*b.natAbs:Nat):Int)=(a.natAbs:Int)*(b.natAbs:Int):=by simp
 rw[h0]
 by_cases h1:a<0<;>by_cases h2:b<0
 ·have ha:(a.natAbs:Int)= -a:=by omega
  have hb:(b.natAbs:Int)= -b:=by omega
  rw[ha,hb];simp[h1,h2,Int.neg_mul,Int.mul_neg]
 ·have ha:(a.natAbs:Int)= -a:=by omega
  have hb:(b.natAbs:Int)=b:=by omega
  rw[ha,hb];simp[h1,h2,Int.neg_mul]
 ·have ha:(a.natAbs:Int)=a:=by omega
  have hb:(b.natAbs:Int)= -b:=by omega
  rw[ha,hb];simp[h1,h2,Int.mul_neg]
 ·have ha:(a.natAbs:Int)=a:=by omega
  have hb:(b.natAbs:Int)=b:=by omega
  rw[ha,hb];simp[h1,h2]
def Ml{x y:V}{a b:Int}(hx:Rg h N x a)(hy:Rg h N y b)(l1:(ds a.natAbs).length<500000000000)(l2:(ds b.natAbs).length<500000000000):Fn A.C 138 [x,y] h N (fun u h' n'=>Rg h' n' u (a*b)):=by
 intro w
 obtain⟨u,rfl,hu⟩:=hx
 obtain⟨v,rfl,hv⟩:=hy
 have o1:=Sl.form hu |>.one
 have o2:=Sl.form hu |>.cells
 have o3:=Sl.form hv |>.one
 have o4:=Sl.form hv |>.cells
 unfold V.one at o1 o3
 unfold V.cells at o2 o4
 have kB:=((((ab.refl (h:=h) (n:=N)).new (.cells [.bool (decide (a<0)),u] 146 true)).new (.cells [.bool (decide (b<0)),v] 146 true)).new (.cells [.bool false,.aa] 146 true))
 rw[aN,A.k138 (by simp)]
 simp[A.b138,o1,o2,o3,o4,ad,aO,aD,aE]
 generalize hB:((h.set N (.cells [.bool (decide (a<0)),u] 146 true)).set (N+1) (.cells [.bool (decide (b<0)),v] 146 true)).set (N+1+1) (.cells [.bool false,.aa] 146 true)=HB at*
 have gr:HB.get (N+1+1)=some (.cells [.bool false,.aa] 146 true):=by rw[<-hB];simp
 refine aB (XC (Sl.ae hu kB) (Sl.ae hv kB) (fY _) (fY _) (gm _) (gm _) (by omega)) ?_
 rintro v1 h1 n1 k1 q1
 have CU:(ds (a.natAbs*b.natAbs)).length<1152921504606846976:=by
  have:=Yat a.natAbs b.natAbs;omega
 simp[]
 refine aB (xC (n:=a.natAbs*b.natAbs) q1 (fY _) (gm _) CU) ?_
 rintro v2 h2 n2 k2 dt
 have uT:=k1.le
 have kK:=k2.le
 have g1:=(k2.get (N+1+1) (by omega)).trans ((k1.get (N+1+1) (by omega)).trans gr)
 have ez:(if (!(decide (a<0)==decide (b<0)))=true then -((a.natAbs*b.natAbs:Nat):Int) else ((a.natAbs*b.natAbs:Nat):Int))=a*b:=Ymh a b
 rw[ez]at dt
 obtain⟨u2,rfl,fm⟩:=dt
 have p1:=Sl.form fm |>.one
 have p2:=Sl.form fm |>.cells
 unfold V.one at p1
 unfold V.cells at p2
 simp[g1,p1,p2,ad,bD,aO,aD,aA,ct.cv]
 exact⟨by split<;>simp[av],((kB.trans k1).trans k2).set (by omega),u2,rfl,Sl.setInt fm g1 jo rfl⟩
set_option maxHeartbeats 4000000
structure SuI (h:T O) (N:Nat) (la lb:List Int) (m:Nat) (r:T V) (st:St):Prop where
 w:av N st.w=[]
 ae:ab h N st.h st.n
 ex:∃k c out D,k+m=la.length/\r.get 7=some (.int .i64 k)/\r.get 6=some (.int .i64 c)/\r.get 5=some out/\0<=c/\c<=1/\Own 1 3 N st.h st.n out (pH D)/\D.length=k/\Di D/\vI D-pI k*c=vI (la.take k)-vI (lb.take k)
def Yce{h:T O}{N:Nat}{u v:V}{a b:Nat}(hu:Dn h N u a)(hv:Dn h N v b)(fU:b<=a)(l1:(ds a).length<1099511627776):Fn A.C 210 [u,v] h N (fun x h' n'=>Dn h' n' x (a-b)):=by
 intro w
 have l2:=uI fU
 have da:=fY a
 have db:=fY b
 have va:=gm a
 have vb:=gm b
 have lu:=Sl.len hu
 have lv:=Sl.len hv
 rw[ib]at lu lv
 have hu:Sl h N u (dI (ds a)):=hu
 have hv:Sl h N v (dI (ds b)):=hv
 generalize hA:ds a=la at*
 generalize hB:ds b=lb at*
 rw[aN,A.k210 (by simp)]
 simp[A.b210]
 refine bG [(5,32)] (fun e r st=>e=.exit 0/\SuI h N la lb 0 r st) (SuI h N la lb) la.length ?_ ?_ ?_
 ·exact⟨by simp,ab.refl,0,0,.aa,[],by omega,by simp,by simp,by simp,by omega,by omega,Own.nil,rfl,Di.nil,by simp[vI]⟩
 ·rintro m r ⟨H,n1,W⟩ hr hf ⟨hW,hK,k,c,out,D,hk,h7,h6,h5,c0,c1,ho,hD,dD,my⟩
  simp only at hW hK ho
  rw[bk]
  cases m with
  |zero=>
   obtain rfl:k=la.length:=by omega
   simp[A.mV,hr,hf,h7,lu]
   exact⟨hW,hK,la.length,c,out,D,by omega,by simp[h7],by simp[h6],by simp[h5],c0,c1,ho,hD,dD,my⟩
  |succ m=>
   have ax:k<la.length:=by omega
   have bL:(k:Int)<(la.length:Int):=by omega
   obtain⟨x,hx⟩:=bh ax
   have dx:=da.get hx
   have dy:=Wc db k
   obtain⟨i,o,cc,e,rw,q1,q2,q3,q4⟩:=(hu.ae hK).at (ic hx)
   have e2:=fun w=>XB (w:=w) (i:=k) (hv.ae hK) (by omega) (by omega)
   obtain⟨y,hy⟩:∃y,zI lb k=y:=⟨_,rfl⟩
   rw[hy]at dy e2
   have t3:bl .i64 (x-y)=x-y:=cA (by omega) (by omega)
   have t4:bl .i64 (x-y-c)=x-y-c:=cA (by omega) (by omega)
   have t5:bl .i64 (x-y-c+1000000000)=x-y-c+1000000000:=cA (by omega) (by omega)
   have hs:∀d c':Int,d-1000000000*c'=x-y-c->vI (D++[d])-pI (k+1)*c'=vI (la.take (k+1))-vI (lb.take (k+1)):=fun d c' he=>by
    rw[CF,hD,ze hx,Wd,hy,vE]
    have:d=x-y-c+1000000000*c':=by omega
    subst this
    grind
   have ap:∀d:Int,∃v' h' w',gJ ⟨H.set n1 (.cells [.int .i64 d] 3 true),n1+1,W⟩ 1 8 3 out (.slice n1 0 1 (some 1) 1)=some (v',⟨h',n1+1+1,w'⟩)/\av N w'=[]/\ab h N h' (n1+1+1)/\Own 1 3 N h' (n1+1+1) v' (pH (D++[d])):=fun d=>by
    have yi:=ho.ae (ab.refl.new (.cells [.int .i64 d] 3 true))
    obtain⟨v',h',w',f1,f2,f3,_,f5⟩:=tP (x:=[.int .i64 d]) (u:=.slice n1 0 1 (some 1) 1) (bytes:=8) (w:=W) yi (by have:=hK.le;omega) (by decide) rfl (by simp[eA,St.row,aD]) (by simp[pH];omega)
    rw[<-Ek]at f5
    exact⟨v',h',w',f1,by rw[f2];exact hW,(hK.new (.cells [.int .i64 d] 3 true)).then f3,f5⟩
   by_cases er:x-y-c<0
   ·obtain⟨v',h',w',f1,f2,f3,f5⟩:=ap (x-y-c+1000000000)
    simp[A.mV,hr,hf,h7,h6,h5,lu,bL,ax,q1,q2,q3,q4,e2,t3,t4,t5,er,ad,ct.cv]
    simp(disch:=first|(simp;done)|omega|rfl) [f1,hr,hf,h7]
    exact⟨m,by omega,⟨f2,f3,k+1,1,v',D++[x-y-c+1000000000],by omega,by simp,by simp,by simp,by omega,by omega,f5,by simp[hD],dD.app (Di.one (by omega) (by omega)),hs _ _ (by omega)⟩⟩
   ·obtain⟨v',h',w',f1,f2,f3,f5⟩:=ap (x-y-c)
    simp[A.mV,hr,hf,h7,h6,h5,lu,bL,ax,q1,q2,q3,q4,e2,t3,t4,er,ad,ct.cv]
    simp(disch:=first|(simp;done)|omega|rfl) [f1,hr,hf,h7]
    exact⟨m,by omega,⟨f2,f3,k+1,0,v',D++[x-y-c],by omega,by simp,by simp,by simp,by omega,by omega,f5,by simp[hD],dD.app (Di.one (by omega) (by omega)),hs _ _ (by omega)⟩⟩
 ·rintro _ r ⟨H,n1,W⟩ hr ⟨rfl,hW,hK,k,c,out,D,hk,h7,h6,h5,c0,c1,ho,hD,dD,my⟩
  simp only at hW hK ho
  obtain rfl:k=la.length:=by omega
  rw[QR (aQ _),QR (by omega),va,vb]at my
  have ax:=vG dD
  rw[hD]at ax
  have c2:c=0:=by
   apply Int.le_antisymm _ c0
   apply Ea
   intro hc
   have:c=1:=by omega
   subst this
   omega
  subst c2
  have hvD:vI D=((a-b:Nat):Int):=by omega
  simp[hr,h5]
  refine aB (Hk ho.sl (by omega)) ?_
  rintro v2 h2 n2 k2 q2
  rw[GM dD hvD]at q2
  simp[aA,hW]
  exact⟨hK.trans k2,q2⟩
def Yfg{a b:Nat}:(0<=BK a b)↔b<=a:=by unfold BK;split<;>(try split)<;>omega
def Ym6{h:T O}{N:Nat}{x y:V}{a b:Int}(hx:Rg h N x a)(hy:Rg h N y b)(l1:(ds a.natAbs).length<500000000000)(l2:(ds b.natAbs).length<500000000000):Fn A.C 137 [x,y] h N (fun u h' n'=>Rg h' n' u (a+b)):=by
 intro w
 obtain⟨u,rfl,hu⟩:=hx
 obtain⟨v,rfl,hv⟩:=hy
 have o1:=Sl.form hu |>.one
 have o2:=Sl.form hu |>.cells
 have o3:=Sl.form hv |>.one
 have o4:=Sl.form hv |>.cells
 unfold V.one at o1 o3
 unfold V.cells at o2 o4
 have kB:=((((ab.refl (h:=h) (n:=N)).new (.cells [.bool (decide (a<0)),u] 146 true)).new (.cells [.bool (decide (b<0)),v] 146 true)).new (.cells [.bool false,.aa] 146 true))
 rw[aN,A.k137 (by simp)]
 generalize hB:((h.set N (.cells [.bool (decide (a<0)),u] 146 true)).set (N+1) (.cells [.bool (decide (b<0)),v] 146 true)).set (N+1+1) (.cells [.bool false,.aa] 146 true)=HB at kB
 have gr:HB.get (N+1+1)=some (.cells [.bool false,.aa] 146 true):=by rw[<-hB];simp
 have gx:HB.get N=some (.cells [.bool (decide (a<0)),u] 146 true):=by rw[<-hB];simp
 have gy:HB.get (N+1)=some (.cells [.bool (decide (b<0)),v] 146 true):=by rw[<-hB];simp
 by_cases C1:decide (a<0)=decide (b<0)
 ·have zh:(decide (a<0)==decide (b<0))=true:=by rw[C1];simp
  simp[A.b137,o1,o2,o3,o4,ad,aO,aD,aE,zh]
  simp only[hB]
  refine aB (Ym0 (Sl.ae hu kB) (Sl.ae hv kB) (fY _) (fY _) (by omega) (by omega)) ?_
  rintro v1 h1 n1 k1 ⟨l,q1,q2,q3,q4⟩
  rw[gm,gm]at q3
  have ez:(if decide (a<0)=true then -((a.natAbs+b.natAbs:Nat):Int) else ((a.natAbs+b.natAbs:Nat):Int))=a+b:=by
   by_cases h1:a<0<;>by_cases h2:b<0<;>simp[h1,h2]at C1 ⊢<;>omega
  simp[]
  refine aB (xC (b:=decide (a<0)) (n:=a.natAbs+b.natAbs) q1 q2 (by rw[q3];try simp) (by omega)) ?_
  rintro v2 h2 n2 k2 dt
  rw[ez]at dt
  have uT:=k1.le
  have kK:=k2.le
  have g1:=(k2.get (N+1+1) (by omega)).trans ((k1.get (N+1+1) (by omega)).trans gr)
  obtain⟨u2,rfl,fm⟩:=dt
  have p1:=Sl.form fm |>.one
  have p2:=Sl.form fm |>.cells
  unfold V.one at p1
  unfold V.cells at p2
  simp[g1,p1,p2,ad,bD,aO,aD,aA,ct.cv]
  exact⟨by split<;>simp[av],((kB.trans k1).trans k2).set (by omega),u2,rfl,Sl.setInt fm g1 jo rfl⟩
 ·have zh:(decide (a<0)==decide (b<0))=false:=by simpa using C1
  have Az:=fun w=>XD (w:=w) (Sl.ae hu kB) (Sl.ae hv kB) (by omega) (by omega)
  by_cases pr:b.natAbs<=a.natAbs
  ·have AB:0<=BK a.natAbs b.natAbs:=Yfg.2 pr
   simp[A.b137,o1,o2,o3,o4,ad,aO,aD,aE,zh]
   simp only[hB]
   simp[Az,AB,gx,gy,aO,ad,aD]
   refine aB (Yce (Sl.ae hu kB) (Sl.ae hv kB) pr (by omega)) ?_
   rintro v1 h1 n1 k1 q1
   have q2:=fY (a.natAbs-b.natAbs)
   have q3:=gm (a.natAbs-b.natAbs)
   have q4:=uI (Nat.sub_le a.natAbs b.natAbs)
   have ez:(if decide (a<0)=true then -((a.natAbs-b.natAbs:Nat):Int) else ((a.natAbs-b.natAbs:Nat):Int))=a+b:=by
    by_cases h1:a<0<;>by_cases h2:b<0<;>simp[h1,h2]at C1 ⊢<;>omega
   simp[]
   refine aB (xC (b:=decide (a<0)) (n:=a.natAbs-b.natAbs) q1 q2 (by rw[q3];try simp) (by omega)) ?_
   rintro v2 h2 n2 k2 dt
   rw[ez]at dt
   have uT:=k1.le
   have kK:=k2.le
   have g1:=(k2.get (N+1+1) (by omega)).trans ((k1.get (N+1+1) (by omega)).trans gr)
   obtain⟨u2,rfl,fm⟩:=dt
   have p1:=Sl.form fm |>.one
   have p2:=Sl.form fm |>.cells
   unfold V.one at p1
   unfold V.cells at p2
   simp[g1,p1,p2,ad,bD,aO,aD,aA,ct.cv]
   exact⟨by split<;>simp[av],((kB.trans k1).trans k2).set (by omega),u2,rfl,Sl.setInt fm g1 jo rfl⟩
  ·have AB:¬0<=BK a.natAbs b.natAbs:=fun hc=>pr (Yfg.1 hc)
   simp[A.b137,o1,o2,o3,o4,ad,aO,aD,aE,zh]
   simp only[hB]
   simp[Az,AB,gx,gy,aO,ad,aD]
   refine aB (Yce (Sl.ae hv kB) (Sl.ae hu kB) (by omega) (by omega)) ?_
   rintro v1 h1 n1 k1 q1
   have q2:=fY (b.natAbs-a.natAbs)
   have q3:=gm (b.natAbs-a.natAbs)
   have q4:=uI (Nat.sub_le b.natAbs a.natAbs)
   have ez:(if decide (b<0)=true then -((b.natAbs-a.natAbs:Nat):Int) else ((b.natAbs-a.natAbs:Nat):Int))=a+b:=by
    by_cases h1:a<0<;>by_cases h2:b<0<;>simp[h1,h2]at C1 ⊢<;>omega
   simp[]
   refine aB (xC (b:=decide (b<0)) (n:=b.natAbs-a.natAbs) q1 q2 (by rw[q3];try simp) (by omega)) ?_
   rintro v2 h2 n2 k2 dt
   rw[ez]at dt
   have uT:=k1.le
   have kK:=k2.le
   have g1:=(k2.get (N+1+1) (by omega)).trans ((k1.get (N+1+1) (by omega)).trans gr)
   obtain⟨u2,rfl,fm⟩:=dt
   have p1:=Sl.form fm |>.one
   have p2:=Sl.form fm |>.cells
   unfold V.one at p1
   unfold V.cells at p2
   simp[g1,p1,p2,ad,bD,aO,aD,aA,ct.cv]
   exact⟨by split<;>simp[av],((kB.trans k1).trans k2).set (by omega),u2,rfl,Sl.setInt fm g1 jo rfl⟩
end
end Go.Mx
