/-Decimal notations of integers and of fra-/
import Derived.Test.YtokjleejipaidaaGreatDoorRbA
set_option linter.all false
namespace Go.Mx
noncomputable section
open Go
variable {n:Nat}
def cZ(n:Nat):UInt8:=UInt8.ofNat (48+n%10)
def HS(n:Nat):(cZ n).toNat=48+n%10:=by
 unfold cZ
 simp
 omega
def de(n:Nat):aQ:=if h:n=0 then [] else de (n/10)++[cZ n]
termination_by n
decreasing_by omega
def ux:de 0=[]:=by unfold de;simp
def yc(h:n≠0):de n=de (n/10)++[cZ n]:=by
 conv=>lhs;unfold de
 rw[dif_neg h]
def aq(n:Nat):aQ:=if n=0 then [48] else de n
def iA(n k:Nat):aQ:=List.replicate (k-(de n).length) 48++de n
def aL(z:Int):aQ:=if z<0 then 45::aq z.natAbs else aq z.natAbs
def aP(q:Rat):aQ:=if q.den=1 then aL q.num else aL q.num++47::aq q.den
def Zts:∀(n:Nat),aF (de n)=n:=by
 intro n
 induction n using Nat.strongRecOn with
 |_ n ih=>
  by_cases h:n=0
  ·subst h;rw[ux];rfl
  ·rw[yc h,LX,ih (n/10) (by omega),HS]
   omega
def Dv(n:Nat):aF (aq n)=n:=by
 unfold aq
 split
 ·subst_vars;rfl
 ·exact Zts n
def Zuy{s:aQ}{c:UInt8}:cI (s++[c])=(cI s&&kl c):=by simp[cI]
def Ykt(n:Nat):kl (cZ n)=true:=by
 unfold kl
 rw[HS]
 simp
 omega
def Yg5:∀(n:Nat),cI (de n)=true:=by
 intro n
 induction n using Nat.strongRecOn with
 |_ n ih=>
  by_cases h:n=0
  ·subst h;rw[ux];rfl
  ·rw[yc h,Zuy,ih (n/10) (by omega),Ykt];rfl
def zQ(n:Nat):cI (aq n)=true:=by
 unfold aq
 split
 ·rfl
 ·exact Yg5 n
def qd:∀{k n:Nat},n<10^k↔(de n).length<=k
 |0,n=>by
  simp only[EP,Nat.lt_one_iff,Nat.le_zero,List.length_eq_zero_iff]
  constructor
  ·rintro rfl;exact ux
  ·intro h
   have:=Zts n
   rw[h]at this
   exact this.symm
 |k+1,n=>by
  by_cases h:n=0
  ·subst h;rw[ux];simp;exact Ay (by decide)
  ·rw[yc h,iN,Az,gw]
   have:=qd (k:=k) (n:=n/10)
   rw[Nat.succ_le_succ_iff,<-this]
   exact(qs (by decide)).symm
def Yd:∀{n:Nat},n≠0->∃c t,de n=c::t/\c.toNat≠48:=by
 intro n
 induction n using Nat.strongRecOn with
 |_ n ih=>
  intro h
  rw[yc h]
  by_cases h0:n/10=0
  ·rw[h0,ux]
   refine⟨cZ n,[],rfl,?_⟩
   rw[HS];omega
  ·obtain⟨c,t,e,hc⟩:=ih (n/10) (by omega) h0
   rw[e]
   exact⟨c,t++[cZ n],rfl,hc⟩
def HT(n:Nat):aq n≠[]:=by
 unfold aq
 split
 ·simp
 ·rename_i h
  obtain⟨c,t,e,_⟩:=Yd h
  rw[e];simp
def Yms{c:UInt8}(h:kl c=true){k:Nat}:cZ (10*k+(c.toNat-48))=c:=by
 unfold kl at h
 simp only[decide_eq_true_eq]at h
 apply UInt8.toNat_inj.1
 rw[HS];omega
def Ygm:∀(t:aQ) (c:UInt8),cI (c::t)=true->c.toNat≠48->de (aF (c::t))=c::t:=by
 intro t
 generalize hn:t.length=n
 induction n generalizing t with
 |zero=>
  intro c ha hc
  have:t=[]:=rm hn
  subst this
  have hd:kl c=true:=by simpa[cI]using ha
  have:=Yms hd (k:=0)
  have h2:48<=c.toNat/\c.toNat<=57:=by simpa[kl]using hd
  have e:aF [c]=c.toNat-48:=by simp[aF]
  rw[e,yc (by omega),show (c.toNat-48)/10=0 by omega,ux]
  simp only[Nat.mul_zero,xP]at this
  rw[this];rfl
 |succ n ih=>
  intro c ha hc
  obtain⟨u,d,rfl⟩:∃u d,t=u++[d]:=⟨t.dropLast,t.getLast (by rintro rfl;simp at hn),(QC _).symm⟩
  simp at hn
  have Ye:cI (c::u)=true/\kl d=true:=by
   rw[<-CR,Zuy,iz]at ha
   exact ha
  have Yf:=ih u (by omega) c Ye.1 hc
  have h2:48<=d.toNat/\d.toNat<=57:=by simpa[kl]using Ye.2
  rw[<-CR,LX]
  have iK:aF (c::u)≠0:=by
   intro h0
   rw[h0,ux]at Yf
   cases Yf
  rw[yc (by omega),show (10*aF (c::u)+(d.toNat-48))/10=aF (c::u) by omega,Yf,Yms Ye.2]
def Ce{s:aQ}(h:ja s=true):aq (aF s)=s:=by
 cases s with
 |nil=>cases h
 |cons c t=>
  have h:(cI (c::t)&&(decide (c.toNat≠48)||decide (t=[])))=true:=h
  rw[iz,G8,decide_eq_true_eq,decide_eq_true_eq]at h
  obtain⟨ha,hc⟩:=h
  by_cases h48:c.toNat=48
  ·rcases hc with hc|hc
   ·exact absurd h48 hc
   ·subst hc
    have:c=48:=UInt8.toNat_inj.1 h48
    subst this;rfl
  ·have e:=Ygm t c ha h48
   have:aF (c::t)≠0:=by
    intro h0
    rw[h0,ux]at e
    cases e
   unfold aq
   rw[ak this,e]
def Zyx{a b:Nat}(h:aq a=aq b):a=b:=by rw[<-Dv a,h,Dv]
def Zqx:∀{k a b:Nat},a≠0->b<10^k->de (a*10^k+b)=de a++iA b k:=by
 intro k
 induction k with
 |zero=>
  intro a b ha hb
  have:b=0:=by simpa using hb
  subst this
  simp[iA,ux]
 |succ k ih=>
  intro a b ha hb
  rw[gw]at hb ⊢
  have pY:b/10<10^k:=(qs (by decide)).2 hb
  have hp:0<10^k:=Ay (by decide)
  have iK:a*(10^k*10)+b≠0:=by
   have:=zr (Nat.pos_of_ne_zero ha) (zr hp (by decide:0<10));omega
  have e1:(a*(10^k*10)+b)/10=a*10^k+b/10:=by
   rw[<-EO,jg _ 10,Nat.mul_add_div (by decide)]
  have e2:cZ (a*(10^k*10)+b)=cZ b:=by
   apply UInt8.toNat_inj.1
   rw[HS,HS,<-EO,jg _ 10,Nat.mul_add_mod]
  rw[yc iK,e1,ih ha pY,e2,tU]
  congr 1
  by_cases jj:b=0
  ·subst jj
   unfold iA
   rw[Nat.zero_div,ux]
   simp only[List.length_nil,Nat.sub_zero,yK]
   rw[List.replicate_succ']
   rfl
  ·unfold iA
   rw[yc jj,iN,Az,<-tU]
   rw[show k+1-((de (b/10)).length+1)=k-(de (b/10)).length by omega]
def Ykx{b k:Nat}(h:b<10^k):(iA b k).length=k:=by
 have:=qd.1 h
 simp[iA];omega
def MY(b:Nat):iA b 1=aq b:=by
 unfold iA aq
 split
 ·subst_vars;rw[ux];rfl
 ·rename_i h
  obtain⟨c,t,e,_⟩:=Yd h
  rw[e]
  simp
def Zuq(h:n≠0):0<(de n).length:=by
 obtain⟨c,t,e,_⟩:=Yd h
 rw[e];simp
def Ql{k:Nat}(hk:0<k):(aq n).length<=k↔n<10^k:=by
 unfold aq
 split
 ·subst_vars
  simp
  exact⟨fun _=>Ay (by decide),fun _=>hk⟩
 ·exact qd.symm
def Zqw{n:Nat}:∃c t,aq n=c::t/\48<=c.toNat/\c.toNat<=57:=by
 have h:=zQ n
 cases hs:aq n with
 |nil=>exact absurd hs (HT n)
 |cons c t=>
  rw[hs]at h
  have:kl c=true:=by
   simp[cI]at h;exact h.1
  exact⟨c,t,rfl,by simpa[kl]using this⟩
variable {s:aQ}
def RC:∀{s t:aQ},(∀c∈s,c.toNat≠47)->ah (s++47::t)=s.length
 |[],t,_=>rfl
 |c::s,t,h=>by
  have h1:=h c pR
  have:=RC (s:=s) (t:=t) fun d hd=>h d (pG _ hd)
  simp[ah,h1,this]
def RD:∀{s:aQ},(∀c∈s,c.toNat≠47)->ah s=s.length
 |[],_=>rfl
 |c::s,h=>by
  have h1:=h c pR
  have:=RD (s:=s) fun d hd=>h d (pG _ hd)
  simp[ah,h1,this]
def Znz:∀{s:aQ},ah s<s.length->s.drop (ah s)=47::s.drop (ah s+1)
 |[],h=>by simp[ah]at h
 |c::s,h=>by
  by_cases hc:c.toNat=47
  ·have:c=47:=UInt8.toNat_inj.1 hc
   subst this
   simp[ah]
  ·simp only[ah,hc,if_false,bo]at h ⊢
   have:=Znz (s:=s) (by omega)
   simpa using this
def Kp(h:cI s=true):∀c∈s,c.toNat≠47:=by
 intro c hc
 unfold cI at h
 rw[me]at h
 have:=h c hc
 unfold kl at this
 simp only[decide_eq_true_eq]at this
 omega
def Ygk(z:Int):∀c∈aL z,c.toNat≠47:=by
 unfold aL
 split
 ·intro c hc
  rcases ku.1 hc with rfl|hc
  ·decide
  ·exact Kp (zQ _) c hc
 ·exact Kp (zQ _)
def Yeg(n:Nat):cy (aq n)=false:=by
 obtain⟨c,t,e,h1,h2⟩:=Zqw (n:=n)
 rw[e]
 simp[cy];omega
def Kq(z:Int):cy (aL z)=decide (z<0):=by
 unfold aL
 split
 ·rename_i h;simp[cy,h]
 ·rename_i h;rw[Yeg];simp[h]
def Kr(z:Int):bk (aL z)=aq z.natAbs:=by
 unfold bk
 rw[Kq]
 by_cases h:z<0
 ·simp[h,aL]
 ·simp[h,aL]
def Ks(q:Rat):ah (aP q)=(aL q.num).length:=by
 unfold aP
 split
 ·exact RD (Ygk _)
 ·exact RC (Ygk _)
def MZ(q:Rat):(aP q).take (ah (aP q))=aL q.num:=by
 rw[Ks]
 unfold aP
 split
 ·simp
 ·simp
def M0(q:Rat)(h:q.den≠1):(aP q).drop (ah (aP q)+1)=aq q.den:=by
 rw[Ks]
 unfold aP
 rw[ak h,<-List.drop_drop]
 simp
def Dw(q:Rat):ah (aP q)<(aP q).length↔q.den≠1:=by
 rw[Ks]
 unfold aP
 split
 ·rename_i h;simp[h]
 ·rename_i h;simp[h]
def Ykz{a b:Int}(h:aL a=aL b):a=b:=by
 have h1:=congrArg cy h
 have h2:=congrArg bk h
 rw[Kq,Kq,decide_eq_decide]at h1
 rw[Kr,Kr]at h2
 have h3:=Zyx h2
 omega
def Yhu{a b:Rat}(h:aP a=aP b):a=b:=by
 have h1:=MZ a
 rw[h,MZ b]at h1
 have h2:=Ykz h1
 have h3:a.den=b.den:=by
  by_cases ha:a.den=1
  ·have:=mt (Dw a).1 (fun hc=>hc ha)
   rw[h]at this
   rw[Dw]at this
   rw[ha];exact(Decidable.not_not.1 this).symm
  ·have:=(Dw a).2 ha
   rw[h]at this
   have hb:=(Dw b).1 this
   have e:=M0 a ha
   rw[h,M0 b hb]at e
   exact(Zyx e).symm
 exact Rat.ext h2.symm h3
def kI(s:aQ):Rat:=mkRat (if cy s then -(aF ((bk s).take (ah (bk s))):Int) else aF ((bk s).take (ah (bk s)))) (if ah (bk s)<(bk s).length then aF ((bk s).drop (ah (bk s)+1)) else 1)
def Yk9(h:bj s=0):gH (cy s) ((bk s).take (ah (bk s))) (decide (ah (bk s)<(bk s).length)) ((bk s).drop (ah (bk s)+1))=true/\((bk s).take (ah (bk s))).length<=600/\((bk s).drop (ah (bk s)+1)).length<=600/\(ah (bk s)<(bk s).length->Nat.gcd (aF ((bk s).take (ah (bk s)))) (aF ((bk s).drop (ah (bk s)+1)))=1):=by
 unfold bj Kt kp at h
 split at h
 ·cases h
 ·rename_i h1
  split at h
  ·cases h
  ·rename_i h2
   split at h
   ·cases h
   ·rename_i h3
    refine⟨by simpa using h1,by omega,by omega,fun hs=>?_⟩
    rw[decide_eq_true hs]at h3
    simpa using h3
def Zt0{n:Int}{d:Nat}(hd:d≠0)(h:Nat.gcd n.natAbs d=1):(mkRat n d).num=n/\(mkRat n d).den=d:=by
 have:mkRat n d=⟨n,d,hd,h⟩:=by
  rw[Rat.mkRat_def,dif_neg hd]
  exact Rat.normalize_eq_mk' _ _ hd h
 rw[this]
 exact⟨rfl,rfl⟩
def Yb1(s:aQ):s=(if cy s then [45] else [])++bk s:=by
 cases s with
 |nil=>rfl
 |cons c t=>
  unfold bk
  by_cases hc:c.toNat=45
  ·have:c=45:=UInt8.toNat_inj.1 hc
   subst this
   simp[cy]
  ·simp[cy,hc]
def Lk(h:bj s=0):aP (kI s)=s/\(aq (kI s).num.natAbs).length<=600/\(aq (kI s).den).length<=600:=by
 obtain⟨h1,h2,h3,h4⟩:=Yk9 h
 have hle:=FF (bk s)
 unfold gH at h1
 simp only[iz,G7,G8,decide_eq_true_eq]at h1
 obtain⟨⟨hp,hz⟩,hd⟩:=h1
 have Dx:cy s=true->aF ((bk s).take (ah (bk s)))≠0:=by
  intro hn h0
  rw[hn,Bool.true_and,decide_eq_false_iff_not]at hz
  apply hz
  have:=Ce hp
  rw[h0]at this
  exact this.symm
 have iG:(aq (aF ((bk s).take (ah (bk s))))).length<=600:=by
  rw[Ce hp];exact h2
 have hb:=Yb1 s
 by_cases hs:ah (bk s)<(bk s).length
 ·have hd:ja ((bk s).drop (ah (bk s)+1))=true/\(bk s).drop (ah (bk s)+1)≠[48]/\(bk s).drop (ah (bk s)+1)≠[49]:=by
   rcases hd with hd|⟨⟨a,b⟩,c⟩
   ·exact absurd hs (by simpa using hd)
   ·exact⟨a,b,c⟩
  have hg:=h4 hs
  have oO:aF ((bk s).drop (ah (bk s)+1))≠0:=by
   intro h0
   have:=Ce hd.1
   rw[h0]at this
   exact hd.2.1 this.symm
  have uf:aF ((bk s).drop (ah (bk s)+1))≠1:=by
   intro h0
   have:=Ce hd.1
   rw[h0]at this
   exact hd.2.2 (this.symm.trans (by decide+kernel))
  have iw:(aq (aF ((bk s).drop (ah (bk s)+1)))).length<=600:=by
   rw[Ce hd.1];exact h3
  have hv:kI s=mkRat (if cy s then -(aF ((bk s).take (ah (bk s))):Int) else aF ((bk s).take (ah (bk s)))) (aF ((bk s).drop (ah (bk s)+1))):=by
   unfold kI;rw[ax hs]
  obtain⟨e1,e2⟩:=Zt0 (n:=if cy s then -(aF ((bk s).take (ah (bk s))):Int) else aF ((bk s).take (ah (bk s)))) oO (by split<;>simpa using hg)
  rw[<-hv]at e1 e2
  have M1:bk s=(bk s).take (ah (bk s))++47::(bk s).drop (ah (bk s)+1):=by
   conv=>lhs;rw[<-CT (ah (bk s)) (bk s)]
   rw[Znz hs]
  refine⟨?_,?_,by rw[e2];exact iw⟩
  ·unfold aP
   rw[e2,ak uf,Ce hd.1,e1]
   conv=>rhs;rw[hb,M1]
   unfold aL
   cases hn:cy s with
   |false=>
    simp only[fL,if_false]
    rw[ak (by omega),dH,Ce hp];rfl
   |true=>
    have:=Dx hn
    simp only[if_true]
    rw[ax (by omega),Bz,dH,Ce hp];rfl
  ·rw[e1]
   split<;>simpa using iG
 ·have hv:kI s=mkRat (if cy s then -(aF ((bk s).take (ah (bk s))):Int) else aF ((bk s).take (ah (bk s)))) 1:=by
   unfold kI;rw[ak hs]
  obtain⟨e1,e2⟩:=Zt0 (n:=if cy s then -(aF ((bk s).take (ah (bk s))):Int) else aF ((bk s).take (ah (bk s)))) (show (1:Nat)≠0 by decide) (Nat.gcd_one_right _)
  rw[<-hv]at e1 e2
  have ht:(bk s).take (ah (bk s))=bk s:=fb (by omega)
  rw[ht]at e1 hp Dx iG
  refine⟨?_,?_,by rw[e2];decide+kernel⟩
  ·unfold aP
   rw[e2,ax rfl,e1]
   conv=>rhs;rw[hb]
   unfold aL
   cases hn:cy s with
   |false=>
    simp only[fL,if_false]
    rw[ak (by omega),dH,Ce hp];rfl
   |true=>
    have:=Dx hn
    simp only[if_true]
    rw[ax (by omega),Bz,dH,Ce hp];rfl
  ·rw[e1]
   split<;>simpa using iG
def VH(q:Rat):bk (aP q)=if q.den=1 then aq q.num.natAbs else aq q.num.natAbs++47::aq q.den:=by
 have dM:∀t:aQ,cy (aL q.num++t)=decide (q.num<0):=by
  intro t
  rw[<-Kq]
  have:aL q.num≠[]:=by
   unfold aL;split
   ·simp
   ·exact HT _
  cases h:aL q.num with
  |nil=>exact absurd h this
  |cons c u=>rfl
 have hb:∀t:aQ,bk (aL q.num++t)=aq q.num.natAbs++t:=by
  intro t
  unfold bk
  rw[dM]
  by_cases h:q.num<0
  ·simp[h,aL]
  ·simp[h,aL]
 unfold aP
 split
 ·have:=hb [];simpa using this
 ·exact hb _
def Yje(q:Rat):cy (aP q)=decide (q.num<0):=by
 have dM:∀t:aQ,cy (aL q.num++t)=decide (q.num<0):=by
  intro t
  rw[<-Kq]
  have:aL q.num≠[]:=by
   unfold aL;split
   ·simp
   ·exact HT _
  cases h:aL q.num with
  |nil=>exact absurd h this
  |cons c u=>rfl
 unfold aP
 split
 ·have:=dM [];simpa using this
 ·exact dM _
def Ycm(q:Rat):(bk (aP q)).take (ah (bk (aP q)))=aq q.num.natAbs/\(ah (bk (aP q))<(bk (aP q)).length↔q.den≠1)/\(bk (aP q)).drop (ah (bk (aP q))+1)=if q.den=1 then [] else aq q.den:=by
 rw[VH]
 by_cases h:q.den=1
 ·simp only[h,if_true]
  rw[RD (Kp (zQ _))]
  simp
 ·simp only[h,if_false]
  rw[RC (Kp (zQ _))]
  simp[h]
def By(q:Rat):Bool:=decide (600<(aq q.num.natAbs).length\/600<(aq q.den).length)
def Qm:aq 1=[49]:=by decide+kernel
def Yir(q:Rat):kI (aP q)=q:=by
 obtain⟨h1,h2,h3⟩:=Ycm q
 unfold kI
 rw[h1,h3,Yje,Dv]
 have hn:(if decide (q.num<0)=true then -(q.num.natAbs:Int) else (q.num.natAbs:Int))=q.num:=by
  by_cases h:q.num<0
  ·rw[ax (by simpa using h)];omega
  ·rw[ak (by simpa using h)];omega
 rw[hn]
 by_cases hd:q.den=1
 ·rw[ak (fun h=>(h2.1 h) hd)]
  have:=Rat.mkRat_self q
  rw[hd]at this
  exact this
 ·rw[ax (h2.2 hd),ak hd,Dv]
  exact Rat.mkRat_self q
variable {i j k n:Nat}
def RE:∀{i n:Nat},i<(ds n).length->(ds n)[i]?=some ((n/1000000000^i%1000000000:Nat):Int)
 |i,n,h=>by
  by_cases hn:n=0
  ·rw[hn,tX]at h;simp at h
  ·rw[AG hn]at h ⊢
   cases i with
   |zero=>simp
   |succ i=>
    rw[EJ,RE (by simpa using h),GY,gw,jg]
def Ymp(h:i<(ds n).length):n/1000000000^i≠0:=by
 intro hc
 have h1:n<1000000000^i:=(Nat.div_eq_zero_iff_lt (Ay (by decide))).1 hc
 have:=J5 h1
 omega
def Ygi(h:i+1<(ds n).length):aq (n/1000000000^i)=aq (n/1000000000^(i+1))++iA (n/1000000000^i%1000000000) 9:=by
 have h0:=Ymp (i:=i) (n:=n) (by omega)
 have h1:=Ymp (i:=i+1) (n:=n) h
 have e:n/1000000000^(i+1)=n/1000000000^i/1000000000:=by rw[gw,GY]
 rw[e]at h1 ⊢
 generalize n/1000000000^i=x at*
 unfold aq
 rw[ak h0,ak h1]
 have:=Zqx (k:=9) (a:=x/1000000000) (b:=x%1000000000) h1 (by omega)
 rw[show (10:Nat)^9=1000000000 by decide]at this
 rw[<-this]
 congr 1
 omega
def Yky(h:i+1=(ds n).length):aq (n/1000000000^i)=iA (n/1000000000^i%1000000000) 1:=by
 have h1:n<1000000000^(i+1):=by
  have h2:=we (fY n)
  rw[gF,<-h]at h2
  unfold pI at h2
  have h3:(1000000000:Int)^(i+1)=((1000000000^(i+1):Nat):Int):=by rw[Int.natCast_pow];rfl
  rw[h3]at h2
  exact Int.ofNat_lt.1 h2
 rw[gw]at h1
 have h3:n/1000000000^i<1000000000:=Nat.div_lt_of_lt_mul h1
 rw[yQ h3,MY]
def Qb(k:Nat)(q:Rat):Prop:=q.num.natAbs<2^k/\q.den<2^k
def M3(h:j<=k):2^j<=2^k:=rJ (by decide) h
def Qb.mono{q:Rat}(h:Qb j q)(hk:j<=k):Qb k q:=⟨e_ h.1 (M3 hk),e_ h.2 (M3 hk)⟩
def Yg{a b:Int}(hb:b≠0)(h1:a.natAbs<2^k)(h2:b.natAbs<2^k):Qb k (Rat.divInt a b):=by
 constructor
 ·rw[Rat.num_divInt]
  refine rK ?_ h1
  rw[Int.natAbs_ediv_of_dvd]
  ·rw[vA]
   have:b.sign.natAbs=1:=by rw[Int.natAbs_sign,ak hb]
   rw[this,Nat.one_mul]
   exact vT _ _
  ·exact Int.dvd_trans (Int.gcd_dvd_right ..) (Int.dvd_mul_left ..)
 ·rw[Rat.den_divInt,ak hb]
  exact rK (vT _ _) h2
def Qb.mul{p q:Rat}(hp:Qb j p)(hq:Qb k q):Qb (j+k) (p*q):=by
 have tQ:((p.den:Nat):Int)≠0:=by have:=p.den_nz;omega
 have tj:((q.den:Nat):Int)≠0:=by have:=q.den_nz;omega
 rw[<-Aw p,<-Aw q,Rat.divInt_mul_divInt]
 refine Yg (JN tQ tj) ?_ ?_
 ·rw[vA,kj]
  exact BR hp.1 hq.1
 ·rw[vA,kj,dH,dH]
  exact BR hp.2 hq.2
def Qb.add{p q:Rat}(hp:Qb j p)(hq:Qb k q):Qb (j+k+1) (p+q):=by
 have tQ:((p.den:Nat):Int)≠0:=by have:=p.den_nz;omega
 have tj:((q.den:Nat):Int)≠0:=by have:=q.den_nz;omega
 rw[<-Aw p,<-Aw q,Rat.divInt_add_divInt _ _ tQ tj]
 have e:2^(j+k+1)=2^j*2^k+2^k*2^j:=by rw[gw,kj,jg (2^k)];omega
 refine Yg (JN tQ tj) ?_ ?_
 ·refine rK (Int.natAbs_add_le ..) ?_
  rw[vA,vA,dH,dH,e]
  exact Nat.add_lt_add (BR hp.1 hq.2) (BR hq.1 hp.2)
 ·rw[vA,dH,dH,e]
  exact e_ (BR hp.2 hq.2) (Nat.le_add_right _ _)
def Qb.int{z:Int}(h:z.natAbs<2^k)(hk:0<k):Qb k (z:Rat):=by
 refine⟨by simpa using h,?_⟩
 rw[Rat.den_intCast]
 exact e_ (by decide) (M3 (j:=1) hk)
def u_(h:n<2^k):(ds n).length<=k:=J5 (e_ h (G5 (by decide) k))
def M4(h:n<2^k):(de n).length<=k:=qd.1 (e_ h (G5 (by decide) k))
def Eh(h:n<2^k):(aq n).length<=k+1:=by
 have:=M4 h
 unfold aq
 split<;>simp<;>omega
def Gm{z:Int}(h:z.natAbs<2^k):(aL z).length<=k+2:=by
 have:=Eh h
 unfold aL
 split<;>simp<;>omega
def Yl8(k:Nat):10^k<=2^(4*k):=by
 rw[Nat.pow_mul];exact G5 (by decide) k
def Yt5{s:aQ}(h:bj s=0)(hn:s.length<=n):Qb (4*n+4) (kI s):=by
 obtain⟨e,_,_⟩:=Lk h
 have hb:=VH (kI s)
 have l1:(bk (aP (kI s))).length<=n:=by
  rw[e];unfold bk;split
  ·simp;omega
  ·exact hn
 rw[hb]at l1
 have g:∀m:Nat,(aq m).length<=n+1->m<2^(4*n+4):=fun m hm=>by
  have:=(Ql (n:=m) (k:=n+1) (by omega)).1 hm
  exact e_ this (by have:=Yl8 (n+1);rw[tV]at this;exact this)
 split at l1
 ·rename_i h1
  have h2:(aq 1).length=1:=by rw[Qm];rfl
  exact⟨g _ (by omega),by rw[h1];exact g 1 (by omega)⟩
 ·simp at l1
  exact⟨g _ (by omega),g _ (by omega)⟩
open Go Go.Proofs
set_option maxRecDepth 1000000
def A.b286:=A.q Tryz.f286
def A.k286:=@A.kk 286 13 [.tmp 4] A.b286 (by kernel_rfl) rfl
def A.M5:=A.q Tryz.f260
def A.jP:=A.ql A.M5 0 []
def A.b260:=(fun x0=>A.qb A.M5 [x0]) A.jP
def A.k260:=@A.kk 260 42 [.tmp 4] A.b260 (by kernel_rfl) rfl
def A.M6:=A.q Tryz.f261
def A.mY:=A.ql A.M6 0 []
def A.b261:=(fun x0=>A.qb A.M6 [x0]) A.mY
def A.k261:=@A.kk 261 35 [.tmp 4] A.b261 (by kernel_rfl) rfl
def Yh{h:T O}{N:Nat}{v:V}{l:List Int}{i:Nat}{w:List Nat}(hs:Sl h N v (dI l))(hi:i<4611686018427387904)(hl:l.length<4611686018427387904):A.C.call (.func 286 [] []) [v,.int .i64 i] ⟨h,N,w⟩=some (.int .i64 (zI l i),⟨h,N,w⟩):=by
 apply Call.eq
 have hlen:=hs.len
 rw[gJ]at hlen
 rw[aM,A.k286 (by simp)]
 by_cases hc:i<l.length
 ·have MF:(i:Int)<(l.length:Int):=by omega
  obtain⟨d,hd⟩:=a_ hc
  obtain⟨j,o,c,e,rw,q1,q2,q3,q4⟩:=hs.at (gK hd)
  simp[A.b286,hlen,hc,MF,q1,q3,q4,Ym7 hd]
 ·have MF:¬(i:Int)<(l.length:Int):=by omega
  simp[A.b286,hlen,hc,MF,WV (zB hc)]
structure AdI (h:T O) (N:Nat) (la lb:List Int) (m:Nat) (r:T V) (st:St):Prop where
 w:ar N st.w=[]
 ad:ab h N st.h st.n
 ex:∃k c out D,k+m=max la.length lb.length+1/\r.get 7=some (.int .i64 k)/\r.get 6=some (.int .i64 c)/\r.get 5=some out/\0<=c/\c<=1/\(m=0->c=0)/\Own 1 3 N st.h st.n out (p_ D)/\D.length=k/\Di D/\vI D+pI k*c=vI (la.take k)+vI (lb.take k)
def RF{l:List Int}{k:Nat}(h:l.length<=k):l.take k=l:=fb h
def Yoj{h:T O}{N:Nat}{u v:V}{la lb:List Int}(hu:Sl h N u (dI la))(hv:Sl h N v (dI lb))(da:Di la)(db:Di lb)(l1:la.length<1099511627776)(l2:lb.length<1099511627776):Fn A.C 260 [u,v] h N (fun x h' n'=>∃l,Sl h' n' x (dI l)/\Di l/\vI l=vI la+vI lb/\l.length<=max la.length lb.length+1):=by
 intro w
 have lu:=hu.len
 have lv:=hv.len
 rw[gJ]at lu lv
 rw[aM,A.k260 (by simp)]
 simp[A.b260]
 refine bA [(5,40)] (fun e r st=>e=.exit 0/\ar N st.w=[]/\ab h N st.h st.n/\∃out D,r.get 5=some out/\Own 1 3 N st.h st.n out (p_ D)/\Di D/\vI D=vI la+vI lb/\D.length<=max la.length lb.length+1) (AdI h N la lb) (max la.length lb.length+1) ?_ ?_ ?_
 ·exact⟨by simp,ab.refl,0,0,.aa,[],by omega,by simp,by simp,by simp,by omega,by omega,fun _=>rfl,Own.nil,rfl,Di.nil,by simp[vI]⟩
 ·rintro m r ⟨H,n1,W⟩ hr hf ⟨hW,hK,k,c,out,D,hk,h7,h6,h5,c0,c1,cz,ho,hD,dD,mA⟩
  simp only at hW hK ho
  rw[bb]
  by_cases uv:k<la.length\/k<lb.length\/0<c
  ·obtain⟨m',rfl⟩:∃m',m=m'+1:=⟨m-1,by
    have:m≠0:=fun hm=>by have:=cz hm;omega
    omega⟩
   have dx:=WW da k
   have dy:=WW db k
   have e1:=fun w=>Yh (w:=w) (i:=k) (hu.ad hK) (by omega) (by omega)
   have e2:=fun w=>Yh (w:=w) (i:=k) (hv.ad hK) (by omega) (by omega)
   obtain⟨x,hx⟩:∃x,zI la k=x:=⟨_,rfl⟩
   obtain⟨y,hy⟩:∃y,zI lb k=y:=⟨_,rfl⟩
   rw[hx]at dx e1
   rw[hy]at dy e2
   have t1:(x+y+c).tmod 1000000000=(x+y+c)%1000000000:=EI (by omega)
   have t2:(x+y+c).tdiv 1000000000=(x+y+c)/1000000000:=BT (by omega)
   have t3:bh .i64 (x+y)=x+y:=cE (by omega) (by omega)
   have t4:bh .i64 (x+y+c)=x+y+c:=cE (by omega) (by omega)
   have t5:bh .i64 ((x+y+c)/1000000000)=(x+y+c)/1000000000:=cE (by omega) (by omega)
   have oZ:vI (D++[(x+y+c)%1000000000])+pI (k+1)*((x+y+c)/1000000000)=vI (la.take (k+1))+vI (lb.take (k+1)):=by
    rw[C8,hD,WX,WX,hx,hy,v_]
    have hm:=EL (x+y+c) 1000000000
    generalize (x+y+c)/1000000000=Q at*
    generalize (x+y+c)%1000000000=R at*
    have:R=x+y+c-1000000000*Q:=by omega
    subst this
    grind
   have hz:m'=0->(x+y+c)/1000000000=0:=fun hm=>by
    have:x=0:=by rw[<-hx];exact WV (by omega)
    have:y=0:=by rw[<-hy];exact WV (by omega)
    omega
   have yO:=ho.ad (ab.refl.new (.cells [.int .i64 ((x+y+c)%1000000000)] 3 true))
   obtain⟨v',h',w',f1,f2,f3,_,f5⟩:=tJ (x:=[.int .i64 ((x+y+c)%1000000000)]) (u:=.slice n1 0 1 (some 1) 1) (bytes:=8) (w:=W) yO (by have:=hK.le;omega) (by decide) rfl (by simp[ef,St.row,aC]) (by simp[p_];omega)
   rw[<-Fe]at f5
   have f6:ar N w'=[]:=by rw[f2];exact hW
   have kz:=(hK.new (.cells [.int .i64 ((x+y+c)%1000000000)] 3 true)).then f3
   have HU:k<la.length\/(¬k<la.length/\k<lb.length)\/(¬k<la.length/\¬k<lb.length/\0<c):=by omega
   rcases HU with g1|⟨g1,g2⟩|⟨g1,g2,g3⟩
   ·have i1:(k:Int)<(la.length:Int):=by omega
    simp[A.jP,hr,hf,h7,h6,h5,lu,lv,g1,i1,e1,e2,t1,t2,t3,t4,t5,ae]
    simp(disch:=first|(simp;done)|omega|rfl) [f1,f6,hr,hf,h7]
    exact⟨m',by omega,⟨f6,kz,k+1,(x+y+c)/1000000000,v',D++[(x+y+c)%1000000000],by omega,by simp,by simp[t2],by simp,by omega,by omega,hz,f5,by simp[hD],dD.app (Di.one (by omega) (by omega)),oZ⟩⟩
   ·have i1:¬(k:Int)<(la.length:Int):=by omega
    have i2:(k:Int)<(lb.length:Int):=by omega
    simp[A.jP,hr,hf,h7,h6,h5,lu,lv,g1,g2,i1,i2,e1,e2,t1,t2,t3,t4,t5,ae]
    simp(disch:=first|(simp;done)|omega|rfl) [f1,f6,hr,hf,h7]
    exact⟨m',by omega,⟨f6,kz,k+1,(x+y+c)/1000000000,v',D++[(x+y+c)%1000000000],by omega,by simp,by simp[t2],by simp,by omega,by omega,hz,f5,by simp[hD],dD.app (Di.one (by omega) (by omega)),oZ⟩⟩
   ·have i1:¬(k:Int)<(la.length:Int):=by omega
    have i2:¬(k:Int)<(lb.length:Int):=by omega
    simp[A.jP,hr,hf,h7,h6,h5,lu,lv,g1,g2,g3,i1,i2,e1,e2,t1,t2,t3,t4,t5,ae]
    simp(disch:=first|(simp;done)|omega|rfl) [f1,f6,hr,hf,h7]
    exact⟨m',by omega,⟨f6,kz,k+1,(x+y+c)/1000000000,v',D++[(x+y+c)%1000000000],by omega,by simp,by simp[t2],by simp,by omega,by omega,hz,f5,by simp[hD],dD.app (Di.one (by omega) (by omega)),oZ⟩⟩
  ·obtain⟨g1,g2,g3⟩:¬k<la.length/\¬k<lb.length/\¬0<c:=by omega
   have i1:¬(k:Int)<(la.length:Int):=by omega
   have i2:¬(k:Int)<(lb.length:Int):=by omega
   obtain rfl:c=0:=by omega
   rw[RF (by omega),RF (by omega),Int.mul_zero,Int.add_zero]at mA
   simp[A.jP,hr,hf,h7,h6,lu,lv,g1,g2,i1,i2,hW,hK]
   exact⟨out,h5,D,ho,dD,mA,by omega⟩
 ·rintro _ r ⟨H,n1,W⟩ hr ⟨rfl,hW,hK,out,D,h5,ho,dD,mA,hl⟩
  simp only at hW hK ho
  simp[hr,h5,az,hW,hK]
  exact⟨D,ho.sl,dD,mA,hl⟩
variable {N:Nat} {h:T O}
def A.b230:=A.q Tryz.f230
def A.k230:=@A.kk 230 40 [.cell 4 (some 2)] A.b230 (by kernel_rfl) rfl
def A.b228:=A.q Tryz.f228
def A.k228:=@A.kk 228 9 [.cell 2 (some 2)] A.b228 (by kernel_rfl) rfl
def A.b227:=A.q Tryz.f227
def A.k227:=@A.kk 227 16 [.cell 4 (some 2)] A.b227 (by kernel_rfl) rfl
def RG(k:Nat):pI k=((1000000000^k:Nat):Int):=by unfold pI;simp
def Rg.ad{h':T O}{N':Nat}{v:V}{z:Int}(s:Rg h N v z)(k:ab h N h' N'):Rg h' N' v z:=by
 obtain⟨u,h1,h2⟩:=s
 exact⟨u,h1,h2.ad k⟩
def jl:∀x∈[V.bool false,V.aa],∀k m,x≠.int k m:=by intro x hx k m;simp at hx;rcases hx with rfl|rfl<;>simp
def Ysz{b:Bool}{u:V}(hu:Hw u):∀x∈[V.bool b,u],∀k m,x≠.int k m:=by
 intro x hx k m
 simp at hx
 rcases hx with rfl|rfl
 ·simp
 ·rcases hu with rfl|rfl|⟨_,_,_,_,_,rfl⟩<;>simp
def Ybr(a b:Nat):(ds (a*b)).length<=(ds a).length+(ds b).length:=by
 refine J5 ?_
 have h1:=we (fY a)
 have h2:=we (fY b)
 rw[gF]at h1 h2
 rw[RG]at h1 h2
 rw[kj]
 exact BR (Int.ofNat_lt.1 h1) (Int.ofNat_lt.1 h2)
def Zya{v:V}{z:Int}(hs:Rg h N v z)(hl:(ds z.natAbs).length<1099511627776):Fn A.C 228 [v] h N (fun u h' n'=>Rg h' n' u (-z)):=by
 intro w
 obtain⟨u,rfl,hu⟩:=hs
 have o1:=Sl.form hu |>.one
 have o2:=Sl.form hu |>.cells
 unfold V.one at o1
 unfold V.cells at o2
 have kB:=(((ab.refl (h:=h) (n:=N)).new (.cells [.bool (decide (z<0)),u] 143 true)).new (.cells [.bool false,.aa] 143 true))
 rw[aM,A.k228 (by simp)]
 simp[A.b228,o1,o2,ae,aR,aC]
 refine ay (yd (b:=!decide (z<0)) (n:=z.natAbs) (Sl.ad hu kB) (fY _) (gF _) (by omega)) ?_
 rintro v2 h2 n2 k2 hv
 have ye:=k2.le
 have g1:=(k2.get (N+1) (by omega))
 rw[T.ag,ax rfl]at g1
 have kk:=kB.trans k2
 have ez:(if (!decide (z<0))=true then -((z.natAbs:Nat):Int) else ((z.natAbs:Nat):Int))= -z:=by
  by_cases h0:z<0<;>simp[h0]<;>omega
 rw[ez]at hv
 obtain⟨u2,rfl,fy⟩:=hv
 have p1:=Sl.form fy |>.one
 have p2:=Sl.form fy |>.cells
 unfold V.one at p1
 unfold V.cells at p2
 simp[g1,p1,p2,ae,bD,aR,aC,az]
 exact⟨kk.set (by omega),u2,by simp,Sl.setInt fy g1 jl rfl⟩
def Ynx(a b:Int):(if (!(decide (a<0)==decide (b<0)))=true then -((a.natAbs*b.natAbs:Nat):Int) else ((a.natAbs*b.natAbs:Nat):Int))=a*b:=by
 have h0:((a.natAbs*b.natAbs:Nat):Int)=(a.natAbs:Int)*(b.natAbs:Int):=by simp
 rw[h0]
 by_cases h1:a<0<;>by_cases h2:b<0
 ·have ha:(a.natAbs:Int)= -a:=by omega
  have hb:(b.natAbs:Int)= -b:=by omega
  rw[ha,hb];simp[h1,h2,Int.neg_mul,Int.mul_neg]
 ·have ha:(a.natAbs:Int)= -a:=by omega
  have hb:(b.natAbs:Int)=b:=by omega
  rw[ha,hb];simp[h1,h2,Int.neg_mul]
 ·have ha:(a.natAbs:Int)=a:=by omega
  have hb:(b.natAbs:Int)= -b:=by omega
  rw[ha,hb];simp[h1,h2,Int.mul_neg]
 ·have ha:(a.natAbs:Int)=a:=by omega
  have hb:(b.natAbs:Int)=b:=by omega
  rw[ha,hb];simp[h1,h2]
def M7{x y:V}{a b:Int}(hx:Rg h N x a)(hy:Rg h N y b)(l1:(ds a.natAbs).length<500000000000)(l2:(ds b.natAbs).length<500000000000):Fn A.C 227 [x,y] h N (fun u h' n'=>Rg h' n' u (a*b)):=by
 intro w
 obtain⟨u,rfl,hu⟩:=hx
 obtain⟨v,rfl,hv⟩:=hy
 have o1:=Sl.form hu |>.one
 have o2:=Sl.form hu |>.cells
 have o3:=Sl.form hv |>.one
 have o4:=Sl.form hv |>.cells
 unfold V.one at o1 o3
 unfold V.cells at o2 o4
 have kB:=((((ab.refl (h:=h) (n:=N)).new (.cells [.bool (decide (a<0)),u] 143 true)).new (.cells [.bool (decide (b<0)),v] 143 true)).new (.cells [.bool false,.aa] 143 true))
 rw[aM,A.k227 (by simp)]
 simp[A.b227,o1,o2,o3,o4,ae,aR,aC,aJ]
 generalize hB:((h.set N (.cells [.bool (decide (a<0)),u] 143 true)).set (N+1) (.cells [.bool (decide (b<0)),v] 143 true)).set (N+1+1) (.cells [.bool false,.aa] 143 true)=HB at*
 have gr:HB.get (N+1+1)=some (.cells [.bool false,.aa] 143 true):=by rw[<-hB];simp
 refine ay (Yi (Sl.ad hu kB) (Sl.ad hv kB) (fY _) (fY _) (gF _) (gF _) (by omega)) ?_
 rintro v1 h1 n1 k1 q1
 have Dq:(ds (a.natAbs*b.natAbs)).length<1152921504606846976:=by
  have:=Ybr a.natAbs b.natAbs;omega
 simp[]
 refine ay (yd (n:=a.natAbs*b.natAbs) q1 (fY _) (gF _) Dq) ?_
 rintro v2 h2 n2 k2 dt
 have tL:=k1.le
 have jA:=k2.le
 have g1:=(k2.get (N+1+1) (by omega)).trans ((k1.get (N+1+1) (by omega)).trans gr)
 have ez:(if (!(decide (a<0)==decide (b<0)))=true then -((a.natAbs*b.natAbs:Nat):Int) else ((a.natAbs*b.natAbs:Nat):Int))=a*b:=Ynx a b
 rw[ez]at dt
 obtain⟨u2,rfl,fy⟩:=dt
 have p1:=Sl.form fy |>.one
 have p2:=Sl.form fy |>.cells
 unfold V.one at p1
 unfold V.cells at p2
 simp[g1,p1,p2,ae,bD,aR,aC,az,cn.cr]
 exact⟨by split<;>simp[ar],((kB.trans k1).trans k2).set (by omega),u2,rfl,Sl.setInt fy g1 jl rfl⟩
set_option maxHeartbeats 4000000
structure SuI (h:T O) (N:Nat) (la lb:List Int) (m:Nat) (r:T V) (st:St):Prop where
 w:ar N st.w=[]
 ad:ab h N st.h st.n
 ex:∃k c out D,k+m=la.length/\r.get 7=some (.int .i64 k)/\r.get 6=some (.int .i64 c)/\r.get 5=some out/\0<=c/\c<=1/\Own 1 3 N st.h st.n out (p_ D)/\D.length=k/\Di D/\vI D-pI k*c=vI (la.take k)-vI (lb.take k)
def Yde{h:T O}{N:Nat}{u v:V}{a b:Nat}(hu:Dn h N u a)(hv:Dn h N v b)(ec:b<=a)(l1:(ds a).length<1099511627776):Fn A.C 261 [u,v] h N (fun x h' n'=>Dn h' n' x (a-b)):=by
 intro w
 have l2:=vc ec
 have da:=fY a
 have db:=fY b
 have va:=gF a
 have vb:=gF b
 have lu:=Sl.len hu
 have lv:=Sl.len hv
 rw[gJ]at lu lv
 have hu:Sl h N u (dI (ds a)):=hu
 have hv:Sl h N v (dI (ds b)):=hv
 generalize hA:ds a=la at*
 generalize hB:ds b=lb at*
 rw[aM,A.k261 (by simp)]
 simp[A.b261]
 refine bA [(5,32)] (fun e r st=>e=.exit 0/\SuI h N la lb 0 r st) (SuI h N la lb) la.length ?_ ?_ ?_
 ·exact⟨by simp,ab.refl,0,0,.aa,[],by omega,by simp,by simp,by simp,by omega,by omega,Own.nil,rfl,Di.nil,by simp[vI]⟩
 ·rintro m r ⟨H,n1,W⟩ hr hf ⟨hW,hK,k,c,out,D,hk,h7,h6,h5,c0,c1,ho,hD,dD,mA⟩
  simp only at hW hK ho
  rw[bb]
  cases m with
  |zero=>
   obtain rfl:k=la.length:=by omega
   simp[A.mY,hr,hf,h7,lu]
   exact⟨hW,hK,la.length,c,out,D,by omega,by simp[h7],by simp[h6],by simp[h5],c0,c1,ho,hD,dD,mA⟩
  |succ m=>
   have au:k<la.length:=by omega
   have bG:(k:Int)<(la.length:Int):=by omega
   obtain⟨x,hx⟩:=a_ au
   have dx:=da.get hx
   have dy:=WW db k
   obtain⟨i,o,cc,e,rw,q1,q2,q3,q4⟩:=(hu.ad hK).at (gK hx)
   have e2:=fun w=>Yh (w:=w) (i:=k) (hv.ad hK) (by omega) (by omega)
   obtain⟨y,hy⟩:∃y,zI lb k=y:=⟨_,rfl⟩
   rw[hy]at dy e2
   have t3:bh .i64 (x-y)=x-y:=cE (by omega) (by omega)
   have t4:bh .i64 (x-y-c)=x-y-c:=cE (by omega) (by omega)
   have t5:bh .i64 (x-y-c+1000000000)=x-y-c+1000000000:=cE (by omega) (by omega)
   have hs:∀d c':Int,d-1000000000*c'=x-y-c->vI (D++[d])-pI (k+1)*c'=vI (la.take (k+1))-vI (lb.take (k+1)):=fun d c' he=>by
    rw[C8,hD,zK hx,WX,hy,v_]
    have:d=x-y-c+1000000000*c':=by omega
    subst this
    grind
   have ap:∀d:Int,∃v' h' w',gX ⟨H.set n1 (.cells [.int .i64 d] 3 true),n1+1,W⟩ 1 8 3 out (.slice n1 0 1 (some 1) 1)=some (v',⟨h',n1+1+1,w'⟩)/\ar N w'=[]/\ab h N h' (n1+1+1)/\Own 1 3 N h' (n1+1+1) v' (p_ (D++[d])):=fun d=>by
    have yO:=ho.ad (ab.refl.new (.cells [.int .i64 d] 3 true))
    obtain⟨v',h',w',f1,f2,f3,_,f5⟩:=tJ (x:=[.int .i64 d]) (u:=.slice n1 0 1 (some 1) 1) (bytes:=8) (w:=W) yO (by have:=hK.le;omega) (by decide) rfl (by simp[ef,St.row,aC]) (by simp[p_];omega)
    rw[<-Fe]at f5
    exact⟨v',h',w',f1,by rw[f2];exact hW,(hK.new (.cells [.int .i64 d] 3 true)).then f3,f5⟩
   by_cases dM:x-y-c<0
   ·obtain⟨v',h',w',f1,f2,f3,f5⟩:=ap (x-y-c+1000000000)
    simp[A.mY,hr,hf,h7,h6,h5,lu,bG,au,q1,q2,q3,q4,e2,t3,t4,t5,dM,ae,cn.cr]
    simp(disch:=first|(simp;done)|omega|rfl) [f1,hr,hf,h7]
    exact⟨m,by omega,⟨f2,f3,k+1,1,v',D++[x-y-c+1000000000],by omega,by simp,by simp,by simp,by omega,by omega,f5,by simp[hD],dD.app (Di.one (by omega) (by omega)),hs _ _ (by omega)⟩⟩
   ·obtain⟨v',h',w',f1,f2,f3,f5⟩:=ap (x-y-c)
    simp[A.mY,hr,hf,h7,h6,h5,lu,bG,au,q1,q2,q3,q4,e2,t3,t4,dM,ae,cn.cr]
    simp(disch:=first|(simp;done)|omega|rfl) [f1,hr,hf,h7]
    exact⟨m,by omega,⟨f2,f3,k+1,0,v',D++[x-y-c],by omega,by simp,by simp,by simp,by omega,by omega,f5,by simp[hD],dD.app (Di.one (by omega) (by omega)),hs _ _ (by omega)⟩⟩
 ·rintro _ r ⟨H,n1,W⟩ hr ⟨rfl,hW,hK,k,c,out,D,hk,h7,h6,h5,c0,c1,ho,hD,dD,mA⟩
  simp only at hW hK ho
  obtain rfl:k=la.length:=by omega
  rw[RF (aO _),RF (by omega),va,vb]at mA
  have au:=we dD
  rw[hD]at au
  have c2:c=0:=by
   apply Int.le_antisymm _ c0
   apply EM
   intro hc
   have:c=1:=by omega
   subst this
   omega
  subst c2
  have hvD:vI D=((a-b:Nat):Int):=by omega
  simp[hr,h5]
  refine ay (HV ho.sl (by omega)) ?_
  rintro v2 h2 n2 k2 q2
  rw[Hv dD hvD]at q2
  simp[az,hW]
  exact⟨hK.trans k2,q2⟩
def Ygu{a b:Nat}:(0<=Cf a b)↔b<=a:=by unfold Cf;split<;>(try split)<;>omega
def Yoo{h:T O}{N:Nat}{x y:V}{a b:Int}(hx:Rg h N x a)(hy:Rg h N y b)(l1:(ds a.natAbs).length<500000000000)(l2:(ds b.natAbs).length<500000000000):Fn A.C 230 [x,y] h N (fun u h' n'=>Rg h' n' u (a+b)):=by
 intro w
 obtain⟨u,rfl,hu⟩:=hx
 obtain⟨v,rfl,hv⟩:=hy
 have o1:=Sl.form hu |>.one
 have o2:=Sl.form hu |>.cells
 have o3:=Sl.form hv |>.one
 have o4:=Sl.form hv |>.cells
 unfold V.one at o1 o3
 unfold V.cells at o2 o4
 have kB:=((((ab.refl (h:=h) (n:=N)).new (.cells [.bool (decide (a<0)),u] 143 true)).new (.cells [.bool (decide (b<0)),v] 143 true)).new (.cells [.bool false,.aa] 143 true))
 rw[aM,A.k230 (by simp)]
 generalize hB:((h.set N (.cells [.bool (decide (a<0)),u] 143 true)).set (N+1) (.cells [.bool (decide (b<0)),v] 143 true)).set (N+1+1) (.cells [.bool false,.aa] 143 true)=HB at kB
 have gr:HB.get (N+1+1)=some (.cells [.bool false,.aa] 143 true):=by rw[<-hB];simp
 have gx:HB.get N=some (.cells [.bool (decide (a<0)),u] 143 true):=by rw[<-hB];simp
 have gy:HB.get (N+1)=some (.cells [.bool (decide (b<0)),v] 143 true):=by rw[<-hB];simp
 by_cases Dy:decide (a<0)=decide (b<0)
 ·have zR:(decide (a<0)==decide (b<0))=true:=by rw[Dy];simp
  simp[A.b230,o1,o2,o3,o4,ae,aR,aC,aJ,zR]
  simp only[hB]
  refine ay (Yoj (Sl.ad hu kB) (Sl.ad hv kB) (fY _) (fY _) (by omega) (by omega)) ?_
  rintro v1 h1 n1 k1 ⟨l,q1,q2,q3,q4⟩
  rw[gF,gF]at q3
  have ez:(if decide (a<0)=true then -((a.natAbs+b.natAbs:Nat):Int) else ((a.natAbs+b.natAbs:Nat):Int))=a+b:=by
   by_cases h1:a<0<;>by_cases h2:b<0<;>simp[h1,h2]at Dy ⊢<;>omega
  simp[]
  refine ay (yd (b:=decide (a<0)) (n:=a.natAbs+b.natAbs) q1 q2 (by rw[q3];try simp) (by omega)) ?_
  rintro v2 h2 n2 k2 dt
  rw[ez]at dt
  have tL:=k1.le
  have jA:=k2.le
  have g1:=(k2.get (N+1+1) (by omega)).trans ((k1.get (N+1+1) (by omega)).trans gr)
  obtain⟨u2,rfl,fy⟩:=dt
  have p1:=Sl.form fy |>.one
  have p2:=Sl.form fy |>.cells
  unfold V.one at p1
  unfold V.cells at p2
  simp[g1,p1,p2,ae,bD,aR,aC,az,cn.cr]
  exact⟨by split<;>simp[ar],((kB.trans k1).trans k2).set (by omega),u2,rfl,Sl.setInt fy g1 jl rfl⟩
 ·have zR:(decide (a<0)==decide (b<0))=false:=by simpa using Dy
  have y8:=fun w=>Yj (w:=w) (Sl.ad hu kB) (Sl.ad hv kB) (by omega) (by omega)
  by_cases pK:b.natAbs<=a.natAbs
  ·have A4:0<=Cf a.natAbs b.natAbs:=Ygu.2 pK
   simp[A.b230,o1,o2,o3,o4,ae,aR,aC,aJ,zR]
   simp only[hB]
   simp[y8,A4,gx,gy,aR,ae,aC]
   refine ay (Yde (Sl.ad hu kB) (Sl.ad hv kB) pK (by omega)) ?_
   rintro v1 h1 n1 k1 q1
   have q2:=fY (a.natAbs-b.natAbs)
   have q3:=gF (a.natAbs-b.natAbs)
   have q4:=vc (Nat.sub_le a.natAbs b.natAbs)
   have ez:(if decide (a<0)=true then -((a.natAbs-b.natAbs:Nat):Int) else ((a.natAbs-b.natAbs:Nat):Int))=a+b:=by
    by_cases h1:a<0<;>by_cases h2:b<0<;>simp[h1,h2]at Dy ⊢<;>omega
   simp[]
   refine ay (yd (b:=decide (a<0)) (n:=a.natAbs-b.natAbs) q1 q2 (by rw[q3];try simp) (by omega)) ?_
   rintro v2 h2 n2 k2 dt
   rw[ez]at dt
   have tL:=k1.le
   have jA:=k2.le
   have g1:=(k2.get (N+1+1) (by omega)).trans ((k1.get (N+1+1) (by omega)).trans gr)
   obtain⟨u2,rfl,fy⟩:=dt
   have p1:=Sl.form fy |>.one
   have p2:=Sl.form fy |>.cells
   unfold V.one at p1
   unfold V.cells at p2
   simp[g1,p1,p2,ae,bD,aR,aC,az,cn.cr]
   exact⟨by split<;>simp[ar],((kB.trans k1).trans k2).set (by omega),u2,rfl,Sl.setInt fy g1 jl rfl⟩
  ·have A4:¬0<=Cf a.natAbs b.natAbs:=fun hc=>pK (Ygu.1 hc)
   simp[A.b230,o1,o2,o3,o4,ae,aR,aC,aJ,zR]
   simp only[hB]
   simp[y8,A4,gx,gy,aR,ae,aC]
   refine ay (Yde (Sl.ad hv kB) (Sl.ad hu kB) (by omega) (by omega)) ?_
   rintro v1 h1 n1 k1 q1
   have q2:=fY (b.natAbs-a.natAbs)
   have q3:=gF (b.natAbs-a.natAbs)
   have q4:=vc (Nat.sub_le b.natAbs a.natAbs)
   have ez:(if decide (b<0)=true then -((b.natAbs-a.natAbs:Nat):Int) else ((b.natAbs-a.natAbs:Nat):Int))=a+b:=by
    by_cases h1:a<0<;>by_cases h2:b<0<;>simp[h1,h2]at Dy ⊢<;>omega
   simp[]
   refine ay (yd (b:=decide (b<0)) (n:=b.natAbs-a.natAbs) q1 q2 (by rw[q3];try simp) (by omega)) ?_
   rintro v2 h2 n2 k2 dt
   rw[ez]at dt
   have tL:=k1.le
   have jA:=k2.le
   have g1:=(k2.get (N+1+1) (by omega)).trans ((k1.get (N+1+1) (by omega)).trans gr)
   obtain⟨u2,rfl,fy⟩:=dt
   have p1:=Sl.form fy |>.one
   have p2:=Sl.form fy |>.cells
   unfold V.one at p1
   unfold V.cells at p2
   simp[g1,p1,p2,ae,bD,aR,aC,az,cn.cr]
   exact⟨by split<;>simp[ar],((kB.trans k1).trans k2).set (by omega),u2,rfl,Sl.setInt fy g1 jl rfl⟩
end
end Go.Mx
