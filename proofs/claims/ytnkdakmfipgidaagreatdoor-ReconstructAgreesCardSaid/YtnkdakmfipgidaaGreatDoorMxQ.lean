/-Decimal notations of integers and of fra-/
import Derived.Test.YtnkdakmfipgidaaGreatDoorRbA
set_option linter.all false
namespace Go.Mx
noncomputable section
open Go
variable {n:Nat}
def dr(n:Nat):UInt8:=UInt8.ofNat (48+n%10)
def JO(n:Nat):(dr n).toNat=48+n%10:=by unfold dr;simp;omega
def dv(n:Nat):aD:=if h:n=0 then [] else dv (n/10)++[dr n]
termination_by n
decreasing_by omega
def uZ:dv 0=[]:=by unfold dv;simp
def yS(h:n≠0):dv n=dv (n/10)++[dr n]:=by
 conv=>lhs;unfold dv
 rw[dif_neg h]
def an(n:Nat):aD:=if n=0 then [48] else dv n
def jb(n k:Nat):aD:=List.replicate (k-(dv n).length) 48++dv n
def aK(z:Int):aD:=if z<0 then 45::an z.natAbs else an z.natAbs
def aP(q:Rat):aD:=if q.den=1 then aK q.num else aK q.num++47::an q.den
def Zuf:∀(n:Nat),aE (dv n)=n:=by
 intro n;induction n using Nat.strongRecOn with
 |_ n ih=>
  by_cases h:n=0
  ·subst h;rw[uZ];rfl
  rw[yS h,Ot,ih (n/10) (by omega),JO];omega
def B5(n:Nat):aE (an n)=n:=by
 unfold an;split
 ·subst_vars;rfl
 exact Zuf n
def Zvr{s:aD}{c:UInt8}:cK (s++[c])=(cK s&&my c):=by simp[cK]
def Ymo(n:Nat):my (dr n)=true:=by unfold my;rw[JO];simp;omega
def Yiy:∀(n:Nat),cK (dv n)=true:=by
 intro n;induction n using Nat.strongRecOn with
 |_ n ih=>
  by_cases h:n=0
  ·subst h;rw[uZ];rfl
  rw[yS h,Zvr,ih (n/10) (by omega),Ymo];rfl
def zM(n:Nat):cK (an n)=true:=by
 unfold an;split
 ·rfl
 exact Yiy n
def qN:∀{k n:Nat},n<10^k↔(dv n).length<=k
 |0,n=>by
  simp only[Gp,Nat.lt_one_iff,Nat.le_zero,List.length_eq_zero_iff]
  constructor
  ·rintro rfl;exact uZ
  ·intro h
   have:=Zuf n
   rw[h]at this
   exact this.symm
 |k+1,n=>by
  by_cases h:n=0
  ·subst h;rw[uZ];simp;exact Bu (by decide)
  ·rw[yS h,jm,Af,ix]
   have:=qN (k:=k) (n:=n/10)
   rw[Nat.succ_le_succ_iff,<-this]
   exact(rk (by decide)).symm
def Un:∀{n:Nat},n≠0->∃c t,dv n=c::t/\c.toNat≠48:=by
 intro n;induction n using Nat.strongRecOn with
 |_ n ih=>
  intro h;rw[yS h];by_cases h0:n/10=0
  ·rw[h0,uZ];refine⟨dr n,[],rfl,?_⟩;rw[JO];omega
  obtain⟨c,t,e,hc⟩:=ih (n/10) (by omega) h0;rw[e];exact⟨c,t++[dr n],rfl,hc⟩
def JP(n:Nat):an n≠[]:=by
 unfold an;split
 ·simp
 rename_i h;obtain⟨c,t,e,_⟩:=Un h;rw[e];simp
def Zre(n:Nat):jx (an n)=true:=by
 have ha:=zM n;by_cases h:n=0
 ·subst h;rfl
 obtain⟨c,t,e,hc⟩:=Un h;have e2:an n=c::t:=by unfold an;rw[ak h,e]
 rw[e2]at ha ⊢;show (cK (c::t)&&(decide (c.toNat≠48)||decide (t=[])))=true;rw[ha,decide_eq_true hc];rfl
def Yow{c:UInt8}(h:my c=true){k:Nat}:dr (10*k+(c.toNat-48))=c:=by unfold my at h;simp only[decide_eq_true_eq]at h;apply UInt8.toNat_inj.1;rw[JO];omega
def Yib:∀(t:aD) (c:UInt8),cK (c::t)=true->c.toNat≠48->dv (aE (c::t))=c::t:=by
 intro t;generalize hn:t.length=n;induction n generalizing t with
 |zero=>
  intro c ha hc;have:t=[]:=rS hn;subst this;have hd:my c=true:=by simpa[cK]using ha
  have:=Yow hd (k:=0);have h2:48<=c.toNat/\c.toNat<=57:=by simpa[my]using hd
  have e:aE [c]=c.toNat-48:=by simp[aE]
  rw[e,yS (by omega),show (c.toNat-48)/10=0 by omega,uZ];simp only[Nat.mul_zero,yE]at this;rw[this];rfl
 |succ n ih=>
  intro c ha hc;obtain⟨u,d,rfl⟩:∃u d,t=u++[d]:=⟨t.dropLast,t.getLast (by rintro rfl;simp at hn),(TC _).symm⟩;simp at hn;have ha':cK (c::u)=true/\my d=true:=by rw[<-Er,Zvr,gI]at ha;exact ha
  have ih':=ih u (by omega) c ha'.1 hc;have h2:48<=d.toNat/\d.toNat<=57:=by simpa[my]using ha'.2
  rw[<-Er,Ot];have mF:aE (c::u)≠0:=by intro h0;rw[h0,uZ]at ih';cases ih'
  rw[yS (by omega),show (10*aE (c::u)+(d.toNat-48))/10=aE (c::u) by omega,ih',Yow ha'.2]
def Dt{s:aD}(h:jx s=true):an (aE s)=s:=by
 cases s with
 |nil=>cases h
 |cons c t=>
  have h:(cK (c::t)&&(decide (c.toNat≠48)||decide (t=[])))=true:=h;rw[gI,I4,decide_eq_true_eq,decide_eq_true_eq]at h;obtain⟨ha,hc⟩:=h;by_cases h48:c.toNat=48
  ·rcases hc with hc|hc
   ·exact absurd h48 hc
   subst hc;have:c=48:=UInt8.toNat_inj.1 h48;subst this;rfl
  have e:=Yib t c ha h48;have:aE (c::t)≠0:=by intro h0;rw[h0,uZ]at e;cases e
  unfold an;rw[ak this,e]
def Py{a b:Nat}(h:an a=an b):a=b:=by rw[<-B5 a,h,B5]
def Zri:∀{k a b:Nat},a≠0->b<10^k->dv (a*10^k+b)=dv a++jb b k:=by
 intro k;induction k with
 |zero=>
  intro a b ha hb;have:b=0:=by simpa using hb
  subst this;simp[jb,uZ]
 |succ k ih=>
  intro a b ha hb;rw[ix]at hb ⊢;have q8:b/10<10^k:=(rk (by decide)).2 hb;have hp:0<10^k:=Bu (by decide);have mF:a*(10^k*10)+b≠0:=by have:=z_ (Nat.pos_of_ne_zero ha) (z_ hp (by decide:0<10));omega
  have e1:(a*(10^k*10)+b)/10=a*10^k+b/10:=by rw[<-Gu,jO _ 10,Nat.mul_add_div (by decide)]
  have e2:dr (a*(10^k*10)+b)=dr b:=by apply UInt8.toNat_inj.1;rw[JO,JO,<-Gu,jO _ 10,Nat.mul_add_mod]
  rw[yS mF,e1,ih ha q8,e2,uG];congr 1;by_cases ki:b=0
  ·subst ki;unfold jb;rw[Nat.zero_div,uZ];simp only[List.length_nil,Nat.sub_zero,zZ];rw[List.replicate_succ'];rfl
  unfold jb;rw[yS ki,jm,Af,<-uG];rw[show k+1-((dv (b/10)).length+1)=k-(dv (b/10)).length by omega]
def Yms{b k:Nat}(h:b<10^k):(jb b k).length=k:=by have:=qN.1 h;simp[jb];omega
def Pz(b:Nat):jb b 1=an b:=by
 unfold jb an;split
 ·subst_vars;rw[uZ];rfl
 rename_i h;obtain⟨c,t,e,_⟩:=Un h;rw[e];simp
def Zve(h:n≠0):0<(dv n).length:=by obtain⟨c,t,e,_⟩:=Un h;rw[e];simp
def CF{k:Nat}(hk:0<k):(an n).length<=k↔n<10^k:=by
 unfold an;split
 ·subst_vars
  simp;exact⟨fun _=>Bu (by decide),fun _=>hk⟩
 exact qN.symm
def Zrh{n:Nat}:∃c t,an n=c::t/\48<=c.toNat/\c.toNat<=57:=by
 have h:=zM n;cases hs:an n with
 |nil=>exact absurd hs (JP n)
 |cons c t=>
  rw[hs]at h;have:my c=true:=by simp[cK]at h;exact h.1
  exact⟨c,t,rfl,by simpa[my]using this⟩
variable {s:aD}
def Uo:∀{s t:aD},(∀c∈s,c.toNat≠47)->ah (s++47::t)=s.length
 |[],t,_=>rfl
 |c::s,t,h=>by
  have h1:=h c qQ
  have:=Uo (s:=s) (t:=t) fun d hd=>h d (qz _ hd)
  simp[ah,h1,this]
def Up:∀{s:aD},(∀c∈s,c.toNat≠47)->ah s=s.length
 |[],_=>rfl
 |c::s,h=>by
  have h1:=h c qQ
  have:=Up (s:=s) fun d hd=>h d (qz _ hd)
  simp[ah,h1,this]
def Zon:∀{s:aD},ah s<s.length->s.drop (ah s)=47::s.drop (ah s+1)
 |[],h=>by simp[ah]at h
 |c::s,h=>by
  by_cases hc:c.toNat=47
  ·have:c=47:=UInt8.toNat_inj.1 hc
   subst this
   simp[ah]
  ·simp only[ah,hc,if_false,bk]at h ⊢
   have:=Zon (s:=s) (by omega)
   simpa using this
def Ms(h:cK s=true):∀c∈s,c.toNat≠47:=by intro c hc;unfold cK at h;rw[jY]at h;have:=h c hc;unfold my at this;simp only[decide_eq_true_eq]at this;omega
def Yh9(z:Int):∀c∈aK z,c.toNat≠47:=by
 unfold aK;split
 ·intro c hc;rcases iW.1 hc with rfl|hc
  ·decide
  exact Ms (zM _) c hc
 exact Ms (zM _)
def Yfy(n:Nat):cA (an n)=false:=by obtain⟨c,t,e,h1,h2⟩:=Zrh (n:=n);rw[e];simp[cA];omega
def Mt(z:Int):cA (aK z)=decide (z<0):=by
 unfold aK;split
 ·rename_i h;simp[cA,h]
 rename_i h;rw[Yfy];simp[h]
def Mv(z:Int):bl (aK z)=an z.natAbs:=by
 unfold bl;rw[Mt];by_cases h:z<0
 ·simp[h,aK]
 simp[h,aK]
def Mw(q:Rat):ah (aP q)=(aK q.num).length:=by
 unfold aP;split
 ·exact Up (Yh9 _)
 exact Uo (Yh9 _)
def PA(q:Rat):(aP q).take (ah (aP q))=aK q.num:=by
 rw[Mw];unfold aP;split
 ·simp
 simp
def PB(q:Rat)(h:q.den≠1):(aP q).drop (ah (aP q)+1)=an q.den:=by rw[Mw];unfold aP;rw[ak h,<-List.drop_drop];simp
def Fa(q:Rat):ah (aP q)<(aP q).length↔q.den≠1:=by
 rw[Mw];unfold aP;split
 ·rename_i h;simp[h]
 rename_i h;simp[h]
def Ymu{a b:Int}(h:aK a=aK b):a=b:=by have h1:=congrArg cA h;have h2:=congrArg bl h;rw[Mt,Mt,decide_eq_decide]at h1;rw[Mv,Mv]at h2;have h3:=Py h2;omega
def Yjm{a b:Rat}(h:aP a=aP b):a=b:=by
 have h1:=PA a;rw[h,PA b]at h1;have h2:=Ymu h1;have h3:a.den=b.den:=by
  by_cases ha:a.den=1
  ·have:=mt (Fa a).1 (fun hc=>hc ha);rw[h]at this;rw[Fa]at this;rw[ha];exact(Decidable.not_not.1 this).symm
  have:=(Fa a).2 ha;rw[h]at this;have hb:=(Fa b).1 this;have e:=PB a ha;rw[h,PB b hb]at e;exact(Py e).symm
 exact Rat.ext h2.symm h3
def jh(s:aD):Rat:=mkRat (if cA s then -(aE ((bl s).take (ah (bl s))):Int) else aE ((bl s).take (ah (bl s)))) (if ah (bl s)<(bl s).length then aE ((bl s).drop (ah (bl s)+1)) else 1)
def Ym4(h:aS s=0):gV (cA s) ((bl s).take (ah (bl s))) (decide (ah (bl s)<(bl s).length)) ((bl s).drop (ah (bl s)+1))=true/\((bl s).take (ah (bl s))).length<=600/\((bl s).drop (ah (bl s)+1)).length<=600/\(ah (bl s)<(bl s).length->Nat.gcd (aE ((bl s).take (ah (bl s)))) (aE ((bl s).drop (ah (bl s)+1)))=1):=by
 unfold aS JQ kZ at h;split at h
 ·cases h
 rename_i h1;split at h
 ·cases h
 rename_i h2;split at h
 ·cases h
 rename_i h3;refine⟨by simpa using h1,by omega,by omega,fun hs=>?_⟩;rw[decide_eq_true hs]at h3;simpa using h3
def Zun{n:Int}{d:Nat}(hd:d≠0)(h:Nat.gcd n.natAbs d=1):(mkRat n d).num=n/\(mkRat n d).den=d:=by
 have:mkRat n d=⟨n,d,hd,h⟩:=by rw[Rat.mkRat_def,dif_neg hd];exact Rat.normalize_eq_mk' _ _ hd h
 rw[this];exact⟨rfl,rfl⟩
def Ydk(s:aD):s=(if cA s then [45] else [])++bl s:=by
 cases s with
 |nil=>rfl
 |cons c t=>
  unfold bl;by_cases hc:c.toNat=45
  ·have:c=45:=UInt8.toNat_inj.1 hc;subst this;simp[cA]
  simp[cA,hc]
def HW(h:aS s=0):aP (jh s)=s/\(an (jh s).num.natAbs).length<=600/\(an (jh s).den).length<=600:=by
 obtain⟨h1,h2,h3,h4⟩:=Ym4 h;have hle:=G9 (bl s);unfold gV at h1;simp only[gI,I3,I4,decide_eq_true_eq]at h1;obtain⟨⟨hp,hz⟩,hd⟩:=h1;have CM:cA s=true->aE ((bl s).take (ah (bl s)))≠0:=by intro hn h0;rw[hn,Bool.true_and,decide_eq_false_iff_not]at hz;apply hz;have:=Dt hp;rw[h0]at this;exact this.symm
 have jA:(an (aE ((bl s).take (ah (bl s))))).length<=600:=by rw[Dt hp];exact h2
 have hb:=Ydk s;by_cases hs:ah (bl s)<(bl s).length
 ·have hd:jx ((bl s).drop (ah (bl s)+1))=true/\(bl s).drop (ah (bl s)+1)≠[48]/\(bl s).drop (ah (bl s)+1)≠[49]:=by
   rcases hd with hd|⟨⟨a,b⟩,c⟩
   ·exact absurd hs (by simpa using hd)
   exact⟨a,b,c⟩
  have hg:=h4 hs;have qf:aE ((bl s).drop (ah (bl s)+1))≠0:=by intro h0;have:=Dt hd.1;rw[h0]at this;exact hd.2.1 this.symm
  have uP:aE ((bl s).drop (ah (bl s)+1))≠1:=by intro h0;have:=Dt hd.1;rw[h0]at this;exact hd.2.2 (this.symm.trans (by decide+kernel))
  have ka:(an (aE ((bl s).drop (ah (bl s)+1)))).length<=600:=by rw[Dt hd.1];exact h3
  have hv:jh s=mkRat (if cA s then -(aE ((bl s).take (ah (bl s))):Int) else aE ((bl s).take (ah (bl s)))) (aE ((bl s).drop (ah (bl s)+1))):=by unfold jh;rw[ar hs]
  obtain⟨e1,e2⟩:=Zun (n:=if cA s then -(aE ((bl s).take (ah (bl s))):Int) else aE ((bl s).take (ah (bl s)))) qf (by split<;>simpa using hg);rw[<-hv]at e1 e2;have PC:bl s=(bl s).take (ah (bl s))++47::(bl s).drop (ah (bl s)+1):=by
   conv=>lhs;rw[<-En (ah (bl s)) (bl s)]
   rw[Zon hs]
  refine⟨?_,?_,by rw[e2];exact ka⟩
  ·unfold aP;rw[e2,ak uP,Dt hd.1,e1];conv=>rhs;rw[hb,PC]
   unfold aK;cases hn:cA s with
   |false=> simp only[iy,if_false];rw[ak (by omega),eh,Dt hp];rfl
   |true=> have:=CM hn;simp only[if_true];rw[ar (by omega),CE,eh,Dt hp];rfl
  rw[e1];split<;>simpa using jA
 have hv:jh s=mkRat (if cA s then -(aE ((bl s).take (ah (bl s))):Int) else aE ((bl s).take (ah (bl s)))) 1:=by unfold jh;rw[ak hs]
 obtain⟨e1,e2⟩:=Zun (n:=if cA s then -(aE ((bl s).take (ah (bl s))):Int) else aE ((bl s).take (ah (bl s)))) (show (1:Nat)≠0 by decide) (Nat.gcd_one_right _);rw[<-hv]at e1 e2;have ht:(bl s).take (ah (bl s))=bl s:=gp (by omega);rw[ht]at e1 hp CM jA;refine⟨?_,?_,by rw[e2];decide+kernel⟩
 ·unfold aP;rw[e2,ar rfl,e1];conv=>rhs;rw[hb]
  unfold aK;cases hn:cA s with
  |false=> simp only[iy,if_false];rw[ak (by omega),eh,Dt hp];rfl
  |true=> have:=CM hn;simp only[if_true];rw[ar (by omega),CE,eh,Dt hp];rfl
 rw[e1];split<;>simpa using jA
def Yj(q:Rat):bl (aP q)=if q.den=1 then an q.num.natAbs else an q.num.natAbs++47::an q.den:=by
 have dW:∀t:aD,cA (aK q.num++t)=decide (q.num<0):=by
  intro t;rw[<-Mt];have:aK q.num≠[]:=by
   unfold aK;split
   ·simp
   exact JP _
  cases h:aK q.num with
  |nil=>exact absurd h this
  |cons c u=>rfl
 have hb:∀t:aD,bl (aK q.num++t)=an q.num.natAbs++t:=by
  intro t;unfold bl;rw[dW];by_cases h:q.num<0
  ·simp[h,aK]
  simp[h,aK]
 unfold aP;split
 ·have:=hb [];simpa using this
 exact hb _
def Zzg(q:Rat):cA (aP q)=decide (q.num<0):=by
 have dW:∀t:aD,cA (aK q.num++t)=decide (q.num<0):=by
  intro t;rw[<-Mt];have:aK q.num≠[]:=by
   unfold aK;split
   ·simp
   exact JP _
  cases h:aK q.num with
  |nil=>exact absurd h this
  |cons c u=>rfl
 unfold aP;split
 ·have:=dW [];simpa using this
 exact dW _
def Ztn(q:Rat):(bl (aP q)).take (ah (bl (aP q)))=an q.num.natAbs/\(ah (bl (aP q))<(bl (aP q)).length↔q.den≠1)/\(bl (aP q)).drop (ah (bl (aP q))+1)=if q.den=1 then [] else an q.den:=by
 rw[Yj];by_cases h:q.den=1
 ·simp only[h,if_true];rw[Up (Ms (zM _))];simp
 simp only[h,if_false];rw[Uo (Ms (zM _))];simp[h]
def zW(q:Rat):Bool:=decide (600<(an q.num.natAbs).length\/600<(an q.den).length)
def Yov:an 0=[48]:=rfl
def Nj:an 1=[49]:=by decide+kernel
def Ydg(q:Rat):aS (aP q)=if zW q then 4 else 0:=by
 obtain⟨h1,h2,h3⟩:=Ztn q;have hf:gV (cA (aP q)) (an q.num.natAbs) (decide (q.den≠1)) (if q.den=1 then [] else an q.den)=true:=by
  unfold gV;rw[Zre,Zzg];have hz:(decide (q.num<0)&&decide (an q.num.natAbs=[48]))=false:=by
   by_cases hn:q.num<0
   ·have:an q.num.natAbs≠[48]:=by intro h;have:=Py (h.trans Yov.symm);omega
    simp[this]
   simp[hn]
  rw[hz];by_cases hd:q.den=1
  ·simp[hd]
  have a1:an q.den≠[48]:=fun h=>q.den_nz (Py (h.trans Yov.symm));have a2:an q.den≠[49]:=fun h=>hd (Py (h.trans Nj.symm));simp[hd,Zre,a1,a2]
 have hb:(decide (ah (bl (aP q))<(bl (aP q)).length))=decide (q.den≠1):=decide_eq_decide.2 h2;unfold aS JQ;rw[h1,h3,hb];unfold kZ;rw[hf];have hg:¬(decide (q.den≠1)=true/\Nat.gcd (aE (an q.num.natAbs)) (aE (if q.den=1 then [] else an q.den))≠1):=by
  rintro⟨a,b⟩;have a:q.den≠1:=by simpa using a
  rw[ak a,B5,B5]at b;exact b q.reduced
 rw[ak (by simp),ak hg];unfold zW;by_cases hd:q.den=1
 ·rw[hd,Nj];simp
 simp[hd]
def Ykg(q:Rat):jh (aP q)=q:=by
 obtain⟨h1,h2,h3⟩:=Ztn q;unfold jh;rw[h1,h3,Zzg,B5];have hn:(if decide (q.num<0)=true then -(q.num.natAbs:Int) else (q.num.natAbs:Int))=q.num:=by
  by_cases h:q.num<0
  ·rw[ar (by simpa using h)];omega
  rw[ak (by simpa using h)];omega
 rw[hn];by_cases hd:q.den=1
 ·rw[ak (fun h=>(h2.1 h) hd)];have:=Rat.mkRat_self q;rw[hd]at this;exact this
 rw[ar (h2.2 hd),ak hd,B5];exact Rat.mkRat_self q
variable {i j k n:Nat}
def Uq:∀{i n:Nat},i<(ds n).length->(ds n)[i]?=some ((n/1000000000^i%1000000000:Nat):Int)
 |i,n,h=>by
  by_cases hn:n=0
  ·rw[hn,uJ]at h;simp at h
  ·rw[BA hn]at h ⊢
   cases i with
   |zero=>simp
   |succ i=>
    rw[Gm,Uq (by simpa using h),IZ,ix,jO]
def Yot(h:i<(ds n).length):n/1000000000^i≠0:=by intro hc;have h1:n<1000000000^i:=(Nat.div_eq_zero_iff_lt (Bu (by decide))).1 hc;have:=LX h1;omega
def Yh7(h:i+1<(ds n).length):an (n/1000000000^i)=an (n/1000000000^(i+1))++jb (n/1000000000^i%1000000000) 9:=by
 have h0:=Yot (i:=i) (n:=n) (by omega);have h1:=Yot (i:=i+1) (n:=n) h;have e:n/1000000000^(i+1)=n/1000000000^i/1000000000:=by rw[ix,IZ]
 rw[e]at h1 ⊢;generalize n/1000000000^i=x at*;unfold an;rw[ak h0,ak h1];have:=Zri (k:=9) (a:=x/1000000000) (b:=x%1000000000) h1 (by omega);rw[show (10:Nat)^9=1000000000 by decide]at this;rw[<-this];congr 1;omega
def Ymt(h:i+1=(ds n).length):an (n/1000000000^i)=jb (n/1000000000^i%1000000000) 1:=by
 have h1:n<1000000000^(i+1):=by
  have h2:=wZ (ig n);rw[iC,<-h]at h2;unfold pI at h2;have h3:(1000000000:Int)^(i+1)=((1000000000^(i+1):Nat):Int):=by rw[Int.natCast_pow];rfl
  rw[h3]at h2;exact Int.ofNat_lt.1 h2
 rw[ix]at h1;have h3:n/1000000000^i<1000000000:=Nat.div_lt_of_lt_mul h1;rw[zC h3,Pz]
def Qb(k:Nat)(q:Rat):Prop:=q.num.natAbs<2^k/\q.den<2^k
def PD(h:j<=k):2^j<=2^k:=qW (by decide) h
def Qb.mono{q:Rat}(h:Qb j q)(hk:j<=k):Qb k q:=⟨fm h.1 (PD hk),fm h.2 (PD hk)⟩
def YF{a b:Int}(hb:b≠0)(h1:a.natAbs<2^k)(h2:b.natAbs<2^k):Qb k (Rat.divInt a b):=by
 constructor
 ·rw[Rat.num_divInt];refine po ?_ h1;rw[Int.natAbs_ediv_of_dvd]
  ·rw[ye];have:b.sign.natAbs=1:=by rw[Int.natAbs_sign,ak hb]
   rw[this,Nat.one_mul];exact wS _ _
  exact Int.dvd_trans (Int.gcd_dvd_right ..) (Int.dvd_mul_left ..)
 rw[Rat.den_divInt,ak hb];exact po (wS _ _) h2
def Qb.mul{p q:Rat}(hp:Qb j p)(hq:Qb k q):Qb (j+k) (p*q):=by
 have uO:((p.den:Nat):Int)≠0:=by have:=p.den_nz;omega
 have xy:((q.den:Nat):Int)≠0:=by have:=q.den_nz;omega
 rw[<-AO p,<-AO q,Rat.divInt_mul_divInt];refine YF (Int.mul_ne_zero uO xy) ?_ ?_
 ·rw[ye,mr];exact CK hp.1 hq.1
 rw[ye,mr,eh,eh];exact CK hp.2 hq.2
def Qb.add{p q:Rat}(hp:Qb j p)(hq:Qb k q):Qb (j+k+1) (p+q):=by
 have uO:((p.den:Nat):Int)≠0:=by have:=p.den_nz;omega
 have xy:((q.den:Nat):Int)≠0:=by have:=q.den_nz;omega
 rw[<-AO p,<-AO q,Rat.divInt_add_divInt _ _ uO xy];have e:2^(j+k+1)=2^j*2^k+2^k*2^j:=by rw[ix,mr,jO (2^k)];omega
 refine YF (Int.mul_ne_zero uO xy) ?_ ?_
 ·refine po (Int.natAbs_add_le ..) ?_;rw[ye,ye,eh,eh,e];exact Nat.add_lt_add (CK hp.1 hq.2) (CK hq.1 hp.2)
 rw[ye,eh,eh,e];exact fm (CK hp.2 hq.2) (Nat.le_add_right _ _)
def Qb.int{z:Int}(h:z.natAbs<2^k)(hk:0<k):Qb k (z:Rat):=by refine⟨by simpa using h,?_⟩;rw[Rat.den_intCast];exact fm (by decide) (PD (j:=1) hk)
def D9(h:n<2^k):(ds n).length<=k:=LX (fm h (I1 (by decide) k))
def PE(h:n<2^k):(dv n).length<=k:=qN.1 (fm h (I1 (by decide) k))
def Ur(h:n<2^k):(an n).length<=k+1:=by have:=PE h;unfold an;split<;>simp<;>omega
def Zx0{z:Int}(h:z.natAbs<2^k):(aK z).length<=k+2:=by have:=Ur h;unfold aK;split<;>simp<;>omega
def Yn7(k:Nat):10^k<=2^(4*k):=by rw[Nat.pow_mul];exact I1 (by decide) k
def Ywq{s:aD}(h:aS s=0)(hn:s.length<=n):Qb (4*n+4) (jh s):=by
 obtain⟨e,_,_⟩:=HW h;have hb:=Yj (jh s);have l1:(bl (aP (jh s))).length<=n:=by
  rw[e];unfold bl;split
  ·simp;omega
  exact hn
 rw[hb]at l1;have g:∀m:Nat,(an m).length<=n+1->m<2^(4*n+4):=fun m hm=>by have:=(CF (n:=m) (k:=n+1) (by omega)).1 hm;exact fm this (by have:=Yn7 (n+1);rw[uI]at this;exact this)
 split at l1
 ·rename_i h1;have h2:(an 1).length=1:=by rw[Nj];rfl
  exact⟨g _ (by omega),by rw[h1];exact g 1 (by omega)⟩
 simp at l1;exact⟨g _ (by omega),g _ (by omega)⟩
open Go Go.Proofs
set_option maxRecDepth 1000000
def A.b191:=A.q Tryz.f191
def A.k191:=@A.kk 191 13 [.tmp 4] A.b191 (by kernel_rfl) rfl
def A.PF:=A.q Tryz.f146
def A.k_:=A.ql A.PF 0 []
def A.b146:=(fun x0=>A.qb A.PF [x0]) A.k_
def A.k146:=@A.kk 146 42 [.tmp 4] A.b146 (by kernel_rfl) rfl
def A.PG:=A.q Tryz.f148
def A.ot:=A.ql A.PG 0 []
def A.b148:=(fun x0=>A.qb A.PG [x0]) A.ot
def A.k148:=@A.kk 148 35 [.tmp 4] A.b148 (by kernel_rfl) rfl
def Zsy{h:T O}{N:Nat}{v:V}{l:List Int}{i:Nat}{w:List Nat}(hs:Sl h N v (dI l))(hi:i<4611686018427387904)(hl:l.length<4611686018427387904):A.C.call (.func 191 [] []) [v,.int .i64 i] ⟨h,N,w⟩=some (.int .i64 (zI l i),⟨h,N,w⟩):=by
 apply Call.eq;have hlen:=hs.len;rw[iJ]at hlen;rw[aN,A.k191 (by simp)];by_cases hc:i<l.length
 ·have Pd:(i:Int)<(l.length:Int):=by omega
  obtain⟨d,hd⟩:=bj hc;obtain⟨j,o,c,e,rw,q1,q2,q3,q4⟩:=hs.at (iP hd);simp[A.b191,hlen,Pd,q1,q3,q4,Ypb hd]
 have Pd:¬(i:Int)<(l.length:Int):=by omega
 simp[A.b191,hlen,Pd,Z6 (zB hc)]
structure AdI (h:T O) (N:Nat) (la lb:List Int) (m:Nat) (r:T V) (st:St):Prop where
 w:ay N st.w=[]
 ad:ab h N st.h st.n
 ex:∃k c out D,k+m=max la.length lb.length+1/\r.get 7=some (.int .i64 k)/\r.get 6=some (.int .i64 c)/\r.get 5=some out/\0<=c/\c<=1/\(m=0->c=0)/\Own 1 3 N st.h st.n out (qI D)/\D.length=k/\Di D/\vI D+pI k*c=vI (la.take k)+vI (lb.take k)
def Us{l:List Int}{k:Nat}(h:l.length<=k):l.take k=l:=gp h
def Yql{h:T O}{N:Nat}{u v:V}{la lb:List Int}(hu:Sl h N u (dI la))(hv:Sl h N v (dI lb))(da:Di la)(db:Di lb)(l1:la.length<1099511627776)(l2:lb.length<1099511627776):Fn A.C 146 [u,v] h N (fun x h' n'=>∃l,Sl h' n' x (dI l)/\Di l/\vI l=vI la+vI lb/\l.length<=max la.length lb.length+1):=by
 intro w;have lu:=hu.len;have lv:=hv.len;rw[iJ]at lu lv;rw[aN,A.k146 (by simp)];simp[A.b146];refine cm [(5,40)] (fun e r st=>e=.exit 0/\ay N st.w=[]/\ab h N st.h st.n/\∃out D,r.get 5=some out/\Own 1 3 N st.h st.n out (qI D)/\Di D/\vI D=vI la+vI lb/\D.length<=max la.length lb.length+1) (AdI h N la lb) (max la.length lb.length+1) ?_ ?_ ?_
 ·exact⟨by simp,ab.refl,0,0,.aa,[],by omega,by simp,by simp,by simp,by omega,by omega,fun _=>rfl,Own.nil,rfl,Di.nil,by simp[vI]⟩
 ·rintro m r ⟨H,n1,W⟩ hr hf ⟨hW,hK,k,c,out,D,hk,h7,h6,h5,c0,c1,cz,ho,hD,dD,nA⟩;simp only at hW hK ho;rw[bu];by_cases uX:k<la.length\/k<lb.length\/0<c
  ·obtain⟨m',rfl⟩:∃m',m=m'+1:=⟨m-1,by
    have:m≠0:=fun hm=>by have:=cz hm;omega
    omega⟩;have dx:=Z7 da k;have dy:=Z7 db k;have e1:=fun w=>Zsy (w:=w) (i:=k) (hu.ad hK) (by omega) (by omega);have e2:=fun w=>Zsy (w:=w) (i:=k) (hv.ad hK) (by omega) (by omega);obtain⟨x,hx⟩:∃x,zI la k=x:=⟨_,rfl⟩;obtain⟨y,hy⟩:∃y,zI lb k=y:=⟨_,rfl⟩;rw[hx]at dx e1;rw[hy]at dy e2;have t1:(x+y+c).tmod 1000000000=(x+y+c)%1000000000:=Gl (by omega);have t2:(x+y+c).tdiv 1000000000=(x+y+c)/1000000000:=C2 (by omega);have t3:bo .i64 (x+y)=x+y:=cP (by omega) (by omega);have t4:bo .i64 (x+y+c)=x+y+c:=cP (by omega) (by omega);have t5:bo .i64 ((x+y+c)/1000000000)=(x+y+c)/1000000000:=cP (by omega) (by omega);have pL:vI (D++[(x+y+c)%1000000000])+pI (k+1)*((x+y+c)/1000000000)=vI (la.take (k+1))+vI (lb.take (k+1)):=by
    rw[EG,hD,Z8,Z8,hx,hy,wX];have hm:=Gj (x+y+c) 1000000000;generalize (x+y+c)/1000000000=Q at*;generalize (x+y+c)%1000000000=R at*;have:R=x+y+c-1000000000*Q:=by omega
    subst this;grind
   have hz:m'=0->(x+y+c)/1000000000=0:=fun hm=>by
    have:x=0:=by rw[<-hx];exact Z6 (by omega)
    have:y=0:=by rw[<-hy];exact Z6 (by omega)
    omega
   have zz:=ho.ad (ab.refl.new (.cells [.int .i64 ((x+y+c)%1000000000)] 3 true));obtain⟨v',h',w',f1,f2,f3,_,f5⟩:=A7 (x:=[.int .i64 ((x+y+c)%1000000000)]) (u:=.slice n1 0 1 (some 1) 1) (bytes:=8) (w:=W) zz (by have:=hK.le;omega) (by decide) rfl (by simp[gb,St.row,aL]) (by simp[qI];omega);rw[<-GI]at f5;have f6:ay N w'=[]:=by rw[f2];exact hW
   have kz:=(hK.new (.cells [.int .i64 ((x+y+c)%1000000000)] 3 true)).then f3;have JR:k<la.length\/(¬k<la.length/\k<lb.length)\/(¬k<la.length/\¬k<lb.length/\0<c):=by omega
   rcases JR with g1|⟨g1,g2⟩|⟨g1,g2,g3⟩
   ·have i1:(k:Int)<(la.length:Int):=by omega
    simp[A.k_,hr,h7,h6,h5,lu,i1,e1,e2,t1,t3,t4,ag];simp(disch:=first|(simp;done)|omega|rfl) [f1,hf,h7];exact⟨m',by omega,⟨f6,kz,k+1,(x+y+c)/1000000000,v',D++[(x+y+c)%1000000000],by omega,by simp,by simp[t2],by simp,by omega,by omega,hz,f5,by simp[hD],dD.app (Di.one (by omega) (by omega)),pL⟩⟩
   ·have i1:¬(k:Int)<(la.length:Int):=by omega
    have i2:(k:Int)<(lb.length:Int):=by omega
    simp[A.k_,hr,h7,h6,h5,lu,lv,i1,i2,e1,e2,t1,t3,t4,ag];simp(disch:=first|(simp;done)|omega|rfl) [f1,hf,h7];exact⟨m',by omega,⟨f6,kz,k+1,(x+y+c)/1000000000,v',D++[(x+y+c)%1000000000],by omega,by simp,by simp[t2],by simp,by omega,by omega,hz,f5,by simp[hD],dD.app (Di.one (by omega) (by omega)),pL⟩⟩
   have i1:¬(k:Int)<(la.length:Int):=by omega
   have i2:¬(k:Int)<(lb.length:Int):=by omega
   simp[A.k_,hr,h7,h6,h5,lu,lv,g3,i1,i2,e1,e2,t1,t3,t4,ag];simp(disch:=first|(simp;done)|omega|rfl) [f1,hf,h7];exact⟨m',by omega,⟨f6,kz,k+1,(x+y+c)/1000000000,v',D++[(x+y+c)%1000000000],by omega,by simp,by simp[t2],by simp,by omega,by omega,hz,f5,by simp[hD],dD.app (Di.one (by omega) (by omega)),pL⟩⟩
  obtain⟨g1,g2,g3⟩:¬k<la.length/\¬k<lb.length/\¬0<c:=by omega
  have i1:¬(k:Int)<(la.length:Int):=by omega
  have i2:¬(k:Int)<(lb.length:Int):=by omega
  obtain rfl:c=0:=by omega
  rw[Us (by omega),Us (by omega),Int.mul_zero,Int.add_zero]at nA;simp[A.k_,hr,hf,h7,h6,lu,lv,i1,i2,hW,hK];exact⟨out,h5,D,ho,dD,nA,by omega⟩
 rintro _ r ⟨H,n1,W⟩ hr ⟨rfl,hW,hK,out,D,h5,ho,dD,nA,hl⟩;simp only at hW hK ho;simp[h5,ax,hW,hK];exact⟨D,ho.sl,dD,nA,hl⟩
variable {N:Nat} {h:T O}
def A.b58:=A.q Tryz.f58
def A.k58:=@A.kk 58 40 [.cell 4 (some 2)] A.b58 (by kernel_rfl) rfl
def A.b143:=A.q Tryz.f143
def A.k143:=@A.kk 143 9 [.cell 2 (some 2)] A.b143 (by kernel_rfl) rfl
def A.b59:=A.q Tryz.f59
def A.k59:=@A.kk 59 16 [.cell 4 (some 2)] A.b59 (by kernel_rfl) rfl
def Ut(k:Nat):pI k=((1000000000^k:Nat):Int):=by unfold pI;simp
def Rg.ad{h':T O}{N':Nat}{v:V}{z:Int}(s:Rg h N v z)(k:ab h N h' N'):Rg h' N' v z:=by obtain⟨u,h1,h2⟩:=s;exact⟨u,h1,h2.ad k⟩
def jS:∀x∈[V.bool false,V.aa],∀k m,x≠.int k m:=by intro x hx k m;simp at hx;rcases hx with rfl|rfl<;>simp
def Yvc{b:Bool}{u:V}(hu:Jr u):∀x∈[V.bool b,u],∀k m,x≠.int k m:=by
 intro x hx k m;simp at hx;rcases hx with rfl|rfl
 ·simp
 rcases hu with rfl|rfl|⟨_,_,_,_,_,rfl⟩<;>simp
def Yc9(a b:Nat):(ds (a*b)).length<=(ds a).length+(ds b).length:=by refine LX ?_;have h1:=wZ (ig a);have h2:=wZ (ig b);rw[iC]at h1 h2;rw[Ut]at h1 h2;rw[mr];exact CK (Int.ofNat_lt.1 h1) (Int.ofNat_lt.1 h2)
def Zzk{v:V}{z:Int}(hs:Rg h N v z)(hl:(ds z.natAbs).length<1099511627776):Fn A.C 143 [v] h N (fun u h' n'=>Rg h' n' u (-z)):=by
 intro w;obtain⟨u,rfl,hu⟩:=hs;have o1:=Sl.form hu |>.one;have o2:=Sl.form hu |>.cells;unfold V.one at o1;unfold V.cells at o2;have kB:=(((ab.refl (h:=h) (n:=N)).new (.cells [.bool (decide (z<0)),u] 93 true)).new (.cells [.bool false,.aa] 93 true));rw[aN,A.k143 (by simp)];simp[A.b143,o1,aQ];refine av (yU (b:=!decide (z<0)) (n:=z.natAbs) (Sl.ad hu kB) (ig _) (iC _) (by omega)) ?_;rintro v2 h2 n2 k2 hv;have wE:=k2.le;have g1:=(k2.get (N+1) (by omega));rw[T.ae,ar rfl]at g1;have kk:=kB.trans k2;have ez:(if (!decide (z<0))=true then -((z.natAbs:Nat):Int) else ((z.natAbs:Nat):Int))= -z:=by by_cases h0:z<0<;>simp[h0]<;>omega
 rw[ez]at hv;obtain⟨u2,rfl,fZ⟩:=hv;have p1:=Sl.form fZ |>.one;have p2:=Sl.form fZ |>.cells;unfold V.one at p1;unfold V.cells at p2;simp[g1,p1,ag,bO,aQ,aL,ax];exact⟨kk.set (by omega),u2,by simp,Sl.setInt fZ g1 jS rfl⟩
def Yp2(a b:Int):(if (!(decide (a<0)==decide (b<0)))=true then -((a.natAbs*b.natAbs:Nat):Int) else ((a.natAbs*b.natAbs:Nat):Int))=a*b:=by
 have h0:((a.natAbs*b.natAbs:Nat):Int)=(a.natAbs:Int)*(b.natAbs:Int):=by simp
 rw[h0];by_cases h1:a<0<;>by_cases h2:b<0
 ·have ha:(a.natAbs:Int)= -a:=by omega
  have hb:(b.natAbs:Int)= -b:=by omega
  rw[ha,hb];simp[h1,h2,Int.neg_mul,Int.mul_neg]
 ·have ha:(a.natAbs:Int)= -a:=by omega
  have hb:(b.natAbs:Int)=b:=by omega
  rw[ha,hb];simp[h1,h2,Int.neg_mul]
 ·have ha:(a.natAbs:Int)=a:=by omega
  have hb:(b.natAbs:Int)= -b:=by omega
  rw[ha,hb];simp[h1,h2,Int.mul_neg]
 have ha:(a.natAbs:Int)=a:=by omega
 have hb:(b.natAbs:Int)=b:=by omega
 rw[ha,hb];simp[h1,h2]
def Zrw{x y:V}{a b:Int}(hx:Rg h N x a)(hy:Rg h N y b)(l1:(ds a.natAbs).length<500000000000)(l2:(ds b.natAbs).length<500000000000):Fn A.C 59 [x,y] h N (fun u h' n'=>Rg h' n' u (a*b)):=by
 intro w;obtain⟨u,rfl,hu⟩:=hx;obtain⟨v,rfl,hv⟩:=hy;have o1:=Sl.form hu |>.one;have o2:=Sl.form hu |>.cells;have o3:=Sl.form hv |>.one;have o4:=Sl.form hv |>.cells;unfold V.one at o1 o3;unfold V.cells at o2 o4;have kB:=((((ab.refl (h:=h) (n:=N)).new (.cells [.bool (decide (a<0)),u] 93 true)).new (.cells [.bool (decide (b<0)),v] 93 true)).new (.cells [.bool false,.aa] 93 true));rw[aN,A.k59 (by simp)];simp[A.b59,o1,o3,aQ,bh];generalize hB:((h.set N (.cells [.bool (decide (a<0)),u] 93 true)).set (N+1) (.cells [.bool (decide (b<0)),v] 93 true)).set (N+1+1) (.cells [.bool false,.aa] 93 true)=HB at*;have gr:HB.get (N+1+1)=some (.cells [.bool false,.aa] 93 true):=by rw[<-hB];simp
 refine av (Zwh (Sl.ad hu kB) (Sl.ad hv kB) (ig _) (ig _) (iC _) (iC _) (by omega)) ?_;rintro v1 h1 n1 k1 q1;have Ac:(ds (a.natAbs*b.natAbs)).length<1152921504606846976:=by have:=Yc9 a.natAbs b.natAbs;omega
 simp[];refine av (yU (n:=a.natAbs*b.natAbs) q1 (ig _) (iC _) Ac) ?_;rintro v2 h2 n2 k2 fi;have yw:=k1.le;have me:=k2.le;have g1:=(k2.get (N+1+1) (by omega)).trans ((k1.get (N+1+1) (by omega)).trans gr);have ez:(if (!(decide (a<0)==decide (b<0)))=true then -((a.natAbs*b.natAbs:Nat):Int) else ((a.natAbs*b.natAbs:Nat):Int))=a*b:=Yp2 a b;rw[ez]at fi;obtain⟨u2,rfl,fZ⟩:=fi;have p1:=Sl.form fZ |>.one;have p2:=Sl.form fZ |>.cells;unfold V.one at p1;unfold V.cells at p2;simp[g1,p1,ag,bO,aQ,aL,ax,cQ.cU];exact⟨by split<;>simp[ay],((kB.trans k1).trans k2).set (by omega),u2,rfl,Sl.setInt fZ g1 jS rfl⟩
set_option maxHeartbeats 4000000
structure SuI (h:T O) (N:Nat) (la lb:List Int) (m:Nat) (r:T V) (st:St):Prop where
 w:ay N st.w=[]
 ad:ab h N st.h st.n
 ex:∃k c out D,k+m=la.length/\r.get 7=some (.int .i64 k)/\r.get 6=some (.int .i64 c)/\r.get 5=some out/\0<=c/\c<=1/\Own 1 3 N st.h st.n out (qI D)/\D.length=k/\Di D/\vI D-pI k*c=vI (la.take k)-vI (lb.take k)
def Ye0{h:T O}{N:Nat}{u v:V}{a b:Nat}(hu:Dn h N u a)(hv:Dn h N v b)(fX:b<=a)(l1:(ds a).length<1099511627776):Fn A.C 148 [u,v] h N (fun x h' n'=>Dn h' n' x (a-b)):=by
 intro w;have l2:=vQ fX;have da:=ig a;have db:=ig b;have va:=iC a;have vb:=iC b;have lu:=Sl.len hu;have lv:=Sl.len hv;rw[iJ]at lu lv;have hu:Sl h N u (dI (ds a)):=hu;have hv:Sl h N v (dI (ds b)):=hv;generalize hA:ds a=la at*;generalize hB:ds b=lb at*;rw[aN,A.k148 (by simp)];simp[A.b148];refine cm [(5,32)] (fun e r st=>e=.exit 0/\SuI h N la lb 0 r st) (SuI h N la lb) la.length ?_ ?_ ?_
 ·exact⟨by simp,ab.refl,0,0,.aa,[],by omega,by simp,by simp,by simp,by omega,by omega,Own.nil,rfl,Di.nil,by simp[vI]⟩
 ·rintro m r ⟨H,n1,W⟩ hr hf ⟨hW,hK,k,c,out,D,hk,h7,h6,h5,c0,c1,ho,hD,dD,nA⟩;simp only at hW hK ho;rw[bu];cases m with
  |zero=>
   obtain rfl:k=la.length:=by omega
   simp[A.ot,hr,hf,h7,lu];exact⟨hW,hK,la.length,c,out,D,by omega,by simp[h7],by simp[h6],by simp[h5],c0,c1,ho,hD,dD,nA⟩
  |succ m=>
   have aC:k<la.length:=by omega
   have cI:(k:Int)<(la.length:Int):=by omega
   obtain⟨x,hx⟩:=bj aC;have dx:=da.get hx;have dy:=Z7 db k;obtain⟨i,o,cc,e,rw,q1,q2,q3,q4⟩:=(hu.ad hK).at (iP hx);have e2:=fun w=>Zsy (w:=w) (i:=k) (hv.ad hK) (by omega) (by omega);obtain⟨y,hy⟩:∃y,zI lb k=y:=⟨_,rfl⟩;rw[hy]at dy e2;have t3:bo .i64 (x-y)=x-y:=cP (by omega) (by omega);have t4:bo .i64 (x-y-c)=x-y-c:=cP (by omega) (by omega);have t5:bo .i64 (x-y-c+1000000000)=x-y-c+1000000000:=cP (by omega) (by omega);have hs:∀d c':Int,d-1000000000*c'=x-y-c->vI (D++[d])-pI (k+1)*c'=vI (la.take (k+1))-vI (lb.take (k+1)):=fun d c' he=>by
    rw[EG,hD,Ap hx,Z8,hy,wX];have:d=x-y-c+1000000000*c':=by omega
    subst this;grind
   have ap:∀d:Int,∃v' h' w',mm ⟨H.set n1 (.cells [.int .i64 d] 3 true),n1+1,W⟩ 1 8 3 out (.slice n1 0 1 (some 1) 1)=some (v',⟨h',n1+1+1,w'⟩)/\ay N w'=[]/\ab h N h' (n1+1+1)/\Own 1 3 N h' (n1+1+1) v' (qI (D++[d])):=fun d=>by have zz:=ho.ad (ab.refl.new (.cells [.int .i64 d] 3 true));obtain⟨v',h',w',f1,f2,f3,_,f5⟩:=A7 (x:=[.int .i64 d]) (u:=.slice n1 0 1 (some 1) 1) (bytes:=8) (w:=W) zz (by have:=hK.le;omega) (by decide) rfl (by simp[gb,St.row,aL]) (by simp[qI];omega);rw[<-GI]at f5;exact⟨v',h',w',f1,by rw[f2];exact hW,(hK.new (.cells [.int .i64 d] 3 true)).then f3,f5⟩
   by_cases dW:x-y-c<0
   ·obtain⟨v',h',w',f1,f2,f3,f5⟩:=ap (x-y-c+1000000000);simp[A.ot,hr,h7,h6,h5,lu,cI,q1,q2,q3,q4,e2,t3,t4,t5,dW,ag,cQ.cU];simp(disch:=first|(simp;done)|omega|rfl) [f1,hf,h7];exact⟨m,by omega,⟨f2,f3,k+1,1,v',D++[x-y-c+1000000000],by omega,by simp,by simp,by simp,by omega,by omega,f5,by simp[hD],dD.app (Di.one (by omega) (by omega)),hs _ _ (by omega)⟩⟩
   obtain⟨v',h',w',f1,f2,f3,f5⟩:=ap (x-y-c);simp[A.ot,hr,h7,h6,h5,lu,cI,q1,q2,q3,q4,e2,t3,t4,dW,ag,cQ.cU];simp(disch:=first|(simp;done)|omega|rfl) [f1,hf,h7];exact⟨m,by omega,⟨f2,f3,k+1,0,v',D++[x-y-c],by omega,by simp,by simp,by simp,by omega,by omega,f5,by simp[hD],dD.app (Di.one (by omega) (by omega)),hs _ _ (by omega)⟩⟩
 rintro _ r ⟨H,n1,W⟩ hr ⟨rfl,hW,hK,k,c,out,D,hk,h7,h6,h5,c0,c1,ho,hD,dD,nA⟩;simp only at hW hK ho;obtain rfl:k=la.length:=by omega
 rw[Us (aO _),Us (by omega),va,vb]at nA;have aC:=wZ dD;rw[hD]at aC;have c2:c=0:=by
  apply Int.le_antisymm _ c0;apply Gs;intro hc;have:c=1:=by omega
  subst this;omega
 subst c2;have hvD:vI D=((a-b:Nat):Int):=by omega
 simp[h5];refine av (JS ho.sl (by omega)) ?_;rintro v2 h2 n2 k2 q2;rw[Jq dD hvD]at q2;simp[ax,hW];exact⟨hK.trans k2,q2⟩
def Yik{a b:Nat}:(0<=Du a b)↔b<=a:=by unfold Du;split<;>(try split)<;>omega
def Yqo{h:T O}{N:Nat}{x y:V}{a b:Int}(hx:Rg h N x a)(hy:Rg h N y b)(l1:(ds a.natAbs).length<500000000000)(l2:(ds b.natAbs).length<500000000000):Fn A.C 58 [x,y] h N (fun u h' n'=>Rg h' n' u (a+b)):=by
 intro w;obtain⟨u,rfl,hu⟩:=hx;obtain⟨v,rfl,hv⟩:=hy;have o1:=Sl.form hu |>.one;have o2:=Sl.form hu |>.cells;have o3:=Sl.form hv |>.one;have o4:=Sl.form hv |>.cells;unfold V.one at o1 o3;unfold V.cells at o2 o4;have kB:=((((ab.refl (h:=h) (n:=N)).new (.cells [.bool (decide (a<0)),u] 93 true)).new (.cells [.bool (decide (b<0)),v] 93 true)).new (.cells [.bool false,.aa] 93 true));rw[aN,A.k58 (by simp)];generalize hB:((h.set N (.cells [.bool (decide (a<0)),u] 93 true)).set (N+1) (.cells [.bool (decide (b<0)),v] 93 true)).set (N+1+1) (.cells [.bool false,.aa] 93 true)=HB at kB;have gr:HB.get (N+1+1)=some (.cells [.bool false,.aa] 93 true):=by rw[<-hB];simp
 have gx:HB.get N=some (.cells [.bool (decide (a<0)),u] 93 true):=by rw[<-hB];simp
 have gy:HB.get (N+1)=some (.cells [.bool (decide (b<0)),v] 93 true):=by rw[<-hB];simp
 by_cases Fb:decide (a<0)=decide (b<0)
 ·have Dv:(decide (a<0)==decide (b<0))=true:=by rw[Fb];simp
  simp[A.b58,o1,o3,aQ,bh,Dv];simp only[hB];refine av (Yql (Sl.ad hu kB) (Sl.ad hv kB) (ig _) (ig _) (by omega) (by omega)) ?_;rintro v1 h1 n1 k1 ⟨l,q1,q2,q3,q4⟩;rw[iC,iC]at q3;have ez:(if decide (a<0)=true then -((a.natAbs+b.natAbs:Nat):Int) else ((a.natAbs+b.natAbs:Nat):Int))=a+b:=by by_cases h1:a<0<;>by_cases h2:b<0<;>simp[h1,h2]at Fb ⊢<;>omega
  simp[];refine av (yU (b:=decide (a<0)) (n:=a.natAbs+b.natAbs) q1 q2 (by rw[q3];try simp) (by omega)) ?_;rintro v2 h2 n2 k2 fi;rw[ez]at fi;have yw:=k1.le;have me:=k2.le;have g1:=(k2.get (N+1+1) (by omega)).trans ((k1.get (N+1+1) (by omega)).trans gr);obtain⟨u2,rfl,fZ⟩:=fi;have p1:=Sl.form fZ |>.one;have p2:=Sl.form fZ |>.cells;unfold V.one at p1;unfold V.cells at p2;simp[g1,p1,ag,bO,aQ,aL,ax,cQ.cU];exact⟨by split<;>simp[ay],((kB.trans k1).trans k2).set (by omega),u2,rfl,Sl.setInt fZ g1 jS rfl⟩
 have Dv:(decide (a<0)==decide (b<0))=false:=by simpa using Fb
 have B2:=fun w=>Zx3 (w:=w) (Sl.ad hu kB) (Sl.ad hv kB) (by omega) (by omega);by_cases qp:b.natAbs<=a.natAbs
 ·have BW:0<=Du a.natAbs b.natAbs:=Yik.2 qp;simp[A.b58,o1,o3,aQ,bh,Dv];simp only[hB];simp[B2,BW,gx,gy,aQ];refine av (Ye0 (Sl.ad hu kB) (Sl.ad hv kB) qp (by omega)) ?_;rintro v1 h1 n1 k1 q1;have q2:=ig (a.natAbs-b.natAbs);have q3:=iC (a.natAbs-b.natAbs);have q4:=vQ (Nat.sub_le a.natAbs b.natAbs);have ez:(if decide (a<0)=true then -((a.natAbs-b.natAbs:Nat):Int) else ((a.natAbs-b.natAbs:Nat):Int))=a+b:=by by_cases h1:a<0<;>by_cases h2:b<0<;>simp[h1,h2]at Fb ⊢<;>omega
  simp[];refine av (yU (b:=decide (a<0)) (n:=a.natAbs-b.natAbs) q1 q2 (by rw[q3];try simp) (by omega)) ?_;rintro v2 h2 n2 k2 fi;rw[ez]at fi;have yw:=k1.le;have me:=k2.le;have g1:=(k2.get (N+1+1) (by omega)).trans ((k1.get (N+1+1) (by omega)).trans gr);obtain⟨u2,rfl,fZ⟩:=fi;have p1:=Sl.form fZ |>.one;have p2:=Sl.form fZ |>.cells;unfold V.one at p1;unfold V.cells at p2;simp[g1,p1,ag,bO,aQ,aL,ax,cQ.cU];exact⟨by split<;>simp[ay],((kB.trans k1).trans k2).set (by omega),u2,rfl,Sl.setInt fZ g1 jS rfl⟩
 have BW:¬0<=Du a.natAbs b.natAbs:=fun hc=>qp (Yik.1 hc);simp[A.b58,o1,o3,aQ,bh,Dv];simp only[hB];simp[B2,BW,gx,gy,aQ];refine av (Ye0 (Sl.ad hv kB) (Sl.ad hu kB) (by omega) (by omega)) ?_;rintro v1 h1 n1 k1 q1;have q2:=ig (b.natAbs-a.natAbs);have q3:=iC (b.natAbs-a.natAbs);have q4:=vQ (Nat.sub_le b.natAbs a.natAbs);have ez:(if decide (b<0)=true then -((b.natAbs-a.natAbs:Nat):Int) else ((b.natAbs-a.natAbs:Nat):Int))=a+b:=by by_cases h1:a<0<;>by_cases h2:b<0<;>simp[h1,h2]at Fb ⊢<;>omega
 simp[];refine av (yU (b:=decide (b<0)) (n:=b.natAbs-a.natAbs) q1 q2 (by rw[q3];try simp) (by omega)) ?_;rintro v2 h2 n2 k2 fi;rw[ez]at fi;have yw:=k1.le;have me:=k2.le;have g1:=(k2.get (N+1+1) (by omega)).trans ((k1.get (N+1+1) (by omega)).trans gr);obtain⟨u2,rfl,fZ⟩:=fi;have p1:=Sl.form fZ |>.one;have p2:=Sl.form fZ |>.cells;unfold V.one at p1;unfold V.cells at p2;simp[g1,p1,ag,bO,aQ,aL,ax,cQ.cU];exact⟨by split<;>simp[ay],((kB.trans k1).trans k2).set (by omega),u2,rfl,Sl.setInt fZ g1 jS rfl⟩
end
end Go.Mx
