/-Decimal notations of integers and of fra-/
import Derived.Test.YtgccnjdneojagaaGreatDoorRbA
set_option linter.all false
namespace Go.Mx
noncomputable section
open Go
variable {n:Nat}
def dp(n:Nat):UInt8:=UInt8.ofNat (48+n%10)
def JL(n:Nat):(dp n).toNat=48+n%10:=by unfold dp;simp;omega
def du(n:Nat):aG:=if h:n=0 then [] else du (n/10)++[dp n]
termination_by n
decreasing_by omega
def vV:du 0=[]:=by unfold du;simp
def zn(h:n≠0):du n=du (n/10)++[dp n]:=by
 conv=>lhs;unfold du
 rw[dif_neg h]
def aq(n:Nat):aG:=if n=0 then [48] else du n
def jg(n k:Nat):aG:=List.replicate (k-(du n).length) 48++du n
def aN(z:Int):aG:=if z<0 then 45::aq z.natAbs else aq z.natAbs
def aO(q:Rat):aG:=if q.den=1 then aN q.num else aN q.num++47::aq q.den
def Zvg:∀(n:Nat),aF (du n)=n:=by
 intro n;induction n using Nat.strongRecOn with
 |_ n ih=>
  by_cases h:n=0
  ·subst h;rw[vV];rfl
  rw[zn h,OD,ih (n/10) (by omega),JL];omega
def B6(n:Nat):aF (aq n)=n:=by
 unfold aq;split
 ·subst_vars;rfl
 exact Zvg n
def Zwr{s:aG}{c:UInt8}:cN (s++[c])=(cN s&&mQ c):=by simp[cN]
def Yn9(n:Nat):mQ (dp n)=true:=by unfold mQ;rw[JL];simp;omega
def Ykf:∀(n:Nat),cN (du n)=true:=by
 intro n;induction n using Nat.strongRecOn with
 |_ n ih=>
  by_cases h:n=0
  ·subst h;rw[vV];rfl
  rw[zn h,Zwr,ih (n/10) (by omega),Yn9];rfl
def Ag(n:Nat):cN (aq n)=true:=by
 unfold aq;split
 ·rfl
 exact Ykf n
def rE:∀{k n:Nat},n<10^k↔(du n).length<=k
 |0,n=>by
  simp only[Gn,Nat.lt_one_iff,Nat.le_zero,List.length_eq_zero_iff]
  constructor
  ·rintro rfl;exact vV
  ·intro h
   have:=Zvg n
   rw[h]at this
   exact this.symm
 |k+1,n=>by
  by_cases h:n=0
  ·subst h;rw[vV];simp;exact BD (by decide)
  ·rw[zn h,iI,Az,im]
   have:=rE (k:=k) (n:=n/10)
   rw[Nat.succ_le_succ_iff,<-this]
   exact(su (by decide)).symm
def Ux:∀{n:Nat},n≠0->∃c t,du n=c::t/\c.toNat≠48:=by
 intro n;induction n using Nat.strongRecOn with
 |_ n ih=>
  intro h;rw[zn h];by_cases h0:n/10=0
  ·rw[h0,vV];refine⟨dp n,[],rfl,?_⟩;rw[JL];omega
  obtain⟨c,t,e,hc⟩:=ih (n/10) (by omega) h0;rw[e];exact⟨c,t++[dp n],rfl,hc⟩
def JM(n:Nat):aq n≠[]:=by
 unfold aq;split
 ·simp
 rename_i h;obtain⟨c,t,e,_⟩:=Ux h;rw[e];simp
def Zsb(n:Nat):jH (aq n)=true:=by
 have ha:=Ag n;by_cases h:n=0
 ·subst h;rfl
 obtain⟨c,t,e,hc⟩:=Ux h;have e2:aq n=c::t:=by unfold aq;rw[ak h,e]
 rw[e2]at ha ⊢;show (cN (c::t)&&(decide (c.toNat≠48)||decide (t=[])))=true;rw[ha,decide_eq_true hc];rfl
def Yqi{c:UInt8}(h:mQ c=true){k:Nat}:dp (10*k+(c.toNat-48))=c:=by unfold mQ at h;simp only[decide_eq_true_eq]at h;apply UInt8.toNat_inj.1;rw[JL];omega
def Yjt:∀(t:aG) (c:UInt8),cN (c::t)=true->c.toNat≠48->du (aF (c::t))=c::t:=by
 intro t;generalize hn:t.length=n;induction n generalizing t with
 |zero=>
  intro c ha hc;have:t=[]:=th hn;subst this;have hd:mQ c=true:=by simpa[cN]using ha
  have:=Yqi hd (k:=0);have h2:48<=c.toNat/\c.toNat<=57:=by simpa[mQ]using hd
  have e:aF [c]=c.toNat-48:=by simp[aF]
  rw[e,zn (by omega),show (c.toNat-48)/10=0 by omega,vV];simp only[Nat.mul_zero,yR]at this;rw[this];rfl
 |succ n ih=>
  intro c ha hc;obtain⟨u,d,rfl⟩:∃u d,t=u++[d]:=⟨t.dropLast,t.getLast (by rintro rfl;simp at hn),(TT _).symm⟩;simp at hn;have ha':cN (c::u)=true/\mQ d=true:=by rw[<-Ev,Zwr,fW]at ha;exact ha
  have ih':=ih u (by omega) c ha'.1 hc;have h2:48<=d.toNat/\d.toNat<=57:=by simpa[mQ]using ha'.2
  rw[<-Ev,OD];have pO:aF (c::u)≠0:=by intro h0;rw[h0,vV]at ih';cases ih'
  rw[zn (by omega),show (10*aF (c::u)+(d.toNat-48))/10=aF (c::u) by omega,ih',Yqi ha'.2]
def DI{s:aG}(h:jH s=true):aq (aF s)=s:=by
 cases s with
 |nil=>cases h
 |cons c t=>
  have h:(cN (c::t)&&(decide (c.toNat≠48)||decide (t=[])))=true:=h;rw[fW,I4,decide_eq_true_eq,decide_eq_true_eq]at h;obtain⟨ha,hc⟩:=h;by_cases h48:c.toNat=48
  ·rcases hc with hc|hc
   ·exact absurd h48 hc
   subst hc;have:c=48:=UInt8.toNat_inj.1 h48;subst this;rfl
  have e:=Yjt t c ha h48;have:aF (c::t)≠0:=by intro h0;rw[h0,vV]at e;cases e
  unfold aq;rw[ak this,e]
def Pw{a b:Nat}(h:aq a=aq b):a=b:=by rw[<-B6 a,h,B6]
def Zsg:∀{k a b:Nat},a≠0->b<10^k->du (a*10^k+b)=du a++jg b k:=by
 intro k;induction k with
 |zero=>
  intro a b ha hb;have:b=0:=by simpa using hb
  subst this;simp[jg,vV]
 |succ k ih=>
  intro a b ha hb;rw[im]at hb ⊢;have sM:b/10<10^k:=(su (by decide)).2 hb;have hp:0<10^k:=BD (by decide);have pO:a*(10^k*10)+b≠0:=by have:=zN (Nat.pos_of_ne_zero ha) (zN hp (by decide:0<10));omega
  have e1:(a*(10^k*10)+b)/10=a*10^k+b/10:=by rw[<-Gm,kg _ 10,Nat.mul_add_div (by decide)]
  have e2:dp (a*(10^k*10)+b)=dp b:=by apply UInt8.toNat_inj.1;rw[JL,JL,<-Gm,kg _ 10,Nat.mul_add_mod]
  rw[zn pO,e1,ih ha sM,e2,uQ];congr 1;by_cases qU:b=0
  ·subst qU;unfold jg;rw[Nat.zero_div,vV];simp only[List.length_nil,Nat.sub_zero,zQ];rw[List.replicate_succ'];rfl
  unfold jg;rw[zn qU,iI,Az,<-uQ];rw[show k+1-((du (b/10)).length+1)=k-(du (b/10)).length by omega]
def Yod{b k:Nat}(h:b<10^k):(jg b k).length=k:=by have:=rE.1 h;simp[jg];omega
def Px(b:Nat):jg b 1=aq b:=by
 unfold jg aq;split
 ·subst_vars;rw[vV];rfl
 rename_i h;obtain⟨c,t,e,_⟩:=Ux h;rw[e];simp
def Zwe(h:n≠0):0<(du n).length:=by obtain⟨c,t,e,_⟩:=Ux h;rw[e];simp
def CO{k:Nat}(hk:0<k):(aq n).length<=k↔n<10^k:=by
 unfold aq;split
 ·subst_vars
  simp;exact⟨fun _=>BD (by decide),fun _=>hk⟩
 exact rE.symm
def Zsf{n:Nat}:∃c t,aq n=c::t/\48<=c.toNat/\c.toNat<=57:=by
 have h:=Ag n;cases hs:aq n with
 |nil=>exact absurd hs (JM n)
 |cons c t=>
  rw[hs]at h;have:mQ c=true:=by simp[cN]at h;exact h.1
  exact⟨c,t,rfl,by simpa[mQ]using this⟩
variable {s:aG}
def Uy:∀{s t:aG},(∀c∈s,c.toNat≠47)->ah (s++47::t)=s.length
 |[],t,_=>rfl
 |c::s,t,h=>by
  have h1:=h c rI
  have:=Uy (s:=s) (t:=t) fun d hd=>h d (ri _ hd)
  simp[ah,h1,this]
def Uz:∀{s:aG},(∀c∈s,c.toNat≠47)->ah s=s.length
 |[],_=>rfl
 |c::s,h=>by
  have h1:=h c rI
  have:=Uz (s:=s) fun d hd=>h d (ri _ hd)
  simp[ah,h1,this]
def Zpa:∀{s:aG},ah s<s.length->s.drop (ah s)=47::s.drop (ah s+1)
 |[],h=>by simp[ah]at h
 |c::s,h=>by
  by_cases hc:c.toNat=47
  ·have:c=47:=UInt8.toNat_inj.1 hc
   subst this
   simp[ah]
  ·simp only[ah,hc,if_false,bl]at h ⊢
   have:=Zpa (s:=s) (by omega)
   simpa using this
def Mv(h:cN s=true):∀c∈s,c.toNat≠47:=by intro c hc;unfold cN at h;rw[iK]at h;have:=h c hc;unfold mQ at this;simp only[decide_eq_true_eq]at this;omega
def Yjr(z:Int):∀c∈aN z,c.toNat≠47:=by
 unfold aN;split
 ·intro c hc;rcases ky.1 hc with rfl|hc
  ·decide
  exact Mv (Ag _) c hc
 exact Mv (Ag _)
def Yhc(n:Nat):cD (aq n)=false:=by obtain⟨c,t,e,h1,h2⟩:=Zsf (n:=n);rw[e];simp[cD];omega
def Mw(z:Int):cD (aN z)=decide (z<0):=by
 unfold aN;split
 ·rename_i h;simp[cD,h]
 rename_i h;rw[Yhc];simp[h]
def My(z:Int):bm (aN z)=aq z.natAbs:=by
 unfold bm;rw[Mw];by_cases h:z<0
 ·simp[h,aN]
 simp[h,aN]
def Mz(q:Rat):ah (aO q)=(aN q.num).length:=by
 unfold aO;split
 ·exact Uz (Yjr _)
 exact Uy (Yjr _)
def Py(q:Rat):(aO q).take (ah (aO q))=aN q.num:=by
 rw[Mz];unfold aO;split
 ·simp
 simp
def Pz(q:Rat)(h:q.den≠1):(aO q).drop (ah (aO q)+1)=aq q.den:=by rw[Mz];unfold aO;rw[ak h,<-List.drop_drop];simp
def EY(q:Rat):ah (aO q)<(aO q).length↔q.den≠1:=by
 rw[Mz];unfold aO;split
 ·rename_i h;simp[h]
 rename_i h;simp[h]
def Yof{a b:Int}(h:aN a=aN b):a=b:=by have h1:=congrArg cD h;have h2:=congrArg bm h;rw[Mw,Mw,decide_eq_decide]at h1;rw[My,My]at h2;have h3:=Pw h2;omega
def Yk2{a b:Rat}(h:aO a=aO b):a=b:=by
 have h1:=Py a;rw[h,Py b]at h1;have h2:=Yof h1;have h3:a.den=b.den:=by
  by_cases ha:a.den=1
  ·have:=mt (EY a).1 (fun hc=>hc ha);rw[h]at this;rw[EY]at this;rw[ha];exact(Decidable.not_not.1 this).symm
  have:=(EY a).2 ha;rw[h]at this;have hb:=(EY b).1 this;have e:=Pz a ha;rw[h,Pz b hb]at e;exact(Pw e).symm
 exact Rat.ext h2.symm h3
def jo(s:aG):Rat:=mkRat (if cD s then -(aF ((bm s).take (ah (bm s))):Int) else aF ((bm s).take (ah (bm s)))) (if ah (bm s)<(bm s).length then aF ((bm s).drop (ah (bm s)+1)) else 1)
def Yoq(h:aV s=0):gU (cD s) ((bm s).take (ah (bm s))) (decide (ah (bm s)<(bm s).length)) ((bm s).drop (ah (bm s)+1))=true/\((bm s).take (ah (bm s))).length<=600/\((bm s).drop (ah (bm s)+1)).length<=600/\(ah (bm s)<(bm s).length->Nat.gcd (aF ((bm s).take (ah (bm s)))) (aF ((bm s).drop (ah (bm s)+1)))=1):=by
 unfold aV JN lV at h;split at h
 ·cases h
 rename_i h1;split at h
 ·cases h
 rename_i h2;split at h
 ·cases h
 rename_i h3;refine⟨by simpa using h1,by omega,by omega,fun hs=>?_⟩;rw[decide_eq_true hs]at h3;simpa using h3
def Zvp{n:Int}{d:Nat}(hd:d≠0)(h:Nat.gcd n.natAbs d=1):(mkRat n d).num=n/\(mkRat n d).den=d:=by
 have:mkRat n d=⟨n,d,hd,h⟩:=by rw[Rat.mkRat_def,dif_neg hd];exact Rat.normalize_eq_mk' _ _ hd h
 rw[this];exact⟨rfl,rfl⟩
def Yem(s:aG):s=(if cD s then [45] else [])++bm s:=by
 cases s with
 |nil=>rfl
 |cons c t=>
  unfold bm;by_cases hc:c.toNat=45
  ·have:c=45:=UInt8.toNat_inj.1 hc;subst this;simp[cD]
  simp[cD,hc]
def H0(h:aV s=0):aO (jo s)=s/\(aq (jo s).num.natAbs).length<=600/\(aq (jo s).den).length<=600:=by
 obtain⟨h1,h2,h3,h4⟩:=Yoq h;have hle:=GS (bm s);unfold gU at h1;simp only[fW,I3,I4,decide_eq_true_eq]at h1;obtain⟨⟨hp,hz⟩,hd⟩:=h1;have CS:cD s=true->aF ((bm s).take (ah (bm s)))≠0:=by intro hn h0;rw[hn,Bool.true_and,decide_eq_false_iff_not]at hz;apply hz;have:=DI hp;rw[h0]at this;exact this.symm
 have iD:(aq (aF ((bm s).take (ah (bm s))))).length<=600:=by rw[DI hp];exact h2
 have hb:=Yem s;by_cases hs:ah (bm s)<(bm s).length
 ·have hd:jH ((bm s).drop (ah (bm s)+1))=true/\(bm s).drop (ah (bm s)+1)≠[48]/\(bm s).drop (ah (bm s)+1)≠[49]:=by
   rcases hd with hd|⟨⟨a,b⟩,c⟩
   ·exact absurd hs (by simpa using hd)
   exact⟨a,b,c⟩
  have hg:=h4 hs;have qN:aF ((bm s).drop (ah (bm s)+1))≠0:=by intro h0;have:=DI hd.1;rw[h0]at this;exact hd.2.1 this.symm
  have vN:aF ((bm s).drop (ah (bm s)+1))≠1:=by intro h0;have:=DI hd.1;rw[h0]at this;exact hd.2.2 (this.symm.trans (by decide+kernel))
  have kK:(aq (aF ((bm s).drop (ah (bm s)+1)))).length<=600:=by rw[DI hd.1];exact h3
  have hv:jo s=mkRat (if cD s then -(aF ((bm s).take (ah (bm s))):Int) else aF ((bm s).take (ah (bm s)))) (aF ((bm s).drop (ah (bm s)+1))):=by unfold jo;rw[av hs]
  obtain⟨e1,e2⟩:=Zvp (n:=if cD s then -(aF ((bm s).take (ah (bm s))):Int) else aF ((bm s).take (ah (bm s)))) qN (by split<;>simpa using hg);rw[<-hv]at e1 e2;have PA:bm s=(bm s).take (ah (bm s))++47::(bm s).drop (ah (bm s)+1):=by
   conv=>lhs;rw[<-Df (ah (bm s)) (bm s)]
   rw[Zpa hs]
  refine⟨?_,?_,by rw[e2];exact kK⟩
  ·unfold aO;rw[e2,ak vN,DI hd.1,e1];conv=>rhs;rw[hb,PA]
   unfold aN;cases hn:cD s with
   |false=> simp only[ix,if_false];rw[ak (by omega),ed,DI hp];rfl
   |true=> have:=CS hn;simp only[if_true];rw[av (by omega),yE,ed,DI hp];rfl
  rw[e1];split<;>simpa using iD
 have hv:jo s=mkRat (if cD s then -(aF ((bm s).take (ah (bm s))):Int) else aF ((bm s).take (ah (bm s)))) 1:=by unfold jo;rw[ak hs]
 obtain⟨e1,e2⟩:=Zvp (n:=if cD s then -(aF ((bm s).take (ah (bm s))):Int) else aF ((bm s).take (ah (bm s)))) (show (1:Nat)≠0 by decide) (Nat.gcd_one_right _);rw[<-hv]at e1 e2;have ht:(bm s).take (ah (bm s))=bm s:=fU (by omega);rw[ht]at e1 hp CS iD;refine⟨?_,?_,by rw[e2];decide+kernel⟩
 ·unfold aO;rw[e2,av rfl,e1];conv=>rhs;rw[hb]
  unfold aN;cases hn:cD s with
  |false=> simp only[ix,if_false];rw[ak (by omega),ed,DI hp];rfl
  |true=> have:=CS hn;simp only[if_true];rw[av (by omega),yE,ed,DI hp];rfl
 rw[e1];split<;>simpa using iD
def YO(q:Rat):bm (aO q)=if q.den=1 then aq q.num.natAbs else aq q.num.natAbs++47::aq q.den:=by
 have eg:∀t:aG,cD (aN q.num++t)=decide (q.num<0):=by
  intro t;rw[<-Mw];have:aN q.num≠[]:=by
   unfold aN;split
   ·simp
   exact JM _
  cases h:aN q.num with
  |nil=>exact absurd h this
  |cons c u=>rfl
 have hb:∀t:aG,bm (aN q.num++t)=aq q.num.natAbs++t:=by
  intro t;unfold bm;rw[eg];by_cases h:q.num<0
  ·simp[h,aN]
  simp[h,aN]
 unfold aO;split
 ·have:=hb [];simpa using this
 exact hb _
def Yap(q:Rat):cD (aO q)=decide (q.num<0):=by
 have eg:∀t:aG,cD (aN q.num++t)=decide (q.num<0):=by
  intro t;rw[<-Mw];have:aN q.num≠[]:=by
   unfold aN;split
   ·simp
   exact JM _
  cases h:aN q.num with
  |nil=>exact absurd h this
  |cons c u=>rfl
 unfold aO;split
 ·have:=eg [];simpa using this
 exact eg _
def Zuo(q:Rat):(bm (aO q)).take (ah (bm (aO q)))=aq q.num.natAbs/\(ah (bm (aO q))<(bm (aO q)).length↔q.den≠1)/\(bm (aO q)).drop (ah (bm (aO q))+1)=if q.den=1 then [] else aq q.den:=by
 rw[YO];by_cases h:q.den=1
 ·simp only[h,if_true];rw[Uz (Mv (Ag _))];simp
 simp only[h,if_false];rw[Uy (Mv (Ag _))];simp[h]
def wW(q:Rat):Bool:=decide (600<(aq q.num.natAbs).length\/600<(aq q.den).length)
def Yqh:aq 0=[48]:=rfl
def Nn:aq 1=[49]:=by decide+kernel
def Zsi(q:Rat):aV (aO q)=if wW q then 4 else 0:=by
 obtain⟨h1,h2,h3⟩:=Zuo q;have hf:gU (cD (aO q)) (aq q.num.natAbs) (decide (q.den≠1)) (if q.den=1 then [] else aq q.den)=true:=by
  unfold gU;rw[Zsb,Yap];have hz:(decide (q.num<0)&&decide (aq q.num.natAbs=[48]))=false:=by
   by_cases hn:q.num<0
   ·have:aq q.num.natAbs≠[48]:=by intro h;have:=Pw (h.trans Yqh.symm);omega
    simp[this]
   simp[hn]
  rw[hz];by_cases hd:q.den=1
  ·simp[hd]
  have a1:aq q.den≠[48]:=fun h=>q.den_nz (Pw (h.trans Yqh.symm));have a2:aq q.den≠[49]:=fun h=>hd (Pw (h.trans Nn.symm));simp[hd,Zsb,a1,a2]
 have hb:(decide (ah (bm (aO q))<(bm (aO q)).length))=decide (q.den≠1):=decide_eq_decide.2 h2;unfold aV JN;rw[h1,h3,hb];unfold lV;rw[hf];have hg:¬(decide (q.den≠1)=true/\Nat.gcd (aF (aq q.num.natAbs)) (aF (if q.den=1 then [] else aq q.den))≠1):=by
  rintro⟨a,b⟩;have a:q.den≠1:=by simpa using a
  rw[ak a,B6,B6]at b;exact b q.reduced
 rw[ak (by simp),ak hg];unfold wW;by_cases hd:q.den=1
 ·rw[hd,Nn];simp
 simp[hd]
def Yl0(q:Rat):jo (aO q)=q:=by
 obtain⟨h1,h2,h3⟩:=Zuo q;unfold jo;rw[h1,h3,Yap,B6];have hn:(if decide (q.num<0)=true then -(q.num.natAbs:Int) else (q.num.natAbs:Int))=q.num:=by
  by_cases h:q.num<0
  ·rw[av (by simpa using h)];omega
  rw[ak (by simpa using h)];omega
 rw[hn];by_cases hd:q.den=1
 ·rw[ak (fun h=>(h2.1 h) hd)];have:=Rat.mkRat_self q;rw[hd]at this;exact this
 rw[av (h2.2 hd),ak hd,B6];exact Rat.mkRat_self q
variable {i j k n:Nat}
def UA:∀{i n:Nat},i<(ds n).length->(ds n)[i]?=some ((n/1000000000^i%1000000000:Nat):Int)
 |i,n,h=>by
  by_cases hn:n=0
  ·rw[hn,vG]at h;simp at h
  ·rw[BJ hn]at h ⊢
   cases i with
   |zero=>simp
   |succ i=>
    rw[Gh,UA (by simpa using h),IY,im,kg]
def Yqe(h:i<(ds n).length):n/1000000000^i≠0:=by intro hc;have h1:n<1000000000^i:=(Nat.div_eq_zero_iff_lt (BD (by decide))).1 hc;have:=Mb h1;omega
def Yjp(h:i+1<(ds n).length):aq (n/1000000000^i)=aq (n/1000000000^(i+1))++jg (n/1000000000^i%1000000000) 9:=by
 have h0:=Yqe (i:=i) (n:=n) (by omega);have h1:=Yqe (i:=i+1) (n:=n) h;have e:n/1000000000^(i+1)=n/1000000000^i/1000000000:=by rw[im,IY]
 rw[e]at h1 ⊢;generalize n/1000000000^i=x at*;unfold aq;rw[ak h0,ak h1];have:=Zsg (k:=9) (a:=x/1000000000) (b:=x%1000000000) h1 (by omega);rw[show (10:Nat)^9=1000000000 by decide]at this;rw[<-this];congr 1;omega
def Yoe(h:i+1=(ds n).length):aq (n/1000000000^i)=jg (n/1000000000^i%1000000000) 1:=by
 have h1:n<1000000000^(i+1):=by
  have h2:=xJ (ig n);rw[iC,<-h]at h2;unfold pI at h2;have h3:(1000000000:Int)^(i+1)=((1000000000^(i+1):Nat):Int):=by rw[Int.natCast_pow];rfl
  rw[h3]at h2;exact Int.ofNat_lt.1 h2
 rw[im]at h1;have h3:n/1000000000^i<1000000000:=Nat.div_lt_of_lt_mul h1;rw[z_ h3,Px]
def Qb(k:Nat)(q:Rat):Prop:=q.num.natAbs<2^k/\q.den<2^k
def PB(h:j<=k):2^j<=2^k:=rO (by decide) h
def Qb.mono{q:Rat}(h:Qb j q)(hk:j<=k):Qb k q:=⟨fg h.1 (PB hk),fg h.2 (PB hk)⟩
def YP{a b:Int}(hb:b≠0)(h1:a.natAbs<2^k)(h2:b.natAbs<2^k):Qb k (Rat.divInt a b):=by
 constructor
 ·rw[Rat.num_divInt];refine oC ?_ h1;rw[Int.natAbs_ediv_of_dvd]
  ·rw[wS];have:b.sign.natAbs=1:=by rw[Int.natAbs_sign,ak hb]
   rw[this,Nat.one_mul];exact xD _ _
  exact Int.dvd_trans (Int.gcd_dvd_right ..) (Int.dvd_mul_left ..)
 rw[Rat.den_divInt,ak hb];exact oC (xD _ _) h2
def Qb.mul{p q:Rat}(hp:Qb j p)(hq:Qb k q):Qb (j+k) (p*q):=by
 have uT:((p.den:Nat):Int)≠0:=by have:=p.den_nz;omega
 have xW:((q.den:Nat):Int)≠0:=by have:=q.den_nz;omega
 rw[<-D8 p,<-D8 q,Rat.divInt_mul_divInt];refine YP (LP uT xW) ?_ ?_
 ·rw[wS,mJ];exact C2 hp.1 hq.1
 rw[wS,mJ,ed,ed];exact C2 hp.2 hq.2
def Qb.add{p q:Rat}(hp:Qb j p)(hq:Qb k q):Qb (j+k+1) (p+q):=by
 have uT:((p.den:Nat):Int)≠0:=by have:=p.den_nz;omega
 have xW:((q.den:Nat):Int)≠0:=by have:=q.den_nz;omega
 rw[<-D8 p,<-D8 q,Rat.divInt_add_divInt _ _ uT xW];have e:2^(j+k+1)=2^j*2^k+2^k*2^j:=by rw[im,mJ,kg (2^k)];omega
 refine YP (LP uT xW) ?_ ?_
 ·refine oC (Int.natAbs_add_le ..) ?_;rw[wS,wS,ed,ed,e];exact Nat.add_lt_add (C2 hp.1 hq.2) (C2 hq.1 hp.2)
 rw[wS,ed,ed,e];exact fg (C2 hp.2 hq.2) (Nat.le_add_right _ _)
def Qb.neg{q:Rat}(h:Qb k q):Qb k (-q):=by
 refine⟨?_,?_⟩
 ·rw[Rat.neg_num,yE];exact h.1
 rw[Rat.neg_den];exact h.2
def Qb.sub{p q:Rat}(hp:Qb j p)(hq:Qb k q):Qb (j+k+1) (p-q):=by rw[Rat.sub_eq_add_neg];exact hp.add hq.neg
def Qb.int{z:Int}(h:z.natAbs<2^k)(hk:0<k):Qb k (z:Rat):=by refine⟨by simpa using h,?_⟩;rw[Rat.den_intCast];exact fg (by decide) (PB (j:=1) hk)
def zo(h:n<2^k):(ds n).length<=k:=Mb (fg h (I1 (by decide) k))
def IE(h:n<2^k):(du n).length<=k:=rE.1 (fg h (I1 (by decide) k))
def HY(h:n<2^k):(aq n).length<=k+1:=by have:=IE h;unfold aq;split<;>simp<;>omega
def K7{z:Int}(h:z.natAbs<2^k):(aN z).length<=k+2:=by have:=HY h;unfold aN;split<;>simp<;>omega
def Ypu(k:Nat):10^k<=2^(4*k):=by rw[Nat.pow_mul];exact I1 (by decide) k
def Yyq{s:aG}(h:aV s=0)(hn:s.length<=n):Qb (4*n+4) (jo s):=by
 obtain⟨e,_,_⟩:=H0 h;have hb:=YO (jo s);have l1:(bm (aO (jo s))).length<=n:=by
  rw[e];unfold bm;split
  ·simp;omega
  exact hn
 rw[hb]at l1;have g:∀m:Nat,(aq m).length<=n+1->m<2^(4*n+4):=fun m hm=>by have:=(CO (n:=m) (k:=n+1) (by omega)).1 hm;exact fg this (by have:=Ypu (n+1);rw[vF]at this;exact this)
 split at l1
 ·rename_i h1;have h2:(aq 1).length=1:=by rw[Nn];rfl
  exact⟨g _ (by omega),by rw[h1];exact g 1 (by omega)⟩
 simp at l1;exact⟨g _ (by omega),g _ (by omega)⟩
open Go Go.Proofs
set_option maxRecDepth 1000000
def A.b219:=A.q Tryz.f219
def A.k219:=@A.kk 219 13 [.tmp 4] A.b219 (by kernel_rfl) rfl
def A.PC:=A.q Tryz.f154
def A.lY:=A.ql A.PC 0 []
def A.b154:=(fun x0=>A.qb A.PC [x0]) A.lY
def A.k154:=@A.kk 154 42 [.tmp 4] A.b154 (by kernel_rfl) rfl
def A.PD:=A.q Tryz.f156
def A.oL:=A.ql A.PD 0 []
def A.b156:=(fun x0=>A.qb A.PD [x0]) A.oL
def A.k156:=@A.kk 156 35 [.tmp 4] A.b156 (by kernel_rfl) rfl
def Zt0{h:T O}{N:Nat}{v:V}{l:List Int}{i:Nat}{w:List Nat}(hs:Sl h N v (dI l))(hi:i<4611686018427387904)(hl:l.length<4611686018427387904):A.C.call (.func 219 [] []) [v,.int .i64 i] ⟨h,N,w⟩=some (.int .i64 (zI l i),⟨h,N,w⟩):=by
 apply Call.eq;have hlen:=hs.len;rw[h_]at hlen;rw[aQ,A.k219 (by simp)];by_cases hc:i<l.length
 ·have Ei:(i:Int)<(l.length:Int):=by omega
  obtain⟨d,hd⟩:=bj hc;obtain⟨j,o,c,e,rw,q1,q2,q3,q4⟩:=hs.at (iB hd);simp[A.b219,hlen,Ei,q1,q3,q4,Yqx hd]
 have Ei:¬(i:Int)<(l.length:Int):=by omega
 simp[A.b219,hlen,Ei,Zwx (AG hc)]
structure AdI (h:T O) (N:Nat) (la lb:List Int) (m:Nat) (r:T V) (st:St):Prop where
 w:ay N st.w=[]
 ad:ab h N st.h st.n
 ex:∃k c out D,k+m=max la.length lb.length+1/\r.get 7=some (.int .i64 k)/\r.get 6=some (.int .i64 c)/\r.get 5=some out/\0<=c/\c<=1/\(m=0->c=0)/\Own 1 3 N st.h st.n out (rz D)/\D.length=k/\Di D/\vI D+pI k*c=vI (la.take k)+vI (lb.take k)
def UC{l:List Int}{k:Nat}(h:l.length<=k):l.take k=l:=fU h
def Ysk{h:T O}{N:Nat}{u v:V}{la lb:List Int}(hu:Sl h N u (dI la))(hv:Sl h N v (dI lb))(da:Di la)(db:Di lb)(l1:la.length<1099511627776)(l2:lb.length<1099511627776):Fn A.C 154 [u,v] h N (fun x h' n'=>∃l,Sl h' n' x (dI l)/\Di l/\vI l=vI la+vI lb/\l.length<=max la.length lb.length+1):=by
 intro w;have lu:=hu.len;have lv:=hv.len;rw[h_]at lu lv;rw[aQ,A.k154 (by simp)];simp[A.b154];refine b_ [(5,40)] (fun e r st=>e=.exit 0/\ay N st.w=[]/\ab h N st.h st.n/\∃out D,r.get 5=some out/\Own 1 3 N st.h st.n out (rz D)/\Di D/\vI D=vI la+vI lb/\D.length<=max la.length lb.length+1) (AdI h N la lb) (max la.length lb.length+1) ?_ ?_ ?_
 ·exact⟨by simp,ab.refl,0,0,.aa,[],by omega,by simp,by simp,by simp,by omega,by omega,fun _=>rfl,Own.nil,rfl,Di.nil,by simp[vI]⟩
 ·rintro m r ⟨H,n1,W⟩ hr hf ⟨hW,hK,k,c,out,D,hk,h7,h6,h5,c0,c1,cz,ho,hD,dD,nP⟩;simp only at hW hK ho;rw[bu];by_cases vT:k<la.length\/k<lb.length\/0<c
  ·obtain⟨m',rfl⟩:∃m',m=m'+1:=⟨m-1,by
    have:m≠0:=fun hm=>by have:=cz hm;omega
    omega⟩;have dx:=Yqy da k;have dy:=Yqy db k;have e1:=fun w=>Zt0 (w:=w) (i:=k) (hu.ad hK) (by omega) (by omega);have e2:=fun w=>Zt0 (w:=w) (i:=k) (hv.ad hK) (by omega) (by omega);obtain⟨x,hx⟩:∃x,zI la k=x:=⟨_,rfl⟩;obtain⟨y,hy⟩:∃y,zI lb k=y:=⟨_,rfl⟩;rw[hx]at dx e1;rw[hy]at dy e2;have t1:(x+y+c).tmod 1000000000=(x+y+c)%1000000000:=Gg (by omega);have t2:(x+y+c).tdiv 1000000000=(x+y+c)/1000000000:=Dh (by omega);have t3:bn .i64 (x+y)=x+y:=cL (by omega) (by omega);have t4:bn .i64 (x+y+c)=x+y+c:=cL (by omega) (by omega);have t5:bn .i64 ((x+y+c)/1000000000)=(x+y+c)/1000000000:=cL (by omega) (by omega);have qf:vI (D++[(x+y+c)%1000000000])+pI (k+1)*((x+y+c)/1000000000)=vI (la.take (k+1))+vI (lb.take (k+1)):=by
    rw[EJ,hD,Zo5,Zo5,hx,hy,xH];have hm:=Gj (x+y+c) 1000000000;generalize (x+y+c)/1000000000=Q at*;generalize (x+y+c)%1000000000=R at*;have:R=x+y+c-1000000000*Q:=by omega
    subst this;grind
   have hz:m'=0->(x+y+c)/1000000000=0:=fun hm=>by
    have:x=0:=by rw[<-hx];exact Zwx (by omega)
    have:y=0:=by rw[<-hy];exact Zwx (by omega)
    omega
   have zX:=ho.ad (ab.refl.new (.cells [.int .i64 ((x+y+c)%1000000000)] 3 true));obtain⟨v',h',w',f1,f2,f3,_,f5⟩:=Ao (x:=[.int .i64 ((x+y+c)%1000000000)]) (u:=.slice n1 0 1 (some 1) 1) (bytes:=8) (w:=W) zX (by have:=hK.le;omega) (by decide) rfl (by simp[fQ,St.row,aP]) (by simp[rz];omega);rw[<-GC]at f5;have f6:ay N w'=[]:=by rw[f2];exact hW
   have kz:=(hK.new (.cells [.int .i64 ((x+y+c)%1000000000)] 3 true)).then f3;have JO:k<la.length\/(¬k<la.length/\k<lb.length)\/(¬k<la.length/\¬k<lb.length/\0<c):=by omega
   rcases JO with g1|⟨g1,g2⟩|⟨g1,g2,g3⟩
   ·have i1:(k:Int)<(la.length:Int):=by omega
    simp[A.lY,hr,h7,h6,h5,lu,i1,e1,e2,t1,t3,t4,ae];simp(disch:=first|(simp;done)|omega|rfl) [f1,hf,h7];exact⟨m',by omega,⟨f6,kz,k+1,(x+y+c)/1000000000,v',D++[(x+y+c)%1000000000],by omega,by simp,by simp[t2],by simp,by omega,by omega,hz,f5,by simp[hD],dD.app (Di.one (by omega) (by omega)),qf⟩⟩
   ·have i1:¬(k:Int)<(la.length:Int):=by omega
    have i2:(k:Int)<(lb.length:Int):=by omega
    simp[A.lY,hr,h7,h6,h5,lu,lv,i1,i2,e1,e2,t1,t3,t4,ae];simp(disch:=first|(simp;done)|omega|rfl) [f1,hf,h7];exact⟨m',by omega,⟨f6,kz,k+1,(x+y+c)/1000000000,v',D++[(x+y+c)%1000000000],by omega,by simp,by simp[t2],by simp,by omega,by omega,hz,f5,by simp[hD],dD.app (Di.one (by omega) (by omega)),qf⟩⟩
   have i1:¬(k:Int)<(la.length:Int):=by omega
   have i2:¬(k:Int)<(lb.length:Int):=by omega
   simp[A.lY,hr,h7,h6,h5,lu,lv,g3,i1,i2,e1,e2,t1,t3,t4,ae];simp(disch:=first|(simp;done)|omega|rfl) [f1,hf,h7];exact⟨m',by omega,⟨f6,kz,k+1,(x+y+c)/1000000000,v',D++[(x+y+c)%1000000000],by omega,by simp,by simp[t2],by simp,by omega,by omega,hz,f5,by simp[hD],dD.app (Di.one (by omega) (by omega)),qf⟩⟩
  obtain⟨g1,g2,g3⟩:¬k<la.length/\¬k<lb.length/\¬0<c:=by omega
  have i1:¬(k:Int)<(la.length:Int):=by omega
  have i2:¬(k:Int)<(lb.length:Int):=by omega
  obtain rfl:c=0:=by omega
  rw[UC (by omega),UC (by omega),Int.mul_zero,Int.add_zero]at nP;simp[A.lY,hr,hf,h7,h6,lu,lv,i1,i2,hW,hK];exact⟨out,h5,D,ho,dD,nP,by omega⟩
 rintro _ r ⟨H,n1,W⟩ hr ⟨rfl,hW,hK,out,D,h5,ho,dD,nP,hl⟩;simp only at hW hK ho;simp[h5,az,hW,hK];exact⟨D,ho.sl,dD,nP,hl⟩
variable {N:Nat} {h:T O}
def A.b80:=A.q Tryz.f80
def A.k80:=@A.kk 80 40 [.cell 4 (some 2)] A.b80 (by kernel_rfl) rfl
def A.b151:=A.q Tryz.f151
def A.k151:=@A.kk 151 9 [.cell 2 (some 2)] A.b151 (by kernel_rfl) rfl
def A.b81:=A.q Tryz.f81
def A.k81:=@A.kk 81 16 [.cell 4 (some 2)] A.b81 (by kernel_rfl) rfl
def UD(k:Nat):pI k=((1000000000^k:Nat):Int):=by unfold pI;simp
def Rg.ad{h':T O}{N':Nat}{v:V}{z:Int}(s:Rg h N v z)(k:ab h N h' N'):Rg h' N' v z:=by obtain⟨u,h1,h2⟩:=s;exact⟨u,h1,h2.ad k⟩
def km:∀x∈[V.bool false,V.aa],∀k m,x≠.int k m:=by intro x hx k m;simp at hx;rcases hx with rfl|rfl<;>simp
def Yxg{b:Bool}{u:V}(hu:Js u):∀x∈[V.bool b,u],∀k m,x≠.int k m:=by
 intro x hx k m;simp at hx;rcases hx with rfl|rfl
 ·simp
 rcases hu with rfl|rfl|⟨_,_,_,_,_,rfl⟩<;>simp
def Yec(a b:Nat):(ds (a*b)).length<=(ds a).length+(ds b).length:=by refine Mb ?_;have h1:=xJ (ig a);have h2:=xJ (ig b);rw[iC]at h1 h2;rw[UD]at h1 h2;rw[mJ];exact C2 (Int.ofNat_lt.1 h1) (Int.ofNat_lt.1 h2)
def Yat{v:V}{z:Int}(hs:Rg h N v z)(hl:(ds z.natAbs).length<1099511627776):Fn A.C 151 [v] h N (fun u h' n'=>Rg h' n' u (-z)):=by
 intro w;obtain⟨u,rfl,hu⟩:=hs;have o1:=Sl.form hu |>.one;have o2:=Sl.form hu |>.cells;unfold V.one at o1;unfold V.cells at o2;have kB:=(((ab.refl (h:=h) (n:=N)).new (.cells [.bool (decide (z<0)),u] 105 true)).new (.cells [.bool false,.aa] 105 true));rw[aQ,A.k151 (by simp)];simp[A.b151,o1,aS];refine ar (zp (b:=!decide (z<0)) (n:=z.natAbs) (Sl.ad hu kB) (ig _) (iC _) (by omega)) ?_;rintro v2 h2 n2 k2 hv;have uM:=k2.le;have g1:=(k2.get (N+1) (by omega));rw[T.ag,av rfl]at g1;have kk:=kB.trans k2;have ez:(if (!decide (z<0))=true then -((z.natAbs:Nat):Int) else ((z.natAbs:Nat):Int))= -z:=by by_cases h0:z<0<;>simp[h0]<;>omega
 rw[ez]at hv;obtain⟨u2,rfl,fX⟩:=hv;have p1:=Sl.form fX |>.one;have p2:=Sl.form fX |>.cells;unfold V.one at p1;unfold V.cells at p2;simp[g1,p1,ae,bO,aS,aP,az];exact⟨kk.set (by omega),u2,by simp,Sl.setInt fX g1 km rfl⟩
def Yru(a b:Int):(if (!(decide (a<0)==decide (b<0)))=true then -((a.natAbs*b.natAbs:Nat):Int) else ((a.natAbs*b.natAbs:Nat):Int))=a*b:=by
 have h0:((a.natAbs*b.natAbs:Nat):Int)=(a.natAbs:Int)*(b.natAbs:Int):=by simp
 rw[h0];by_cases h1:a<0<;>by_cases h2:b<0
 ·have ha:(a.natAbs:Int)= -a:=by omega
  have hb:(b.natAbs:Int)= -b:=by omega
  rw[ha,hb];simp[h1,h2,Int.neg_mul,Int.mul_neg]
 ·have ha:(a.natAbs:Int)= -a:=by omega
  have hb:(b.natAbs:Int)=b:=by omega
  rw[ha,hb];simp[h1,h2,Int.neg_mul]
 ·have ha:(a.natAbs:Int)=a:=by omega
  have hb:(b.natAbs:Int)= -b:=by omega
  rw[ha,hb];simp[h1,h2,Int.mul_neg]
 have ha:(a.natAbs:Int)=a:=by omega
 have hb:(b.natAbs:Int)=b:=by omega
 rw[ha,hb];simp[h1,h2]
def PE{x y:V}{a b:Int}(hx:Rg h N x a)(hy:Rg h N y b)(l1:(ds a.natAbs).length<500000000000)(l2:(ds b.natAbs).length<500000000000):Fn A.C 81 [x,y] h N (fun u h' n'=>Rg h' n' u (a*b)):=by
 intro w;obtain⟨u,rfl,hu⟩:=hx;obtain⟨v,rfl,hv⟩:=hy;have o1:=Sl.form hu |>.one;have o2:=Sl.form hu |>.cells;have o3:=Sl.form hv |>.one;have o4:=Sl.form hv |>.cells;unfold V.one at o1 o3;unfold V.cells at o2 o4;have kB:=((((ab.refl (h:=h) (n:=N)).new (.cells [.bool (decide (a<0)),u] 105 true)).new (.cells [.bool (decide (b<0)),v] 105 true)).new (.cells [.bool false,.aa] 105 true));rw[aQ,A.k81 (by simp)];simp[A.b81,o1,o3,aS,bA];generalize hB:((h.set N (.cells [.bool (decide (a<0)),u] 105 true)).set (N+1) (.cells [.bool (decide (b<0)),v] 105 true)).set (N+1+1) (.cells [.bool false,.aa] 105 true)=HB at*;have gr:HB.get (N+1+1)=some (.cells [.bool false,.aa] 105 true):=by rw[<-hB];simp
 refine ar (Zxp (Sl.ad hu kB) (Sl.ad hv kB) (ig _) (ig _) (iC _) (iC _) (by omega)) ?_;rintro v1 h1 n1 k1 q1;have yI:(ds (a.natAbs*b.natAbs)).length<1152921504606846976:=by have:=Yec a.natAbs b.natAbs;omega
 simp[];refine ar (zp (n:=a.natAbs*b.natAbs) q1 (ig _) (iC _) yI) ?_;rintro v2 h2 n2 k2 dJ;have xr:=k1.le;have kR:=k2.le;have g1:=(k2.get (N+1+1) (by omega)).trans ((k1.get (N+1+1) (by omega)).trans gr);have ez:(if (!(decide (a<0)==decide (b<0)))=true then -((a.natAbs*b.natAbs:Nat):Int) else ((a.natAbs*b.natAbs:Nat):Int))=a*b:=Yru a b;rw[ez]at dJ;obtain⟨u2,rfl,fX⟩:=dJ;have p1:=Sl.form fX |>.one;have p2:=Sl.form fX |>.cells;unfold V.one at p1;unfold V.cells at p2;simp[g1,p1,ae,bO,aS,aP,az,dv.dw];exact⟨by split<;>simp[ay],((kB.trans k1).trans k2).set (by omega),u2,rfl,Sl.setInt fX g1 km rfl⟩
set_option maxHeartbeats 4000000
structure SuI (h:T O) (N:Nat) (la lb:List Int) (m:Nat) (r:T V) (st:St):Prop where
 w:ay N st.w=[]
 ad:ab h N st.h st.n
 ex:∃k c out D,k+m=la.length/\r.get 7=some (.int .i64 k)/\r.get 6=some (.int .i64 c)/\r.get 5=some out/\0<=c/\c<=1/\Own 1 3 N st.h st.n out (rz D)/\D.length=k/\Di D/\vI D-pI k*c=vI (la.take k)-vI (lb.take k)
def Yf7{h:T O}{N:Nat}{u v:V}{a b:Nat}(hu:Dn h N u a)(hv:Dn h N v b)(f_:b<=a)(l1:(ds a).length<1099511627776):Fn A.C 156 [u,v] h N (fun x h' n'=>Dn h' n' x (a-b)):=by
 intro w;have l2:=wL f_;have da:=ig a;have db:=ig b;have va:=iC a;have vb:=iC b;have lu:=Sl.len hu;have lv:=Sl.len hv;rw[h_]at lu lv;have hu:Sl h N u (dI (ds a)):=hu;have hv:Sl h N v (dI (ds b)):=hv;generalize hA:ds a=la at*;generalize hB:ds b=lb at*;rw[aQ,A.k156 (by simp)];simp[A.b156];refine b_ [(5,32)] (fun e r st=>e=.exit 0/\SuI h N la lb 0 r st) (SuI h N la lb) la.length ?_ ?_ ?_
 ·exact⟨by simp,ab.refl,0,0,.aa,[],by omega,by simp,by simp,by simp,by omega,by omega,Own.nil,rfl,Di.nil,by simp[vI]⟩
 ·rintro m r ⟨H,n1,W⟩ hr hf ⟨hW,hK,k,c,out,D,hk,h7,h6,h5,c0,c1,ho,hD,dD,nP⟩;simp only at hW hK ho;rw[bu];cases m with
  |zero=>
   obtain rfl:k=la.length:=by omega
   simp[A.oL,hr,hf,h7,lu];exact⟨hW,hK,la.length,c,out,D,by omega,by simp[h7],by simp[h6],by simp[h5],c0,c1,ho,hD,dD,nP⟩
  |succ m=>
   have aE:k<la.length:=by omega
   have cK:(k:Int)<(la.length:Int):=by omega
   obtain⟨x,hx⟩:=bj aE;have dx:=da.get hx;have dy:=Yqy db k;obtain⟨i,o,cc,e,rw,q1,q2,q3,q4⟩:=(hu.ad hK).at (iB hx);have e2:=fun w=>Zt0 (w:=w) (i:=k) (hv.ad hK) (by omega) (by omega);obtain⟨y,hy⟩:∃y,zI lb k=y:=⟨_,rfl⟩;rw[hy]at dy e2;have t3:bn .i64 (x-y)=x-y:=cL (by omega) (by omega);have t4:bn .i64 (x-y-c)=x-y-c:=cL (by omega) (by omega);have t5:bn .i64 (x-y-c+1000000000)=x-y-c+1000000000:=cL (by omega) (by omega);have hs:∀d c':Int,d-1000000000*c'=x-y-c->vI (D++[d])-pI (k+1)*c'=vI (la.take (k+1))-vI (lb.take (k+1)):=fun d c' he=>by
    rw[EJ,hD,AO hx,Zo5,hy,xH];have:d=x-y-c+1000000000*c':=by omega
    subst this;grind
   have ap:∀d:Int,∃v' h' w',oc ⟨H.set n1 (.cells [.int .i64 d] 3 true),n1+1,W⟩ 1 8 3 out (.slice n1 0 1 (some 1) 1)=some (v',⟨h',n1+1+1,w'⟩)/\ay N w'=[]/\ab h N h' (n1+1+1)/\Own 1 3 N h' (n1+1+1) v' (rz (D++[d])):=fun d=>by have zX:=ho.ad (ab.refl.new (.cells [.int .i64 d] 3 true));obtain⟨v',h',w',f1,f2,f3,_,f5⟩:=Ao (x:=[.int .i64 d]) (u:=.slice n1 0 1 (some 1) 1) (bytes:=8) (w:=W) zX (by have:=hK.le;omega) (by decide) rfl (by simp[fQ,St.row,aP]) (by simp[rz];omega);rw[<-GC]at f5;exact⟨v',h',w',f1,by rw[f2];exact hW,(hK.new (.cells [.int .i64 d] 3 true)).then f3,f5⟩
   by_cases eg:x-y-c<0
   ·obtain⟨v',h',w',f1,f2,f3,f5⟩:=ap (x-y-c+1000000000);simp[A.oL,hr,h7,h6,h5,lu,cK,q1,q2,q3,q4,e2,t3,t4,t5,eg,ae,dv.dw];simp(disch:=first|(simp;done)|omega|rfl) [f1,hf,h7];exact⟨m,by omega,⟨f2,f3,k+1,1,v',D++[x-y-c+1000000000],by omega,by simp,by simp,by simp,by omega,by omega,f5,by simp[hD],dD.app (Di.one (by omega) (by omega)),hs _ _ (by omega)⟩⟩
   obtain⟨v',h',w',f1,f2,f3,f5⟩:=ap (x-y-c);simp[A.oL,hr,h7,h6,h5,lu,cK,q1,q2,q3,q4,e2,t3,t4,eg,ae,dv.dw];simp(disch:=first|(simp;done)|omega|rfl) [f1,hf,h7];exact⟨m,by omega,⟨f2,f3,k+1,0,v',D++[x-y-c],by omega,by simp,by simp,by simp,by omega,by omega,f5,by simp[hD],dD.app (Di.one (by omega) (by omega)),hs _ _ (by omega)⟩⟩
 rintro _ r ⟨H,n1,W⟩ hr ⟨rfl,hW,hK,k,c,out,D,hk,h7,h6,h5,c0,c1,ho,hD,dD,nP⟩;simp only at hW hK ho;obtain rfl:k=la.length:=by omega
 rw[UC (aM _),UC (by omega),va,vb]at nP;have aE:=xJ dD;rw[hD]at aE;have c2:c=0:=by
  apply Int.le_antisymm _ c0;apply Gk;intro hc;have:c=1:=by omega
  subst this;omega
 subst c2;have hvD:vI D=((a-b:Nat):Int):=by omega
 simp[h5];refine ar (JP ho.sl (by omega)) ?_;rintro v2 h2 n2 k2 q2;rw[Jr dD hvD]at q2;simp[az,hW];exact⟨hK.trans k2,q2⟩
def Yj3{a b:Nat}:(0<=DJ a b)↔b<=a:=by unfold DJ;split<;>(try split)<;>omega
def Yso{h:T O}{N:Nat}{x y:V}{a b:Int}(hx:Rg h N x a)(hy:Rg h N y b)(l1:(ds a.natAbs).length<500000000000)(l2:(ds b.natAbs).length<500000000000):Fn A.C 80 [x,y] h N (fun u h' n'=>Rg h' n' u (a+b)):=by
 intro w;obtain⟨u,rfl,hu⟩:=hx;obtain⟨v,rfl,hv⟩:=hy;have o1:=Sl.form hu |>.one;have o2:=Sl.form hu |>.cells;have o3:=Sl.form hv |>.one;have o4:=Sl.form hv |>.cells;unfold V.one at o1 o3;unfold V.cells at o2 o4;have kB:=((((ab.refl (h:=h) (n:=N)).new (.cells [.bool (decide (a<0)),u] 105 true)).new (.cells [.bool (decide (b<0)),v] 105 true)).new (.cells [.bool false,.aa] 105 true));rw[aQ,A.k80 (by simp)];generalize hB:((h.set N (.cells [.bool (decide (a<0)),u] 105 true)).set (N+1) (.cells [.bool (decide (b<0)),v] 105 true)).set (N+1+1) (.cells [.bool false,.aa] 105 true)=HB at kB;have gr:HB.get (N+1+1)=some (.cells [.bool false,.aa] 105 true):=by rw[<-hB];simp
 have gx:HB.get N=some (.cells [.bool (decide (a<0)),u] 105 true):=by rw[<-hB];simp
 have gy:HB.get (N+1)=some (.cells [.bool (decide (b<0)),v] 105 true):=by rw[<-hB];simp
 by_cases EZ:decide (a<0)=decide (b<0)
 ·have AS:(decide (a<0)==decide (b<0))=true:=by rw[EZ];simp
  simp[A.b80,o1,o3,aS,bA,AS];simp only[hB];refine ar (Ysk (Sl.ad hu kB) (Sl.ad hv kB) (ig _) (ig _) (by omega) (by omega)) ?_;rintro v1 h1 n1 k1 ⟨l,q1,q2,q3,q4⟩;rw[iC,iC]at q3;have ez:(if decide (a<0)=true then -((a.natAbs+b.natAbs:Nat):Int) else ((a.natAbs+b.natAbs:Nat):Int))=a+b:=by by_cases h1:a<0<;>by_cases h2:b<0<;>simp[h1,h2]at EZ ⊢<;>omega
  simp[];refine ar (zp (b:=decide (a<0)) (n:=a.natAbs+b.natAbs) q1 q2 (by rw[q3];try simp) (by omega)) ?_;rintro v2 h2 n2 k2 dJ;rw[ez]at dJ;have xr:=k1.le;have kR:=k2.le;have g1:=(k2.get (N+1+1) (by omega)).trans ((k1.get (N+1+1) (by omega)).trans gr);obtain⟨u2,rfl,fX⟩:=dJ;have p1:=Sl.form fX |>.one;have p2:=Sl.form fX |>.cells;unfold V.one at p1;unfold V.cells at p2;simp[g1,p1,ae,bO,aS,aP,az,dv.dw];exact⟨by split<;>simp[ay],((kB.trans k1).trans k2).set (by omega),u2,rfl,Sl.setInt fX g1 km rfl⟩
 have AS:(decide (a<0)==decide (b<0))=false:=by simpa using EZ
 have B4:=fun w=>Zy9 (w:=w) (Sl.ad hu kB) (Sl.ad hv kB) (by omega) (by omega);by_cases q_:b.natAbs<=a.natAbs
 ·have B7:0<=DJ a.natAbs b.natAbs:=Yj3.2 q_;simp[A.b80,o1,o3,aS,bA,AS];simp only[hB];simp[B4,B7,gx,gy,aS];refine ar (Yf7 (Sl.ad hu kB) (Sl.ad hv kB) q_ (by omega)) ?_;rintro v1 h1 n1 k1 q1;have q2:=ig (a.natAbs-b.natAbs);have q3:=iC (a.natAbs-b.natAbs);have q4:=wL (Nat.sub_le a.natAbs b.natAbs);have ez:(if decide (a<0)=true then -((a.natAbs-b.natAbs:Nat):Int) else ((a.natAbs-b.natAbs:Nat):Int))=a+b:=by by_cases h1:a<0<;>by_cases h2:b<0<;>simp[h1,h2]at EZ ⊢<;>omega
  simp[];refine ar (zp (b:=decide (a<0)) (n:=a.natAbs-b.natAbs) q1 q2 (by rw[q3];try simp) (by omega)) ?_;rintro v2 h2 n2 k2 dJ;rw[ez]at dJ;have xr:=k1.le;have kR:=k2.le;have g1:=(k2.get (N+1+1) (by omega)).trans ((k1.get (N+1+1) (by omega)).trans gr);obtain⟨u2,rfl,fX⟩:=dJ;have p1:=Sl.form fX |>.one;have p2:=Sl.form fX |>.cells;unfold V.one at p1;unfold V.cells at p2;simp[g1,p1,ae,bO,aS,aP,az,dv.dw];exact⟨by split<;>simp[ay],((kB.trans k1).trans k2).set (by omega),u2,rfl,Sl.setInt fX g1 km rfl⟩
 have B7:¬0<=DJ a.natAbs b.natAbs:=fun hc=>q_ (Yj3.1 hc);simp[A.b80,o1,o3,aS,bA,AS];simp only[hB];simp[B4,B7,gx,gy,aS];refine ar (Yf7 (Sl.ad hv kB) (Sl.ad hu kB) (by omega) (by omega)) ?_;rintro v1 h1 n1 k1 q1;have q2:=ig (b.natAbs-a.natAbs);have q3:=iC (b.natAbs-a.natAbs);have q4:=wL (Nat.sub_le b.natAbs a.natAbs);have ez:(if decide (b<0)=true then -((b.natAbs-a.natAbs:Nat):Int) else ((b.natAbs-a.natAbs:Nat):Int))=a+b:=by by_cases h1:a<0<;>by_cases h2:b<0<;>simp[h1,h2]at EZ ⊢<;>omega
 simp[];refine ar (zp (b:=decide (b<0)) (n:=b.natAbs-a.natAbs) q1 q2 (by rw[q3];try simp) (by omega)) ?_;rintro v2 h2 n2 k2 dJ;rw[ez]at dJ;have xr:=k1.le;have kR:=k2.le;have g1:=(k2.get (N+1+1) (by omega)).trans ((k1.get (N+1+1) (by omega)).trans gr);obtain⟨u2,rfl,fX⟩:=dJ;have p1:=Sl.form fX |>.one;have p2:=Sl.form fX |>.cells;unfold V.one at p1;unfold V.cells at p2;simp[g1,p1,ae,bO,aS,aP,az,dv.dw];exact⟨by split<;>simp[ay],((kB.trans k1).trans k2).set (by omega),u2,rfl,Sl.setInt fX g1 km rfl⟩
end
end Go.Mx
