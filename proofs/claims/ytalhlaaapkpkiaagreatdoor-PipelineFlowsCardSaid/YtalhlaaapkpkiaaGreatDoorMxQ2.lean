/-Numbers as strings-/
import Derived.Test.YtalhlaaapkpkiaaGreatDoorNbK
set_option linter.all false
namespace Go.Mx
open Go
variable {s:Str}
def Zf3:∀{s t:Str},(∀c∈s,c.toNat≠47)→slashAt (s++47::t)=s.length
 |[],t,_=>rfl
 |c::s,t,h=>by
  have h1:=h c Yt2
  have:=Zf3 (s:=s) (t:=t) fun d hd=>h d (Ytv _ hd)
  simp[slashAt,h1,this]
def Ze5:∀{s:Str},(∀c∈s,c.toNat≠47)→slashAt s=s.length
 |[],_=>rfl
 |c::s,h=>by
  have h1:=h c Yt2
  have:=Ze5 (s:=s) fun d hd=>h d (Ytv _ hd)
  simp[slashAt,h1,this]
def Zmv:∀{s:Str},slashAt s<s.length→s.drop (slashAt s)=47::s.drop (slashAt s+1)
 |[],h=>by simp[slashAt]at h
 |c::s,h=>by
  by_cases hc:c.toNat=47
  ·have:c=47:=UInt8.toNat_inj.1 hc
   subst this
   simp[slashAt]
  ·simp only[slashAt,hc,if_false,Ys4]at h ⊢
   have:=Zmv (s:=s) (by omega)
   simpa using this
def Zk4(h:Zb7 s=true):∀c∈s,c.toNat≠47:=by
 intro c hc
 unfold Zb7 at h
 rw[Yt8]at h
 have:=h c hc
 unfold Zj6 at this
 simp only[decide_eq_true_eq]at this
 omega
def Yd2(z:Int):∀c∈decI z,c.toNat≠47:=by
 unfold decI
 split
 ·intro c hc
  rcases Yt1.1 hc with rfl|hc
  ·decide
  ·exact Zk4 (Zb6 _) c hc
 ·exact Zk4 (Zb6 _)
def Yb2(n:Nat):negS (decN n)=false:=by
 obtain⟨c,t,e,h1,h2⟩:=Zpf (n:=n)
 rw[e]
 simp[negS];omega
def Zfm(z:Int):negS (decI z)=decide (z<0):=by
 unfold decI
 split
 ·rename_i h;simp[negS,h]
 ·rename_i h;rw[Yb2];simp[h]
def Zew(z:Int):Zao (decI z)=decN z.natAbs:=by
 unfold Zao
 rw[Zfm]
 by_cases h:z<0
 ·simp[h,decI]
 ·simp[h,decI]
def Zf2(q:Rat):slashAt (Zaz q)=(decI q.num).length:=by
 unfold Zaz
 split
 ·exact Ze5 (Yd2 _)
 ·exact Zf3 (Yd2 _)
def Zl1(q:Rat):(Zaz q).take (slashAt (Zaz q))=decI q.num:=by
 rw[Zf2]
 unfold Zaz
 split
 ·simp
 ·simp
def Zl2(q:Rat)(h:q.den≠1):(Zaz q).drop (slashAt (Zaz q)+1)=decN q.den:=by
 rw[Zf2]
 unfold Zaz
 rw[Ys5 h,←List.drop_drop]
 simp
def Zk8(q:Rat):slashAt (Zaz q)<(Zaz q).length↔q.den≠1:=by
 rw[Zf2]
 unfold Zaz
 split
 ·rename_i h;simp[h]
 ·rename_i h;simp[h]
def Yhv{a b:Int}(h:decI a=decI b):a=b:=by
 have h1:=congrArg negS h
 have h2:=congrArg Zao h
 rw[Zfm,Zfm,decide_eq_decide]at h1
 rw[Zew,Zew]at h2
 have h3:=Zj8 h2
 omega
def Zvo{a b:Rat}(h:Zaz a=Zaz b):a=b:=by
 have h1:=Zl1 a
 rw[h,Zl1 b]at h1
 have h2:=Yhv h1
 have h3:a.den=b.den:=by
  by_cases ha:a.den=1
  ·have:=mt (Zk8 a).1 (fun hc=>hc ha)
   rw[h]at this
   rw[Zk8]at this
   rw[ha];exact(Decidable.not_not.1 this).symm
  ·have:=(Zk8 a).2 ha
   rw[h]at this
   have hb:=(Zk8 b).1 this
   have e:=Zl2 a ha
   rw[h,Zl2 b hb]at e
   exact(Zj8 e).symm
 exact Rat.ext h2.symm h3
def Zdv(s:Str):Rat:=mkRat (if negS s then -(numV ((Zao s).take (slashAt (Zao s))):Int) else numV ((Zao s).take (slashAt (Zao s)))) (if slashAt (Zao s)<(Zao s).length then numV ((Zao s).drop (slashAt (Zao s)+1)) else 1)
def Yh1(h:chkNum s=0):Zcb (negS s) ((Zao s).take (slashAt (Zao s))) (decide (slashAt (Zao s)<(Zao s).length)) ((Zao s).drop (slashAt (Zao s)+1))=true∧((Zao s).take (slashAt (Zao s))).length≤600∧((Zao s).drop (slashAt (Zao s)+1)).length≤600∧(slashAt (Zao s)<(Zao s).length→Nat.gcd (numV ((Zao s).take (slashAt (Zao s)))) (numV ((Zao s).drop (slashAt (Zao s)+1)))=1):=by
 unfold chkNum Ymm Zke at h
 split at h
 ·cases h
 ·rename_i h1
  split at h
  ·cases h
  ·rename_i h2
   split at h
   ·cases h
   ·rename_i h3
    refine⟨by simpa using h1,by omega,by omega,fun hs=>?_⟩
    rw[decide_eq_true hs]at h3
    simpa using h3
def Zrx{n:Int}{d:Nat}(hd:d≠0)(h:Nat.gcd n.natAbs d=1):(mkRat n d).num=n∧(mkRat n d).den=d:=by
 have:mkRat n d=⟨n,d,hd,h⟩:=by
  rw[Rat.mkRat_def,dif_neg hd]
  exact Rat.normalize_eq_mk' _ _ hd h
 rw[this]
 exact⟨rfl,rfl⟩
def Zz0(s:Str):s=(if negS s then [45] else [])++Zao s:=by
 cases s with
 |nil=>rfl
 |cons c t=>
  unfold Zao
  by_cases hc:c.toNat=45
  ·have:c=45:=UInt8.toNat_inj.1 hc
   subst this
   simp[negS]
  ·simp[negS,hc]
def Zi3(h:chkNum s=0):Zaz (Zdv s)=s∧(decN (Zdv s).num.natAbs).length≤600∧(decN (Zdv s).den).length≤600:=by
 obtain⟨h1,h2,h3,h4⟩:=Yh1 h
 have hle:=Zdc (Zao s)
 unfold Zcb at h1
 simp only[Ytt,Ywd,Ywj,decide_eq_true_eq]at h1
 obtain⟨⟨hp,hz⟩,hd⟩:=h1
 have hpz:negS s=true→numV ((Zao s).take (slashAt (Zao s)))≠0:=by
  intro hn h0
  rw[hn,Bool.true_and,decide_eq_false_iff_not]at hz
  apply hz
  have:=Zc0 hp
  rw[h0]at this
  exact this.symm
 have hpl:(decN (numV ((Zao s).take (slashAt (Zao s))))).length≤600:=by
  rw[Zc0 hp];exact h2
 have hb:=Zz0 s
 by_cases hs:slashAt (Zao s)<(Zao s).length
 ·have hd:Zcu ((Zao s).drop (slashAt (Zao s)+1))=true∧(Zao s).drop (slashAt (Zao s)+1)≠[48]∧(Zao s).drop (slashAt (Zao s)+1)≠[49]:=by
   rcases hd with hd|⟨⟨a,b⟩,c⟩
   ·exact absurd hs (by simpa using hd)
   ·exact⟨a,b,c⟩
  have hg:=h4 hs
  have hd0:numV ((Zao s).drop (slashAt (Zao s)+1))≠0:=by
   intro h0
   have:=Zc0 hd.1
   rw[h0]at this
   exact hd.2.1 this.symm
  have hd1:numV ((Zao s).drop (slashAt (Zao s)+1))≠1:=by
   intro h0
   have:=Zc0 hd.1
   rw[h0]at this
   exact hd.2.2 (this.symm.trans (by decide+kernel))
  have hdl:(decN (numV ((Zao s).drop (slashAt (Zao s)+1)))).length≤600:=by
   rw[Zc0 hd.1];exact h3
  have hv:Zdv s=mkRat (if negS s then -(numV ((Zao s).take (slashAt (Zao s))):Int) else numV ((Zao s).take (slashAt (Zao s)))) (numV ((Zao s).drop (slashAt (Zao s)+1))):=by
   unfold Zdv;rw[Ys8 hs]
  obtain⟨e1,e2⟩:=Zrx (n:=if negS s then -(numV ((Zao s).take (slashAt (Zao s))):Int) else numV ((Zao s).take (slashAt (Zao s)))) hd0 (by split<;>simpa using hg)
  rw[←hv]at e1 e2
  have hbody:Zao s=(Zao s).take (slashAt (Zao s))++47::(Zao s).drop (slashAt (Zao s)+1):=by
   conv=>lhs;rw[←Yva (slashAt (Zao s)) (Zao s)]
   rw[Zmv hs]
  refine⟨?_,?_,by rw[e2];exact hdl⟩
  ·unfold Zaz
   rw[e2,Ys5 hd1,Zc0 hd.1,e1]
   conv=>rhs;rw[hb,hbody]
   unfold decI
   cases hn:negS s with
   |false=>
    simp only[Ytj,if_false]
    rw[Ys5 (by omega),Ytc,Zc0 hp];rfl
   |true=>
    have:=hpz hn
    simp only[if_true]
    rw[Ys8 (by omega),Yv0,Ytc,Zc0 hp];rfl
  ·rw[e1]
   split<;>simpa using hpl
 ·have hv:Zdv s=mkRat (if negS s then -(numV ((Zao s).take (slashAt (Zao s))):Int) else numV ((Zao s).take (slashAt (Zao s)))) 1:=by
   unfold Zdv;rw[Ys5 hs]
  obtain⟨e1,e2⟩:=Zrx (n:=if negS s then -(numV ((Zao s).take (slashAt (Zao s))):Int) else numV ((Zao s).take (slashAt (Zao s)))) (show (1:Nat)≠0 by decide) (Nat.gcd_one_right _)
  rw[←hv]at e1 e2
  have ht:(Zao s).take (slashAt (Zao s))=Zao s:=Ytd (by omega)
  rw[ht]at e1 hp hpz hpl
  refine⟨?_,?_,by rw[e2];decide+kernel⟩
  ·unfold Zaz
   rw[e2,Ys8 rfl,e1]
   conv=>rhs;rw[hb]
   unfold decI
   cases hn:negS s with
   |false=>
    simp only[Ytj,if_false]
    rw[Ys5 (by omega),Ytc,Zc0 hp];rfl
   |true=>
    have:=hpz hn
    simp only[if_true]
    rw[Ys8 (by omega),Yv0,Ytc,Zc0 hp];rfl
  ·rw[e1]
   split<;>simpa using hpl
def Zn9(q:Rat):Zao (Zaz q)=if q.den=1 then decN q.num.natAbs else decN q.num.natAbs++47::decN q.den:=by
 have hneg:∀t:Str,negS (decI q.num++t)=decide (q.num<0):=by
  intro t
  rw[←Zfm]
  have:decI q.num≠[]:=by
   unfold decI;split
   ·simp
   ·exact Zi0 _
  cases h:decI q.num with
  |nil=>exact absurd h this
  |cons c u=>rfl
 have hb:∀t:Str,Zao (decI q.num++t)=decN q.num.natAbs++t:=by
  intro t
  unfold Zao
  rw[hneg]
  by_cases h:q.num<0
  ·simp[h,decI]
  ·simp[h,decI]
 unfold Zaz
 split
 ·have:=hb [];simpa using this
 ·exact hb _
def Zwf(q:Rat):negS (Zaz q)=decide (q.num<0):=by
 have hneg:∀t:Str,negS (decI q.num++t)=decide (q.num<0):=by
  intro t
  rw[←Zfm]
  have:decI q.num≠[]:=by
   unfold decI;split
   ·simp
   ·exact Zi0 _
  cases h:decI q.num with
  |nil=>exact absurd h this
  |cons c u=>rfl
 unfold Zaz
 split
 ·have:=hneg [];simpa using this
 ·exact hneg _
def Zq3(q:Rat):(Zao (Zaz q)).take (slashAt (Zao (Zaz q)))=decN q.num.natAbs∧(slashAt (Zao (Zaz q))<(Zao (Zaz q)).length↔q.den≠1)∧(Zao (Zaz q)).drop (slashAt (Zao (Zaz q))+1)=if q.den=1 then [] else decN q.den:=by
 rw[Zn9]
 by_cases h:q.den=1
 ·simp only[h,if_true]
  rw[Ze5 (Zk4 (Zb6 _))]
  simp
 ·simp only[h,if_false]
  rw[Zf3 (Zk4 (Zb6 _))]
  simp[h]
def Zvb(q:Rat):Bool:=decide (600<(decN q.num.natAbs).length∨600<(decN q.den).length)
def Yjh:decN 0=[48]:=rfl
def Zw4:decN 1=[49]:=by decide+kernel
def Zpj(q:Rat):chkNum (Zaz q)=if Zvb q then 4 else 0:=by
 obtain⟨h1,h2,h3⟩:=Zq3 q
 have hf:Zcb (negS (Zaz q)) (decN q.num.natAbs) (decide (q.den≠1)) (if q.den=1 then [] else decN q.den)=true:=by
  unfold Zcb
  rw[Zpc,Zwf]
  have hz:(decide (q.num<0)&&decide (decN q.num.natAbs=[48]))=false:=by
   by_cases hn:q.num<0
   ·have:decN q.num.natAbs≠[48]:=by
     intro h
     have:=Zj8 (h.trans Yjh.symm)
     omega
    simp[this]
   ·simp[hn]
  rw[hz]
  by_cases hd:q.den=1
  ·simp[hd]
  ·have a1:decN q.den≠[48]:=fun h=>q.den_nz (Zj8 (h.trans Yjh.symm))
   have a2:decN q.den≠[49]:=fun h=>hd (Zj8 (h.trans Zw4.symm))
   simp[hd,Zpc,a1,a2]
 have hb:(decide (slashAt (Zao (Zaz q))<(Zao (Zaz q)).length))=decide (q.den≠1):=decide_eq_decide.2 h2
 unfold chkNum Ymm
 rw[h1,h3,hb]
 unfold Zke
 rw[hf]
 have hg:¬(decide (q.den≠1)=true∧Nat.gcd (numV (decN q.num.natAbs)) (numV (if q.den=1 then [] else decN q.den))≠1):=by
  rintro⟨a,b⟩
  have a:q.den≠1:=by simpa using a
  rw[Ys5 a,Zck,Zck]at b
  exact b q.reduced
 rw[Ys5 (by simp),Ys5 hg]
 unfold Zvb
 by_cases hd:q.den=1
 ·rw[hd,Zw4]
  simp
 ·simp[hd]
def Yfz(q:Rat):Zdv (Zaz q)=q:=by
 obtain⟨h1,h2,h3⟩:=Zq3 q
 unfold Zdv
 rw[h1,h3,Zwf,Zck]
 have hn:(if decide (q.num<0)=true then -(q.num.natAbs:Int) else (q.num.natAbs:Int))=q.num:=by
  by_cases h:q.num<0
  ·rw[Ys8 (by simpa using h)];omega
  ·rw[Ys5 (by simpa using h)];omega
 rw[hn]
 by_cases hd:q.den=1
 ·rw[Ys5 (fun h=>(h2.1 h) hd)]
  have:=Rat.mkRat_self q
  rw[hd]at this
  exact this
 ·rw[Ys8 (h2.2 hd),Ys5 hd,Zck]
  exact Rat.mkRat_self q
end Go.Mx
