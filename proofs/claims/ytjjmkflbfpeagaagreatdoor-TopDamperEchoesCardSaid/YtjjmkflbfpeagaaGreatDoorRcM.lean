/-lensletref01-/
import Derived.Test.YtjjmkflbfpeagaaGreatDoorNaD
set_option linter.all false
namespace Go.Mx
noncomputable section
open Go Go.Proofs
set_option maxRecDepth 1000000
def A.b40:=A.q Tryz.f40
def A.k40:=@A.kk 40 13 [.tmp 2] A.b40 (by kernel_rfl) rfl
def A.b12:=A.q Tryz.f12
def A.k12:=@A.kk 12 14 [.tmp 2] A.b12 (by kernel_rfl) rfl
def A.b95:=A.q Tryz.f95
def A.k95:=@A.kk 95 7 [.tmp 2] A.b95 (by kernel_rfl) rfl
def A.b96:=A.q Tryz.f96
def A.k96:=@A.kk 96 14 [.tmp 2] A.b96 (by kernel_rfl) rfl
def A.b15:=A.q Tryz.f15
def A.k15:=@A.kk 15 9 [.tmp 2] A.b15 (by kernel_rfl) rfl
def MN:av 0=[48]:=by decide+kernel
def Yi2{q:Rat}:av q=[48]↔q=0:=⟨fun h=>Xp (h.trans MN.symm),fun h=>by rw[h,MN]⟩
def HP{q:Rat}:q.num=0↔q=0:=Rat.num_eq_zero
def Yi1(q:Rat):0<(av q).length:=by
 obtain⟨c,t,h,_⟩:=V9 q
 rw[wj,h]
 split<;>simp
def Yen(q:Rat):∃c,(av q)[0]?=some c/\(av q).head?=some c/\(cJ c=45↔q.num<0):=by
 obtain⟨c,t,h,h1⟩:=V9 q
 by_cases hz:q.num<0
 ·refine⟨45,?_,?_,?_⟩
  ·rw[wj,aJ hz];rfl
  ·rw[wj,aJ hz];rfl
  ·exact⟨fun _=>hz,fun _=>rfl⟩
 ·refine⟨c,?_,?_,?_⟩
  ·rw[wj,aq hz,h];rfl
  ·rw[wj,aq hz,h];rfl
  ·exact⟨fun h2=>by unfold cJ at h2;omega,fun h2=>absurd h2 hz⟩
def HR{q:Rat}{st:St}:A.C.call (.func 40 [] []) [.str (av q)] st=some (.int .i64 (cY q.num),st):=by
 have e:(av q==[48])=decide (q=0):=by rw[Bool.eq_iff_iff,beq_iff_eq,decide_eq_true_eq];exact Yi2
 obtain⟨c,h1,h2,h3⟩:=Yen q
 have hp:=Yi1 q
 have hp':(0:Int)<((av q).length:Int):=by omega
 have bK:av q≠[]:=fun hc=>by rw[hc]at hp;simp at hp
 apply Call.eq
 rw[aQ,A.k40 (by simp)]
 by_cases h0:q=0
 ·have hn:q.num=0:=HP.2 h0
  have hs:cY q.num=0:=by rw[hn];rfl
  have e0:(av q==[48])=true:=by rw[e];simp[h0]
  rw[hs]
  simp(disch:=first|(simp;done)|omega|rfl) [-getElem?_pos,A.b40,iC,e0]
 ·have hn:q.num≠0:=fun hc=>h0 (HP.1 hc)
  by_cases hz:q.num<0
  ·have hs:cY q.num= -1:=by unfold cY;rw[aJ hz]
   have hc:=h3.2 hz
   rw[hs]
   simp(disch:=first|(simp;done)|omega|rfl) [-getElem?_pos,A.b40,iC,e,h0,hp,h1,hc]
  ·have hs:cY q.num=1:=by unfold cY;rw[aq hz,aq hn]
   have hc:¬cJ c=45:=fun hc=>hz (h3.1 hc)
   rw[hs]
   simp(disch:=first|(simp;done)|omega|rfl) [-getElem?_pos,A.b40,iC,e,h0,hp,h1,hc]
def XK(q:Rat):QB (-q)=QB q:=by
 unfold QB
 rw[Rat.neg_den,Rat.neg_num,zr]
def WS{q:Rat}{st:St}(hl:(av q).length<1000000000):A.C.call (.func 12 [] []) [.str (av q)] st=some (.str (av (-q)),st):=by
 have hs:=fun st=>HR (q:=q) (st:=st)
 have dJ:IntKind.max .i64=9223372036854775807:=rfl
 apply Call.eq
 rw[aQ,A.k12 (by simp)]
 have eZ:=wj (-q)
 rw[XK,Rat.neg_num]at eZ
 by_cases hz:q.num<0
 ·have e1:av q=45::QB q:=by rw[wj,aJ hz]
  have e2:av (-q)=QB q:=by rw[eZ,aq (by omega)]
  have e3:cY q.num= -1:=by unfold cY;rw[aJ hz]
  rw[e1,e3]at hs
  have a3:∀st:St,oW st (some (.str (45::QB q))) (some (some (.int .i64 1))) (some none)=some (.str (QB q),st):=fun st=>by rw[Ah (by omega) (by simp only[bf];omega)];rfl
  rw[e1,e2]
  simp[A.b12,hs,az,a3]
 ·by_cases h0:q=0
  ·have e3:cY q.num=0:=by rw[HP.2 h0];rfl
   rw[e3]at hs
   have e4: -q=q:=by rw[h0];rfl
   rw[e4]
   simp[A.b12,hs]
  ·have hn:q.num≠0:=fun hc=>h0 (HP.1 hc)
   have e1:av q=QB q:=by rw[wj,aq hz]
   have e2:av (-q)=45::QB q:=by rw[eZ,aJ (by omega)]
   have e3:cY q.num=1:=by unfold cY;rw[aq hz,aq hn]
   rw[e3]at hs
   rw[e1]at hs hl
   have hb:¬(9223372036854775807:Int)<1+((QB q).length:Int):=by omega
   rw[e2,e1]
   simp[A.b12,hs,iC,dJ,hb]
def inv_divInt(q:Rat):q⁻¹=Rat.divInt (q.den:Int) q.num:=Rat.inv_def q
def Yj6{q:Rat}{st:St}(hl:(av q).length<1000000000):A.C.call (.func 95 [] []) [.str (av q)] st=some (.str (aK q.num),st):=by
 have cO:=fun st=>Bv (s:=av q) (st:=st) (by omega)
 have h2:ah (av q)<=(av q).length:=by
  rw[G4]
  unfold av
  split
  ·exact aR _
  ·rw[iy];omega
 have a4:∀st:St,oW st (some (.str (av q))) (some none) (some (some (.int .i64 (ah (av q):Nat))))=some (.str (aK q.num),st):=fun st=>by rw[TJ (by omega) (by omega),Int.toNat_natCast,JI]
 apply Call.eq
 rw[aQ,A.k95 (by simp)]
 simp[A.b95,cO,az,a4]
def Ylo{q:Rat}{st:St}(hl:(av q).length<1000000000):A.C.call (.func 96 [] []) [.str (av q)] st=some (.str (aj q.den),st):=by
 have cO:=fun st=>Bv (s:=av q) (st:=st) (by omega)
 have aO:=AT q
 have h2:ah (av q)<=(av q).length:=by
  rw[G4]
  unfold av
  split
  ·exact aR _
  ·rw[iy];omega
 apply Call.eq
 rw[aQ,A.k96 (by simp)]
 by_cases hd:q.den=1
 ·have c1:(ah (av q):Int)=((av q).length:Int):=by omega
  rw[hd,NR]
  simp[A.b96,cO,c1]
 ·have pW:=aO.2 hd
  have c1:¬(ah (av q):Int)=((av q).length:Int):=by omega
  have c2:¬ah (av q)=(av q).length:=by omega
  have w1:bb .i64 ((ah (av q):Int)+1)=(ah (av q):Int)+1:=cb (by omega) (by omega)
  have uV:=JJ q hd
  have a4:∀st:St,oW st (some (.str (av q))) (some (some (.int .i64 ((ah (av q):Int)+1)))) (some none)=some (.str (aj q.den),st):=fun st=>by
   rw[Ah (by omega) (by omega)]
   have:((ah (av q):Int)+1).toNat=ah (av q)+1:=by omega
   rw[this,uV]
  simp[A.b96,cO,c1,w1,az,a4]
def Yi3(z:Int):av (z:Rat)=aK z:=by
 unfold av
 rw[aJ (by simp)];simp
def Yl7{z:Int}{st:St}(hl:(aK z).length<1000000000):A.C.call (.func 15 [] []) [.str (aK z)] st=some (.str (aj z.natAbs),st):=by
 have hs:=fun st=>HR (q:=(z:Rat)) (st:=st)
 rw[Yi3]at hs
 have hn:((z:Rat)).num=z:=by simp
 rw[hn]at hs
 apply Call.eq
 rw[aQ,A.k15 (by simp)]
 by_cases hz:z<0
 ·have e1:aK z=45::aj z.natAbs:=by unfold aK;rw[aJ hz]
  have e3:cY z= -1:=by unfold cY;rw[aJ hz]
  rw[e1,e3]at hs
  have a3:∀st:St,oW st (some (.str (45::aj z.natAbs))) (some (some (.int .i64 1))) (some none)=some (.str (aj z.natAbs),st):=fun st=>by rw[Ah (by omega) (by simp only[bf];omega)];rfl
  rw[e1]
  simp[A.b15,hs,az,a3]
 ·have e1:aK z=aj z.natAbs:=by unfold aK;rw[aq hz]
  have e3:¬cY z<0:=by unfold cY;rw[aq hz];split<;>omega
  rw[e1]at hs
  rw[e1]
  simp[A.b15,hs,e3]
variable {N:Nat} {a b:Int} {h:T O} {x y:V}
set_option maxHeartbeats 1000000
def A.LV:=A.q Tryz.f129
def A.l_:=A.qt A.LV [] [] [1,1]
def A.b129:=(fun y0=>A.qt A.LV [] [([1,1],y0)] []) A.l_
def A.k129:=@A.kk 129 67 [.cell 4 (some 2)] A.b129 (by kernel_rfl) rfl
def A.b188:=A.q Tryz.f188
def A.k188:=@A.kk 188 9 [.cell 4 (some 2)] A.b188 (by kernel_rfl) rfl
def A.LW:=A.q Tryz.f123
def A.mb:=A.qt A.LW [] [] [1,1]
def A.b123:=(fun y0=>A.qt A.LW [] [([1,1],y0)] []) A.mb
def A.k123:=@A.kk 123 66 [.cell 4 (some 2)] A.b123 (by kernel_rfl) rfl
def A.b127:=A.q Tryz.f127
def A.k127:=@A.kk 127 29 [.tmp 4] A.b127 (by kernel_rfl) rfl
structure Fb (h:T O) (N q:Nat) (z:Int) (st:St):Prop where
 w:aB N st.w=[]
 ae:ad h N st.h st.n
 ex:∃n u,st.h.get q=some (.cells [.int .i64 n,u] 70 true)/\In st.h st.n (.agg [.int .i64 n,u]) z
def Zvw(a b:Int):(a*b<0)↔((a<0)≠(b<0))/\a≠0/\b≠0:=by
 rcases Int.lt_trichotomy a 0 with ha|ha|ha<;>rcases Int.lt_trichotomy b 0 with hb|hb|hb
 ·have:=Int.mul_pos_of_neg_of_neg ha hb
  simp[ha,hb];omega
 ·subst hb;simp
 ·have:=Int.mul_neg_of_neg_of_pos ha hb
  have h1:¬b<0:=by omega
  simp[ha,h1,this];omega
 ·subst ha;simp
 ·subst ha;simp
 ·subst ha;simp
 ·have:=Int.mul_neg_of_pos_of_neg ha hb
  have h1:¬a<0:=by omega
  simp[hb,h1,this];omega
 ·subst hb;simp
 ·have:=Int.mul_pos ha hb
  have h1:¬a<0:=by omega
  have h2:¬b<0:=by omega
  simp[h1,h2];omega
def VB{n k:Nat}(h:n<B^k):(aH n).length<=k:=by
 apply wB
 intro hc
 obtain⟨j,hj⟩:∃j,(aH n).length=j+1:=⟨(aH n).length-1,by omega⟩
 have:=(EJ hj).1
 have:=nY (show 0<B by decide) (show k<=j by omega)
 omega
def Pv(n:Nat):n<B^(aH n).length:=by
 have:=Cr (pC n)
 rwa [kP]at this
def Vw(a b:Int):wl (a+b)<=max (wl a) (wl b)+1:=by
 unfold wl
 apply VB
 have h1:=Pv a.natAbs
 have h2:=Pv b.natAbs
 have h3:=nY (show 0<B by decide) (Ar (aH a.natAbs).length (aH b.natAbs).length)
 have h4:=nY (show 0<B by decide) (An (aH a.natAbs).length (aH b.natAbs).length)
 rw[fv]
 generalize B^max (aH a.natAbs).length (aH b.natAbs).length=p at*
 have:p*2<=p*B:=iT p (by decide)
 omega
def HO(a:Int):wl (-a)=wl a:=by unfold wl;rw[zr]
def Bm(a b:Int):wl (a*b)<=wl a+wl b:=by
 unfold wl
 apply VB
 rw[sC,gL]
 have h1:=Pv a.natAbs
 have h2:=Pv b.natAbs
 exact Ap h1 h2
def Hn(h:a.natAbs<=b.natAbs):wl a<=wl b:=Cv h
def Yhf{H:T O}{n1 n2:Int}{u1 u2:V}{r0:T V}(hx:In H (N+3) (.agg [.int .i64 n1,u1]) a)(hy:In H (N+3) (.agg [.int .i64 n2,u2]) b)(la:wl a<500000000000)(lb:wl b<500000000000)(hK:ad h N H (N+3))
  (gx:H.get N=some (.cells [.int .i64 n1,u1] 70 true)) (gy:H.get (N+1)=some (.cells [.int .i64 n2,u2] 70 true)) (gz:H.get (N+2)=some (.cells [.int .i64 0,.aa] 70 true)) (r2:r0.get 2=some (.ptr N 0)) (r3:r0.get 3=some (.ptr (N+1) 0)) (r4:r0.get 4=some (.ptr (N+2) 0)):
  Code A.C none A.l_ ⟨r0,67,[]⟩ ⟨H,N+3,[]⟩ (fun e fr st=>e=.ret/\∃r,fr=⟨r,67,[]⟩/\r.get 4=some (.ptr (N+2) 0)/\Fb h N (N+2) (a+b) st):=by
 rw[cm]
 simp[A.l_,r2,gx,aL,aM]
 refine au (Bb hx) ?_
 rintro _ h1 N1 k1 ⟨ua,rfl,CY⟩
 have eS:=k1.le
 have Ky:=(k1.get (N+1) (by omega)).trans gy
 have Wc:=(k1.get (N+2) (by omega)).trans gz
 simp[r3,Ky,aL,aM]
 refine au (Bb (hy.ae k1)) ?_
 rintro _ h2 N2 k2 ⟨ub,rfl,Fe⟩
 have gF:=k2.le
 have Wd:=(k2.get (N+2) (by omega)).trans Wc
 have tr:=CY.ae k2
 have CE:(aH a.natAbs).length<500000000000:=la
 have OH:(aH b.natAbs).length<500000000000:=lb
 have kA:=(hK.trans k1).trans k2
 have LX:=Vw a b
 have fin:∀(z:Int) (v:V) (h4:T O) (n4:Nat),ad h2 N2 h4 n4->In h4 n4 v z->z=a+b->∃(n5:Int) (u5:V),v=.agg [.int .i64 n5,u5]/\V.one u5=true/\h4.get (N+2)=some (.cells [.int .i64 0,.aa] 70 true)/\∀W,aB N W=[]->Fb h N (N+2) (a+b) ⟨h4.set (N+2) (.cells [.int .i64 n5,u5] 70 true),n4,W⟩:=by
  intro z v h4 n4 k4 hv hz
  obtain⟨n5,u5,rfl,iW⟩:=hv.cells
  have yF:=(k4.get (N+2) (by omega)).trans Wd
  subst hz
  exact⟨n5,u5,rfl,iW,yF,fun W hW=>⟨hW,(kA.trans k4).set (by omega),n5,u5,by simp,hv.aC yF (by simp) rfl⟩⟩
 by_cases hs:(a<0)=(b<0)
 ·have iU:(decide (a<0)==decide (b<0))=true:=by simp[hs]
  simp[aW,iU]
  refine au (Zuu tr Fe (by omega) (by omega)) ?_
  rintro v h3 N3 k3 hv
  have yr:a.natAbs+b.natAbs=(a+b).natAbs:=by
   by_cases h:a<0
   ·have:b<0:=by rw[hs]at h;exact h
    omega
   ·have:¬b<0:=by rw[hs]at h;exact h
    omega
  rw[yr]at hv
  simp[]
  refine au (Cw hv (by unfold wl at LX la lb;omega)) ?_
  rintro v h4 N4 k4 hv
  obtain⟨n5,u5,rfl,iW,yF,hf⟩:=fin _ _ _ _ (k3.trans k4) hv (by
   by_cases h:a<0
   ·have:b<0:=by rw[hs]at h;exact h
    simp[h];omega
   ·have:¬b<0:=by rw[hs]at h;exact h
    simp[h];omega)
  unfold V.one at iW
  simp[yF,iW,ag,bS,r4]
  exact hf _ (by simp[aB])
 ·have iU:(decide (a<0)==decide (b<0))=false:=by
   by_cases h:a<0<;>by_cases h':b<0<;>simp_all
  simp[aW,iU]
  refine au (Zho tr Fe (by omega) (by omega)) ?_
  rintro _ h3 N3 k3 rfl
  have LY:=tr.ae k3
  have LZ:=Fe.ae k3
  by_cases hc:b.natAbs<=a.natAbs
  ·have c1:(0:Int)<=ti a.natAbs b.natAbs:=by unfold ti;split<;>(try split)<;>omega
   simp[c1]
   refine au (Zmn LY LZ hc (by omega) (by omega)) ?_
   rintro v h5 N5 k5 hv
   simp[]
   refine au (Cw hv (by have:=Cv (show a.natAbs-b.natAbs<=a.natAbs by omega);omega)) ?_
   rintro v h4 N4 k4 hv
   obtain⟨n5,u5,rfl,iW,yF,hf⟩:=fin _ _ _ _ ((k3.trans k5).trans k4) hv (by
    by_cases h:a<0
    ·have:¬b<0:=by intro h2;apply hs;simp[h,h2]
     simp[h];omega
    ·have:b<0:=by apply Decidable.byContradiction;intro h2;apply hs;simp[h,h2]
     simp[h];omega)
   unfold V.one at iW
   simp[yF,iW,ag,bS,r4]
   exact hf _ (by simp[aB])
  ·have c1:¬(0:Int)<=ti a.natAbs b.natAbs:=by unfold ti;split<;>(try split)<;>omega
   simp[c1]
   refine au (Zmn LZ LY (by omega) (by omega) (by omega)) ?_
   rintro v h5 N5 k5 hv
   simp[]
   refine au (Cw hv (by have:=Cv (show b.natAbs-a.natAbs<=b.natAbs by omega);omega)) ?_
   rintro v h4 N4 k4 hv
   obtain⟨n5,u5,rfl,iW,yF,hf⟩:=fin _ _ _ _ ((k3.trans k5).trans k4) hv (by
    by_cases h:b<0
    ·have:¬a<0:=by intro h2;apply hs;simp[h,h2]
     simp[h];omega
    ·have:a<0:=by apply Decidable.byContradiction;intro h2;apply hs;simp[h,h2]
     simp[h];omega)
   unfold V.one at iW
   simp[yF,iW,ag,bS,r4]
   exact hf _ (by simp[aB])
def KF(hx:In h N x a)(hy:In h N y b)(la:wl a<500000000000)(lb:wl b<500000000000):Fn A.C 129 [x,y] h N (fun v h' n'=>In h' n' v (a+b)):=by
 intro w
 rw[aQ,A.k129 (by simp)]
 obtain⟨n1,u1,rfl,o1⟩:=hx.cells
 obtain⟨n2,u2,rfl,o2⟩:=hy.cells
 have kk:=aG (aG (aG (ad.refl (h:=h) (n:=N)) (.cells [.int .i64 n1,u1] 70 true)) (.cells [.int .i64 n2,u2] 70 true)) (.cells [.int .i64 0,.aa] 70 true)
 unfold V.one at o1 o2
 have go:∀r:T V,r.get 2=some (.ptr N 0)->r.get 3=some (.ptr (N+1) 0)->r.get 4=some (.ptr (N+2) 0)->bD A.C [.fin [.cell 4 (some 2)] ⟨h,N,w⟩] (eR (A.C.code none A.l_ ⟨r,67,[]⟩ ⟨((h.set N (.cells [.int .i64 n1,u1] 70 true)).set (N+1) (.cells [.int .i64 n2,u2] 70 true)).set (N+1+1) (.cells [.int .i64 0,.aa] 70 true),N+1+1+1,[]⟩)) (AU (aA (fun v h' n'=>In h' n' v (a+b)) h N w)):=by
  intro r r2 r3 r4
  refine nP (Yhf (hx.ae kk) (hy.ae kk) la lb kk (by simp) (by simp) (by simp) r2 r3 r4) ?_
  rintro e fr ⟨h5,n5,w5⟩ ⟨rfl,r',rfl,KK,hW,hK,n6,u6,g6,hi⟩
  simp only at hW hK g6 hi
  simp[KK,g6,aL,aM,aA,hW]
  exact⟨hK,hi⟩
 rcases id hx with⟨e1,s1,s2⟩|⟨i,o,l,c,e1,_⟩
 ·simp only[V.agg.injEq,iB,V.int.injEq,true_and,and_true]at e1
  obtain⟨rfl,rfl⟩:=e1
  rcases id hy with⟨e2,t1,t2⟩|⟨i,o,l,c,e2,_⟩
  ·simp only[V.agg.injEq,iB,V.int.injEq,true_and,and_true]at e2
   obtain⟨rfl,rfl⟩:=e2
   by_cases BN: -9223372036854775808<=n1+n2/\n1+n2<9223372036854775808
   ·have w1:bb .i64 (n1+n2)=n1+n2:=cb (by omega) (by omega)
    by_cases hp:0<n2
    ·have c1:n1<n1+n2:=by omega
     simp[A.b129,aL,aM,ag,aW,w1,hp,c1,aA]
     exact⟨kk.set (by omega),In.small (by omega) (by omega)⟩
    ·have c1:¬n1<n1+n2:=by omega
     simp[A.b129,aL,aM,ag,aW,w1,hp,c1,aA]
     exact⟨kk.set (by omega),In.small (by omega) (by omega)⟩
   ·obtain⟨y,qf⟩:∃y,bb .i64 (n1+n2)=y:=⟨_,rfl⟩
    have uH:y=n1+n2-18446744073709551616/\0<n2\/y=n1+n2+18446744073709551616/\¬0<n2:=by
     rw[<-qf,xF]
     simp only[IntKind.wrap,IntKind.bits,IntKind.signed]
     simp
     omega
    by_cases hp:0<n2
    ·have c1:¬n1<y:=by omega
     simp[A.b129,aL,aW,qf,hp,c1]
     exact go _ (by simp) (by simp) (by simp)
    ·have c1:n1<y:=by omega
     simp[A.b129,aL,aW,qf,hp,c1]
     exact go _ (by simp) (by simp) (by simp)
  ·simp only[V.agg.injEq,iB,V.int.injEq,true_and,and_true]at e2
   obtain⟨rfl,rfl⟩:=e2
   simp[A.b129,aL,aW]
   exact go _ (by simp) (by simp) (by simp)
 ·simp only[V.agg.injEq,iB,V.int.injEq,true_and,and_true]at e1
  obtain⟨rfl,rfl⟩:=e1
  simp[A.b129,aL,aW,o2]
  exact go _ (by simp) (by simp) (by simp)
def Yho(hx:In h N x a)(hy:In h N y b)(la:wl a<500000000000)(lb:wl b<500000000000):Fn A.C 188 [x,y] h N (fun v h' n'=>In h' n' v (a-b)):=by
 intro w
 rw[aQ,A.k188 (by simp)]
 obtain⟨n1,u1,rfl,o1⟩:=hx.cells
 obtain⟨n2,u2,rfl,o2⟩:=hy.cells
 have kk:=aG (aG (aG (ad.refl (h:=h) (n:=N)) (.cells [.int .i64 n1,u1] 70 true)) (.cells [.int .i64 n2,u2] 70 true)) (.cells [.int .i64 0,.aa] 70 true)
 have Ju:=FZ (hy.ae kk) lb
 have nz:=hx.ae kk
 unfold V.one at o1 o2
 simp[A.b188,aL,aM,o1,o2]
 refine au Ju ?_
 rintro v h1 rj k1 hv
 simp[]
 refine au (KF (nz.ae k1) hv la (by rw[HO];exact lb)) ?_
 rintro v2 h2 mw k2 iY
 obtain⟨n5,u5,rfl,iW⟩:=iY.cells
 unfold V.one at iW
 have k12:=k1.trans k2
 have vT:=k12.le
 have g2:=k12.get (N+1+1) (by omega)
 simp at g2
 have aO:N+1+1<mw:=by omega
 have eJ:N+1+1<rj:=by have:=k1.le;omega
 simp[g2,iW,ag,bS,aO,eJ,cD.cG,aA]
 have he:a+ -b=a-b:=by omega
 rw[he]at iY
 exact⟨(kk.trans k12).set (by omega),iY.aC g2 (by simp) rfl⟩
def Yfw{H:T O}{n1 n2:Int}{u1 u2:V}{r0:T V}(hx:In H (N+3) (.agg [.int .i64 n1,u1]) a)(hy:In H (N+3) (.agg [.int .i64 n2,u2]) b)(la:wl a<500000000000)(lb:wl b<500000000000)(hK:ad h N H (N+3))
  (gx:H.get N=some (.cells [.int .i64 n1,u1] 70 true)) (gy:H.get (N+1)=some (.cells [.int .i64 n2,u2] 70 true)) (gz:H.get (N+2)=some (.cells [.int .i64 0,.aa] 70 true)) (r2:r0.get 2=some (.ptr N 0)) (r3:r0.get 3=some (.ptr (N+1) 0)) (r4:r0.get 4=some (.ptr (N+2) 0)):
  Code A.C none A.mb ⟨r0,66,[]⟩ ⟨H,N+3,[]⟩ (fun e fr st=>e=.ret/\∃r,fr=⟨r,66,[]⟩/\r.get 4=some (.ptr (N+2) 0)/\Fb h N (N+2) (a*b) st):=by
 rw[cm]
 simp[A.mb,r2,gx,aL,aM]
 refine au (Bb hx) ?_
 rintro _ h1 N1 k1 ⟨ua,rfl,CY⟩
 have eS:=k1.le
 have Ky:=(k1.get (N+1) (by omega)).trans gy
 have Wc:=(k1.get (N+2) (by omega)).trans gz
 simp[r3,Ky,aL,aM]
 refine au (Bb (hy.ae k1)) ?_
 rintro _ h2 N2 k2 ⟨ub,rfl,Fe⟩
 have gF:=k2.le
 have Wd:=(k2.get (N+2) (by omega)).trans Wc
 have tr:=CY.ae k2
 have CE:(aH a.natAbs).length<500000000000:=la
 have OH:(aH b.natAbs).length<500000000000:=lb
 have kA:=(hK.trans k1).trans k2
 have LX:=Bm a b
 simp[aW]
 refine au (Ztr tr Fe (by omega) (by omega)) ?_
 rintro v h3 N3 k3 hv
 have hmul:a.natAbs*b.natAbs=(a*b).natAbs:=(sC a b).symm
 rw[hmul]at hv
 simp[]
 refine au (Cw hv (by unfold wl at LX la lb;omega)) ?_
 rintro v h4 N4 k4 hv
 obtain⟨n5,u5,rfl,iW⟩:=hv.cells
 have yF:=((k3.trans k4).get (N+2) (by omega)).trans Wd
 have tj:=(k3.trans k4).le
 unfold V.one at iW
 have hs:=Zvw a b
 have he:(if (!decide (a<0)==decide (b<0))=true then -((a*b).natAbs:Int) else (a*b).natAbs)=a*b:=by
  have h0:a=0\/b=0->a*b=0:=by rintro(rfl|rfl)<;>simp
  by_cases h1:a<0<;>by_cases h2:b<0<;>simp[h1,h2]at hs ⊢<;>omega
 rw[he]at hv
 simp[yF,iW,ag,bS,r4]
 exact⟨by simp[aB],((kA.trans k3).trans k4).set (by omega),n5,u5,by simp,hv.aC yF (by simp) rfl⟩
def yy(hx:In h N x a)(hy:In h N y b)(la:wl a<500000000000)(lb:wl b<500000000000):Fn A.C 123 [x,y] h N (fun v h' n'=>In h' n' v (a*b)):=by
 intro w
 rw[aQ,A.k123 (by simp)]
 obtain⟨n1,u1,rfl,o1⟩:=hx.cells
 obtain⟨n2,u2,rfl,o2⟩:=hy.cells
 have kk:=aG (aG (aG (ad.refl (h:=h) (n:=N)) (.cells [.int .i64 n1,u1] 70 true)) (.cells [.int .i64 n2,u2] 70 true)) (.cells [.int .i64 0,.aa] 70 true)
 unfold V.one at o1 o2
 have go:∀r:T V,r.get 2=some (.ptr N 0)->r.get 3=some (.ptr (N+1) 0)->r.get 4=some (.ptr (N+2) 0)->bD A.C [.fin [.cell 4 (some 2)] ⟨h,N,w⟩] (eR (A.C.code none A.mb ⟨r,66,[]⟩ ⟨((h.set N (.cells [.int .i64 n1,u1] 70 true)).set (N+1) (.cells [.int .i64 n2,u2] 70 true)).set (N+1+1) (.cells [.int .i64 0,.aa] 70 true),N+1+1+1,[]⟩)) (AU (aA (fun v h' n'=>In h' n' v (a*b)) h N w)):=by
  intro r r2 r3 r4
  refine nP (Yfw (hx.ae kk) (hy.ae kk) la lb kk (by simp) (by simp) (by simp) r2 r3 r4) ?_
  rintro e fr ⟨h5,n5,w5⟩ ⟨rfl,r',rfl,KK,hW,hK,n6,u6,g6,hi⟩
  simp only at hW hK g6 hi
  simp[KK,g6,aL,aM,aA,hW]
  exact⟨hK,hi⟩
 rcases id hx with⟨e1,s1,s2⟩|⟨i,o,l,c,e1,_⟩
 ·simp only[V.agg.injEq,iB,V.int.injEq,true_and,and_true]at e1
  obtain⟨rfl,rfl⟩:=e1
  rcases id hy with⟨e2,t1,t2⟩|⟨i,o,l,c,e2,_⟩
  ·simp only[V.agg.injEq,iB,V.int.injEq,true_and,and_true]at e2
   obtain⟨rfl,rfl⟩:=e2
   have z1:=fun st=>Un s1 s2 (st:=st)
   have z2:=fun st=>Un t1 t2 (st:=st)
   have hm:n1.natAbs*n2.natAbs=(n1*n2).natAbs:=(sC _ _).symm
   have fA:bs (n1.natAbs*n2.natAbs)+18446744073709551616*bZ (n1.natAbs*n2.natAbs)=(n1*n2).natAbs:=by
    rw[<-hm]
    have:=rz (n1.natAbs*n2.natAbs) 18446744073709551616
    unfold bs bZ;omega
   have Ma:=Zvw n1 n2
   obtain⟨hi,il⟩:∃x,bZ (n1.natAbs*n2.natAbs)=x:=⟨_,rfl⟩
   obtain⟨lo,ya⟩:∃x,bs (n1.natAbs*n2.natAbs)=x:=⟨_,rfl⟩
   rw[il,ya]at fA
   have hz:n1=0\/n2=0->n1*n2=0:=by rintro(rfl|rfl)<;>simp
   simp[A.b123,aL,aW,z1,z2]
   refine au (Kh (x:=n1.natAbs) (y:=n2.natAbs) (by omega) (by omega)) ?_
   rintro _ h' N' k ⟨rfl,rfl,rfl⟩
   rw[il,ya]
   by_cases h0:hi=0
   ·by_cases h1:lo<=9223372036854775807
    ·have h_:(lo:Int)<=9223372036854775807:=by omega
     have w1:bb .i64 (lo:Int)=lo:=cb (by omega) (by omega)
     have w2:IntKind.wrap .i64 (-(lo:Int))= -(lo:Int):=JY (by omega) (by omega)
     by_cases hs:(n1<0)=(n2<0)
     ·have iU:(decide (n1<0)==decide (n2<0))=true:=by simp[hs]
      have hp:¬n1*n2<0:=by rw[Ma];rintro⟨p,_⟩;exact p hs
      have he:(lo:Int)=n1*n2:=by omega
      simp[aL,aM,ag,aW,h0,h_,iU,w1,aA,cD.cG]
      exact⟨kk.set (by omega),by rw[<-he];exact In.small (by omega) (by omega)⟩
     ·have iU:(decide (n1<0)==decide (n2<0))=false:=by
       by_cases h:n1<0<;>by_cases h':n2<0<;>simp_all
      have he: -(lo:Int)=n1*n2:=by
       by_cases hq:n1=0\/n2=0
       ·have:=hz hq;omega
       ·have:n1*n2<0:=Ma.2 ⟨hs,fun h=>hq (.inl h),fun h=>hq (.inr h)⟩
        omega
      simp[aL,aM,ag,aW,h0,h_,iU,w1,w2,aA,cD.cG]
      exact⟨kk.set (by omega),by rw[<-he];exact In.small (by omega) (by omega)⟩
    ·have h_:¬(lo:Int)<=9223372036854775807:=by omega
     simp[h0,h_,cD.cG]
     exact go _ (by simp) (by simp) (by simp)
   ·simp[h0,cD.cG]
    exact go _ (by simp) (by simp) (by simp)
  ·simp only[V.agg.injEq,iB,V.int.injEq,true_and,and_true]at e2
   obtain⟨rfl,rfl⟩:=e2
   simp[A.b123,aL,aW]
   exact go _ (by simp) (by simp) (by simp)
 ·simp only[V.agg.injEq,iB,V.int.injEq,true_and,and_true]at e1
  obtain⟨rfl,rfl⟩:=e1
  simp[A.b123,aL,aW,o2]
  exact go _ (by simp) (by simp) (by simp)
def Yih(hx:In h N x a)(hy:In h N y b)(la:wl a<100000000000)(lb:wl b<100000000000):Fn A.C 127 [x,y] h N (fun v _ _=>v=.int .i64 (cY (a-b))):=by
 intro w
 rw[aQ,A.k127 (by simp)]
 obtain⟨n1,u1,rfl,o1⟩:=hx.cells
 obtain⟨n2,u2,rfl,o2⟩:=hy.cells
 have kk:=aG (aG (ad.refl (h:=h) (n:=N)) (.cells [.int .i64 n1,u1] 70 true)) (.cells [.int .i64 n2,u2] 70 true)
 have FL:=Yho (hx.ae kk) (hy.ae kk) (by omega) (by omega)
 have LX:=Vw a (-b)
 rw[HO]at LX
 unfold V.one at o1 o2
 rcases id hx with⟨e1,s1,s2⟩|⟨i,o,l,c,e1,_⟩
 ·simp only[V.agg.injEq,iB,V.int.injEq,true_and,and_true]at e1
  obtain⟨rfl,rfl⟩:=e1
  rcases id hy with⟨e2,t1,t2⟩|⟨i,o,l,c,e2,_⟩
  ·simp only[V.agg.injEq,iB,V.int.injEq,true_and,and_true]at e2
   obtain⟨rfl,rfl⟩:=e2
   by_cases h1:n1<n2
   ·simp[A.b127,aL,aA,aW,h1]
    exact⟨kk,by unfold cY;rw[aJ (by omega)]⟩
   ·by_cases h2:n2<n1
    ·simp[A.b127,aL,aA,aW,h1,h2]
     exact⟨kk,by unfold cY;rw[aq (by omega),aq (by omega)]⟩
    ·simp[A.b127,aL,aA,aW,h1,h2]
     exact⟨kk,by unfold cY;rw[aq (by omega),aJ (by omega)]⟩
  ·simp only[V.agg.injEq,iB,V.int.injEq,true_and,and_true]at e2
   obtain⟨rfl,rfl⟩:=e2
   simp[A.b127,aL,aM,aW]
   refine au FL ?_
   rintro v h1 rj k1 hv
   simp[]
   refine au (EP hv) ?_
   rintro _ h2 mw k2 rfl
   simp[aA]
   exact(kk.trans k1).trans k2
 ·simp only[V.agg.injEq,iB,V.int.injEq,true_and,and_true]at e1
  obtain⟨rfl,rfl⟩:=e1
  simp[A.b127,aL,aM,aW,o2]
  refine au FL ?_
  rintro v h1 rj k1 hv
  simp[]
  refine au (EP hv) ?_
  rintro _ h2 mw k2 rfl
  simp[aA]
  exact(kk.trans k1).trans k2
def Yip(hx:In h N x a)(la:wl a<500000000000):Fn A.C 209 [x] h N (fun v h' n'=>In h' n' v (a.natAbs:Int)):=by
 intro w
 rw[aQ,A.k209 (by simp)]
 obtain⟨n1,u1,rfl,o1⟩:=hx.cells
 have kk:=aG (aG (ad.refl (h:=h) (n:=N)) (.cells [.int .i64 n1,u1] 70 true)) (.cells [.int .i64 0,.aa] 70 true)
 have Ju:=FZ (hx.ae kk) la
 have LC:(n1<0)=(a<0):=by
  rcases hx with⟨e1,s1,s2⟩|⟨i,o,l,c,e1,_⟩
  ·simp only[V.agg.injEq,iB,V.int.injEq,true_and,and_true]at e1
   rw[e1.1]
  ·simp only[V.agg.injEq,iB,V.int.injEq,true_and,and_true]at e1
   rw[e1.1];unfold vP;split<;>simp_all
 unfold V.one at o1
 by_cases h0:a<0
 ·have h1:n1<0:=by rw[LC];exact h0
  simp[A.b209,aL,aM,o1,h1]
  refine au Ju ?_
  rintro v h2 n2 k2 hv
  obtain⟨n5,u5,rfl,iW⟩:=hv.cells
  unfold V.one at iW
  have g2:=k2.get (N+1) (by omega)
  simp at g2
  have he:(-a)=(a.natAbs:Int):=by omega
  rw[he]at hv
  simp[g2,iW,ag,bS,aL,aM,aA]
  exact⟨(kk.trans k2).set (by omega),hv.aC g2 (by simp) rfl⟩
 ·have h1:¬n1<0:=by rw[LC];exact h0
  have he:a=(a.natAbs:Int):=by omega
  rw[he]at hx
  simp[A.b209,aL,aM,ag,bS,o1,h1,aA]
  exact⟨kk.set (by omega),(hx.ae kk).aC (i:=N+1) (c0:=[.int .i64 0,.aa]) (e0:=70) (w0:=true) (by simp) (by simp) rfl⟩
end
end Go.Mx
