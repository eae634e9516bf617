/-lensletref01-/
import Derived.Test.YtdlikflhcjmkeaaGreatDoorNaD
set_option linter.all false
namespace Go.Mx
noncomputable section
open Go Go.Proofs
set_option maxRecDepth 1000000
def A.b155:=A.q Tryz.f155
def A.k155:=@A.kk 155 13 [.tmp 2] A.b155 (by kernel_rfl) rfl
def A.b156:=A.q Tryz.f156
def A.k156:=@A.kk 156 14 [.tmp 2] A.b156 (by kernel_rfl) rfl
def A.b97:=A.q Tryz.f97
def A.k97:=@A.kk 97 14 [.tmp 2] A.b97 (by kernel_rfl) rfl
def A.b141:=A.q Tryz.f141
def A.k141:=@A.kk 141 7 [.tmp 2] A.b141 (by kernel_rfl) rfl
def A.b142:=A.q Tryz.f142
def A.k142:=@A.kk 142 14 [.tmp 2] A.b142 (by kernel_rfl) rfl
def A.b85:=A.q Tryz.f85
def A.k85:=@A.kk 85 9 [.tmp 2] A.b85 (by kernel_rfl) rfl
def Yhh:Zaq 0=[48]:=by decide+kernel
def Yhf{q:Rat}:Zaq q=[48]↔q=0:=⟨fun h=>Yc7 (h.trans Yhh.symm),fun h=>by rw[h,Yhh]⟩
def Yks{q:Rat}:q.num=0↔q=0:=Rat.num_eq_zero
def Yhe(q:Rat):0<(Zaq q).length:=by
 obtain⟨c,t,h,_⟩:=Ztx q
 rw[Zgj,h]
 split<;>simp
def Yc6(q:Rat):∃c,(Zaq q)[0]?=some c∧(Zaq q).head?=some c∧(u8I c=45↔q.num<0):=by
 obtain⟨c,t,h,h1⟩:=Ztx q
 by_cases hz:q.num<0
 ·refine⟨45,?_,?_,?_⟩
  ·rw[Zgj,Yqi hz];rfl
  ·rw[Zgj,Yqi hz];rfl
  ·exact⟨fun _=>hz,fun _=>rfl⟩
 ·refine⟨c,?_,?_,?_⟩
  ·rw[Zgj,Yqe hz,h];rfl
  ·rw[Zgj,Yqe hz,h];rfl
  ·exact⟨fun h2=>by unfold u8I at h2;omega,fun h2=>absurd h2 hz⟩
def Zjf{q:Rat}{st:St}:A.C.call (.func 155 [] []) [.str (Zaq q)] st=some (.int .i64 (sg3 q.num),st):=by
 have e:(Zaq q==[48])=decide (q=0):=by rw[Bool.eq_iff_iff,beq_iff_eq,decide_eq_true_eq];exact Yhf
 obtain⟨c,h1,h2,h3⟩:=Yc6 q
 have hp:=Yhe q
 have hp':(0:Int)<((Zaq q).length:Int):=by omega
 have hne:Zaq q≠[]:=fun hc=>by rw[hc]at hp;simp at hp
 apply Call.eq
 rw[Zab,A.k155 (by simp)]
 by_cases h0:q=0
 ·have hn:q.num=0:=Yks.2 h0
  have hs:sg3 q.num=0:=by rw[hn];rfl
  have e0:(Zaq q==[48])=true:=by rw[e];simp[h0]
  rw[hs]
  simp(disch:=first|(simp;done)|omega|rfl) [-getElem?_pos,A.b155,Zbk,e0]
 ·have hn:q.num≠0:=fun hc=>h0 (Yks.1 hc)
  by_cases hz:q.num<0
  ·have hs:sg3 q.num= -1:=by unfold sg3;rw[Yqi hz]
   have hc:=h3.2 hz
   rw[hs]
   simp(disch:=first|(simp;done)|omega|rfl) [-getElem?_pos,A.b155,Zbk,e,h0,hp,h1,hc]
  ·have hs:sg3 q.num=1:=by unfold sg3;rw[Yqe hz,Yqe hn]
   have hc:¬u8I c=45:=fun hc=>hz (h3.1 hc)
   rw[hs]
   simp(disch:=first|(simp;done)|omega|rfl) [-getElem?_pos,A.b155,Zbk,e,h0,hp,h1,hc]
def Yg3(q:Rat):QB (-q)=QB q:=by
 unfold QB
 rw[Rat.neg_den,Rat.neg_num,Ys3]
def Yim{q:Rat}{st:St}(hl:(Zaq q).length<1000000000):A.C.call (.func 156 [] []) [.str (Zaq q)] st=some (.str (Zaq (-q)),st):=by
 have hs:=fun st=>Zjf (q:=q) (st:=st)
 have hmx:IntKind.max .i64=9223372036854775807:=rfl
 apply Call.eq
 rw[Zab,A.k156 (by simp)]
 have hn2:=Zgj (-q)
 rw[Yg3,Rat.neg_num]at hn2
 by_cases hz:q.num<0
 ·have e1:Zaq q=45::QB q:=by rw[Zgj,Yqi hz]
  have e2:Zaq (-q)=QB q:=by rw[hn2,Yqe (by omega)]
  have e3:sg3 q.num= -1:=by unfold sg3;rw[Yqi hz]
  rw[e1,e3]at hs
  have a3:∀st:St,Zb4 st (some (.str (45::QB q))) (some (some (.int .i64 1))) (some none)=some (.str (QB q),st):=fun st=>by rw[Zcj (by omega) (by simp only[Yqd];omega)];rfl
  rw[e1,e2]
  simp[A.b156,hs,evOpt,a3]
 ·by_cases h0:q=0
  ·have e3:sg3 q.num=0:=by rw[Yks.2 h0];rfl
   rw[e3]at hs
   have e4: -q=q:=by rw[h0];rfl
   rw[e4]
   simp[A.b156,hs]
  ·have hn:q.num≠0:=fun hc=>h0 (Yks.1 hc)
   have e1:Zaq q=QB q:=by rw[Zgj,Yqe hz]
   have e2:Zaq (-q)=45::QB q:=by rw[hn2,Yqi (by omega)]
   have e3:sg3 q.num=1:=by unfold sg3;rw[Yqe hz,Yqe hn]
   rw[e3]at hs
   rw[e1]at hs hl
   have hb:¬(9223372036854775807:Int)<1+((QB q).length:Int):=by omega
   rw[e2,e1]
   simp[A.b156,hs,Zbk,hmx,hb]
def Yij{q:Rat}{st:St}(hl:(Zaq q).length<1000000000):A.C.call (.func 141 [] []) [.str (Zaq q)] st=some (.str (decI q.num),st):=by
 have hsl:=fun st=>Ze3 (s:=Zaq q) (st:=st) (by omega)
 have h2:slashAt (Zaq q)≤(Zaq q).length:=by
  rw[Zdu]
  unfold Zaq
  split
  ·exact Yqg _
  ·rw[Yqr];omega
 have a4:∀st:St,Zb4 st (some (.str (Zaq q))) (some none) (some (some (.int .i64 (slashAt (Zaq q):Nat))))=some (.str (decI q.num),st):=fun st=>by rw[Zke (by omega) (by omega),Int.toNat_natCast,Zi6]
 apply Call.eq
 rw[Zab,A.k141 (by simp)]
 simp[A.b141,hsl,evOpt,a4]
def Yjy{q:Rat}{st:St}(hl:(Zaq q).length<1000000000):A.C.call (.func 142 [] []) [.str (Zaq q)] st=some (.str (decN q.den),st):=by
 have hsl:=fun st=>Ze3 (s:=Zaq q) (st:=st) (by omega)
 have hlt:=Zi7 q
 have h2:slashAt (Zaq q)≤(Zaq q).length:=by
  rw[Zdu]
  unfold Zaq
  split
  ·exact Yqg _
  ·rw[Yqr];omega
 apply Call.eq
 rw[Zab,A.k142 (by simp)]
 by_cases hd:q.den=1
 ·have c1:(slashAt (Zaq q):Int)=((Zaq q).length:Int):=by omega
  rw[hd,Ygu]
  simp[A.b142,hsl,c1]
 ·have hl2:=hlt.2 hd
  have c1:¬(slashAt (Zaq q):Int)=((Zaq q).length:Int):=by omega
  have c2:¬slashAt (Zaq q)=(Zaq q).length:=by omega
  have w1:Zao .i64 ((slashAt (Zaq q):Int)+1)=(slashAt (Zaq q):Int)+1:=Zag (by omega) (by omega)
  have hdr:=Zi8 q hd
  have a4:∀st:St,Zb4 st (some (.str (Zaq q))) (some (some (.int .i64 ((slashAt (Zaq q):Int)+1)))) (some none)=some (.str (decN q.den),st):=fun st=>by
   rw[Zcj (by omega) (by omega)]
   have:((slashAt (Zaq q):Int)+1).toNat=slashAt (Zaq q)+1:=by omega
   rw[this,hdr]
  simp[A.b142,hsl,c1,w1,evOpt,a4]
def Yhg(z:Int):Zaq (z:Rat)=decI z:=by
 unfold Zaq
 rw[Yqi (by simp)];simp
def Ykf{z:Int}{st:St}(hl:(decI z).length<1000000000):A.C.call (.func 85 [] []) [.str (decI z)] st=some (.str (decN z.natAbs),st):=by
 have hs:=fun st=>Zjf (q:=(z:Rat)) (st:=st)
 rw[Yhg]at hs
 have hn:((z:Rat)).num=z:=by simp
 rw[hn]at hs
 apply Call.eq
 rw[Zab,A.k85 (by simp)]
 by_cases hz:z<0
 ·have e1:decI z=45::decN z.natAbs:=by unfold decI;rw[Yqi hz]
  have e3:sg3 z= -1:=by unfold sg3;rw[Yqi hz]
  rw[e1,e3]at hs
  have a3:∀st:St,Zb4 st (some (.str (45::decN z.natAbs))) (some (some (.int .i64 1))) (some none)=some (.str (decN z.natAbs),st):=fun st=>by rw[Zcj (by omega) (by simp only[Yqd];omega)];rfl
  rw[e1]
  simp[A.b85,hs,evOpt,a3]
 ·have e1:decI z=decN z.natAbs:=by unfold decI;rw[Yqe hz]
  have e3:¬sg3 z<0:=by unfold sg3;rw[Yqe hz];split<;>omega
  rw[e1]at hs
  rw[e1]
  simp[A.b85,hs,e3]
def Zmq{q:Rat}{st:St}(hl:(Zaq q).length<1000000000):A.C.call (.func 97 [] []) [.str (Zaq q)] st=some (.int .i64 (if Zrn q=true then 4 else 0),st):=by
 have h1:=fun st=>Yij (q:=q) (st:=st) hl
 have h2:=fun st=>Yjy (q:=q) (st:=st) hl
 have hdl:(decI q.num).length<1000000000:=by
  have:(decI q.num).length≤(Zaq q).length:=by
   unfold Zaq
   split
   ·exact Yqg _
   ·rw[Yqr];omega
  omega
 have h3:=fun st=>Ykf (z:=q.num) (st:=st) hdl
 apply Call.eq
 rw[Zab,A.k97 (by simp)]
 unfold Zrn
 by_cases c1:600<(decN q.num.natAbs).length
 ·have c1':(600:Int)<((decN q.num.natAbs).length:Int):=by omega
  simp[A.b97,h1,h3,c1,c1']
 ·have c1':¬(600:Int)<((decN q.num.natAbs).length:Int):=by omega
  by_cases c2:600<(decN q.den).length
  ·have c2':(600:Int)<((decN q.den).length:Int):=by omega
   simp[A.b97,h1,h2,h3,c1,c1',c2,c2']
  ·have c2':¬(600:Int)<((decN q.den).length:Int):=by omega
   simp[A.b97,h1,h2,h3,c1,c1',c2,c2']
variable {N:Nat} {a b:Int} {h:T O} {x y:V}
set_option maxHeartbeats 1000000
def A.w147:=A.q Tryz.f147
def A.ta147_0:=A.qt A.w147 [] [] [1,1]
def A.b147:=(fun y0=>A.qt A.w147 [] [([1,1],y0)] []) A.ta147_0
def A.k147:=@A.kk 147 67 [.cell 4 (some 2)] A.b147 (by kernel_rfl) rfl
def A.b186:=A.q Tryz.f186
def A.k186:=@A.kk 186 9 [.cell 4 (some 2)] A.b186 (by kernel_rfl) rfl
def A.w144:=A.q Tryz.f144
def A.ta144_0:=A.qt A.w144 [] [] [1,1]
def A.b144:=(fun y0=>A.qt A.w144 [] [([1,1],y0)] []) A.ta144_0
def A.k144:=@A.kk 144 66 [.cell 4 (some 2)] A.b144 (by kernel_rfl) rfl
def A.b127:=A.q Tryz.f127
def A.k127:=@A.kk 127 29 [.tmp 4] A.b127 (by kernel_rfl) rfl
structure Ykj (h:T O) (N q:Nat) (z:Int) (st:St):Prop where
 w:Zac N st.w=[]
 keep:Keeps h N st.h st.n
 ex:∃n u,st.h.get q=some (.cells [.int .i64 n,u] 100 true)∧In st.h st.n (.agg [.int .i64 n,u]) z
def Zur(a b:Int):(a*b<0)↔((a<0)≠(b<0))∧a≠0∧b≠0:=by
 rcases Int.lt_trichotomy a 0 with ha|ha|ha<;>rcases Int.lt_trichotomy b 0 with hb|hb|hb
 ·have:=Int.mul_pos_of_neg_of_neg ha hb
  simp[ha,hb];omega
 ·subst hb;simp
 ·have:=Int.mul_neg_of_neg_of_pos ha hb
  have h1:¬b<0:=by omega
  simp[ha,h1,this];omega
 ·subst ha;simp
 ·subst ha;simp
 ·subst ha;simp
 ·have:=Int.mul_neg_of_pos_of_neg ha hb
  have h1:¬a<0:=by omega
  simp[hb,h1,this];omega
 ·subst hb;simp
 ·have:=Int.mul_pos ha hb
  have h1:¬a<0:=by omega
  have h2:¬b<0:=by omega
  simp[h1,h2];omega
def Zfq{n k:Nat}(h:n<B^k):(wds n).length≤k:=by
 apply Yr7
 intro hc
 obtain⟨j,hj⟩:∃j,(wds n).length=j+1:=⟨(wds n).length-1,by omega⟩
 have:=(Zds hj).1
 have:=Yq3 (show 0<B by decide) (show k≤j by omega)
 omega
def Zty(n:Nat):n<B^(wds n).length:=by
 have:=Zkq (Zdf n)
 rwa [Zbm]at this
def Zyl(a b:Int):wl (a+b)≤max (wl a) (wl b)+1:=by
 unfold wl
 apply Zfq
 have h1:=Zty a.natAbs
 have h2:=Zty b.natAbs
 have h3:=Yq3 (show 0<B by decide) (Ys6 (wds a.natAbs).length (wds b.natAbs).length)
 have h4:=Yq3 (show 0<B by decide) (Ysu (wds a.natAbs).length (wds b.natAbs).length)
 rw[Yqx]
 generalize B^max (wds a.natAbs).length (wds b.natAbs).length=p at*
 have:p*2≤p*B:=Yqs p (by decide)
 omega
def Zpw(a:Int):wl (-a)=wl a:=by unfold wl;rw[Ys3]
def Zi1(a b:Int):wl (a*b)≤wl a+wl b:=by
 unfold wl
 apply Zfq
 rw[Yse,Yre]
 have h1:=Zty a.natAbs
 have h2:=Zty b.natAbs
 exact Ysy h1 h2
def Zvv(h:a.natAbs≤b.natAbs):wl a≤wl b:=Zc8 h
def Yfw{H:T O}{n1 n2:Int}{u1 u2:V}{r0:T V}(hx:In H (N+3) (.agg [.int .i64 n1,u1]) a)(hy:In H (N+3) (.agg [.int .i64 n2,u2]) b)(la:wl a<500000000000)(lb:wl b<500000000000)(hK:Keeps h N H (N+3))
  (gx:H.get N=some (.cells [.int .i64 n1,u1] 100 true)) (gy:H.get (N+1)=some (.cells [.int .i64 n2,u2] 100 true)) (gz:H.get (N+2)=some (.cells [.int .i64 0,.nilslice] 100 true)) (r2:r0.get 2=some (.ptr N 0)) (r3:r0.get 3=some (.ptr (N+1) 0)) (r4:r0.get 4=some (.ptr (N+2) 0)):
  Code A.C none A.ta147_0 ⟨r0,67,[]⟩ ⟨H,N+3,[]⟩ (fun e fr st=>e=.ret∧∃r,fr=⟨r,67,[]⟩∧r.get 4=some (.ptr (N+2) 0)∧Ykj h N (N+2) (a+b) st):=by
 rw[Zai]
 simp[A.ta147_0,r2,gx,Zah,slc]
 refine Zaa (Zel hx) ?_
 rintro _ h1 N1 k1 ⟨ua,rfl,hua⟩
 have kle1:=k1.le
 have gy1:=(k1.get (N+1) (by omega)).trans gy
 have gz1:=(k1.get (N+2) (by omega)).trans gz
 simp[r3,gy1,Zah,slc]
 refine Zaa (Zel (hy.keep k1)) ?_
 rintro _ h2 N2 k2 ⟨ub,rfl,hub⟩
 have kle2:=k2.le
 have gz2:=(k2.get (N+2) (by omega)).trans gz1
 have hua2:=hua.keep k2
 have la':(wds a.natAbs).length<500000000000:=la
 have lb':(wds b.natAbs).length<500000000000:=lb
 have kA:=(hK.trans k1).trans k2
 have wl3:=Zyl a b
 have fin:∀(z:Int) (v:V) (h4:T O) (n4:Nat),Keeps h2 N2 h4 n4→In h4 n4 v z→z=a+b→∃(n5:Int) (u5:V),v=.agg [.int .i64 n5,u5]∧V.one u5=true∧h4.get (N+2)=some (.cells [.int .i64 0,.nilslice] 100 true)∧∀W,Zac N W=[]→Ykj h N (N+2) (a+b) ⟨h4.set (N+2) (.cells [.int .i64 n5,u5] 100 true),n4,W⟩:=by
  intro z v h4 n4 k4 hv hz
  obtain⟨n5,u5,rfl,ho5⟩:=hv.cells
  have gz4:=(k4.get (N+2) (by omega)).trans gz2
  subst hz
  exact⟨n5,u5,rfl,ho5,gz4,fun W hW=>⟨hW,(kA.trans k4).set (by omega),n5,u5,by simp,hv.setNU gz4 (by simp) rfl⟩⟩
 by_cases hs:(a<0)=(b<0)
 ·have hs':(decide (a<0)==decide (b<0))=true:=by simp[hs]
  simp[Zak,hs']
  refine Zaa (Ztv hua2 hub (by omega) (by omega)) ?_
  rintro v h3 N3 k3 hv
  have hsum:a.natAbs+b.natAbs=(a+b).natAbs:=by
   by_cases h:a<0
   ·have:b<0:=by rw[hs]at h;exact h
    omega
   ·have:¬b<0:=by rw[hs]at h;exact h
    omega
  rw[hsum]at hv
  simp[]
  refine Zaa (Zg1 hv (by unfold wl at wl3 la lb;omega)) ?_
  rintro v h4 N4 k4 hv
  obtain⟨n5,u5,rfl,ho5,gz4,hf⟩:=fin _ _ _ _ (k3.trans k4) hv (by
   by_cases h:a<0
   ·have:b<0:=by rw[hs]at h;exact h
    simp[h];omega
   ·have:¬b<0:=by rw[hs]at h;exact h
    simp[h];omega)
  unfold V.one at ho5
  simp[gz4,ho5,splice,Zal,r4]
  exact hf _ (by simp[Zac])
 ·have hs':(decide (a<0)==decide (b<0))=false:=by
   by_cases h:a<0<;>by_cases h':b<0<;>simp_all
  simp[Zak,hs']
  refine Zaa (Zg9 hua2 hub (by omega) (by omega)) ?_
  rintro _ h3 N3 k3 rfl
  have hua3:=hua2.keep k3
  have hub3:=hub.keep k3
  by_cases hc:b.natAbs≤a.natAbs
  ·have c1:(0:Int)≤Ztm a.natAbs b.natAbs:=by unfold Ztm;split<;>(try split)<;>omega
   simp[c1]
   refine Zaa (Zl0 hua3 hub3 hc (by omega) (by omega)) ?_
   rintro v h5 N5 k5 hv
   simp[]
   refine Zaa (Zg1 hv (by have:=Zc8 (show a.natAbs-b.natAbs≤a.natAbs by omega);omega)) ?_
   rintro v h4 N4 k4 hv
   obtain⟨n5,u5,rfl,ho5,gz4,hf⟩:=fin _ _ _ _ ((k3.trans k5).trans k4) hv (by
    by_cases h:a<0
    ·have:¬b<0:=by intro h2;apply hs;simp[h,h2]
     simp[h];omega
    ·have:b<0:=by apply Decidable.byContradiction;intro h2;apply hs;simp[h,h2]
     simp[h];omega)
   unfold V.one at ho5
   simp[gz4,ho5,splice,Zal,r4]
   exact hf _ (by simp[Zac])
  ·have c1:¬(0:Int)≤Ztm a.natAbs b.natAbs:=by unfold Ztm;split<;>(try split)<;>omega
   simp[c1]
   refine Zaa (Zl0 hub3 hua3 (by omega) (by omega) (by omega)) ?_
   rintro v h5 N5 k5 hv
   simp[]
   refine Zaa (Zg1 hv (by have:=Zc8 (show b.natAbs-a.natAbs≤b.natAbs by omega);omega)) ?_
   rintro v h4 N4 k4 hv
   obtain⟨n5,u5,rfl,ho5,gz4,hf⟩:=fin _ _ _ _ ((k3.trans k5).trans k4) hv (by
    by_cases h:b<0
    ·have:¬a<0:=by intro h2;apply hs;simp[h,h2]
     simp[h];omega
    ·have:a<0:=by apply Decidable.byContradiction;intro h2;apply hs;simp[h,h2]
     simp[h];omega)
   unfold V.one at ho5
   simp[gz4,ho5,splice,Zal,r4]
   exact hf _ (by simp[Zac])
def Zrt(hx:In h N x a)(hy:In h N y b)(la:wl a<500000000000)(lb:wl b<500000000000):Fn A.C 147 [x,y] h N (fun v h' n'=>In h' n' v (a+b)):=by
 intro w
 rw[Zab,A.k147 (by simp)]
 obtain⟨n1,u1,rfl,o1⟩:=hx.cells
 obtain⟨n2,u2,rfl,o2⟩:=hy.cells
 have kk:=kset (kset (kset (Keeps.refl (h:=h) (n:=N)) (.cells [.int .i64 n1,u1] 100 true)) (.cells [.int .i64 n2,u2] 100 true)) (.cells [.int .i64 0,.nilslice] 100 true)
 unfold V.one at o1 o2
 have go:∀r:T V,r.get 2=some (.ptr N 0)→r.get 3=some (.ptr (N+1) 0)→r.get 4=some (.ptr (N+2) 0)→Run A.C [.fin [.cell 4 (some 2)] ⟨h,N,w⟩] (exR (A.C.code none A.ta147_0 ⟨r,67,[]⟩ ⟨((h.set N (.cells [.int .i64 n1,u1] 100 true)).set (N+1) (.cells [.int .i64 n2,u2] 100 true)).set (N+1+1) (.cells [.int .i64 0,.nilslice] 100 true),N+1+1+1,[]⟩)) (Yc5 (Ret (fun v h' n'=>In h' n' v (a+b)) h N w)):=by
  intro r r2 r3 r4
  refine Zbo (Yfw (hx.keep kk) (hy.keep kk) la lb kk (by simp) (by simp) (by simp) r2 r3 r4) ?_
  rintro e fr ⟨h5,n5,w5⟩ ⟨rfl,r',rfl,r4',hW,hK,n6,u6,g6,hi⟩
  simp only at hW hK g6 hi
  simp[r4',g6,Zah,slc,Ret,hW]
  exact⟨hK,hi⟩
 rcases id hx with⟨e1,s1,s2⟩|⟨i,o,l,c,e1,_⟩
 ·simp only[V.agg.injEq,Yqu,V.int.injEq,true_and,and_true]at e1
  obtain⟨rfl,rfl⟩:=e1
  rcases id hy with⟨e2,t1,t2⟩|⟨i,o,l,c,e2,_⟩
  ·simp only[V.agg.injEq,Yqu,V.int.injEq,true_and,and_true]at e2
   obtain⟨rfl,rfl⟩:=e2
   by_cases hin: -9223372036854775808≤n1+n2∧n1+n2<9223372036854775808
   ·have w1:Zao .i64 (n1+n2)=n1+n2:=Zag (by omega) (by omega)
    by_cases hp:0<n2
    ·have c1:n1<n1+n2:=by omega
     simp[A.b147,Zah,slc,splice,Zak,w1,hp,c1,Ret]
     exact⟨kk.set (by omega),In.small (by omega) (by omega)⟩
    ·have c1:¬n1<n1+n2:=by omega
     simp[A.b147,Zah,slc,splice,Zak,w1,hp,c1,Ret]
     exact⟨kk.set (by omega),In.small (by omega) (by omega)⟩
   ·obtain⟨y,hy1⟩:∃y,Zao .i64 (n1+n2)=y:=⟨_,rfl⟩
    have hy2:y=n1+n2-18446744073709551616∧0<n2∨y=n1+n2+18446744073709551616∧¬0<n2:=by
     rw[←hy1,Zde]
     simp only[IntKind.wrap,IntKind.bits,IntKind.signed]
     simp
     omega
    by_cases hp:0<n2
    ·have c1:¬n1<y:=by omega
     simp[A.b147,Zah,Zak,hy1,hp,c1]
     exact go _ (by simp) (by simp) (by simp)
    ·have c1:n1<y:=by omega
     simp[A.b147,Zah,Zak,hy1,hp,c1]
     exact go _ (by simp) (by simp) (by simp)
  ·simp only[V.agg.injEq,Yqu,V.int.injEq,true_and,and_true]at e2
   obtain⟨rfl,rfl⟩:=e2
   simp[A.b147,Zah,Zak]
   exact go _ (by simp) (by simp) (by simp)
 ·simp only[V.agg.injEq,Yqu,V.int.injEq,true_and,and_true]at e1
  obtain⟨rfl,rfl⟩:=e1
  simp[A.b147,Zah,Zak,o2]
  exact go _ (by simp) (by simp) (by simp)
def Yf4(hx:In h N x a)(hy:In h N y b)(la:wl a<500000000000)(lb:wl b<500000000000):Fn A.C 186 [x,y] h N (fun v h' n'=>In h' n' v (a-b)):=by
 intro w
 rw[Zab,A.k186 (by simp)]
 obtain⟨n1,u1,rfl,o1⟩:=hx.cells
 obtain⟨n2,u2,rfl,o2⟩:=hy.cells
 have kk:=kset (kset (kset (Keeps.refl (h:=h) (n:=N)) (.cells [.int .i64 n1,u1] 100 true)) (.cells [.int .i64 n2,u2] 100 true)) (.cells [.int .i64 0,.nilslice] 100 true)
 have hng:=Zn8 (hy.keep kk) lb
 have hx':=hx.keep kk
 unfold V.one at o1 o2
 simp[A.b186,Zah,slc,o1,o2]
 refine Zaa hng ?_
 rintro v h1 n1' k1 hv
 simp[]
 refine Zaa (Zrt (hx'.keep k1) hv la (by rw[Zpw];exact lb)) ?_
 rintro v2 h2 n2' k2 hv2
 obtain⟨n5,u5,rfl,ho5⟩:=hv2.cells
 unfold V.one at ho5
 have k12:=k1.trans k2
 have kle:=k12.le
 have g2:=k12.get (N+1+1) (by omega)
 simp at g2
 have hlt:N+1+1<n2':=by omega
 have hlt2:N+1+1<n1':=by have:=k1.le;omega
 simp[g2,ho5,splice,Zal,hlt,hlt2,Zam.chk,Ret]
 have he:a+ -b=a-b:=by omega
 rw[he]at hv2
 exact⟨(kk.trans k12).set (by omega),hv2.setNU g2 (by simp) rfl⟩
def Yed{H:T O}{n1 n2:Int}{u1 u2:V}{r0:T V}(hx:In H (N+3) (.agg [.int .i64 n1,u1]) a)(hy:In H (N+3) (.agg [.int .i64 n2,u2]) b)(la:wl a<500000000000)(lb:wl b<500000000000)(hK:Keeps h N H (N+3))
  (gx:H.get N=some (.cells [.int .i64 n1,u1] 100 true)) (gy:H.get (N+1)=some (.cells [.int .i64 n2,u2] 100 true)) (gz:H.get (N+2)=some (.cells [.int .i64 0,.nilslice] 100 true)) (r2:r0.get 2=some (.ptr N 0)) (r3:r0.get 3=some (.ptr (N+1) 0)) (r4:r0.get 4=some (.ptr (N+2) 0)):
  Code A.C none A.ta144_0 ⟨r0,66,[]⟩ ⟨H,N+3,[]⟩ (fun e fr st=>e=.ret∧∃r,fr=⟨r,66,[]⟩∧r.get 4=some (.ptr (N+2) 0)∧Ykj h N (N+2) (a*b) st):=by
 rw[Zai]
 simp[A.ta144_0,r2,gx,Zah,slc]
 refine Zaa (Zel hx) ?_
 rintro _ h1 N1 k1 ⟨ua,rfl,hua⟩
 have kle1:=k1.le
 have gy1:=(k1.get (N+1) (by omega)).trans gy
 have gz1:=(k1.get (N+2) (by omega)).trans gz
 simp[r3,gy1,Zah,slc]
 refine Zaa (Zel (hy.keep k1)) ?_
 rintro _ h2 N2 k2 ⟨ub,rfl,hub⟩
 have kle2:=k2.le
 have gz2:=(k2.get (N+2) (by omega)).trans gz1
 have hua2:=hua.keep k2
 have la':(wds a.natAbs).length<500000000000:=la
 have lb':(wds b.natAbs).length<500000000000:=lb
 have kA:=(hK.trans k1).trans k2
 have wl3:=Zi1 a b
 simp[Zak]
 refine Zaa (Zsv hua2 hub (by omega) (by omega)) ?_
 rintro v h3 N3 k3 hv
 have hmul:a.natAbs*b.natAbs=(a*b).natAbs:=(Yse a b).symm
 rw[hmul]at hv
 simp[]
 refine Zaa (Zg1 hv (by unfold wl at wl3 la lb;omega)) ?_
 rintro v h4 N4 k4 hv
 obtain⟨n5,u5,rfl,ho5⟩:=hv.cells
 have gz4:=((k3.trans k4).get (N+2) (by omega)).trans gz2
 have kle4:=(k3.trans k4).le
 unfold V.one at ho5
 have hs:=Zur a b
 have he:(if (!decide (a<0)==decide (b<0))=true then -((a*b).natAbs:Int) else (a*b).natAbs)=a*b:=by
  have h0:a=0∨b=0→a*b=0:=by rintro(rfl|rfl)<;>simp
  by_cases h1:a<0<;>by_cases h2:b<0<;>simp[h1,h2]at hs ⊢<;>omega
 rw[he]at hv
 simp[gz4,ho5,splice,Zal,r4]
 exact⟨by simp[Zac],((kA.trans k3).trans k4).set (by omega),n5,u5,by simp,hv.setNU gz4 (by simp) rfl⟩
def Zgz(hx:In h N x a)(hy:In h N y b)(la:wl a<500000000000)(lb:wl b<500000000000):Fn A.C 144 [x,y] h N (fun v h' n'=>In h' n' v (a*b)):=by
 intro w
 rw[Zab,A.k144 (by simp)]
 obtain⟨n1,u1,rfl,o1⟩:=hx.cells
 obtain⟨n2,u2,rfl,o2⟩:=hy.cells
 have kk:=kset (kset (kset (Keeps.refl (h:=h) (n:=N)) (.cells [.int .i64 n1,u1] 100 true)) (.cells [.int .i64 n2,u2] 100 true)) (.cells [.int .i64 0,.nilslice] 100 true)
 unfold V.one at o1 o2
 have go:∀r:T V,r.get 2=some (.ptr N 0)→r.get 3=some (.ptr (N+1) 0)→r.get 4=some (.ptr (N+2) 0)→Run A.C [.fin [.cell 4 (some 2)] ⟨h,N,w⟩] (exR (A.C.code none A.ta144_0 ⟨r,66,[]⟩ ⟨((h.set N (.cells [.int .i64 n1,u1] 100 true)).set (N+1) (.cells [.int .i64 n2,u2] 100 true)).set (N+1+1) (.cells [.int .i64 0,.nilslice] 100 true),N+1+1+1,[]⟩)) (Yc5 (Ret (fun v h' n'=>In h' n' v (a*b)) h N w)):=by
  intro r r2 r3 r4
  refine Zbo (Yed (hx.keep kk) (hy.keep kk) la lb kk (by simp) (by simp) (by simp) r2 r3 r4) ?_
  rintro e fr ⟨h5,n5,w5⟩ ⟨rfl,r',rfl,r4',hW,hK,n6,u6,g6,hi⟩
  simp only at hW hK g6 hi
  simp[r4',g6,Zah,slc,Ret,hW]
  exact⟨hK,hi⟩
 rcases id hx with⟨e1,s1,s2⟩|⟨i,o,l,c,e1,_⟩
 ·simp only[V.agg.injEq,Yqu,V.int.injEq,true_and,and_true]at e1
  obtain⟨rfl,rfl⟩:=e1
  rcases id hy with⟨e2,t1,t2⟩|⟨i,o,l,c,e2,_⟩
  ·simp only[V.agg.injEq,Yqu,V.int.injEq,true_and,and_true]at e2
   obtain⟨rfl,rfl⟩:=e2
   have z1:=fun st=>Zr9 s1 s2 (st:=st)
   have z2:=fun st=>Zr9 t1 t2 (st:=st)
   have hm:n1.natAbs*n2.natAbs=(n1*n2).natAbs:=(Yse _ _).symm
   have hlo:lo64 (n1.natAbs*n2.natAbs)+18446744073709551616*hi64 (n1.natAbs*n2.natAbs)=(n1*n2).natAbs:=by
    rw[←hm]
    have:=Yrt (n1.natAbs*n2.natAbs) 18446744073709551616
    unfold lo64 hi64;omega
   have hsgn:=Zur n1 n2
   obtain⟨hi,hhi⟩:∃x,hi64 (n1.natAbs*n2.natAbs)=x:=⟨_,rfl⟩
   obtain⟨lo,hlo'⟩:∃x,lo64 (n1.natAbs*n2.natAbs)=x:=⟨_,rfl⟩
   rw[hhi,hlo']at hlo
   have hz:n1=0∨n2=0→n1*n2=0:=by rintro(rfl|rfl)<;>simp
   simp[A.b144,Zah,Zak,z1,z2]
   refine Zaa (Zjn (x:=n1.natAbs) (y:=n2.natAbs) (by omega) (by omega)) ?_
   rintro _ h' N' k ⟨rfl,rfl,rfl⟩
   rw[hhi,hlo']
   by_cases h0:hi=0
   ·by_cases h1:lo≤9223372036854775807
    ·have h1':(lo:Int)≤9223372036854775807:=by omega
     have w1:Zao .i64 (lo:Int)=lo:=Zag (by omega) (by omega)
     have w2:IntKind.wrap .i64 (-(lo:Int))= -(lo:Int):=Zi0 (by omega) (by omega)
     by_cases hs:(n1<0)=(n2<0)
     ·have hs':(decide (n1<0)==decide (n2<0))=true:=by simp[hs]
      have hp:¬n1*n2<0:=by rw[hsgn];rintro⟨p,_⟩;exact p hs
      have he:(lo:Int)=n1*n2:=by omega
      simp[Zah,slc,splice,Zak,h0,h1',hs',w1,Ret,Zam.chk]
      exact⟨kk.set (by omega),by rw[←he];exact In.small (by omega) (by omega)⟩
     ·have hs':(decide (n1<0)==decide (n2<0))=false:=by
       by_cases h:n1<0<;>by_cases h':n2<0<;>simp_all
      have he: -(lo:Int)=n1*n2:=by
       by_cases hq:n1=0∨n2=0
       ·have:=hz hq;omega
       ·have:n1*n2<0:=hsgn.2 ⟨hs,fun h=>hq (.inl h),fun h=>hq (.inr h)⟩
        omega
      simp[Zah,slc,splice,Zak,h0,h1',hs',w1,w2,Ret,Zam.chk]
      exact⟨kk.set (by omega),by rw[←he];exact In.small (by omega) (by omega)⟩
    ·have h1':¬(lo:Int)≤9223372036854775807:=by omega
     simp[h0,h1',Zam.chk]
     exact go _ (by simp) (by simp) (by simp)
   ·simp[h0,Zam.chk]
    exact go _ (by simp) (by simp) (by simp)
  ·simp only[V.agg.injEq,Yqu,V.int.injEq,true_and,and_true]at e2
   obtain⟨rfl,rfl⟩:=e2
   simp[A.b144,Zah,Zak]
   exact go _ (by simp) (by simp) (by simp)
 ·simp only[V.agg.injEq,Yqu,V.int.injEq,true_and,and_true]at e1
  obtain⟨rfl,rfl⟩:=e1
  simp[A.b144,Zah,Zak,o2]
  exact go _ (by simp) (by simp) (by simp)
def Ygx(hx:In h N x a)(hy:In h N y b)(la:wl a<100000000000)(lb:wl b<100000000000):Fn A.C 127 [x,y] h N (fun v _ _=>v=.int .i64 (sg3 (a-b))):=by
 intro w
 rw[Zab,A.k127 (by simp)]
 obtain⟨n1,u1,rfl,o1⟩:=hx.cells
 obtain⟨n2,u2,rfl,o2⟩:=hy.cells
 have kk:=kset (kset (Keeps.refl (h:=h) (n:=N)) (.cells [.int .i64 n1,u1] 100 true)) (.cells [.int .i64 n2,u2] 100 true)
 have hsb:=Yf4 (hx.keep kk) (hy.keep kk) (by omega) (by omega)
 have wl3:=Zyl a (-b)
 rw[Zpw]at wl3
 unfold V.one at o1 o2
 rcases id hx with⟨e1,s1,s2⟩|⟨i,o,l,c,e1,_⟩
 ·simp only[V.agg.injEq,Yqu,V.int.injEq,true_and,and_true]at e1
  obtain⟨rfl,rfl⟩:=e1
  rcases id hy with⟨e2,t1,t2⟩|⟨i,o,l,c,e2,_⟩
  ·simp only[V.agg.injEq,Yqu,V.int.injEq,true_and,and_true]at e2
   obtain⟨rfl,rfl⟩:=e2
   by_cases h1:n1<n2
   ·simp[A.b127,Zah,Ret,Zak,h1]
    exact⟨kk,by unfold sg3;rw[Yqi (by omega)]⟩
   ·by_cases h2:n2<n1
    ·simp[A.b127,Zah,Ret,Zak,h1,h2]
     exact⟨kk,by unfold sg3;rw[Yqe (by omega),Yqe (by omega)]⟩
    ·simp[A.b127,Zah,Ret,Zak,h1,h2]
     exact⟨kk,by unfold sg3;rw[Yqe (by omega),Yqi (by omega)]⟩
  ·simp only[V.agg.injEq,Yqu,V.int.injEq,true_and,and_true]at e2
   obtain⟨rfl,rfl⟩:=e2
   simp[A.b127,Zah,slc,Zak]
   refine Zaa hsb ?_
   rintro v h1 n1' k1 hv
   simp[]
   refine Zaa (Zib hv) ?_
   rintro _ h2 n2' k2 rfl
   simp[Ret]
   exact(kk.trans k1).trans k2
 ·simp only[V.agg.injEq,Yqu,V.int.injEq,true_and,and_true]at e1
  obtain⟨rfl,rfl⟩:=e1
  simp[A.b127,Zah,slc,Zak,o2]
  refine Zaa hsb ?_
  rintro v h1 n1' k1 hv
  simp[]
  refine Zaa (Zib hv) ?_
  rintro _ h2 n2' k2 rfl
  simp[Ret]
  exact(kk.trans k1).trans k2
def Yg2(hx:In h N x a)(la:wl a<500000000000):Fn A.C 228 [x] h N (fun v h' n'=>In h' n' v (a.natAbs:Int)):=by
 intro w
 rw[Zab,A.k228 (by simp)]
 obtain⟨n1,u1,rfl,o1⟩:=hx.cells
 have kk:=kset (kset (Keeps.refl (h:=h) (n:=N)) (.cells [.int .i64 n1,u1] 100 true)) (.cells [.int .i64 0,.nilslice] 100 true)
 have hng:=Zn8 (hx.keep kk) la
 have hsn:(n1<0)=(a<0):=by
  rcases hx with⟨e1,s1,s2⟩|⟨i,o,l,c,e1,_⟩
  ·simp only[V.agg.injEq,Yqu,V.int.injEq,true_and,and_true]at e1
   rw[e1.1]
  ·simp only[V.agg.injEq,Yqu,V.int.injEq,true_and,and_true]at e1
   rw[e1.1];unfold sgn;split<;>simp_all
 unfold V.one at o1
 by_cases h0:a<0
 ·have h1:n1<0:=by rw[hsn];exact h0
  simp[A.b228,Zah,slc,o1,h1]
  refine Zaa hng ?_
  rintro v h2 n2 k2 hv
  obtain⟨n5,u5,rfl,ho5⟩:=hv.cells
  unfold V.one at ho5
  have g2:=k2.get (N+1) (by omega)
  simp at g2
  have he:(-a)=(a.natAbs:Int):=by omega
  rw[he]at hv
  simp[g2,ho5,splice,Zal,Zah,slc,Ret]
  exact⟨(kk.trans k2).set (by omega),hv.setNU g2 (by simp) rfl⟩
 ·have h1:¬n1<0:=by rw[hsn];exact h0
  have he:a=(a.natAbs:Int):=by omega
  rw[he]at hx
  simp[A.b228,Zah,slc,splice,Zal,o1,h1,Ret]
  exact⟨kk.set (by omega),(hx.keep kk).setNU (i:=N+1) (c0:=[.int .i64 0,.nilslice]) (e0:=100) (w0:=true) (by simp) (by simp) rfl⟩
end
end Go.Mx
