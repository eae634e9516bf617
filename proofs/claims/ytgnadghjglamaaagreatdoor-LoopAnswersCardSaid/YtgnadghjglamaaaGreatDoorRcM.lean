/-lensletref01-/
import Derived.Test.YtgnadghjglamaaaGreatDoorNaD
set_option linter.all false
namespace Go.Mx
noncomputable section
open Go Go.Proofs
set_option maxRecDepth 1000000
def A.b50:=A.q Tryz.f50
def A.k50:=@A.kk 50 13 [.tmp 2] A.b50 (by kernel_rfl) rfl
def A.b17:=A.q Tryz.f17
def A.k17:=@A.kk 17 14 [.tmp 2] A.b17 (by kernel_rfl) rfl
def A.b85:=A.q Tryz.f85
def A.k85:=@A.kk 85 7 [.tmp 2] A.b85 (by kernel_rfl) rfl
def A.b86:=A.q Tryz.f86
def A.k86:=@A.kk 86 14 [.tmp 2] A.b86 (by kernel_rfl) rfl
def A.b47:=A.q Tryz.f47
def A.k47:=@A.kk 47 9 [.tmp 2] A.b47 (by kernel_rfl) rfl
def Zwu:Zas 0=[48]:=by decide+kernel
def Yio{q:Rat}:Zas q=[48]↔q=0:=⟨fun h=>Yef (h.trans Zwu.symm),fun h=>by rw[h,Zwu]⟩
def Yn1{q:Rat}:q.num=0↔q=0:=Rat.num_eq_zero
def Yin(q:Rat):0<(Zas q).length:=by
 obtain⟨c,t,h,_⟩:=Zut q
 rw[Zia,h]
 split<;>simp
def Yee(q:Rat):∃c,(Zas q)[0]?=some c∧(Zas q).head?=some c∧(u8I c=45↔q.num<0):=by
 obtain⟨c,t,h,h1⟩:=Zut q
 by_cases hz:q.num<0
 ·refine⟨45,?_,?_,?_⟩
  ·rw[Zia,Yrw hz];rfl
  ·rw[Zia,Yrw hz];rfl
  ·exact⟨fun _=>hz,fun _=>rfl⟩
 ·refine⟨c,?_,?_,?_⟩
  ·rw[Zia,Yrt hz,h];rfl
  ·rw[Zia,Yrt hz,h];rfl
  ·exact⟨fun h2=>by unfold u8I at h2;omega,fun h2=>absurd h2 hz⟩
def Zlr{q:Rat}{st:St}:A.C.call (.func 50 [] []) [.str (Zas q)] st=some (.int .i64 (sg3 q.num),st):=by
 have e:(Zas q==[48])=decide (q=0):=by rw[Bool.eq_iff_iff,beq_iff_eq,decide_eq_true_eq];exact Yio
 obtain⟨c,h1,h2,h3⟩:=Yee q
 have hp:=Yin q
 have hp':(0:Int)<((Zas q).length:Int):=by omega
 have hne:Zas q≠[]:=fun hc=>by rw[hc]at hp;simp at hp
 apply Call.eq
 rw[Zaf,A.k50 (by simp)]
 by_cases h0:q=0
 ·have hn:q.num=0:=Yn1.2 h0
  have hs:sg3 q.num=0:=by rw[hn];rfl
  have e0:(Zas q==[48])=true:=by rw[e];simp[h0]
  rw[hs]
  simp(disch:=first|(simp;done)|omega|rfl) [-getElem?_pos,A.b50,Zag,Zbo,e0]
 ·have hn:q.num≠0:=fun hc=>h0 (Yn1.1 hc)
  by_cases hz:q.num<0
  ·have hs:sg3 q.num= -1:=by unfold sg3;rw[Yrw hz]
   have hc:=h3.2 hz
   rw[hs]
   simp(disch:=first|(simp;done)|omega|rfl) [-getElem?_pos,A.b50,Zag,Zbo,e,h0,hp,hp',hne,h1,h2,hc]
  ·have hs:sg3 q.num=1:=by unfold sg3;rw[Yrt hz,Yrt hn]
   have hc:¬u8I c=45:=fun hc=>hz (h3.1 hc)
   rw[hs]
   simp(disch:=first|(simp;done)|omega|rfl) [-getElem?_pos,A.b50,Zag,Zbo,e,h0,hp,hp',hne,h1,h2,hc]
def Ynp(q:Rat):QB (-q)=QB q:=by
 unfold QB
 rw[Rat.neg_den,Rat.neg_num,Yuo]
def Ya9{q:Rat}{st:St}(hl:(Zas q).length<1000000000):A.C.call (.func 17 [] []) [.str (Zas q)] st=some (.str (Zas (-q)),st):=by
 have hs:=fun st=>Zlr (q:=q) (st:=st)
 have hmx:IntKind.max .i64=9223372036854775807:=rfl
 apply Call.eq
 rw[Zaf,A.k17 (by simp)]
 have hn2:=Zia (-q)
 rw[Ynp,Rat.neg_num]at hn2
 by_cases hz:q.num<0
 ·have e1:Zas q=45::QB q:=by rw[Zia,Yrw hz]
  have e2:Zas (-q)=QB q:=by rw[hn2,Yrt (by omega)]
  have e3:sg3 q.num= -1:=by unfold sg3;rw[Yrw hz]
  rw[e1,e3]at hs
  have a3:∀st:St,Zcg st (some (.str (45::QB q))) (some (some (.int .i64 1))) (some none)=some (.str (QB q),st):=fun st=>by rw[Zdb (by omega) (by simp only[Yrr];omega)];rfl
  rw[e1,e2]
  simp(disch:=first|(simp;done)|omega|rfl) [-getElem?_pos,A.b17,hs,evOpt,a3]
 ·by_cases h0:q=0
  ·have e3:sg3 q.num=0:=by rw[Yn1.2 h0];rfl
   rw[e3]at hs
   have e4: -q=q:=by rw[h0];rfl
   rw[e4]
   simp(disch:=first|(simp;done)|omega|rfl) [-getElem?_pos,A.b17,hs,Zag]
  ·have hn:q.num≠0:=fun hc=>h0 (Yn1.1 hc)
   have e1:Zas q=QB q:=by rw[Zia,Yrt hz]
   have e2:Zas (-q)=45::QB q:=by rw[hn2,Yrw (by omega)]
   have e3:sg3 q.num=1:=by unfold sg3;rw[Yrt hz,Yrt hn]
   rw[e3]at hs
   rw[e1]at hs hl
   have hb:¬(9223372036854775807:Int)<1+((QB q).length:Int):=by omega
   rw[e2,e1]
   simp(disch:=first|(simp;done)|omega|rfl) [-getElem?_pos,A.b17,hs,Zag,Zbo,hmx,hb]
def Yjo{q:Rat}{st:St}(hl:(Zas q).length<1000000000):A.C.call (.func 85 [] []) [.str (Zas q)] st=some (.str (decI q.num),st):=by
 have hsl:=fun st=>Ze8 (s:=Zas q) (st:=st) (by omega)
 have h2:slashAt (Zas q)≤(Zas q).length:=by
  rw[Zdx]
  unfold Zas
  split
  ·exact Yru _
  ·rw[Yr8];omega
 have a4:∀st:St,Zcg st (some (.str (Zas q))) (some none) (some (some (.int .i64 (slashAt (Zas q):Nat))))=some (.str (decI q.num),st):=fun st=>by rw[Zks (by omega) (by omega),Int.toNat_natCast,Zjd]
 apply Call.eq
 rw[Zaf,A.k85 (by simp)]
 simp(disch:=first|(simp;done)|omega|rfl) [-getElem?_pos,A.b85,hsl,evOpt,a4]
def Yk3{q:Rat}{st:St}(hl:(Zas q).length<1000000000):A.C.call (.func 86 [] []) [.str (Zas q)] st=some (.str (decN q.den),st):=by
 have hsl:=fun st=>Ze8 (s:=Zas q) (st:=st) (by omega)
 have hlt:=Zje q
 have h2:slashAt (Zas q)≤(Zas q).length:=by
  rw[Zdx]
  unfold Zas
  split
  ·exact Yru _
  ·rw[Yr8];omega
 apply Call.eq
 rw[Zaf,A.k86 (by simp)]
 by_cases hd:q.den=1
 ·have c1:(slashAt (Zas q):Int)=((Zas q).length:Int):=by omega
  rw[hd,Zwb]
  simp(disch:=first|(simp;done)|omega|rfl) [-getElem?_pos,A.b86,hsl,Zag,c1]
 ·have hl2:=hlt.2 hd
  have c1:¬(slashAt (Zas q):Int)=((Zas q).length:Int):=by omega
  have c2:¬slashAt (Zas q)=(Zas q).length:=by omega
  have w1:Zap .i64 ((slashAt (Zas q):Int)+1)=(slashAt (Zas q):Int)+1:=Zah (by omega) (by omega)
  have hdr:=Zjf q hd
  have a4:∀st:St,Zcg st (some (.str (Zas q))) (some (some (.int .i64 ((slashAt (Zas q):Int)+1)))) (some none)=some (.str (decN q.den),st):=fun st=>by
   rw[Zdb (by omega) (by omega)]
   have:((slashAt (Zas q):Int)+1).toNat=slashAt (Zas q)+1:=by omega
   rw[this,hdr]
  simp(disch:=first|(simp;done)|omega|rfl) [-getElem?_pos,A.b86,hsl,Zag,c1,c2,w1,evOpt,a4]
def Yip(z:Int):Zas (z:Rat)=decI z:=by
 unfold Zas
 rw[Yrw (by simp)];simp
def Ylk{z:Int}{st:St}(hl:(decI z).length<1000000000):A.C.call (.func 47 [] []) [.str (decI z)] st=some (.str (decN z.natAbs),st):=by
 have hs:=fun st=>Zlr (q:=(z:Rat)) (st:=st)
 rw[Yip]at hs
 have hn:((z:Rat)).num=z:=by simp
 rw[hn]at hs
 apply Call.eq
 rw[Zaf,A.k47 (by simp)]
 by_cases hz:z<0
 ·have e1:decI z=45::decN z.natAbs:=by unfold decI;rw[Yrw hz]
  have e3:sg3 z= -1:=by unfold sg3;rw[Yrw hz]
  rw[e1,e3]at hs
  have a3:∀st:St,Zcg st (some (.str (45::decN z.natAbs))) (some (some (.int .i64 1))) (some none)=some (.str (decN z.natAbs),st):=fun st=>by rw[Zdb (by omega) (by simp only[Yrr];omega)];rfl
  rw[e1]
  simp(disch:=first|(simp;done)|omega|rfl) [-getElem?_pos,A.b47,hs,evOpt,a3]
 ·have e1:decI z=decN z.natAbs:=by unfold decI;rw[Yrt hz]
  have e3:¬sg3 z<0:=by unfold sg3;rw[Yrt hz];split<;>omega
  rw[e1]at hs
  rw[e1]
  simp(disch:=first|(simp;done)|omega|rfl) [-getElem?_pos,A.b47,hs,e3]
variable {N:Nat} {a b:Int} {h:T O} {x y:V}
set_option maxHeartbeats 1000000
def A.w183:=A.q Tryz.f183
def A.ta183_0:=A.qt A.w183 [] [] [1,1]
def A.b183:=(fun y0=>A.qt A.w183 [] [([1,1],y0)] []) A.ta183_0
def A.k183:=@A.kk 183 67 [.cell 4 (some 2)] A.b183 (by kernel_rfl) rfl
def A.b191:=A.q Tryz.f191
def A.k191:=@A.kk 191 9 [.cell 4 (some 2)] A.b191 (by kernel_rfl) rfl
def A.w164:=A.q Tryz.f164
def A.ta164_0:=A.qt A.w164 [] [] [1,1]
def A.b164:=(fun y0=>A.qt A.w164 [] [([1,1],y0)] []) A.ta164_0
def A.k164:=@A.kk 164 66 [.cell 4 (some 2)] A.b164 (by kernel_rfl) rfl
def A.b135:=A.q Tryz.f135
def A.k135:=@A.kk 135 29 [.tmp 4] A.b135 (by kernel_rfl) rfl
structure Yln (h:T O) (N q:Nat) (z:Int) (st:St):Prop where
 w:Zae N st.w=[]
 keep:Keeps h N st.h st.n
 ex:∃n u,st.h.get q=some (.cells [.int .i64 n,u] 108 true)∧In st.h st.n (.agg [.int .i64 n,u]) z
def Zvn(a b:Int):(a*b<0)↔((a<0)≠(b<0))∧a≠0∧b≠0:=by
 rcases Int.lt_trichotomy a 0 with ha|ha|ha<;>rcases Int.lt_trichotomy b 0 with hb|hb|hb
 ·have:=Int.mul_pos_of_neg_of_neg ha hb
  simp[ha,hb];omega
 ·subst hb;simp
 ·have:=Int.mul_neg_of_neg_of_pos ha hb
  have h1:¬b<0:=by omega
  simp[ha,h1,this];omega
 ·subst ha;simp
 ·subst ha;simp
 ·subst ha;simp
 ·have:=Int.mul_neg_of_pos_of_neg ha hb
  have h1:¬a<0:=by omega
  simp[hb,h1,this];omega
 ·subst hb;simp
 ·have:=Int.mul_pos ha hb
  have h1:¬a<0:=by omega
  have h2:¬b<0:=by omega
  simp[h1,h2];omega
def Zfv{n k:Nat}(h:n<B^k):(wds n).length≤k:=by
 apply Ytr
 intro hc
 obtain⟨j,hj⟩:∃j,(wds n).length=j+1:=⟨(wds n).length-1,by omega⟩
 have:=(Zdv hj).1
 have:=Ysu (show 0<B by decide) (show k≤j by omega)
 omega
def Zuu(n:Nat):n<B^(wds n).length:=by
 have:=Zk4 (Zdh n)
 rwa [Zbq]at this
def Zzk(a b:Int):wl (a+b)≤max (wl a) (wl b)+1:=by
 unfold wl
 apply Zfv
 have h1:=Zuu a.natAbs
 have h2:=Zuu b.natAbs
 have h3:=Ysu (show 0<B by decide) (Yur (wds a.natAbs).length (wds b.natAbs).length)
 have h4:=Ysu (show 0<B by decide) (Yui (wds a.natAbs).length (wds b.natAbs).length)
 have h5:(a+b).natAbs≤a.natAbs+b.natAbs:=Int.natAbs_add_le a b
 rw[Ysg]
 generalize B^max (wds a.natAbs).length (wds b.natAbs).length=p at*
 have:p*2≤p*B:=Yr9 p (by decide)
 omega
def Zqf(a:Int):wl (-a)=wl a:=by unfold wl;rw[Yuo]
def Zi8(a b:Int):wl (a*b)≤wl a+wl b:=by
 unfold wl
 apply Zfv
 rw[Ytk,Ysr]
 have h1:=Zuu a.natAbs
 have h2:=Zuu b.natAbs
 exact Yul h1 h2
def Zsj(h:a.natAbs≤b.natAbs):wl a≤wl b:=Zc9 h
def Yg5{H:T O}{n1 n2:Int}{u1 u2:V}{r0:T V}(hx:In H (N+3) (.agg [.int .i64 n1,u1]) a)(hy:In H (N+3) (.agg [.int .i64 n2,u2]) b)(la:wl a<500000000000)(lb:wl b<500000000000)(hK:Keeps h N H (N+3))
  (gx:H.get N=some (.cells [.int .i64 n1,u1] 108 true)) (gy:H.get (N+1)=some (.cells [.int .i64 n2,u2] 108 true)) (gz:H.get (N+2)=some (.cells [.int .i64 0,.nilslice] 108 true)) (r2:r0.get 2=some (.ptr N 0)) (r3:r0.get 3=some (.ptr (N+1) 0)) (r4:r0.get 4=some (.ptr (N+2) 0)):
  Code A.C none A.ta183_0 ⟨r0,67,[]⟩ ⟨H,N+3,[]⟩ (fun e fr st=>e=.ret∧∃r,fr=⟨r,67,[]⟩∧r.get 4=some (.ptr (N+2) 0)∧Yln h N (N+2) (a+b) st):=by
 rw[Zai]
 simp(disch:=first|(simp;done)|omega|(simp only[Zab,Zaa,Yrr];omega)|rfl) [-getElem?_pos,A.ta183_0,r2,gx,Zaj,slc]
 refine Zac (Zeq hx) ?_
 rintro _ h1 N1 k1 ⟨ua,rfl,hua⟩
 have kle1:=k1.le
 have gy1:=(k1.get (N+1) (by omega)).trans gy
 have gz1:=(k1.get (N+2) (by omega)).trans gz
 simp(disch:=first|(simp;done)|omega|(simp only[Zab,Zaa,Yrr];omega)|rfl) [-getElem?_pos,r3,gy1,Zaj,slc]
 refine Zac (Zeq (hy.keep k1)) ?_
 rintro _ h2 N2 k2 ⟨ub,rfl,hub⟩
 have kle2:=k2.le
 have gz2:=(k2.get (N+2) (by omega)).trans gz1
 have hua2:=hua.keep k2
 have la':(wds a.natAbs).length<500000000000:=la
 have lb':(wds b.natAbs).length<500000000000:=lb
 have kA:=(hK.trans k1).trans k2
 have wl3:=Zzk a b
 have fin:∀(z:Int) (v:V) (h4:T O) (n4:Nat),Keeps h2 N2 h4 n4→In h4 n4 v z→z=a+b→∃(n5:Int) (u5:V),v=.agg [.int .i64 n5,u5]∧V.one u5=true∧h4.get (N+2)=some (.cells [.int .i64 0,.nilslice] 108 true)∧∀W,Zae N W=[]→Yln h N (N+2) (a+b) ⟨h4.set (N+2) (.cells [.int .i64 n5,u5] 108 true),n4,W⟩:=by
  intro z v h4 n4 k4 hv hz
  obtain⟨n5,u5,rfl,ho5⟩:=hv.cells
  have gz4:=(k4.get (N+2) (by omega)).trans gz2
  have kle4:=k4.le
  subst hz
  exact⟨n5,u5,rfl,ho5,gz4,fun W hW=>⟨hW,(kA.trans k4).set (by omega),n5,u5,by simp,hv.setNU gz4 (by simp) rfl⟩⟩
 by_cases hs:(a<0)=(b<0)
 ·have hs':(decide (a<0)==decide (b<0))=true:=by simp[hs]
  simp(disch:=first|(simp;done)|omega|(simp only[Zab,Zaa,Yrr];omega)|rfl) [-getElem?_pos,Zag,hs']
  refine Zac (Zur hua2 hub (by omega) (by omega)) ?_
  rintro v h3 N3 k3 hv
  have hsum:a.natAbs+b.natAbs=(a+b).natAbs:=by
   by_cases h:a<0
   ·have:b<0:=by rw[hs]at h;exact h
    omega
   ·have:¬b<0:=by rw[hs]at h;exact h
    omega
  rw[hsum]at hv
  simp(disch:=first|(simp;done)|omega|(simp only[Zab,Zaa,Yrr];omega)|rfl) [-getElem?_pos,]
  refine Zac (Zg6 hv (by unfold wl at wl3 la lb;omega)) ?_
  rintro v h4 N4 k4 hv
  obtain⟨n5,u5,rfl,ho5,gz4,hf⟩:=fin _ _ _ _ (k3.trans k4) hv (by
   by_cases h:a<0
   ·have:b<0:=by rw[hs]at h;exact h
    simp[h];omega
   ·have:¬b<0:=by rw[hs]at h;exact h
    simp[h];omega)
  unfold V.one at ho5
  simp(disch:=first|(simp;done)|omega|(simp only[Zab,Zaa,Yrr];omega)|rfl) [-getElem?_pos,gz4,ho5,splice,Zam,r4]
  exact hf _ (by simp[Zae])
 ·have hs':(decide (a<0)==decide (b<0))=false:=by
   by_cases h:a<0<;>by_cases h':b<0<;>simp_all
  simp(disch:=first|(simp;done)|omega|(simp only[Zab,Zaa,Yrr];omega)|rfl) [-getElem?_pos,Zag,hs']
  refine Zac (Zhi hua2 hub (by omega) (by omega)) ?_
  rintro _ h3 N3 k3 rfl
  have hua3:=hua2.keep k3
  have hub3:=hub.keep k3
  by_cases hc:b.natAbs≤a.natAbs
  ·have c1:(0:Int)≤Zuj a.natAbs b.natAbs:=by unfold Zuj;split<;>(try split)<;>omega
   simp(disch:=first|(simp;done)|omega|(simp only[Zab,Zaa,Yrr];omega)|rfl) [-getElem?_pos,c1]
   refine Zac (Zme hua3 hub3 hc (by omega) (by omega)) ?_
   rintro v h5 N5 k5 hv
   simp(disch:=first|(simp;done)|omega|(simp only[Zab,Zaa,Yrr];omega)|rfl) [-getElem?_pos,]
   refine Zac (Zg6 hv (by have:=Zc9 (show a.natAbs-b.natAbs≤a.natAbs by omega);omega)) ?_
   rintro v h4 N4 k4 hv
   obtain⟨n5,u5,rfl,ho5,gz4,hf⟩:=fin _ _ _ _ ((k3.trans k5).trans k4) hv (by
    by_cases h:a<0
    ·have:¬b<0:=by intro h2;apply hs;simp[h,h2]
     simp[h];omega
    ·have:b<0:=by apply Decidable.byContradiction;intro h2;apply hs;simp[h,h2]
     simp[h];omega)
   unfold V.one at ho5
   simp(disch:=first|(simp;done)|omega|(simp only[Zab,Zaa,Yrr];omega)|rfl) [-getElem?_pos,gz4,ho5,splice,Zam,r4]
   exact hf _ (by simp[Zae])
  ·have c1:¬(0:Int)≤Zuj a.natAbs b.natAbs:=by unfold Zuj;split<;>(try split)<;>omega
   simp(disch:=first|(simp;done)|omega|(simp only[Zab,Zaa,Yrr];omega)|rfl) [-getElem?_pos,c1]
   refine Zac (Zme hub3 hua3 (by omega) (by omega) (by omega)) ?_
   rintro v h5 N5 k5 hv
   simp(disch:=first|(simp;done)|omega|(simp only[Zab,Zaa,Yrr];omega)|rfl) [-getElem?_pos,]
   refine Zac (Zg6 hv (by have:=Zc9 (show b.natAbs-a.natAbs≤b.natAbs by omega);omega)) ?_
   rintro v h4 N4 k4 hv
   obtain⟨n5,u5,rfl,ho5,gz4,hf⟩:=fin _ _ _ _ ((k3.trans k5).trans k4) hv (by
    by_cases h:b<0
    ·have:¬a<0:=by intro h2;apply hs;simp[h,h2]
     simp[h];omega
    ·have:a<0:=by apply Decidable.byContradiction;intro h2;apply hs;simp[h,h2]
     simp[h];omega)
   unfold V.one at ho5
   simp(disch:=first|(simp;done)|omega|(simp only[Zab,Zaa,Yrr];omega)|rfl) [-getElem?_pos,gz4,ho5,splice,Zam,r4]
   exact hf _ (by simp[Zae])
def Zse(hx:In h N x a)(hy:In h N y b)(la:wl a<500000000000)(lb:wl b<500000000000):Fn A.C 183 [x,y] h N (fun v h' n'=>In h' n' v (a+b)):=by
 intro w
 rw[Zaf,A.k183 (by simp)]
 obtain⟨n1,u1,rfl,o1⟩:=hx.cells
 obtain⟨n2,u2,rfl,o2⟩:=hy.cells
 have kk:=kset (kset (kset (Keeps.refl (h:=h) (n:=N)) (.cells [.int .i64 n1,u1] 108 true)) (.cells [.int .i64 n2,u2] 108 true)) (.cells [.int .i64 0,.nilslice] 108 true)
 unfold V.one at o1 o2
 have go:∀r:T V,r.get 2=some (.ptr N 0)→r.get 3=some (.ptr (N+1) 0)→r.get 4=some (.ptr (N+2) 0)→Run A.C [.fin [.cell 4 (some 2)] ⟨h,N,w⟩] (exR (A.C.code none A.ta183_0 ⟨r,67,[]⟩ ⟨((h.set N (.cells [.int .i64 n1,u1] 108 true)).set (N+1) (.cells [.int .i64 n2,u2] 108 true)).set (N+1+1) (.cells [.int .i64 0,.nilslice] 108 true),N+1+1+1,[]⟩)) (Yed (Ret (fun v h' n'=>In h' n' v (a+b)) h N w)):=by
  intro r r2 r3 r4
  refine Za7 (Yg5 (hx.keep kk) (hy.keep kk) la lb kk (by simp) (by simp) (by simp) r2 r3 r4) ?_
  rintro e fr ⟨h5,n5,w5⟩ ⟨rfl,r',rfl,r4',hW,hK,n6,u6,g6,hi⟩
  simp only at hW hK g6 hi
  simp(disch:=first|(simp;done)|omega|(simp only[Zab,Zaa,Yrr];omega)|rfl) [-getElem?_pos,r4',g6,Zaj,slc,Ret,hW]
  exact⟨hK,hi⟩
 rcases id hx with⟨e1,s1,s2⟩|⟨i,o,l,c,e1,_⟩
 ·simp only[V.agg.injEq,Yse,V.int.injEq,true_and,and_true]at e1
  obtain⟨rfl,rfl⟩:=e1
  rcases id hy with⟨e2,t1,t2⟩|⟨i,o,l,c,e2,_⟩
  ·simp only[V.agg.injEq,Yse,V.int.injEq,true_and,and_true]at e2
   obtain⟨rfl,rfl⟩:=e2
   have kr:=fun (o1 o2:O)=>(kk.set (i:=N+1+1) (o:=o1) (by omega))
   by_cases hin: -9223372036854775808≤n1+n2∧n1+n2<9223372036854775808
   ·have w1:Zap .i64 (n1+n2)=n1+n2:=Zah (by omega) (by omega)
    by_cases hp:0<n2
    ·have c1:n1<n1+n2:=by omega
     simp(disch:=first|(simp;done)|omega|(simp only[Zab,Zaa,Yrr];omega)|rfl) [-getElem?_pos,A.b183,Zaj,slc,splice,Zag,w1,hp,c1,Ret]
     exact⟨kk.set (by omega),In.small (by omega) (by omega)⟩
    ·have c1:¬n1<n1+n2:=by omega
     simp(disch:=first|(simp;done)|omega|(simp only[Zab,Zaa,Yrr];omega)|rfl) [-getElem?_pos,A.b183,Zaj,slc,splice,Zag,w1,hp,c1,Ret]
     exact⟨kk.set (by omega),In.small (by omega) (by omega)⟩
   ·obtain⟨y,hy1⟩:∃y,Zap .i64 (n1+n2)=y:=⟨_,rfl⟩
    have hy2:y=n1+n2-18446744073709551616∧0<n2∨y=n1+n2+18446744073709551616∧¬0<n2:=by
     rw[←hy1,Zdg]
     simp only[IntKind.wrap,IntKind.bits,IntKind.signed]
     simp
     omega
    by_cases hp:0<n2
    ·have c1:¬n1<y:=by omega
     simp(disch:=first|(simp;done)|omega|(simp only[Zab,Zaa,Yrr];omega)|rfl) [-getElem?_pos,A.b183,Zaj,slc,splice,Zag,hy1,hp,c1]
     exact go _ (by simp) (by simp) (by simp)
    ·have c1:n1<y:=by omega
     simp(disch:=first|(simp;done)|omega|(simp only[Zab,Zaa,Yrr];omega)|rfl) [-getElem?_pos,A.b183,Zaj,slc,splice,Zag,hy1,hp,c1]
     exact go _ (by simp) (by simp) (by simp)
  ·simp only[V.agg.injEq,Yse,V.int.injEq,true_and,and_true]at e2
   obtain⟨rfl,rfl⟩:=e2
   simp(disch:=first|(simp;done)|omega|(simp only[Zab,Zaa,Yrr];omega)|rfl) [-getElem?_pos,A.b183,Zaj,slc,splice,Zag]
   exact go _ (by simp) (by simp) (by simp)
 ·simp only[V.agg.injEq,Yse,V.int.injEq,true_and,and_true]at e1
  obtain⟨rfl,rfl⟩:=e1
  simp(disch:=first|(simp;done)|omega|(simp only[Zab,Zaa,Yrr];omega)|rfl) [-getElem?_pos,A.b183,Zaj,slc,splice,Zag,o2]
  exact go _ (by simp) (by simp) (by simp)
def Yhf(hx:In h N x a)(hy:In h N y b)(la:wl a<500000000000)(lb:wl b<500000000000):Fn A.C 191 [x,y] h N (fun v h' n'=>In h' n' v (a-b)):=by
 intro w
 rw[Zaf,A.k191 (by simp)]
 obtain⟨n1,u1,rfl,o1⟩:=hx.cells
 obtain⟨n2,u2,rfl,o2⟩:=hy.cells
 have kk:=kset (kset (kset (Keeps.refl (h:=h) (n:=N)) (.cells [.int .i64 n1,u1] 108 true)) (.cells [.int .i64 n2,u2] 108 true)) (.cells [.int .i64 0,.nilslice] 108 true)
 have hng:=Zor (hy.keep kk) lb
 have hx':=hx.keep kk
 unfold V.one at o1 o2
 simp(disch:=first|(simp;done)|omega|(simp only[Zab,Zaa,Yrr];omega)|rfl) [-getElem?_pos,A.b191,Zaj,slc,splice,o1,o2]
 refine Zac hng ?_
 rintro v h1 n1' k1 hv
 simp(disch:=first|(simp;done)|omega|(simp only[Zab,Zaa,Yrr];omega)|rfl) [-getElem?_pos,]
 refine Zac (Zse (hx'.keep k1) hv la (by rw[Zqf];exact lb)) ?_
 rintro v2 h2 n2' k2 hv2
 obtain⟨n5,u5,rfl,ho5⟩:=hv2.cells
 unfold V.one at ho5
 have k12:=k1.trans k2
 have kle:=k12.le
 have g2:=k12.get (N+1+1) (by omega)
 simp at g2
 have hlt:N+1+1<n2':=by omega
 have hlt2:N+1+1<n1':=by have:=k1.le;omega
 simp(disch:=first|(simp;done)|omega|(simp only[Zab,Zaa,Yrr];omega)|rfl) [-getElem?_pos,g2,ho5,splice,Zam,hlt,hlt2,Zal.chk,Ret]
 have he:a+ -b=a-b:=by omega
 rw[he]at hv2
 exact⟨(kk.trans k12).set (by omega),hv2.setNU g2 (by simp) rfl⟩
def Yfl{H:T O}{n1 n2:Int}{u1 u2:V}{r0:T V}(hx:In H (N+3) (.agg [.int .i64 n1,u1]) a)(hy:In H (N+3) (.agg [.int .i64 n2,u2]) b)(la:wl a<500000000000)(lb:wl b<500000000000)(hK:Keeps h N H (N+3))
  (gx:H.get N=some (.cells [.int .i64 n1,u1] 108 true)) (gy:H.get (N+1)=some (.cells [.int .i64 n2,u2] 108 true)) (gz:H.get (N+2)=some (.cells [.int .i64 0,.nilslice] 108 true)) (r2:r0.get 2=some (.ptr N 0)) (r3:r0.get 3=some (.ptr (N+1) 0)) (r4:r0.get 4=some (.ptr (N+2) 0)):
  Code A.C none A.ta164_0 ⟨r0,66,[]⟩ ⟨H,N+3,[]⟩ (fun e fr st=>e=.ret∧∃r,fr=⟨r,66,[]⟩∧r.get 4=some (.ptr (N+2) 0)∧Yln h N (N+2) (a*b) st):=by
 rw[Zai]
 simp(disch:=first|(simp;done)|omega|(simp only[Zab,Zaa,Yrr];omega)|rfl) [-getElem?_pos,A.ta164_0,r2,gx,Zaj,slc]
 refine Zac (Zeq hx) ?_
 rintro _ h1 N1 k1 ⟨ua,rfl,hua⟩
 have kle1:=k1.le
 have gy1:=(k1.get (N+1) (by omega)).trans gy
 have gz1:=(k1.get (N+2) (by omega)).trans gz
 simp(disch:=first|(simp;done)|omega|(simp only[Zab,Zaa,Yrr];omega)|rfl) [-getElem?_pos,r3,gy1,Zaj,slc]
 refine Zac (Zeq (hy.keep k1)) ?_
 rintro _ h2 N2 k2 ⟨ub,rfl,hub⟩
 have kle2:=k2.le
 have gz2:=(k2.get (N+2) (by omega)).trans gz1
 have hua2:=hua.keep k2
 have la':(wds a.natAbs).length<500000000000:=la
 have lb':(wds b.natAbs).length<500000000000:=lb
 have kA:=(hK.trans k1).trans k2
 have wl3:=Zi8 a b
 simp(disch:=first|(simp;done)|omega|(simp only[Zab,Zaa,Yrr];omega)|rfl) [-getElem?_pos,Zag]
 refine Zac (Ztn hua2 hub (by omega) (by omega)) ?_
 rintro v h3 N3 k3 hv
 have hmul:a.natAbs*b.natAbs=(a*b).natAbs:=(Ytk a b).symm
 rw[hmul]at hv
 simp(disch:=first|(simp;done)|omega|(simp only[Zab,Zaa,Yrr];omega)|rfl) [-getElem?_pos,]
 refine Zac (Zg6 hv (by unfold wl at wl3 la lb;omega)) ?_
 rintro v h4 N4 k4 hv
 obtain⟨n5,u5,rfl,ho5⟩:=hv.cells
 have gz4:=((k3.trans k4).get (N+2) (by omega)).trans gz2
 have kle4:=(k3.trans k4).le
 unfold V.one at ho5
 have hs:=Zvn a b
 have he:(if (!decide (a<0)==decide (b<0))=true then -((a*b).natAbs:Int) else (a*b).natAbs)=a*b:=by
  have h0:a=0∨b=0→a*b=0:=by rintro(rfl|rfl)<;>simp
  by_cases h1:a<0<;>by_cases h2:b<0<;>simp[h1,h2]at hs ⊢<;>omega
 rw[he]at hv
 simp(disch:=first|(simp;done)|omega|(simp only[Zab,Zaa,Yrr];omega)|rfl) [-getElem?_pos,gz4,ho5,splice,Zam,r4]
 exact⟨by simp[Zae],((kA.trans k3).trans k4).set (by omega),n5,u5,by simp,hv.setNU gz4 (by simp) rfl⟩
def Zg4(hx:In h N x a)(hy:In h N y b)(la:wl a<500000000000)(lb:wl b<500000000000):Fn A.C 164 [x,y] h N (fun v h' n'=>In h' n' v (a*b)):=by
 intro w
 rw[Zaf,A.k164 (by simp)]
 obtain⟨n1,u1,rfl,o1⟩:=hx.cells
 obtain⟨n2,u2,rfl,o2⟩:=hy.cells
 have kk:=kset (kset (kset (Keeps.refl (h:=h) (n:=N)) (.cells [.int .i64 n1,u1] 108 true)) (.cells [.int .i64 n2,u2] 108 true)) (.cells [.int .i64 0,.nilslice] 108 true)
 unfold V.one at o1 o2
 have go:∀r:T V,r.get 2=some (.ptr N 0)→r.get 3=some (.ptr (N+1) 0)→r.get 4=some (.ptr (N+2) 0)→Run A.C [.fin [.cell 4 (some 2)] ⟨h,N,w⟩] (exR (A.C.code none A.ta164_0 ⟨r,66,[]⟩ ⟨((h.set N (.cells [.int .i64 n1,u1] 108 true)).set (N+1) (.cells [.int .i64 n2,u2] 108 true)).set (N+1+1) (.cells [.int .i64 0,.nilslice] 108 true),N+1+1+1,[]⟩)) (Yed (Ret (fun v h' n'=>In h' n' v (a*b)) h N w)):=by
  intro r r2 r3 r4
  refine Za7 (Yfl (hx.keep kk) (hy.keep kk) la lb kk (by simp) (by simp) (by simp) r2 r3 r4) ?_
  rintro e fr ⟨h5,n5,w5⟩ ⟨rfl,r',rfl,r4',hW,hK,n6,u6,g6,hi⟩
  simp only at hW hK g6 hi
  simp(disch:=first|(simp;done)|omega|(simp only[Zab,Zaa,Yrr];omega)|rfl) [-getElem?_pos,r4',g6,Zaj,slc,Ret,hW]
  exact⟨hK,hi⟩
 rcases id hx with⟨e1,s1,s2⟩|⟨i,o,l,c,e1,_⟩
 ·simp only[V.agg.injEq,Yse,V.int.injEq,true_and,and_true]at e1
  obtain⟨rfl,rfl⟩:=e1
  rcases id hy with⟨e2,t1,t2⟩|⟨i,o,l,c,e2,_⟩
  ·simp only[V.agg.injEq,Yse,V.int.injEq,true_and,and_true]at e2
   obtain⟨rfl,rfl⟩:=e2
   have z1:=fun st=>Zsx s1 s2 (st:=st)
   have z2:=fun st=>Zsx t1 t2 (st:=st)
   have hm:n1.natAbs*n2.natAbs=(n1*n2).natAbs:=(Ytk _ _).symm
   have hlo:lo64 (n1.natAbs*n2.natAbs)+18446744073709551616*hi64 (n1.natAbs*n2.natAbs)=(n1*n2).natAbs:=by
    rw[←hm]
    have:=Ytc (n1.natAbs*n2.natAbs) 18446744073709551616
    unfold lo64 hi64;omega
   have hsgn:=Zvn n1 n2
   obtain⟨hi,hhi⟩:∃x,hi64 (n1.natAbs*n2.natAbs)=x:=⟨_,rfl⟩
   obtain⟨lo,hlo'⟩:∃x,lo64 (n1.natAbs*n2.natAbs)=x:=⟨_,rfl⟩
   rw[hhi,hlo']at hlo
   have hz:n1=0∨n2=0→n1*n2=0:=by rintro(rfl|rfl)<;>simp
   simp(disch:=first|(simp;done)|omega|(simp only[Zab,Zaa,Yrr];omega)|rfl) [-getElem?_pos,A.b164,Zaj,slc,splice,Zag,z1,z2]
   refine Zac (Zjy (x:=n1.natAbs) (y:=n2.natAbs) (by omega) (by omega)) ?_
   rintro _ h' N' k ⟨rfl,rfl,rfl⟩
   rw[hhi,hlo']
   have d1:¬N=N+1:=by omega
   by_cases h0:hi=0
   ·by_cases h1:lo≤9223372036854775807
    ·have h1':(lo:Int)≤9223372036854775807:=by omega
     have w1:Zap .i64 (lo:Int)=lo:=Zah (by omega) (by omega)
     have w2:IntKind.wrap .i64 (-(lo:Int))= -(lo:Int):=Zi7 (by omega) (by omega)
     by_cases hs:(n1<0)=(n2<0)
     ·have hs':(decide (n1<0)==decide (n2<0))=true:=by simp[hs]
      have hp:¬n1*n2<0:=by rw[hsgn];rintro⟨p,_⟩;exact p hs
      have he:(lo:Int)=n1*n2:=by omega
      simp(disch:=first|(simp;done)|omega|(simp only[Zab,Zaa,Yrr];omega)|rfl) [-getElem?_pos,Zaj,slc,splice,Zag,h0,h1',hs',w1,Ret,Zal.chk]
      exact⟨kk.set (by omega),by rw[←he];exact In.small (by omega) (by omega)⟩
     ·have hs':(decide (n1<0)==decide (n2<0))=false:=by
       by_cases h:n1<0<;>by_cases h':n2<0<;>simp_all
      have he: -(lo:Int)=n1*n2:=by
       by_cases hq:n1=0∨n2=0
       ·have:=hz hq;omega
       ·have:n1*n2<0:=hsgn.2 ⟨hs,fun h=>hq (.inl h),fun h=>hq (.inr h)⟩
        omega
      simp(disch:=first|(simp;done)|omega|(simp only[Zab,Zaa,Yrr];omega)|rfl) [-getElem?_pos,Zaj,slc,splice,Zag,h0,h1',hs',w1,w2,Ret,Zal.chk]
      exact⟨kk.set (by omega),by rw[←he];exact In.small (by omega) (by omega)⟩
    ·have h1':¬(lo:Int)≤9223372036854775807:=by omega
     simp(disch:=first|(simp;done)|omega|(simp only[Zab,Zaa,Yrr];omega)|rfl) [-getElem?_pos,Zaj,slc,splice,Zag,h0,h1',Zal.chk]
     exact go _ (by simp) (by simp) (by simp)
   ·simp(disch:=first|(simp;done)|omega|(simp only[Zab,Zaa,Yrr];omega)|rfl) [-getElem?_pos,Zaj,slc,splice,Zag,h0,Zal.chk]
    exact go _ (by simp) (by simp) (by simp)
  ·simp only[V.agg.injEq,Yse,V.int.injEq,true_and,and_true]at e2
   obtain⟨rfl,rfl⟩:=e2
   simp(disch:=first|(simp;done)|omega|(simp only[Zab,Zaa,Yrr];omega)|rfl) [-getElem?_pos,A.b164,Zaj,slc,splice,Zag]
   exact go _ (by simp) (by simp) (by simp)
 ·simp only[V.agg.injEq,Yse,V.int.injEq,true_and,and_true]at e1
  obtain⟨rfl,rfl⟩:=e1
  simp(disch:=first|(simp;done)|omega|(simp only[Zab,Zaa,Yrr];omega)|rfl) [-getElem?_pos,A.b164,Zaj,slc,splice,Zag,o2]
  exact go _ (by simp) (by simp) (by simp)
def Yh6(hx:In h N x a)(hy:In h N y b)(la:wl a<100000000000)(lb:wl b<100000000000):Fn A.C 135 [x,y] h N (fun v _ _=>v=.int .i64 (sg3 (a-b))):=by
 intro w
 rw[Zaf,A.k135 (by simp)]
 obtain⟨n1,u1,rfl,o1⟩:=hx.cells
 obtain⟨n2,u2,rfl,o2⟩:=hy.cells
 have kk:=kset (kset (Keeps.refl (h:=h) (n:=N)) (.cells [.int .i64 n1,u1] 108 true)) (.cells [.int .i64 n2,u2] 108 true)
 have hsb:=Yhf (hx.keep kk) (hy.keep kk) (by omega) (by omega)
 have wl3:=Zzk a (-b)
 rw[Zqf]at wl3
 unfold V.one at o1 o2
 rcases id hx with⟨e1,s1,s2⟩|⟨i,o,l,c,e1,_⟩
 ·simp only[V.agg.injEq,Yse,V.int.injEq,true_and,and_true]at e1
  obtain⟨rfl,rfl⟩:=e1
  rcases id hy with⟨e2,t1,t2⟩|⟨i,o,l,c,e2,_⟩
  ·simp only[V.agg.injEq,Yse,V.int.injEq,true_and,and_true]at e2
   obtain⟨rfl,rfl⟩:=e2
   by_cases h1:n1<n2
   ·simp(disch:=first|(simp;done)|omega|(simp only[Zab,Zaa,Yrr];omega)|rfl) [-getElem?_pos,A.b135,Zaj,slc,splice,Ret,Zag,h1]
    exact⟨kk,by unfold sg3;rw[Yrw (by omega)]⟩
   ·by_cases h2:n2<n1
    ·simp(disch:=first|(simp;done)|omega|(simp only[Zab,Zaa,Yrr];omega)|rfl) [-getElem?_pos,A.b135,Zaj,slc,splice,Ret,Zag,h1,h2]
     exact⟨kk,by unfold sg3;rw[Yrt (by omega),Yrt (by omega)]⟩
    ·simp(disch:=first|(simp;done)|omega|(simp only[Zab,Zaa,Yrr];omega)|rfl) [-getElem?_pos,A.b135,Zaj,slc,splice,Ret,Zag,h1,h2]
     exact⟨kk,by unfold sg3;rw[Yrt (by omega),Yrw (by omega)]⟩
  ·simp only[V.agg.injEq,Yse,V.int.injEq,true_and,and_true]at e2
   obtain⟨rfl,rfl⟩:=e2
   simp(disch:=first|(simp;done)|omega|(simp only[Zab,Zaa,Yrr];omega)|rfl) [-getElem?_pos,A.b135,Zaj,slc,splice,Zag]
   refine Zac hsb ?_
   rintro v h1 n1' k1 hv
   simp(disch:=first|(simp;done)|omega|(simp only[Zab,Zaa,Yrr];omega)|rfl) [-getElem?_pos,]
   refine Zac (Zik hv) ?_
   rintro _ h2 n2' k2 rfl
   simp(disch:=first|(simp;done)|omega|(simp only[Zab,Zaa,Yrr];omega)|rfl) [-getElem?_pos,Ret]
   exact(kk.trans k1).trans k2
 ·simp only[V.agg.injEq,Yse,V.int.injEq,true_and,and_true]at e1
  obtain⟨rfl,rfl⟩:=e1
  simp(disch:=first|(simp;done)|omega|(simp only[Zab,Zaa,Yrr];omega)|rfl) [-getElem?_pos,A.b135,Zaj,slc,splice,Zag,o2]
  refine Zac hsb ?_
  rintro v h1 n1' k1 hv
  simp(disch:=first|(simp;done)|omega|(simp only[Zab,Zaa,Yrr];omega)|rfl) [-getElem?_pos,]
  refine Zac (Zik hv) ?_
  rintro _ h2 n2' k2 rfl
  simp(disch:=first|(simp;done)|omega|(simp only[Zab,Zaa,Yrr];omega)|rfl) [-getElem?_pos,Ret]
  exact(kk.trans k1).trans k2
def Yic(hx:In h N x a)(la:wl a<500000000000):Fn A.C 228 [x] h N (fun v h' n'=>In h' n' v (a.natAbs:Int)):=by
 intro w
 rw[Zaf,A.k228 (by simp)]
 obtain⟨n1,u1,rfl,o1⟩:=hx.cells
 have kk:=kset (kset (Keeps.refl (h:=h) (n:=N)) (.cells [.int .i64 n1,u1] 108 true)) (.cells [.int .i64 0,.nilslice] 108 true)
 have hng:=Zor (hx.keep kk) la
 have hsn:(n1<0)=(a<0):=by
  rcases hx with⟨e1,s1,s2⟩|⟨i,o,l,c,e1,_⟩
  ·simp only[V.agg.injEq,Yse,V.int.injEq,true_and,and_true]at e1
   rw[e1.1]
  ·simp only[V.agg.injEq,Yse,V.int.injEq,true_and,and_true]at e1
   rw[e1.1];unfold sgn;split<;>simp_all
 unfold V.one at o1
 by_cases h0:a<0
 ·have h1:n1<0:=by rw[hsn];exact h0
  simp(disch:=first|(simp;done)|omega|(simp only[Zab,Zaa,Yrr];omega)|rfl) [-getElem?_pos,A.b228,Zaj,slc,splice,o1,h1]
  refine Zac hng ?_
  rintro v h2 n2 k2 hv
  obtain⟨n5,u5,rfl,ho5⟩:=hv.cells
  unfold V.one at ho5
  have kle:=k2.le
  have g2:=k2.get (N+1) (by omega)
  simp at g2
  have he:(-a)=(a.natAbs:Int):=by omega
  rw[he]at hv
  simp(disch:=first|(simp;done)|omega|(simp only[Zab,Zaa,Yrr];omega)|rfl) [-getElem?_pos,g2,ho5,splice,Zam,Zaj,slc,Ret]
  exact⟨(kk.trans k2).set (by omega),hv.setNU g2 (by simp) rfl⟩
 ·have h1:¬n1<0:=by rw[hsn];exact h0
  have he:a=(a.natAbs:Int):=by omega
  rw[he]at hx
  simp(disch:=first|(simp;done)|omega|(simp only[Zab,Zaa,Yrr];omega)|rfl) [-getElem?_pos,A.b228,Zaj,slc,splice,Zam,o1,h1,Ret]
  exact⟨kk.set (by omega),(hx.keep kk).setNU (i:=N+1) (c0:=[.int .i64 0,.nilslice]) (e0:=108) (w0:=true) (by simp) (by simp) rfl⟩
end
end Go.Mx
