/-num-/
import Derived.Test.YtlbnjhhebffhdaaGreatDoorNaD
set_option linter.all false
namespace Go.Mx
noncomputable section
open Go Go.Proofs
variable {N:Nat} {a b:Int} {h:T O} {x y:V}
set_option maxHeartbeats 1000000
set_option maxRecDepth 1000000
def A.Qc:=A.q Tryz.f150
def A.mw:=A.qt A.Qc [] [] [1,1]
def A.b150:=(fun y0=>A.qt A.Qc [] [([1,1],y0)] []) A.mw
def A.k150:=@A.kk 150 67 [.cell 4 (some 2)] A.b150 (by kernel_rfl) rfl
def A.b188:=A.q Tryz.f188
def A.k188:=@A.kk 188 9 [.cell 4 (some 2)] A.b188 (by kernel_rfl) rfl
def A.Qd:=A.q Tryz.f147
def A.my:=A.qt A.Qd [] [] [1,1]
def A.b147:=(fun y0=>A.qt A.Qd [] [([1,1],y0)] []) A.my
def A.k147:=@A.kk 147 66 [.cell 4 (some 2)] A.b147 (by kernel_rfl) rfl
def A.b127:=A.q Tryz.f127
def A.k127:=@A.kk 127 29 [.tmp 4] A.b127 (by kernel_rfl) rfl
structure J4 (h:T O) (N q:Nat) (z:Int) (st:St):Prop where
 w:aL N st.w=[]
 ai:ah h N st.h st.n
 ex:∃n u,st.h.get q=some (.cells [.int .i64 n,u] 100 true)/\In st.h st.n (.agg [.int .i64 n,u]) z
def Zxi(a b:Int):(a*b<0)↔((a<0)≠(b<0))/\a≠0/\b≠0:=by
 rcases Int.lt_trichotomy a 0 with ha|ha|ha<;>rcases Int.lt_trichotomy b 0 with hb|hb|hb
 ·have:=Int.mul_pos_of_neg_of_neg ha hb
  simp[ha,hb];omega
 ·subst hb;simp
 ·have:=Int.mul_neg_of_neg_of_pos ha hb
  have h1:¬b<0:=by omega
  simp[ha,h1,this];omega
 ·subst ha;simp
 ·subst ha;simp
 ·subst ha;simp
 ·have:=Int.mul_neg_of_pos_of_neg ha hb
  have h1:¬a<0:=by omega
  simp[hb,h1,this];omega
 ·subst hb;simp
 ·have:=Int.mul_pos ha hb
  have h1:¬a<0:=by omega
  have h2:¬b<0:=by omega
  simp[h1,h2];omega
def Zgb{n k:Nat}(h:n<B^k):(aQ n).length<=k:=by
 apply vD
 intro hc
 obtain⟨j,hj⟩:∃j,(aQ n).length=j+1:=⟨(aQ n).length-1,by omega⟩
 have:=(JP hj).1
 have:=Ywo (show 0<B by decide) (show k<=j by omega)
 omega
def Uw(n:Nat):n<B^(aQ n).length:=by
 have:=Em (qP n)
 rwa [mj]at this
def Ybo(a b:Int):wl (a+b)<=max (wl a) (wl b)+1:=by
 unfold wl
 apply Zgb
 have h1:=Uw a.natAbs
 have h2:=Uw b.natAbs
 have h3:=Ywo (show 0<B by decide) (BY (aQ a.natAbs).length (aQ b.natAbs).length)
 have h4:=Ywo (show 0<B by decide) (BU (aQ a.natAbs).length (aQ b.natAbs).length)
 rw[fV]
 generalize B^max (aQ a.natAbs).length (aQ b.natAbs).length=p at*
 have:p*2<=p*B:=jh p (by decide)
 omega
def Qe(a:Int):wl (-a)=wl a:=by unfold wl;rw[AR]
def CR(a b:Int):wl (a*b)<=wl a+wl b:=by
 unfold wl
 apply Zgb
 rw[wY,Yw8]
 have h1:=Uw a.natAbs
 have h2:=Uw b.natAbs
 exact BW h1 h2
def MH(h:a.natAbs<=b.natAbs):wl a<=wl b:=Ep h
def Yj4{H:T O}{n1 n2:Int}{u1 u2:V}{r0:T V}(hx:In H (N+3) (.agg [.int .i64 n1,u1]) a)(hy:In H (N+3) (.agg [.int .i64 n2,u2]) b)(la:wl a<500000000000)(lb:wl b<500000000000)(hK:ah h N H (N+3))
  (gx:H.get N=some (.cells [.int .i64 n1,u1] 100 true)) (gy:H.get (N+1)=some (.cells [.int .i64 n2,u2] 100 true)) (gz:H.get (N+2)=some (.cells [.int .i64 0,.ziA] 100 true)) (r2:r0.get 2=some (.ptr N 0)) (r3:r0.get 3=some (.ptr (N+1) 0)) (r4:r0.get 4=some (.ptr (N+2) 0)):
  Code A.C none A.mw ⟨r0,67,[]⟩ ⟨H,N+3,[]⟩ (fun e fr st=>e=.ret/\∃r,fr=⟨r,67,[]⟩/\r.get 4=some (.ptr (N+2) 0)/\J4 h N (N+2) (a+b) st):=by
 rw[cn]
 simp[A.mw,r2,gx,aI,aK]
 refine av (CN hx) ?_
 rintro _ h1 N1 k1 ⟨ua,rfl,Il⟩
 have fC:=k1.le
 have Qf:=(k1.get (N+1) (by omega)).trans gy
 have gz1:=(k1.get (N+2) (by omega)).trans gz
 simp[r3,Qf,aI,aK]
 refine av (CN (hy.ai k1)) ?_
 rintro _ h2 N2 k2 ⟨ub,rfl,J5⟩
 have zgl:=k2.le
 have gz2:=(k2.get (N+2) (by omega)).trans gz1
 have uX:=Il.ai k2
 have Ez:(aQ a.natAbs).length<500000000000:=la
 have Ux:(aQ b.natAbs).length<500000000000:=lb
 have kA:=(hK.trans k1).trans k2
 have Qg:=Ybo a b
 have fin:∀(z:Int) (v:V) (h4:T O) (n4:Nat),ah h2 N2 h4 n4->In h4 n4 v z->z=a+b->∃(n5:Int) (u5:V),v=.agg [.int .i64 n5,u5]/\V.one u5=true/\h4.get (N+2)=some (.cells [.int .i64 0,.ziA] 100 true)/\∀W,aL N W=[]->J4 h N (N+2) (a+b) ⟨h4.set (N+2) (.cells [.int .i64 n5,u5] 100 true),n4,W⟩:=by
  intro z v h4 n4 k4 hv hz
  obtain⟨n5,u5,rfl,jd⟩:=hv.cells
  have Ae:=(k4.get (N+2) (by omega)).trans gz2
  subst hz
  exact⟨n5,u5,rfl,jd,Ae,fun W hW=>⟨hW,(kA.trans k4).set (by omega),n5,u5,by simp,hv.ay Ae (by simp) rfl⟩⟩
 by_cases hs:(a<0)=(b<0)
 ·have gg:(decide (a<0)==decide (b<0))=true:=by simp[hs]
  simp[a_,gg]
  refine av (Zwb uX J5 (by omega) (by omega)) ?_
  rintro v h3 N3 k3 hv
  have Ab:a.natAbs+b.natAbs=(a+b).natAbs:=by
   by_cases h:a<0
   ·have:b<0:=by rw[hs]at h;exact h
    omega
   ·have:¬b<0:=by rw[hs]at h;exact h
    omega
  rw[Ab]at hv
  simp[]
  refine av (Er hv (by unfold wl at Qg la lb;omega)) ?_
  rintro v h4 N4 k4 hv
  obtain⟨n5,u5,rfl,jd,Ae,hf⟩:=fin _ _ _ _ (k3.trans k4) hv (by
   by_cases h:a<0
   ·have:b<0:=by rw[hs]at h;exact h
    simp[h];omega
   ·have:¬b<0:=by rw[hs]at h;exact h
    simp[h];omega)
  unfold V.one at jd
  simp[Ae,jd,aj,bM,r4]
  exact hf _ (by simp[aL])
 ·have gg:(decide (a<0)==decide (b<0))=false:=by
   by_cases h:a<0<;>by_cases h':b<0<;>simp_all
  simp[a_,gg]
  refine av (Zhx uX J5 (by omega) (by omega)) ?_
  rintro _ h3 N3 k3 rfl
  have Qh:=uX.ai k3
  have Qi:=J5.ai k3
  by_cases hc:b.natAbs<=a.natAbs
  ·have c1:(0:Int)<=uT a.natAbs b.natAbs:=by unfold uT;split<;>(try split)<;>omega
   simp[c1]
   refine av (Znb Qh Qi hc (by omega) (by omega)) ?_
   rintro v h5 N5 k5 hv
   simp[]
   refine av (Er hv (by have:=Ep (show a.natAbs-b.natAbs<=a.natAbs by omega);omega)) ?_
   rintro v h4 N4 k4 hv
   obtain⟨n5,u5,rfl,jd,Ae,hf⟩:=fin _ _ _ _ ((k3.trans k5).trans k4) hv (by
    by_cases h:a<0
    ·have:¬b<0:=by intro h2;apply hs;simp[h,h2]
     simp[h];omega
    ·have:b<0:=by apply Decidable.byContradiction;intro h2;apply hs;simp[h,h2]
     simp[h];omega)
   unfold V.one at jd
   simp[Ae,jd,aj,bM,r4]
   exact hf _ (by simp[aL])
  ·have c1:¬(0:Int)<=uT a.natAbs b.natAbs:=by unfold uT;split<;>(try split)<;>omega
   simp[c1]
   refine av (Znb Qi Qh (by omega) (by omega) (by omega)) ?_
   rintro v h5 N5 k5 hv
   simp[]
   refine av (Er hv (by have:=Ep (show b.natAbs-a.natAbs<=b.natAbs by omega);omega)) ?_
   rintro v h4 N4 k4 hv
   obtain⟨n5,u5,rfl,jd,Ae,hf⟩:=fin _ _ _ _ ((k3.trans k5).trans k4) hv (by
    by_cases h:b<0
    ·have:¬a<0:=by intro h2;apply hs;simp[h,h2]
     simp[h];omega
    ·have:a<0:=by apply Decidable.byContradiction;intro h2;apply hs;simp[h,h2]
     simp[h];omega)
   unfold V.one at jd
   simp[Ae,jd,aj,bM,r4]
   exact hf _ (by simp[aL])
def Qj(hx:In h N x a)(hy:In h N y b)(la:wl a<500000000000)(lb:wl b<500000000000):Fn A.C 150 [x,y] h N (fun v h' n'=>In h' n' v (a+b)):=by
 intro w
 rw[aZ,A.k150 (by simp)]
 obtain⟨n1,u1,rfl,o1⟩:=hx.cells
 obtain⟨n2,u2,rfl,o2⟩:=hy.cells
 have kk:=aO (aO (aO (ah.refl (h:=h) (n:=N)) (.cells [.int .i64 n1,u1] 100 true)) (.cells [.int .i64 n2,u2] 100 true)) (.cells [.int .i64 0,.ziA] 100 true)
 unfold V.one at o1 o2
 have go:∀r:T V,r.get 2=some (.ptr N 0)->r.get 3=some (.ptr (N+1) 0)->r.get 4=some (.ptr (N+2) 0)->Run A.C [.fin [.cell 4 (some 2)] ⟨h,N,w⟩] (fx (A.C.code none A.mw ⟨r,67,[]⟩ ⟨((h.set N (.cells [.int .i64 n1,u1] 100 true)).set (N+1) (.cells [.int .i64 n2,u2] 100 true)).set (N+1+1) (.cells [.int .i64 0,.ziA] 100 true),N+1+1+1,[]⟩)) (Cv (Ret (fun v h' n'=>In h' n' v (a+b)) h N w)):=by
  intro r r2 r3 r4
  refine nc (Yj4 (hx.ai kk) (hy.ai kk) la lb kk (by simp) (by simp) (by simp) r2 r3 r4) ?_
  rintro e fr ⟨h5,n5,w5⟩ ⟨rfl,r',rfl,Qk,hW,hK,n6,u6,g6,hi⟩
  simp only at hW hK g6 hi
  simp[Qk,g6,aI,aK,Ret,hW]
  exact⟨hK,hi⟩
 rcases id hx with⟨e1,s1,s2⟩|⟨i,o,l,c,e1,_⟩
 ·simp only[V.agg.injEq,iA,V.int.injEq,true_and,and_true]at e1
  obtain⟨rfl,rfl⟩:=e1
  rcases id hy with⟨e2,t1,t2⟩|⟨i,o,l,c,e2,_⟩
  ·simp only[V.agg.injEq,iA,V.int.injEq,true_and,and_true]at e2
   obtain⟨rfl,rfl⟩:=e2
   by_cases xR: -9223372036854775808<=n1+n2/\n1+n2<9223372036854775808
   ·have w1:bA .i64 (n1+n2)=n1+n2:=cH (by omega) (by omega)
    by_cases hp:0<n2
    ·have c1:n1<n1+n2:=by omega
     simp[A.b150,aI,aK,aj,a_,w1,hp,c1,Ret]
     exact⟨kk.set (by omega),In.small (by omega) (by omega)⟩
    ·have c1:¬n1<n1+n2:=by omega
     simp[A.b150,aI,aK,aj,a_,w1,hp,c1,Ret]
     exact⟨kk.set (by omega),In.small (by omega) (by omega)⟩
   ·obtain⟨y,rN⟩:∃y,bA .i64 (n1+n2)=y:=⟨_,rfl⟩
    have vX:y=n1+n2-18446744073709551616/\0<n2\/y=n1+n2+18446744073709551616/\¬0<n2:=by
     rw[<-rN,zj]
     simp only[IntKind.wrap,IntKind.bits,IntKind.signed]
     simp
     omega
    by_cases hp:0<n2
    ·have c1:¬n1<y:=by omega
     simp[A.b150,aI,a_,rN,hp,c1]
     exact go _ (by simp) (by simp) (by simp)
    ·have c1:n1<y:=by omega
     simp[A.b150,aI,a_,rN,hp,c1]
     exact go _ (by simp) (by simp) (by simp)
  ·simp only[V.agg.injEq,iA,V.int.injEq,true_and,and_true]at e2
   obtain⟨rfl,rfl⟩:=e2
   simp[A.b150,aI,a_]
   exact go _ (by simp) (by simp) (by simp)
 ·simp only[V.agg.injEq,iA,V.int.injEq,true_and,and_true]at e1
  obtain⟨rfl,rfl⟩:=e1
  simp[A.b150,aI,a_,o2]
  exact go _ (by simp) (by simp) (by simp)
def Yki(hx:In h N x a)(hy:In h N y b)(la:wl a<500000000000)(lb:wl b<500000000000):Fn A.C 188 [x,y] h N (fun v h' n'=>In h' n' v (a-b)):=by
 intro w
 rw[aZ,A.k188 (by simp)]
 obtain⟨n1,u1,rfl,o1⟩:=hx.cells
 obtain⟨n2,u2,rfl,o2⟩:=hy.cells
 have kk:=aO (aO (aO (ah.refl (h:=h) (n:=N)) (.cells [.int .i64 n1,u1] 100 true)) (.cells [.int .i64 n2,u2] 100 true)) (.cells [.int .i64 0,.ziA] 100 true)
 have OU:=MC (hy.ai kk) lb
 have oA:=hx.ai kk
 unfold V.one at o1 o2
 simp[A.b188,aI,aK,o1,o2]
 refine av OU ?_
 rintro v h1 gw k1 hv
 simp[]
 refine av (Qj (oA.ai k1) hv la (by rw[Qe];exact lb)) ?_
 rintro v2 h2 fj k2 ix
 obtain⟨n5,u5,rfl,jd⟩:=ix.cells
 unfold V.one at jd
 have k12:=k1.trans k2
 have xE:=k12.le
 have g2:=k12.get (N+1+1) (by omega)
 simp at g2
 have aW:N+1+1<fj:=by omega
 have zik:N+1+1<gw:=by have:=k1.le;omega
 simp[g2,jd,aj,bM,aW,zik,b_.chk,Ret]
 have he:a+ -b=a-b:=by omega
 rw[he]at ix
 exact⟨(kk.trans k12).set (by omega),ix.ay g2 (by simp) rfl⟩
def Yie{H:T O}{n1 n2:Int}{u1 u2:V}{r0:T V}(hx:In H (N+3) (.agg [.int .i64 n1,u1]) a)(hy:In H (N+3) (.agg [.int .i64 n2,u2]) b)(la:wl a<500000000000)(lb:wl b<500000000000)(hK:ah h N H (N+3))
  (gx:H.get N=some (.cells [.int .i64 n1,u1] 100 true)) (gy:H.get (N+1)=some (.cells [.int .i64 n2,u2] 100 true)) (gz:H.get (N+2)=some (.cells [.int .i64 0,.ziA] 100 true)) (r2:r0.get 2=some (.ptr N 0)) (r3:r0.get 3=some (.ptr (N+1) 0)) (r4:r0.get 4=some (.ptr (N+2) 0)):
  Code A.C none A.my ⟨r0,66,[]⟩ ⟨H,N+3,[]⟩ (fun e fr st=>e=.ret/\∃r,fr=⟨r,66,[]⟩/\r.get 4=some (.ptr (N+2) 0)/\J4 h N (N+2) (a*b) st):=by
 rw[cn]
 simp[A.my,r2,gx,aI,aK]
 refine av (CN hx) ?_
 rintro _ h1 N1 k1 ⟨ua,rfl,Il⟩
 have fC:=k1.le
 have Qf:=(k1.get (N+1) (by omega)).trans gy
 have gz1:=(k1.get (N+2) (by omega)).trans gz
 simp[r3,Qf,aI,aK]
 refine av (CN (hy.ai k1)) ?_
 rintro _ h2 N2 k2 ⟨ub,rfl,J5⟩
 have zgl:=k2.le
 have gz2:=(k2.get (N+2) (by omega)).trans gz1
 have uX:=Il.ai k2
 have Ez:(aQ a.natAbs).length<500000000000:=la
 have Ux:(aQ b.natAbs).length<500000000000:=lb
 have kA:=(hK.trans k1).trans k2
 have Qg:=CR a b
 simp[a_]
 refine av (Zu1 uX J5 (by omega) (by omega)) ?_
 rintro v h3 N3 k3 hv
 have hmul:a.natAbs*b.natAbs=(a*b).natAbs:=(wY a b).symm
 rw[hmul]at hv
 simp[]
 refine av (Er hv (by unfold wl at Qg la lb;omega)) ?_
 rintro v h4 N4 k4 hv
 obtain⟨n5,u5,rfl,jd⟩:=hv.cells
 have Ae:=((k3.trans k4).get (N+2) (by omega)).trans gz2
 have uU:=(k3.trans k4).le
 unfold V.one at jd
 have hs:=Zxi a b
 have he:(if (!decide (a<0)==decide (b<0))=true then -((a*b).natAbs:Int) else (a*b).natAbs)=a*b:=by
  have h0:a=0\/b=0->a*b=0:=by rintro(rfl|rfl)<;>simp
  by_cases h1:a<0<;>by_cases h2:b<0<;>simp[h1,h2]at hs ⊢<;>omega
 rw[he]at hv
 simp[Ae,jd,aj,bM,r4]
 exact⟨by simp[aL],((kA.trans k3).trans k4).set (by omega),n5,u5,by simp,hv.ay Ae (by simp) rfl⟩
def Af(hx:In h N x a)(hy:In h N y b)(la:wl a<500000000000)(lb:wl b<500000000000):Fn A.C 147 [x,y] h N (fun v h' n'=>In h' n' v (a*b)):=by
 intro w
 rw[aZ,A.k147 (by simp)]
 obtain⟨n1,u1,rfl,o1⟩:=hx.cells
 obtain⟨n2,u2,rfl,o2⟩:=hy.cells
 have kk:=aO (aO (aO (ah.refl (h:=h) (n:=N)) (.cells [.int .i64 n1,u1] 100 true)) (.cells [.int .i64 n2,u2] 100 true)) (.cells [.int .i64 0,.ziA] 100 true)
 unfold V.one at o1 o2
 have go:∀r:T V,r.get 2=some (.ptr N 0)->r.get 3=some (.ptr (N+1) 0)->r.get 4=some (.ptr (N+2) 0)->Run A.C [.fin [.cell 4 (some 2)] ⟨h,N,w⟩] (fx (A.C.code none A.my ⟨r,66,[]⟩ ⟨((h.set N (.cells [.int .i64 n1,u1] 100 true)).set (N+1) (.cells [.int .i64 n2,u2] 100 true)).set (N+1+1) (.cells [.int .i64 0,.ziA] 100 true),N+1+1+1,[]⟩)) (Cv (Ret (fun v h' n'=>In h' n' v (a*b)) h N w)):=by
  intro r r2 r3 r4
  refine nc (Yie (hx.ai kk) (hy.ai kk) la lb kk (by simp) (by simp) (by simp) r2 r3 r4) ?_
  rintro e fr ⟨h5,n5,w5⟩ ⟨rfl,r',rfl,Qk,hW,hK,n6,u6,g6,hi⟩
  simp only at hW hK g6 hi
  simp[Qk,g6,aI,aK,Ret,hW]
  exact⟨hK,hi⟩
 rcases id hx with⟨e1,s1,s2⟩|⟨i,o,l,c,e1,_⟩
 ·simp only[V.agg.injEq,iA,V.int.injEq,true_and,and_true]at e1
  obtain⟨rfl,rfl⟩:=e1
  rcases id hy with⟨e2,t1,t2⟩|⟨i,o,l,c,e2,_⟩
  ·simp only[V.agg.injEq,iA,V.int.injEq,true_and,and_true]at e2
   obtain⟨rfl,rfl⟩:=e2
   have z1:=fun st=>Zud s1 s2 (st:=st)
   have z2:=fun st=>Zud t1 t2 (st:=st)
   have hm:n1.natAbs*n2.natAbs=(n1*n2).natAbs:=(wY _ _).symm
   have fO:bJ (n1.natAbs*n2.natAbs)+18446744073709551616*cG (n1.natAbs*n2.natAbs)=(n1*n2).natAbs:=by
    rw[<-hm]
    have:=tA (n1.natAbs*n2.natAbs) 18446744073709551616
    unfold bJ cG;omega
   have Ql:=Zxi n1 n2
   obtain⟨hi,iH⟩:∃x,cG (n1.natAbs*n2.natAbs)=x:=⟨_,rfl⟩
   obtain⟨lo,zhc⟩:∃x,bJ (n1.natAbs*n2.natAbs)=x:=⟨_,rfl⟩
   rw[iH,zhc]at fO
   have hz:n1=0\/n2=0->n1*n2=0:=by rintro(rfl|rfl)<;>simp
   simp[A.b147,aI,a_,z1,z2]
   refine av (PU (x:=n1.natAbs) (y:=n2.natAbs) (by omega) (by omega)) ?_
   rintro _ h' N' k ⟨rfl,rfl,rfl⟩
   rw[iH,zhc]
   by_cases h0:hi=0
   ·by_cases h1:lo<=9223372036854775807
    ·have iE:(lo:Int)<=9223372036854775807:=by omega
     have w1:bA .i64 (lo:Int)=lo:=cH (by omega) (by omega)
     have w2:IntKind.wrap .i64 (-(lo:Int))= -(lo:Int):=Og (by omega) (by omega)
     by_cases hs:(n1<0)=(n2<0)
     ·have gg:(decide (n1<0)==decide (n2<0))=true:=by simp[hs]
      have hp:¬n1*n2<0:=by rw[Ql];rintro⟨p,_⟩;exact p hs
      have he:(lo:Int)=n1*n2:=by omega
      simp[aI,aK,aj,a_,h0,iE,gg,w1,Ret,b_.chk]
      exact⟨kk.set (by omega),by rw[<-he];exact In.small (by omega) (by omega)⟩
     ·have gg:(decide (n1<0)==decide (n2<0))=false:=by
       by_cases h:n1<0<;>by_cases h':n2<0<;>simp_all
      have he: -(lo:Int)=n1*n2:=by
       by_cases hq:n1=0\/n2=0
       ·have:=hz hq;omega
       ·have:n1*n2<0:=Ql.2 ⟨hs,fun h=>hq (.inl h),fun h=>hq (.inr h)⟩
        omega
      simp[aI,aK,aj,a_,h0,iE,gg,w1,w2,Ret,b_.chk]
      exact⟨kk.set (by omega),by rw[<-he];exact In.small (by omega) (by omega)⟩
    ·have iE:¬(lo:Int)<=9223372036854775807:=by omega
     simp[h0,iE,b_.chk]
     exact go _ (by simp) (by simp) (by simp)
   ·simp[h0,b_.chk]
    exact go _ (by simp) (by simp) (by simp)
  ·simp only[V.agg.injEq,iA,V.int.injEq,true_and,and_true]at e2
   obtain⟨rfl,rfl⟩:=e2
   simp[A.b147,aI,a_]
   exact go _ (by simp) (by simp) (by simp)
 ·simp only[V.agg.injEq,iA,V.int.injEq,true_and,and_true]at e1
  obtain⟨rfl,rfl⟩:=e1
  simp[A.b147,aI,a_,o2]
  exact go _ (by simp) (by simp) (by simp)
def Ylg(hx:In h N x a)(hy:In h N y b)(la:wl a<100000000000)(lb:wl b<100000000000):Fn A.C 127 [x,y] h N (fun v _ _=>v=.int .i64 (sg3 (a-b))):=by
 intro w
 rw[aZ,A.k127 (by simp)]
 obtain⟨n1,u1,rfl,o1⟩:=hx.cells
 obtain⟨n2,u2,rfl,o2⟩:=hy.cells
 have kk:=aO (aO (ah.refl (h:=h) (n:=N)) (.cells [.int .i64 n1,u1] 100 true)) (.cells [.int .i64 n2,u2] 100 true)
 have JF:=Yki (hx.ai kk) (hy.ai kk) (by omega) (by omega)
 have Qg:=Ybo a (-b)
 rw[Qe]at Qg
 unfold V.one at o1 o2
 rcases id hx with⟨e1,s1,s2⟩|⟨i,o,l,c,e1,_⟩
 ·simp only[V.agg.injEq,iA,V.int.injEq,true_and,and_true]at e1
  obtain⟨rfl,rfl⟩:=e1
  rcases id hy with⟨e2,t1,t2⟩|⟨i,o,l,c,e2,_⟩
  ·simp only[V.agg.injEq,iA,V.int.injEq,true_and,and_true]at e2
   obtain⟨rfl,rfl⟩:=e2
   by_cases h1:n1<n2
   ·simp[A.b127,aI,Ret,a_,h1]
    exact⟨kk,by unfold sg3;rw[aR (by omega)]⟩
   ·by_cases h2:n2<n1
    ·simp[A.b127,aI,Ret,a_,h1,h2]
     exact⟨kk,by unfold sg3;rw[aA (by omega),aA (by omega)]⟩
    ·simp[A.b127,aI,Ret,a_,h1,h2]
     exact⟨kk,by unfold sg3;rw[aA (by omega),aR (by omega)]⟩
  ·simp only[V.agg.injEq,iA,V.int.injEq,true_and,and_true]at e2
   obtain⟨rfl,rfl⟩:=e2
   simp[A.b127,aI,aK,a_]
   refine av JF ?_
   rintro v h1 gw k1 hv
   simp[]
   refine av (JV hv) ?_
   rintro _ h2 fj k2 rfl
   simp[Ret]
   exact(kk.trans k1).trans k2
 ·simp only[V.agg.injEq,iA,V.int.injEq,true_and,and_true]at e1
  obtain⟨rfl,rfl⟩:=e1
  simp[A.b127,aI,aK,a_,o2]
  refine av JF ?_
  rintro v h1 gw k1 hv
  simp[]
  refine av (JV hv) ?_
  rintro _ h2 fj k2 rfl
  simp[Ret]
  exact(kk.trans k1).trans k2
def Yll(hx:In h N x a)(la:wl a<500000000000):Fn A.C 227 [x] h N (fun v h' n'=>In h' n' v (a.natAbs:Int)):=by
 intro w
 rw[aZ,A.k227 (by simp)]
 obtain⟨n1,u1,rfl,o1⟩:=hx.cells
 have kk:=aO (aO (ah.refl (h:=h) (n:=N)) (.cells [.int .i64 n1,u1] 100 true)) (.cells [.int .i64 0,.ziA] 100 true)
 have OU:=MC (hx.ai kk) la
 have Qm:(n1<0)=(a<0):=by
  rcases hx with⟨e1,s1,s2⟩|⟨i,o,l,c,e1,_⟩
  ·simp only[V.agg.injEq,iA,V.int.injEq,true_and,and_true]at e1
   rw[e1.1]
  ·simp only[V.agg.injEq,iA,V.int.injEq,true_and,and_true]at e1
   rw[e1.1];unfold sgn;split<;>simp_all
 unfold V.one at o1
 by_cases h0:a<0
 ·have h1:n1<0:=by rw[Qm];exact h0
  simp[A.b227,aI,aK,o1,h1]
  refine av OU ?_
  rintro v h2 n2 k2 hv
  obtain⟨n5,u5,rfl,jd⟩:=hv.cells
  unfold V.one at jd
  have g2:=k2.get (N+1) (by omega)
  simp at g2
  have he:(-a)=(a.natAbs:Int):=by omega
  rw[he]at hv
  simp[g2,jd,aj,bM,aI,aK,Ret]
  exact⟨(kk.trans k2).set (by omega),hv.ay g2 (by simp) rfl⟩
 ·have h1:¬n1<0:=by rw[Qm];exact h0
  have he:a=(a.natAbs:Int):=by omega
  rw[he]at hx
  simp[A.b227,aI,aK,aj,bM,o1,h1,Ret]
  exact⟨kk.set (by omega),(hx.ai kk).ay (i:=N+1) (c0:=[.int .i64 0,.ziA]) (e0:=100) (w0:=true) (by simp) (by simp) rfl⟩
end
end Go.Mx
