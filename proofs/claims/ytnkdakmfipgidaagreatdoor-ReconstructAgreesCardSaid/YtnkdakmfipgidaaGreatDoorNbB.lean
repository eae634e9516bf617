/-num-/
import Derived.Test.YtnkdakmfipgidaaGreatDoorNaD
set_option linter.all false
namespace Go.Mx
noncomputable section
open Go Go.Proofs
variable {N:Nat} {a b:Int} {h:T O} {x y:V}
set_option maxHeartbeats 1000000
set_option maxRecDepth 1000000
def A.Qe:=A.q Tryz.f163
def A.oF:=A.qt A.Qe [] [] [1,1]
def A.b163:=(fun y0=>A.qt A.Qe [] [([1,1],y0)] []) A.oF
def A.k163:=@A.kk 163 67 [.cell 4 (some 2)] A.b163 (by kernel_rfl) rfl
def A.b225:=A.q Tryz.f225
def A.k225:=@A.kk 225 9 [.cell 4 (some 2)] A.b225 (by kernel_rfl) rfl
def A.Qf:=A.q Tryz.f165
def A.oG:=A.qt A.Qf [] [] [1,1]
def A.b165:=(fun y0=>A.qt A.Qf [] [([1,1],y0)] []) A.oG
def A.k165:=@A.kk 165 66 [.cell 4 (some 2)] A.b165 (by kernel_rfl) rfl
def A.b197:=A.q Tryz.f197
def A.k197:=@A.kk 197 29 [.tmp 4] A.b197 (by kernel_rfl) rfl
structure Kg (h:T O) (N q:Nat) (z:Int) (st:St):Prop where
 w:ay N st.w=[]
 ad:ab h N st.h st.n
 ex:∃n u,st.h.get q=some (.cells [.int .i64 n,u] 121 true)/\In st.h st.n (.agg [.int .i64 n,u]) z
def Zzh(a b:Int):(a*b<0)↔((a<0)≠(b<0))/\a≠0/\b≠0:=by
 rcases Int.lt_trichotomy a 0 with ha|ha|ha<;>rcases Int.lt_trichotomy b 0 with hb|hb|hb
 ·have:=Int.mul_pos_of_neg_of_neg ha hb;simp[ha,hb];omega
 ·subst hb;simp
 ·have:=Int.mul_neg_of_neg_of_pos ha hb;have h1:¬b<0:=by omega
  simp[ha,h1,this];omega
 ·subst ha;simp
 ·subst ha;simp
 ·subst ha;simp
 ·have:=Int.mul_neg_of_pos_of_neg ha hb;have h1:¬a<0:=by omega
  simp[hb,h1,this];omega
 ·subst hb;simp
 have:=Int.mul_pos ha hb;have h1:¬a<0:=by omega
 have h2:¬b<0:=by omega
 simp[h1,h2];omega
def Zhb{n k:Nat}(h:n<B^k):(aH n).length<=k:=by apply zB;intro hc;obtain⟨j,hj⟩:∃j,(aH n).length=j+1:=⟨(aH n).length-1,by omega⟩;have:=(JH hj).1;have:=qW (show 0<B by decide) (show k<=j by omega);omega
def UT(n:Nat):n<B^(aH n).length:=by have:=GU (sX n);rwa [oz]at this
def Ydz(a b:Int):wl (a+b)<=max (wl a) (wl b)+1:=by unfold wl;apply Zhb;have h1:=UT a.natAbs;have h2:=UT b.natAbs;have h3:=qW (show 0<B by decide) (Es (aH a.natAbs).length (aH b.natAbs).length);have h4:=qW (show 0<B by decide) (Ep (aH a.natAbs).length (aH b.natAbs).length);rw[ix];generalize B^max (aH a.natAbs).length (aH b.natAbs).length=p at*;have:p*2<=p*B:=mM p (by decide);omega
def Qg(a:Int):wl (-a)=wl a:=by unfold wl;rw[CE]
def Fu(a b:Int):wl (a*b)<=wl a+wl b:=by unfold wl;apply Zhb;rw[ye,mr];have h1:=UT a.natAbs;have h2:=UT b.natAbs;exact CK h1 h2
def ML(h:a.natAbs<=b.natAbs):wl a<=wl b:=Ho h
def Ynj{H:T O}{n1 n2:Int}{u1 u2:V}{r0:T V}(hx:In H (N+3) (.agg [.int .i64 n1,u1]) a)(hy:In H (N+3) (.agg [.int .i64 n2,u2]) b)(la:wl a<500000000000)(lb:wl b<500000000000)(hK:ab h N H (N+3))
  (gx:H.get N=some (.cells [.int .i64 n1,u1] 121 true)) (gy:H.get (N+1)=some (.cells [.int .i64 n2,u2] 121 true)) (gz:H.get (N+2)=some (.cells [.int .i64 0,.aa] 121 true)) (r2:r0.get 2=some (.ptr N 0)) (r3:r0.get 3=some (.ptr (N+1) 0)) (r4:r0.get 4=some (.ptr (N+2) 0)):
  Code A.C none A.oF ⟨r0,67,[]⟩ ⟨H,N+3,[]⟩ (fun e fr st=>e=.ret/\∃r,fr=⟨r,67,[]⟩/\r.get 4=some (.ptr (N+2) 0)/\Kg h N (N+2) (a+b) st):=by
 rw[bu];simp[A.oF,r2,gx,aQ,aL];refine av (Fq hx) ?_;rintro _ h1 N1 k1 ⟨ua,rfl,Qh⟩;have fL:=k1.le;have Qi:=(k1.get (N+1) (by omega)).trans gy;have gz1:=(k1.get (N+2) (by omega)).trans gz;simp[r3,Qi,aQ,aL];refine av (Fq (hy.ad k1)) ?_;rintro _ h2 N2 k2 ⟨ub,rfl,Kh⟩;have iU:=k2.le;have gz2:=(k2.get (N+2) (by omega)).trans gz1;have xH:=Qh.ad k2;have Ht:(aH a.natAbs).length<500000000000:=la;have UU:(aH b.natAbs).length<500000000000:=lb;have kA:=(hK.trans k1).trans k2;have Qj:=Ydz a b;have fin:∀(z:Int) (v:V) (h4:T O) (n4:Nat),ab h2 N2 h4 n4->In h4 n4 v z->z=a+b->∃(n5:Int) (u5:V),v=.agg [.int .i64 n5,u5]/\V.one u5=true/\h4.get (N+2)=some (.cells [.int .i64 0,.aa] 121 true)/\∀W,ay N W=[]->Kg h N (N+2) (a+b) ⟨h4.set (N+2) (.cells [.int .i64 n5,u5] 121 true),n4,W⟩:=by intro z v h4 n4 k4 hv hz;obtain⟨n5,u5,rfl,ke⟩:=hv.cells;have Cd:=(k4.get (N+2) (by omega)).trans gz2;subst hz;exact⟨n5,u5,rfl,ke,Cd,fun W hW=>⟨hW,(kA.trans k4).set (by omega),n5,u5,by simp,hv.aI Cd (by simp) rfl⟩⟩
 by_cases hs:(a<0)=(b<0)
 ·have iY:(decide (a<0)==decide (b<0))=true:=by simp[hs]
  simp[bh,iY];refine av (Zye xH Kh (by omega) (by omega)) ?_;rintro v h3 N3 k3 hv;have wA:a.natAbs+b.natAbs=(a+b).natAbs:=by
   by_cases h:a<0
   ·have:b<0:=by rw[hs]at h;exact h
    omega
   have:¬b<0:=by rw[hs]at h;exact h
   omega
  rw[wA]at hv;simp[];refine av (Hp hv (by unfold wl at Qj la lb;omega)) ?_;rintro v h4 N4 k4 hv;obtain⟨n5,u5,rfl,ke,Cd,hf⟩:=fin _ _ _ _ (k3.trans k4) hv (by
   by_cases h:a<0
   ·have:b<0:=by rw[hs]at h;exact h
    simp[h];omega
   ·have:¬b<0:=by rw[hs]at h;exact h
    simp[h];omega);unfold V.one at ke;simp[Cd,ke,ag,bO,r4];exact hf _ (by simp[ay])
 have iY:(decide (a<0)==decide (b<0))=false:=by by_cases h:a<0<;>by_cases h':b<0<;>simp_all
 simp[bh,iY];refine av (Zi4 xH Kh (by omega) (by omega)) ?_;rintro _ h3 N3 k3 rfl;have Qk:=xH.ad k3;have Ql:=Kh.ad k3;by_cases hc:b.natAbs<=a.natAbs
 ·have c1:(0:Int)<=xC a.natAbs b.natAbs:=by unfold xC;split<;>(try split)<;>omega
  simp[c1];refine av (Zol Qk Ql hc (by omega) (by omega)) ?_;rintro v h5 N5 k5 hv;simp[];refine av (Hp hv (by have:=Ho (show a.natAbs-b.natAbs<=a.natAbs by omega);omega)) ?_;rintro v h4 N4 k4 hv;obtain⟨n5,u5,rfl,ke,Cd,hf⟩:=fin _ _ _ _ ((k3.trans k5).trans k4) hv (by
   by_cases h:a<0
   ·have:¬b<0:=by intro h2;apply hs;simp[h,h2]
    simp[h];omega
   ·have:b<0:=by apply Decidable.byContradiction;intro h2;apply hs;simp[h,h2]
    simp[h];omega);unfold V.one at ke;simp[Cd,ke,ag,bO,r4];exact hf _ (by simp[ay])
 have c1:¬(0:Int)<=xC a.natAbs b.natAbs:=by unfold xC;split<;>(try split)<;>omega
 simp[c1];refine av (Zol Ql Qk (by omega) (by omega) (by omega)) ?_;rintro v h5 N5 k5 hv;simp[];refine av (Hp hv (by have:=Ho (show b.natAbs-a.natAbs<=b.natAbs by omega);omega)) ?_;rintro v h4 N4 k4 hv;obtain⟨n5,u5,rfl,ke,Cd,hf⟩:=fin _ _ _ _ ((k3.trans k5).trans k4) hv (by
  by_cases h:b<0
  ·have:¬a<0:=by intro h2;apply hs;simp[h,h2]
   simp[h];omega
  ·have:a<0:=by apply Decidable.byContradiction;intro h2;apply hs;simp[h,h2]
   simp[h];omega);unfold V.one at ke;simp[Cd,ke,ag,bO,r4];exact hf _ (by simp[ay])
def Qm(hx:In h N x a)(hy:In h N y b)(la:wl a<500000000000)(lb:wl b<500000000000):Fn A.C 163 [x,y] h N (fun v h' n'=>In h' n' v (a+b)):=by
 intro w;rw[aN,A.k163 (by simp)];obtain⟨n1,u1,rfl,o1⟩:=hx.cells;obtain⟨n2,u2,rfl,o2⟩:=hy.cells;have kk:=aM (aM (aM (ab.refl (h:=h) (n:=N)) (.cells [.int .i64 n1,u1] 121 true)) (.cells [.int .i64 n2,u2] 121 true)) (.cells [.int .i64 0,.aa] 121 true);unfold V.one at o1 o2;have go:∀r:T V,r.get 2=some (.ptr N 0)->r.get 3=some (.ptr (N+1) 0)->r.get 4=some (.ptr (N+2) 0)->bD A.C [.fin [.cell 4 (some 2)] ⟨h,N,w⟩] (ff (A.C.code none A.oF ⟨r,67,[]⟩ ⟨((h.set N (.cells [.int .i64 n1,u1] 121 true)).set (N+1) (.cells [.int .i64 n2,u2] 121 true)).set (N+1+1) (.cells [.int .i64 0,.aa] 121 true),N+1+1+1,[]⟩)) (EU (ax (fun v h' n'=>In h' n' v (a+b)) h N w)):=by intro r r2 r3 r4;refine mJ (Ynj (hx.ad kk) (hy.ad kk) la lb kk (by simp) (by simp) (by simp) r2 r3 r4) ?_;rintro e fr ⟨h5,n5,w5⟩ ⟨rfl,r',rfl,Qn,hW,hK,n6,u6,g6,hi⟩;simp only at hW hK g6 hi;simp[Qn,g6,aQ,aL,ax,hW];exact⟨hK,hi⟩
 rcases id hx with⟨e1,s1,s2⟩|⟨i,o,l,c,e1,_⟩
 ·simp only[V.agg.injEq,iH,V.int.injEq,true_and,and_true]at e1;obtain⟨rfl,rfl⟩:=e1;rcases id hy with⟨e2,t1,t2⟩|⟨i,o,l,c,e2,_⟩
  ·simp only[V.agg.injEq,iH,V.int.injEq,true_and,and_true]at e2;obtain⟨rfl,rfl⟩:=e2;by_cases CG: -9223372036854775808<=n1+n2/\n1+n2<9223372036854775808
   ·have w1:bo .i64 (n1+n2)=n1+n2:=cP (by omega) (by omega);by_cases hp:0<n2
    ·have c1:n1<n1+n2:=by omega
     simp[A.b163,aQ,aL,ag,bh,w1,hp,c1,ax];exact⟨kk.set (by omega),In.small (by omega) (by omega)⟩
    have c1:¬n1<n1+n2:=by omega
    simp[A.b163,aQ,aL,ag,bh,w1,hp,c1,ax];exact⟨kk.set (by omega),In.small (by omega) (by omega)⟩
   obtain⟨y,uf⟩:∃y,bo .i64 (n1+n2)=y:=⟨_,rfl⟩;have yP:y=n1+n2-18446744073709551616/\0<n2\/y=n1+n2+18446744073709551616/\¬0<n2:=by rw[<-uf,Bw];simp only[IntKind.wrap,IntKind.bits,IntKind.signed];simp;omega
   by_cases hp:0<n2
   ·have c1:¬n1<y:=by omega
    simp[A.b163,aQ,bh,uf,hp,c1];exact go _ (by simp) (by simp) (by simp)
   have c1:n1<y:=by omega
   simp[A.b163,aQ,bh,uf,hp,c1];exact go _ (by simp) (by simp) (by simp)
  simp only[V.agg.injEq,iH,V.int.injEq,true_and,and_true]at e2;obtain⟨rfl,rfl⟩:=e2;simp[A.b163,aQ,bh];exact go _ (by simp) (by simp) (by simp)
 simp only[V.agg.injEq,iH,V.int.injEq,true_and,and_true]at e1;obtain⟨rfl,rfl⟩:=e1;simp[A.b163,aQ,bh,o2];exact go _ (by simp) (by simp) (by simp)
def Ynu(hx:In h N x a)(hy:In h N y b)(la:wl a<500000000000)(lb:wl b<500000000000):Fn A.C 225 [x,y] h N (fun v h' n'=>In h' n' v (a-b)):=by
 intro w;rw[aN,A.k225 (by simp)];obtain⟨n1,u1,rfl,o1⟩:=hx.cells;obtain⟨n2,u2,rfl,o2⟩:=hy.cells;have kk:=aM (aM (aM (ab.refl (h:=h) (n:=N)) (.cells [.int .i64 n1,u1] 121 true)) (.cells [.int .i64 n2,u2] 121 true)) (.cells [.int .i64 0,.aa] 121 true);have Pj:=MG (hy.ad kk) lb;have mq:=hx.ad kk;unfold V.one at o1 o2;simp[A.b225,aQ,aL,o1,o2];refine av Pj ?_;rintro v h1 kp k1 hv;simp[];refine av (Qm (mq.ad k1) hv la (by rw[Qg];exact lb)) ?_;rintro v2 h2 mw k2 kK;obtain⟨n5,u5,rfl,ke⟩:=kK.cells;unfold V.one at ke;have k12:=k1.trans k2;have wE:=k12.le;have g2:=k12.get (N+1+1) (by omega);simp at g2;have aC:N+1+1<mw:=by omega
 have eK:N+1+1<kp:=by have:=k1.le;omega
 simp[g2,ke,ag,bO,aC,eK,cQ.cU,ax];have he:a+ -b=a-b:=by omega
 rw[he]at kK;exact⟨(kk.trans k12).set (by omega),kK.aI g2 (by simp) rfl⟩
def Yk2{H:T O}{n1 n2:Int}{u1 u2:V}{r0:T V}(hx:In H (N+3) (.agg [.int .i64 n1,u1]) a)(hy:In H (N+3) (.agg [.int .i64 n2,u2]) b)(la:wl a<500000000000)(lb:wl b<500000000000)(hK:ab h N H (N+3))
  (gx:H.get N=some (.cells [.int .i64 n1,u1] 121 true)) (gy:H.get (N+1)=some (.cells [.int .i64 n2,u2] 121 true)) (gz:H.get (N+2)=some (.cells [.int .i64 0,.aa] 121 true)) (r2:r0.get 2=some (.ptr N 0)) (r3:r0.get 3=some (.ptr (N+1) 0)) (r4:r0.get 4=some (.ptr (N+2) 0)):
  Code A.C none A.oG ⟨r0,66,[]⟩ ⟨H,N+3,[]⟩ (fun e fr st=>e=.ret/\∃r,fr=⟨r,66,[]⟩/\r.get 4=some (.ptr (N+2) 0)/\Kg h N (N+2) (a*b) st):=by
 rw[bu];simp[A.oG,r2,gx,aQ,aL];refine av (Fq hx) ?_;rintro _ h1 N1 k1 ⟨ua,rfl,Qh⟩;have fL:=k1.le;have Qi:=(k1.get (N+1) (by omega)).trans gy;have gz1:=(k1.get (N+2) (by omega)).trans gz;simp[r3,Qi,aQ,aL];refine av (Fq (hy.ad k1)) ?_;rintro _ h2 N2 k2 ⟨ub,rfl,Kh⟩;have iU:=k2.le;have gz2:=(k2.get (N+2) (by omega)).trans gz1;have xH:=Qh.ad k2;have Ht:(aH a.natAbs).length<500000000000:=la;have UU:(aH b.natAbs).length<500000000000:=lb;have kA:=(hK.trans k1).trans k2;have Qj:=Fu a b;simp[bh];refine av (Zwy xH Kh (by omega) (by omega)) ?_;rintro v h3 N3 k3 hv;have hmul:a.natAbs*b.natAbs=(a*b).natAbs:=(ye a b).symm;rw[hmul]at hv;simp[];refine av (Hp hv (by unfold wl at Qj la lb;omega)) ?_;rintro v h4 N4 k4 hv;obtain⟨n5,u5,rfl,ke⟩:=hv.cells;have Cd:=((k3.trans k4).get (N+2) (by omega)).trans gz2;have xD:=(k3.trans k4).le;unfold V.one at ke;have hs:=Zzh a b;have he:(if (!decide (a<0)==decide (b<0))=true then -((a*b).natAbs:Int) else (a*b).natAbs)=a*b:=by
  have h0:a=0\/b=0->a*b=0:=by rintro(rfl|rfl)<;>simp
  by_cases h1:a<0<;>by_cases h2:b<0<;>simp[h1,h2]at hs ⊢<;>omega
 rw[he]at hv;simp[Cd,ke,ag,bO,r4];exact⟨by simp[ay],((kA.trans k3).trans k4).set (by omega),n5,u5,by simp,hv.aI Cd (by simp) rfl⟩
def Ce(hx:In h N x a)(hy:In h N y b)(la:wl a<500000000000)(lb:wl b<500000000000):Fn A.C 165 [x,y] h N (fun v h' n'=>In h' n' v (a*b)):=by
 intro w;rw[aN,A.k165 (by simp)];obtain⟨n1,u1,rfl,o1⟩:=hx.cells;obtain⟨n2,u2,rfl,o2⟩:=hy.cells;have kk:=aM (aM (aM (ab.refl (h:=h) (n:=N)) (.cells [.int .i64 n1,u1] 121 true)) (.cells [.int .i64 n2,u2] 121 true)) (.cells [.int .i64 0,.aa] 121 true);unfold V.one at o1 o2;have go:∀r:T V,r.get 2=some (.ptr N 0)->r.get 3=some (.ptr (N+1) 0)->r.get 4=some (.ptr (N+2) 0)->bD A.C [.fin [.cell 4 (some 2)] ⟨h,N,w⟩] (ff (A.C.code none A.oG ⟨r,66,[]⟩ ⟨((h.set N (.cells [.int .i64 n1,u1] 121 true)).set (N+1) (.cells [.int .i64 n2,u2] 121 true)).set (N+1+1) (.cells [.int .i64 0,.aa] 121 true),N+1+1+1,[]⟩)) (EU (ax (fun v h' n'=>In h' n' v (a*b)) h N w)):=by intro r r2 r3 r4;refine mJ (Yk2 (hx.ad kk) (hy.ad kk) la lb kk (by simp) (by simp) (by simp) r2 r3 r4) ?_;rintro e fr ⟨h5,n5,w5⟩ ⟨rfl,r',rfl,Qn,hW,hK,n6,u6,g6,hi⟩;simp only at hW hK g6 hi;simp[Qn,g6,aQ,aL,ax,hW];exact⟨hK,hi⟩
 rcases id hx with⟨e1,s1,s2⟩|⟨i,o,l,c,e1,_⟩
 ·simp only[V.agg.injEq,iH,V.int.injEq,true_and,and_true]at e1;obtain⟨rfl,rfl⟩:=e1;rcases id hy with⟨e2,t1,t2⟩|⟨i,o,l,c,e2,_⟩
  ·simp only[V.agg.injEq,iH,V.int.injEq,true_and,and_true]at e2;obtain⟨rfl,rfl⟩:=e2;have z1:=fun st=>Zwc s1 s2 (st:=st);have z2:=fun st=>Zwc t1 t2 (st:=st);have hm:n1.natAbs*n2.natAbs=(n1*n2).natAbs:=(ye _ _).symm;have gT:bA (n1.natAbs*n2.natAbs)+18446744073709551616*cy (n1.natAbs*n2.natAbs)=(n1*n2).natAbs:=by rw[<-hm];have:=vM (n1.natAbs*n2.natAbs) 18446744073709551616;unfold bA cy;omega
   have Qo:=Zzh n1 n2;obtain⟨hi,iS⟩:∃x,cy (n1.natAbs*n2.natAbs)=x:=⟨_,rfl⟩;obtain⟨lo,B3⟩:∃x,bA (n1.natAbs*n2.natAbs)=x:=⟨_,rfl⟩;rw[iS,B3]at gT;have hz:n1=0\/n2=0->n1*n2=0:=by rintro(rfl|rfl)<;>simp
   simp[A.b165,aQ,bh,z1,z2];refine av (OT (x:=n1.natAbs) (y:=n2.natAbs) (by omega) (by omega)) ?_;rintro _ h' N' k ⟨rfl,rfl,rfl⟩;rw[iS,B3];by_cases h0:hi=0
   ·by_cases h1:lo<=9223372036854775807
    ·have h_:(lo:Int)<=9223372036854775807:=by omega
     have w1:bo .i64 (lo:Int)=lo:=cP (by omega) (by omega);have w2:IntKind.wrap .i64 (-(lo:Int))= -(lo:Int):=Oq (by omega) (by omega);by_cases hs:(n1<0)=(n2<0)
     ·have iY:(decide (n1<0)==decide (n2<0))=true:=by simp[hs]
      have hp:¬n1*n2<0:=by rw[Qo];rintro⟨p,_⟩;exact p hs
      have he:(lo:Int)=n1*n2:=by omega
      simp[aQ,aL,ag,bh,h0,h_,iY,w1,ax,cQ.cU];exact⟨kk.set (by omega),by rw[<-he];exact In.small (by omega) (by omega)⟩
     have iY:(decide (n1<0)==decide (n2<0))=false:=by by_cases h:n1<0<;>by_cases h':n2<0<;>simp_all
     have he: -(lo:Int)=n1*n2:=by
      by_cases hq:n1=0\/n2=0
      ·have:=hz hq;omega
      have:n1*n2<0:=Qo.2 ⟨hs,fun h=>hq (.inl h),fun h=>hq (.inr h)⟩;omega
     simp[aQ,aL,ag,bh,h0,h_,iY,w1,w2,ax,cQ.cU];exact⟨kk.set (by omega),by rw[<-he];exact In.small (by omega) (by omega)⟩
    have h_:¬(lo:Int)<=9223372036854775807:=by omega
    simp[h0,h_,cQ.cU];exact go _ (by simp) (by simp) (by simp)
   simp[h0,cQ.cU];exact go _ (by simp) (by simp) (by simp)
  simp only[V.agg.injEq,iH,V.int.injEq,true_and,and_true]at e2;obtain⟨rfl,rfl⟩:=e2;simp[A.b165,aQ,bh];exact go _ (by simp) (by simp) (by simp)
 simp only[V.agg.injEq,iH,V.int.injEq,true_and,and_true]at e1;obtain⟨rfl,rfl⟩:=e1;simp[A.b165,aQ,bh,o2];exact go _ (by simp) (by simp) (by simp)
def Yoy(hx:In h N x a)(hy:In h N y b)(la:wl a<100000000000)(lb:wl b<100000000000):Fn A.C 197 [x,y] h N (fun v _ _=>v=.int .i64 (eE (a-b))):=by
 intro w;rw[aN,A.k197 (by simp)];obtain⟨n1,u1,rfl,o1⟩:=hx.cells;obtain⟨n2,u2,rfl,o2⟩:=hy.cells;have kk:=aM (aM (ab.refl (h:=h) (n:=N)) (.cells [.int .i64 n1,u1] 121 true)) (.cells [.int .i64 n2,u2] 121 true);have Dv:=Ynu (hx.ad kk) (hy.ad kk) (by omega) (by omega);have Qj:=Ydz a (-b);rw[Qg]at Qj;unfold V.one at o1 o2;rcases id hx with⟨e1,s1,s2⟩|⟨i,o,l,c,e1,_⟩
 ·simp only[V.agg.injEq,iH,V.int.injEq,true_and,and_true]at e1;obtain⟨rfl,rfl⟩:=e1;rcases id hy with⟨e2,t1,t2⟩|⟨i,o,l,c,e2,_⟩
  ·simp only[V.agg.injEq,iH,V.int.injEq,true_and,and_true]at e2;obtain⟨rfl,rfl⟩:=e2;by_cases h1:n1<n2
   ·simp[A.b197,aQ,ax,bh,h1];exact⟨kk,by unfold eE;rw[ar (by omega)]⟩
   by_cases h2:n2<n1
   ·simp[A.b197,aQ,ax,bh,h1,h2];exact⟨kk,by unfold eE;rw[ak (by omega),ak (by omega)]⟩
   simp[A.b197,aQ,ax,bh,h1,h2];exact⟨kk,by unfold eE;rw[ak (by omega),ar (by omega)]⟩
  simp only[V.agg.injEq,iH,V.int.injEq,true_and,and_true]at e2;obtain⟨rfl,rfl⟩:=e2;simp[A.b197,aQ,aL,bh];refine av Dv ?_;rintro v h1 kp k1 hv;simp[];refine av (J8 hv) ?_;rintro _ h2 mw k2 rfl;simp[ax];exact(kk.trans k1).trans k2
 simp only[V.agg.injEq,iH,V.int.injEq,true_and,and_true]at e1;obtain⟨rfl,rfl⟩:=e1;simp[A.b197,aQ,aL,bh,o2];refine av Dv ?_;rintro v h1 kp k1 hv;simp[];refine av (J8 hv) ?_;rintro _ h2 mw k2 rfl;simp[ax];exact(kk.trans k1).trans k2
def Yo4(hx:In h N x a)(la:wl a<500000000000):Fn A.C 223 [x] h N (fun v h' n'=>In h' n' v (a.natAbs:Int)):=by
 intro w;rw[aN,A.k223 (by simp)];obtain⟨n1,u1,rfl,o1⟩:=hx.cells;have kk:=aM (aM (ab.refl (h:=h) (n:=N)) (.cells [.int .i64 n1,u1] 121 true)) (.cells [.int .i64 0,.aa] 121 true);have Pj:=MG (hx.ad kk) la;have Ii:(n1<0)=(a<0):=by
  rcases hx with⟨e1,s1,s2⟩|⟨i,o,l,c,e1,_⟩
  ·simp only[V.agg.injEq,iH,V.int.injEq,true_and,and_true]at e1;rw[e1.1]
  simp only[V.agg.injEq,iH,V.int.injEq,true_and,and_true]at e1;rw[e1.1];unfold zO;split<;>simp_all
 unfold V.one at o1;by_cases h0:a<0
 ·have h1:n1<0:=by rw[Ii];exact h0
  simp[A.b223,aQ,aL,o1,h1];refine av Pj ?_;rintro v h2 n2 k2 hv;obtain⟨n5,u5,rfl,ke⟩:=hv.cells;unfold V.one at ke;have g2:=k2.get (N+1) (by omega);simp at g2;have he:(-a)=(a.natAbs:Int):=by omega
  rw[he]at hv;simp[g2,ke,ag,bO,aQ,aL,ax];exact⟨(kk.trans k2).set (by omega),hv.aI g2 (by simp) rfl⟩
 have h1:¬n1<0:=by rw[Ii];exact h0
 have he:a=(a.natAbs:Int):=by omega
 rw[he]at hx;simp[A.b223,aQ,aL,ag,bO,o1,h1,ax];exact⟨kk.set (by omega),(hx.ad kk).aI (i:=N+1) (c0:=[.int .i64 0,.aa]) (e0:=121) (w0:=true) (by simp) (by simp) rfl⟩
end
end Go.Mx
