/-num-/
import Derived.Test.YtgccnjdneojagaaGreatDoorNaD
set_option linter.all false
namespace Go.Mx
noncomputable section
open Go Go.Proofs
variable {N:Nat} {a b:Int} {h:T O} {x y:V}
set_option maxHeartbeats 1000000
set_option maxRecDepth 1000000
def A.Qq:=A.q Tryz.f172
def A.oT:=A.qt A.Qq [] [] [1,1]
def A.b172:=(fun y0=>A.qt A.Qq [] [([1,1],y0)] []) A.oT
def A.k172:=@A.kk 172 67 [.cell 4 (some 2)] A.b172 (by kernel_rfl) rfl
def A.b234:=A.q Tryz.f234
def A.k234:=@A.kk 234 9 [.cell 4 (some 2)] A.b234 (by kernel_rfl) rfl
def A.Qr:=A.q Tryz.f140
def A.oV:=A.qt A.Qr [] [] [1,1]
def A.b140:=(fun y0=>A.qt A.Qr [] [([1,1],y0)] []) A.oV
def A.k140:=@A.kk 140 66 [.cell 4 (some 2)] A.b140 (by kernel_rfl) rfl
def A.b201:=A.q Tryz.f201
def A.k201:=@A.kk 201 29 [.tmp 4] A.b201 (by kernel_rfl) rfl
structure Kd (h:T O) (N q:Nat) (z:Int) (st:St):Prop where
 w:ay N st.w=[]
 ad:ab h N st.h st.n
 ex:∃n u,st.h.get q=some (.cells [.int .i64 n,u] 94 true)/\In st.h st.n (.agg [.int .i64 n,u]) z
def Yaq(a b:Int):(a*b<0)↔((a<0)≠(b<0))/\a≠0/\b≠0:=by
 rcases Int.lt_trichotomy a 0 with ha|ha|ha<;>rcases Int.lt_trichotomy b 0 with hb|hb|hb
 ·have:=Int.mul_pos_of_neg_of_neg ha hb;simp[ha,hb];omega
 ·subst hb;simp
 ·have:=Int.mul_neg_of_neg_of_pos ha hb;have h1:¬b<0:=by omega
  simp[ha,h1,this];omega
 ·subst ha;simp
 ·subst ha;simp
 ·subst ha;simp
 ·have:=Int.mul_neg_of_pos_of_neg ha hb;have h1:¬a<0:=by omega
  simp[hb,h1,this];omega
 ·subst hb;simp
 have:=Int.mul_pos ha hb;have h1:¬a<0:=by omega
 have h2:¬b<0:=by omega
 simp[h1,h2];omega
def Zhl{n k:Nat}(h:n<B^k):(aJ n).length<=k:=by apply AG;intro hc;obtain⟨j,hj⟩:∃j,(aJ n).length=j+1:=⟨(aJ n).length-1,by omega⟩;have:=(J0 hj).1;have:=rO (show 0<B by decide) (show k<=j by omega);omega
def Vj(n:Nat):n<B^(aJ n).length:=by have:=Hf (tK n);rwa [oO]at this
def Ye3(a b:Int):wl (a+b)<=max (wl a) (wl b)+1:=by unfold wl;apply Zhl;have h1:=Vj a.natAbs;have h2:=Vj b.natAbs;have h3:=rO (show 0<B by decide) (Ey (aJ a.natAbs).length (aJ b.natAbs).length);have h4:=rO (show 0<B by decide) (Eu (aJ a.natAbs).length (aJ b.natAbs).length);rw[im];generalize B^max (aJ a.natAbs).length (aJ b.natAbs).length=p at*;have:p*2<=p*B:=lF p (by decide);omega
def Qs(a:Int):wl (-a)=wl a:=by unfold wl;rw[yE]
def Ke(a b:Int):wl (a*b)<=wl a+wl b:=by unfold wl;apply Zhl;rw[wS,mJ];have h1:=Vj a.natAbs;have h2:=Vj b.natAbs;exact C2 h1 h2
def Kg(h:a.natAbs<=b.natAbs):wl a<=wl b:=Hk h
def Yo1{H:T O}{n1 n2:Int}{u1 u2:V}{r0:T V}(hx:In H (N+3) (.agg [.int .i64 n1,u1]) a)(hy:In H (N+3) (.agg [.int .i64 n2,u2]) b)(la:wl a<500000000000)(lb:wl b<500000000000)(hK:ab h N H (N+3))
  (gx:H.get N=some (.cells [.int .i64 n1,u1] 94 true)) (gy:H.get (N+1)=some (.cells [.int .i64 n2,u2] 94 true)) (gz:H.get (N+2)=some (.cells [.int .i64 0,.aa] 94 true)) (r2:r0.get 2=some (.ptr N 0)) (r3:r0.get 3=some (.ptr (N+1) 0)) (r4:r0.get 4=some (.ptr (N+2) 0)):
  Code A.C none A.oT ⟨r0,67,[]⟩ ⟨H,N+3,[]⟩ (fun e fr st=>e=.ret/\∃r,fr=⟨r,67,[]⟩/\r.get 4=some (.ptr (N+2) 0)/\Kd h N (N+2) (a+b) st):=by
 rw[bu];simp[A.oT,r2,gx,aS,aP];refine ar (Fp hx) ?_;rintro _ h1 N1 k1 ⟨ua,rfl,Qt⟩;have fM:=k1.le;have Qu:=(k1.get (N+1) (by omega)).trans gy;have gz1:=(k1.get (N+2) (by omega)).trans gz;simp[r3,Qu,aS,aP];refine ar (Fp (hy.ad k1)) ?_;rintro _ h2 N2 k2 ⟨ub,rfl,Kh⟩;have iX:=k2.le;have gz2:=(k2.get (N+2) (by omega)).trans gz1;have ye:=Qt.ad k2;have Hu:(aJ a.natAbs).length<500000000000:=la;have Vk:(aJ b.natAbs).length<500000000000:=lb;have kA:=(hK.trans k1).trans k2;have Qv:=Ye3 a b;have fin:∀(z:Int) (v:V) (h4:T O) (n4:Nat),ab h2 N2 h4 n4->In h4 n4 v z->z=a+b->∃(n5:Int) (u5:V),v=.agg [.int .i64 n5,u5]/\V.one u5=true/\h4.get (N+2)=some (.cells [.int .i64 0,.aa] 94 true)/\∀W,ay N W=[]->Kd h N (N+2) (a+b) ⟨h4.set (N+2) (.cells [.int .i64 n5,u5] 94 true),n4,W⟩:=by intro z v h4 n4 k4 hv hz;obtain⟨n5,u5,rfl,kQ⟩:=hv.cells;have Cl:=(k4.get (N+2) (by omega)).trans gz2;subst hz;exact⟨n5,u5,rfl,kQ,Cl,fun W hW=>⟨hW,(kA.trans k4).set (by omega),n5,u5,by simp,hv.aI Cl (by simp) rfl⟩⟩
 by_cases hs:(a<0)=(b<0)
 ·have jv:(decide (a<0)==decide (b<0))=true:=by simp[hs]
  simp[bA,jv];refine ar (Zzl ye Kh (by omega) (by omega)) ?_;rintro v h3 N3 k3 hv;have wZ:a.natAbs+b.natAbs=(a+b).natAbs:=by
   by_cases h:a<0
   ·have:b<0:=by rw[hs]at h;exact h
    omega
   have:¬b<0:=by rw[hs]at h;exact h
   omega
  rw[wZ]at hv;simp[];refine ar (Hl hv (by unfold wl at Qv la lb;omega)) ?_;rintro v h4 N4 k4 hv;obtain⟨n5,u5,rfl,kQ,Cl,hf⟩:=fin _ _ _ _ (k3.trans k4) hv (by
   by_cases h:a<0
   ·have:b<0:=by rw[hs]at h;exact h
    simp[h];omega
   ·have:¬b<0:=by rw[hs]at h;exact h
    simp[h];omega);unfold V.one at kQ;simp[Cl,kQ,ae,bO,r4];exact hf _ (by simp[ay])
 have jv:(decide (a<0)==decide (b<0))=false:=by by_cases h:a<0<;>by_cases h':b<0<;>simp_all
 simp[bA,jv];refine ar (Zi9 ye Kh (by omega) (by omega)) ?_;rintro _ h3 N3 k3 rfl;have Qw:=ye.ad k3;have Qx:=Kh.ad k3;by_cases hc:b.natAbs<=a.natAbs
 ·have c1:(0:Int)<=ya a.natAbs b.natAbs:=by unfold ya;split<;>(try split)<;>omega
  simp[c1];refine ar (Zo8 Qw Qx hc (by omega) (by omega)) ?_;rintro v h5 N5 k5 hv;simp[];refine ar (Hl hv (by have:=Hk (show a.natAbs-b.natAbs<=a.natAbs by omega);omega)) ?_;rintro v h4 N4 k4 hv;obtain⟨n5,u5,rfl,kQ,Cl,hf⟩:=fin _ _ _ _ ((k3.trans k5).trans k4) hv (by
   by_cases h:a<0
   ·have:¬b<0:=by intro h2;apply hs;simp[h,h2]
    simp[h];omega
   ·have:b<0:=by apply Decidable.byContradiction;intro h2;apply hs;simp[h,h2]
    simp[h];omega);unfold V.one at kQ;simp[Cl,kQ,ae,bO,r4];exact hf _ (by simp[ay])
 have c1:¬(0:Int)<=ya a.natAbs b.natAbs:=by unfold ya;split<;>(try split)<;>omega
 simp[c1];refine ar (Zo8 Qx Qw (by omega) (by omega) (by omega)) ?_;rintro v h5 N5 k5 hv;simp[];refine ar (Hl hv (by have:=Hk (show b.natAbs-a.natAbs<=b.natAbs by omega);omega)) ?_;rintro v h4 N4 k4 hv;obtain⟨n5,u5,rfl,kQ,Cl,hf⟩:=fin _ _ _ _ ((k3.trans k5).trans k4) hv (by
  by_cases h:b<0
  ·have:¬a<0:=by intro h2;apply hs;simp[h,h2]
   simp[h];omega
  ·have:a<0:=by apply Decidable.byContradiction;intro h2;apply hs;simp[h,h2]
   simp[h];omega);unfold V.one at kQ;simp[Cl,kQ,ae,bO,r4];exact hf _ (by simp[ay])
def Qy(hx:In h N x a)(hy:In h N y b)(la:wl a<500000000000)(lb:wl b<500000000000):Fn A.C 172 [x,y] h N (fun v h' n'=>In h' n' v (a+b)):=by
 intro w;rw[aQ,A.k172 (by simp)];obtain⟨n1,u1,rfl,o1⟩:=hx.cells;obtain⟨n2,u2,rfl,o2⟩:=hy.cells;have kk:=aR (aR (aR (ab.refl (h:=h) (n:=N)) (.cells [.int .i64 n1,u1] 94 true)) (.cells [.int .i64 n2,u2] 94 true)) (.cells [.int .i64 0,.aa] 94 true);unfold V.one at o1 o2;have go:∀r:T V,r.get 2=some (.ptr N 0)->r.get 3=some (.ptr (N+1) 0)->r.get 4=some (.ptr (N+2) 0)->bE A.C [.fin [.cell 4 (some 2)] ⟨h,N,w⟩] (fl (A.C.code none A.oT ⟨r,67,[]⟩ ⟨((h.set N (.cells [.int .i64 n1,u1] 94 true)).set (N+1) (.cells [.int .i64 n2,u2] 94 true)).set (N+1+1) (.cells [.int .i64 0,.aa] 94 true),N+1+1+1,[]⟩)) (EU (az (fun v h' n'=>In h' n' v (a+b)) h N w)):=by intro r r2 r3 r4;refine mO (Yo1 (hx.ad kk) (hy.ad kk) la lb kk (by simp) (by simp) (by simp) r2 r3 r4) ?_;rintro e fr ⟨h5,n5,w5⟩ ⟨rfl,r',rfl,Qz,hW,hK,n6,u6,g6,hi⟩;simp only at hW hK g6 hi;simp[Qz,g6,aS,aP,az,hW];exact⟨hK,hi⟩
 rcases id hx with⟨e1,s1,s2⟩|⟨i,o,l,c,e1,_⟩
 ·simp only[V.agg.injEq,jc,V.int.injEq,true_and,and_true]at e1;obtain⟨rfl,rfl⟩:=e1;rcases id hy with⟨e2,t1,t2⟩|⟨i,o,l,c,e2,_⟩
  ·simp only[V.agg.injEq,jc,V.int.injEq,true_and,and_true]at e2;obtain⟨rfl,rfl⟩:=e2;by_cases CW: -9223372036854775808<=n1+n2/\n1+n2<9223372036854775808
   ·have w1:bn .i64 (n1+n2)=n1+n2:=cL (by omega) (by omega);by_cases hp:0<n2
    ·have c1:n1<n1+n2:=by omega
     simp[A.b172,aS,aP,ae,bA,w1,hp,c1,az];exact⟨kk.set (by omega),In.small (by omega) (by omega)⟩
    have c1:¬n1<n1+n2:=by omega
    simp[A.b172,aS,aP,ae,bA,w1,hp,c1,az];exact⟨kk.set (by omega),In.small (by omega) (by omega)⟩
   obtain⟨y,uS⟩:∃y,bn .i64 (n1+n2)=y:=⟨_,rfl⟩;have zj:y=n1+n2-18446744073709551616/\0<n2\/y=n1+n2+18446744073709551616/\¬0<n2:=by rw[<-uS,BF];simp only[IntKind.wrap,IntKind.bits,IntKind.signed];simp;omega
   by_cases hp:0<n2
   ·have c1:¬n1<y:=by omega
    simp[A.b172,aS,bA,uS,hp,c1];exact go _ (by simp) (by simp) (by simp)
   have c1:n1<y:=by omega
   simp[A.b172,aS,bA,uS,hp,c1];exact go _ (by simp) (by simp) (by simp)
  simp only[V.agg.injEq,jc,V.int.injEq,true_and,and_true]at e2;obtain⟨rfl,rfl⟩:=e2;simp[A.b172,aS,bA];exact go _ (by simp) (by simp) (by simp)
 simp only[V.agg.injEq,jc,V.int.injEq,true_and,and_true]at e1;obtain⟨rfl,rfl⟩:=e1;simp[A.b172,aS,bA,o2];exact go _ (by simp) (by simp) (by simp)
def Ypb(hx:In h N x a)(hy:In h N y b)(la:wl a<500000000000)(lb:wl b<500000000000):Fn A.C 234 [x,y] h N (fun v h' n'=>In h' n' v (a-b)):=by
 intro w;rw[aQ,A.k234 (by simp)];obtain⟨n1,u1,rfl,o1⟩:=hx.cells;obtain⟨n2,u2,rfl,o2⟩:=hy.cells;have kk:=aR (aR (aR (ab.refl (h:=h) (n:=N)) (.cells [.int .i64 n1,u1] 94 true)) (.cells [.int .i64 n2,u2] 94 true)) (.cells [.int .i64 0,.aa] 94 true);have Pf:=MH (hy.ad kk) lb;have kL:=hx.ad kk;unfold V.one at o1 o2;simp[A.b234,aS,aP,o1,o2];refine ar Pf ?_;rintro v h1 oF k1 hv;simp[];refine ar (Qy (kL.ad k1) hv la (by rw[Qs];exact lb)) ?_;rintro v2 h2 nW k2 jQ;obtain⟨n5,u5,rfl,kQ⟩:=jQ.cells;unfold V.one at kQ;have k12:=k1.trans k2;have uM:=k12.le;have g2:=k12.get (N+1+1) (by omega);simp at g2;have aE:N+1+1<nW:=by omega
 have fb:N+1+1<oF:=by have:=k1.le;omega
 simp[g2,kQ,ae,bO,aE,fb,dv.dw,az];have he:a+ -b=a-b:=by omega
 rw[he]at jQ;exact⟨(kk.trans k12).set (by omega),jQ.aI g2 (by simp) rfl⟩
def Ymn{H:T O}{n1 n2:Int}{u1 u2:V}{r0:T V}(hx:In H (N+3) (.agg [.int .i64 n1,u1]) a)(hy:In H (N+3) (.agg [.int .i64 n2,u2]) b)(la:wl a<500000000000)(lb:wl b<500000000000)(hK:ab h N H (N+3))
  (gx:H.get N=some (.cells [.int .i64 n1,u1] 94 true)) (gy:H.get (N+1)=some (.cells [.int .i64 n2,u2] 94 true)) (gz:H.get (N+2)=some (.cells [.int .i64 0,.aa] 94 true)) (r2:r0.get 2=some (.ptr N 0)) (r3:r0.get 3=some (.ptr (N+1) 0)) (r4:r0.get 4=some (.ptr (N+2) 0)):
  Code A.C none A.oV ⟨r0,66,[]⟩ ⟨H,N+3,[]⟩ (fun e fr st=>e=.ret/\∃r,fr=⟨r,66,[]⟩/\r.get 4=some (.ptr (N+2) 0)/\Kd h N (N+2) (a*b) st):=by
 rw[bu];simp[A.oV,r2,gx,aS,aP];refine ar (Fp hx) ?_;rintro _ h1 N1 k1 ⟨ua,rfl,Qt⟩;have fM:=k1.le;have Qu:=(k1.get (N+1) (by omega)).trans gy;have gz1:=(k1.get (N+2) (by omega)).trans gz;simp[r3,Qu,aS,aP];refine ar (Fp (hy.ad k1)) ?_;rintro _ h2 N2 k2 ⟨ub,rfl,Kh⟩;have iX:=k2.le;have gz2:=(k2.get (N+2) (by omega)).trans gz1;have ye:=Qt.ad k2;have Hu:(aJ a.natAbs).length<500000000000:=la;have Vk:(aJ b.natAbs).length<500000000000:=lb;have kA:=(hK.trans k1).trans k2;have Qv:=Ke a b;simp[bA];refine ar (Zx6 ye Kh (by omega) (by omega)) ?_;rintro v h3 N3 k3 hv;have hmul:a.natAbs*b.natAbs=(a*b).natAbs:=(wS a b).symm;rw[hmul]at hv;simp[];refine ar (Hl hv (by unfold wl at Qv la lb;omega)) ?_;rintro v h4 N4 k4 hv;obtain⟨n5,u5,rfl,kQ⟩:=hv.cells;have Cl:=((k3.trans k4).get (N+2) (by omega)).trans gz2;have we:=(k3.trans k4).le;unfold V.one at kQ;have hs:=Yaq a b;have he:(if (!decide (a<0)==decide (b<0))=true then -((a*b).natAbs:Int) else (a*b).natAbs)=a*b:=by
  have h0:a=0\/b=0->a*b=0:=by rintro(rfl|rfl)<;>simp
  by_cases h1:a<0<;>by_cases h2:b<0<;>simp[h1,h2]at hs ⊢<;>omega
 rw[he]at hv;simp[Cl,kQ,ae,bO,r4];exact⟨by simp[ay],((kA.trans k3).trans k4).set (by omega),n5,u5,by simp,hv.aI Cl (by simp) rfl⟩
def Fu(hx:In h N x a)(hy:In h N y b)(la:wl a<500000000000)(lb:wl b<500000000000):Fn A.C 140 [x,y] h N (fun v h' n'=>In h' n' v (a*b)):=by
 intro w;rw[aQ,A.k140 (by simp)];obtain⟨n1,u1,rfl,o1⟩:=hx.cells;obtain⟨n2,u2,rfl,o2⟩:=hy.cells;have kk:=aR (aR (aR (ab.refl (h:=h) (n:=N)) (.cells [.int .i64 n1,u1] 94 true)) (.cells [.int .i64 n2,u2] 94 true)) (.cells [.int .i64 0,.aa] 94 true);unfold V.one at o1 o2;have go:∀r:T V,r.get 2=some (.ptr N 0)->r.get 3=some (.ptr (N+1) 0)->r.get 4=some (.ptr (N+2) 0)->bE A.C [.fin [.cell 4 (some 2)] ⟨h,N,w⟩] (fl (A.C.code none A.oV ⟨r,66,[]⟩ ⟨((h.set N (.cells [.int .i64 n1,u1] 94 true)).set (N+1) (.cells [.int .i64 n2,u2] 94 true)).set (N+1+1) (.cells [.int .i64 0,.aa] 94 true),N+1+1+1,[]⟩)) (EU (az (fun v h' n'=>In h' n' v (a*b)) h N w)):=by intro r r2 r3 r4;refine mO (Ymn (hx.ad kk) (hy.ad kk) la lb kk (by simp) (by simp) (by simp) r2 r3 r4) ?_;rintro e fr ⟨h5,n5,w5⟩ ⟨rfl,r',rfl,Qz,hW,hK,n6,u6,g6,hi⟩;simp only at hW hK g6 hi;simp[Qz,g6,aS,aP,az,hW];exact⟨hK,hi⟩
 rcases id hx with⟨e1,s1,s2⟩|⟨i,o,l,c,e1,_⟩
 ·simp only[V.agg.injEq,jc,V.int.injEq,true_and,and_true]at e1;obtain⟨rfl,rfl⟩:=e1;rcases id hy with⟨e2,t1,t2⟩|⟨i,o,l,c,e2,_⟩
  ·simp only[V.agg.injEq,jc,V.int.injEq,true_and,and_true]at e2;obtain⟨rfl,rfl⟩:=e2;have z1:=fun st=>Zxj s1 s2 (st:=st);have z2:=fun st=>Zxj t1 t2 (st:=st);have hm:n1.natAbs*n2.natAbs=(n1*n2).natAbs:=(wS _ _).symm;have gT:bC (n1.natAbs*n2.natAbs)+18446744073709551616*cE (n1.natAbs*n2.natAbs)=(n1*n2).natAbs:=by rw[<-hm];have:=wI (n1.natAbs*n2.natAbs) 18446744073709551616;unfold bC cE;omega
   have QA:=Yaq n1 n2;obtain⟨hi,iW⟩:∃x,cE (n1.natAbs*n2.natAbs)=x:=⟨_,rfl⟩;obtain⟨lo,B5⟩:∃x,bC (n1.natAbs*n2.natAbs)=x:=⟨_,rfl⟩;rw[iW,B5]at gT;have hz:n1=0\/n2=0->n1*n2=0:=by rintro(rfl|rfl)<;>simp
   simp[A.b140,aS,bA,z1,z2];refine ar (Qa (x:=n1.natAbs) (y:=n2.natAbs) (by omega) (by omega)) ?_;rintro _ h' N' k ⟨rfl,rfl,rfl⟩;rw[iW,B5];by_cases h0:hi=0
   ·by_cases h1:lo<=9223372036854775807
    ·have g_:(lo:Int)<=9223372036854775807:=by omega
     have w1:bn .i64 (lo:Int)=lo:=cL (by omega) (by omega);have w2:IntKind.wrap .i64 (-(lo:Int))= -(lo:Int):=OC (by omega) (by omega);by_cases hs:(n1<0)=(n2<0)
     ·have jv:(decide (n1<0)==decide (n2<0))=true:=by simp[hs]
      have hp:¬n1*n2<0:=by rw[QA];rintro⟨p,_⟩;exact p hs
      have he:(lo:Int)=n1*n2:=by omega
      simp[aS,aP,ae,bA,h0,g_,jv,w1,az,dv.dw];exact⟨kk.set (by omega),by rw[<-he];exact In.small (by omega) (by omega)⟩
     have jv:(decide (n1<0)==decide (n2<0))=false:=by by_cases h:n1<0<;>by_cases h':n2<0<;>simp_all
     have he: -(lo:Int)=n1*n2:=by
      by_cases hq:n1=0\/n2=0
      ·have:=hz hq;omega
      have:n1*n2<0:=QA.2 ⟨hs,fun h=>hq (.inl h),fun h=>hq (.inr h)⟩;omega
     simp[aS,aP,ae,bA,h0,g_,jv,w1,w2,az,dv.dw];exact⟨kk.set (by omega),by rw[<-he];exact In.small (by omega) (by omega)⟩
    have g_:¬(lo:Int)<=9223372036854775807:=by omega
    simp[h0,g_,dv.dw];exact go _ (by simp) (by simp) (by simp)
   simp[h0,dv.dw];exact go _ (by simp) (by simp) (by simp)
  simp only[V.agg.injEq,jc,V.int.injEq,true_and,and_true]at e2;obtain⟨rfl,rfl⟩:=e2;simp[A.b140,aS,bA];exact go _ (by simp) (by simp) (by simp)
 simp only[V.agg.injEq,jc,V.int.injEq,true_and,and_true]at e1;obtain⟨rfl,rfl⟩:=e1;simp[A.b140,aS,bA,o2];exact go _ (by simp) (by simp) (by simp)
def Yyo(hx:In h N x a)(hy:In h N y b)(la:wl a<100000000000)(lb:wl b<100000000000):Fn A.C 201 [x,y] h N (fun v _ _=>v=.int .i64 (dN (a-b))):=by
 intro w;rw[aQ,A.k201 (by simp)];obtain⟨n1,u1,rfl,o1⟩:=hx.cells;obtain⟨n2,u2,rfl,o2⟩:=hy.cells;have kk:=aR (aR (ab.refl (h:=h) (n:=N)) (.cells [.int .i64 n1,u1] 94 true)) (.cells [.int .i64 n2,u2] 94 true);have AS:=Ypb (hx.ad kk) (hy.ad kk) (by omega) (by omega);have Qv:=Ye3 a (-b);rw[Qs]at Qv;unfold V.one at o1 o2;rcases id hx with⟨e1,s1,s2⟩|⟨i,o,l,c,e1,_⟩
 ·simp only[V.agg.injEq,jc,V.int.injEq,true_and,and_true]at e1;obtain⟨rfl,rfl⟩:=e1;rcases id hy with⟨e2,t1,t2⟩|⟨i,o,l,c,e2,_⟩
  ·simp only[V.agg.injEq,jc,V.int.injEq,true_and,and_true]at e2;obtain⟨rfl,rfl⟩:=e2;by_cases h1:n1<n2
   ·simp[A.b201,aS,az,bA,h1];exact⟨kk,by unfold dN;rw[av (by omega)]⟩
   by_cases h2:n2<n1
   ·simp[A.b201,aS,az,bA,h1,h2];exact⟨kk,by unfold dN;rw[ak (by omega),ak (by omega)]⟩
   simp[A.b201,aS,az,bA,h1,h2];exact⟨kk,by unfold dN;rw[ak (by omega),av (by omega)]⟩
  simp only[V.agg.injEq,jc,V.int.injEq,true_and,and_true]at e2;obtain⟨rfl,rfl⟩:=e2;simp[A.b201,aS,aP,bA];refine ar AS ?_;rintro v h1 oF k1 hv;simp[];refine ar (J6 hv) ?_;rintro _ h2 nW k2 rfl;simp[az];exact(kk.trans k1).trans k2
 simp only[V.agg.injEq,jc,V.int.injEq,true_and,and_true]at e1;obtain⟨rfl,rfl⟩:=e1;simp[A.b201,aS,aP,bA,o2];refine ar AS ?_;rintro v h1 oF k1 hv;simp[];refine ar (J6 hv) ?_;rintro _ h2 nW k2 rfl;simp[az];exact(kk.trans k1).trans k2
def Yqr(hx:In h N x a)(la:wl a<500000000000):Fn A.C 232 [x] h N (fun v h' n'=>In h' n' v (a.natAbs:Int)):=by
 intro w;rw[aQ,A.k232 (by simp)];obtain⟨n1,u1,rfl,o1⟩:=hx.cells;have kk:=aR (aR (ab.refl (h:=h) (n:=N)) (.cells [.int .i64 n1,u1] 94 true)) (.cells [.int .i64 0,.aa] 94 true);have Pf:=MH (hx.ad kk) la;have It:(n1<0)=(a<0):=by
  rcases hx with⟨e1,s1,s2⟩|⟨i,o,l,c,e1,_⟩
  ·simp only[V.agg.injEq,jc,V.int.injEq,true_and,and_true]at e1;rw[e1.1]
  simp only[V.agg.injEq,jc,V.int.injEq,true_and,and_true]at e1;rw[e1.1];unfold Ah;split<;>simp_all
 unfold V.one at o1;by_cases h0:a<0
 ·have h1:n1<0:=by rw[It];exact h0
  simp[A.b232,aS,aP,o1,h1];refine ar Pf ?_;rintro v h2 n2 k2 hv;obtain⟨n5,u5,rfl,kQ⟩:=hv.cells;unfold V.one at kQ;have g2:=k2.get (N+1) (by omega);simp at g2;have he:(-a)=(a.natAbs:Int):=by omega
  rw[he]at hv;simp[g2,kQ,ae,bO,aS,aP,az];exact⟨(kk.trans k2).set (by omega),hv.aI g2 (by simp) rfl⟩
 have h1:¬n1<0:=by rw[It];exact h0
 have he:a=(a.natAbs:Int):=by omega
 rw[he]at hx;simp[A.b232,aS,aP,ae,bO,o1,h1,az];exact⟨kk.set (by omega),(hx.ad kk).aI (i:=N+1) (c0:=[.int .i64 0,.aa]) (e0:=94) (w0:=true) (by simp) (by simp) rfl⟩
end
end Go.Mx
