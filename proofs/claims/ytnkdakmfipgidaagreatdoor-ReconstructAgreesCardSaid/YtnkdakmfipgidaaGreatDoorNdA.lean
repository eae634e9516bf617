/-num-/
import Derived.Test.YtnkdakmfipgidaaGreatDoorNcC
set_option linter.all false
set_option maxHeartbeats 4000000
namespace Go.Mx
noncomputable section
open Go Go.Proofs
variable {N:Nat} {a b z:Int} {h:T O} {x:V}
set_option maxRecDepth 1000000
def A.b162:=A.q Tryz.f162
def A.k162:=@A.kk 162 6 [.cell 2 (some 4)] A.b162 (by kernel_rfl) rfl
def A.b117:=A.q Tryz.f117
def A.k117:=@A.kk 117 6 [.cell 2 (some 4)] A.b117 (by kernel_rfl) rfl
def A.b161:=A.q Tryz.f161
def A.k161:=@A.kk 161 13 [.tmp 2] A.b161 (by kernel_rfl) rfl
def A.Ku:=A.q Tryz.f164
def A.oQ:=A.qt A.Ku [] [] [1,1,1]
def A.je:=(fun y0=>A.qt A.Ku [] [([1,1,1],y0)] [1,1]) A.oQ
def A.b164:=(fun y0=>A.qt A.Ku [] [([1,1],y0)] []) A.je
def A.k164:=@A.kk 164 34 [.cell 4 (some 4)] A.b164 (by kernel_rfl) rfl
def Fc(h:T O)(N:Nat)(x:V)(q:Rat):Prop:=∃n1 u1 n2 u2,x=.agg [.int .i64 n1,u1,.int .i64 n2,u2]/\In h N (.agg [.int .i64 n1,u1]) q.num/\In h N (.agg [.int .i64 n2,u2]) (q.den:Nat)
def Fc.ad{h':T O}{N':Nat}{q:Rat}(s:Fc h N x q)(k:ab h N h' N'):Fc h' N' x q:=by obtain⟨n1,u1,n2,u2,rfl,s1,s2⟩:=s;exact⟨n1,u1,n2,u2,rfl,s1.ad k,s2.ad k⟩
def dL{n:Int}{u:V}(s:In h N (.agg [.int .i64 n,u]) z):V.one u=true:=by obtain⟨n',u',e,h1⟩:=s.cells;simp at e;rw[e.2];exact h1
def Zrs(hx:In h N x z):Fn A.C 162 [x] h N (fun v h' N'=>Fc h' N' v (z:Rat)):=by
 intro w;rw[aN,A.k162 (by simp)];obtain⟨n,u,rfl,hu⟩:=hx.cells;have nU:=hu;unfold V.one at nU;simp[A.b162,aQ,aL,nU];refine av J7 ?_;rintro _ h1 n1 k1 rfl;have wE:=k1.le;have g0:=k1.get (N+1) (by omega);simp at g0;simp[aQ,aL,ag,bO,g0,nU,cQ.cU,ax];have kk:=(((aM (aM ab.refl (.cells [.int .i64 n,u] 121 true)) (.cells [.int .i64 0,.aa,.int .i64 0,.aa] 123 true)).trans k1).set (h:=h) (n:=N) (i:=N+1) (o:=.cells [.int .i64 n,u,.int .i64 1,.aa] 123 true) (by omega));refine⟨?_,kk,n,u,1,.aa,rfl,?_,?_⟩
 ·split<;>simp[ay]
 ·exact hx.ad kk
 exact In.small (by decide) (by decide)
def Yv7(h1: -9223372036854775808<=z)(h2:z<9223372036854775808){h:T O}{N:Nat}:Fn A.C 117 [.int .i64 z] h N (fun v h' N'=>Fc h' N' v (z:Rat)):=by
 intro w;rw[aN,A.k117 (by simp)];simp[A.b117];refine av J7 ?_;rintro _ h3 n3 k3 rfl;simp[];refine av (Zrs (In.small h1 h2)) ?_;rintro _ h4 n4 k4 ⟨n1,u1,n2,u2,rfl,s1,s2⟩;have wE:=k3.le;have xD:=k4.le;have g0:=(k4.get N (by omega)).trans (k3.get N (by omega));simp at g0;have o1:=dL s1;have o2:=dL s2;unfold V.one at o1 o2;simp[aQ,aL,ag,bO,g0,o1,o2,ax];have kk:=(((aM (ab.refl (h:=h) (n:=N)) (.cells [.int .i64 0,.aa,.int .i64 0,.aa] 123 true)).trans k3).trans k4).set (h:=h) (n:=N) (i:=N) (o:=.cells [.int .i64 n1,u1,.int .i64 n2,u2] 123 true) (by omega);have g1:=(k4.get N (by omega)).trans (k3.get N (by omega));rw[T.ae,ar rfl]at g1;have hn:∀x∈[V.int .i64 0,V.aa,V.int .i64 0,V.aa],∀m,x≠.int .u64 m:=by intro x hx m hc;simp at hx;rcases hx with rfl|rfl|rfl|rfl<;>cases hc
 exact⟨kk,n1,u1,n2,u2,rfl,s1.aI g1 hn rfl,s2.aI g1 hn rfl⟩
def pe:∀x∈[V.int .i64 0,V.aa,V.int .i64 0,V.aa],∀m,x≠.int .u64 m:=by intro x hx m hc;simp at hx;rcases hx with rfl|rfl|rfl|rfl<;>cases hc
structure Ve (H:T O) (N:Nat) (q:Rat) (st:St):Prop where
 w:ay N st.w=[]
 old:∀i,i<N->st.h.get i=H.get i
 le:N+3<=st.n
 ex:∃n1 u1 n2 u2,st.h.get (N+2)=some (.cells [.int .i64 n1,u1,.int .i64 n2,u2] 123 true)/\Fc st.h st.n (.agg [.int .i64 n1,u1,.int .i64 n2,u2]) q
def Xa2{H:T O}{n:Nat}{W:List Nat}{r:T V}{n1 n2:Int}{u1 u2:V}(hn:N+3<=n)(hW:ay N W=[])(g1:H.get N=some (.cells [.int .i64 n1,u1] 121 true))(g2:H.get (N+1)=some (.cells [.int .i64 n2,u2] 121 true))(g3:H.get (N+2)=some (.cells [.int .i64 0,.aa,.int .i64 0,.aa] 123 true))
  (hx:In H n (.agg [.int .i64 n1,u1]) a) (hy:In H n (.agg [.int .i64 n2,u2]) b) (hb:0<b) (la:wl a<10000000000) (lb:wl b<10000000000) (a2:r.get 2=some (.ptr N 0)) (a3:r.get 3=some (.ptr (N+1) 0)) (a4:r.get 4=some (.ptr (N+2) 0)):
  Code A.C none A.oQ ⟨r,34,[]⟩ ⟨H,n,W⟩ (fun e fr st=>e=.ret/\∃r',fr=⟨r',34,[]⟩/\r'.get 4=some (.ptr (N+2) 0)/\Ve H N (Rat.divInt a b) st):=by
 rw[bu];have o1:=dL hx;have o2:=dL hy;unfold V.one at o1 o2;simp[A.oQ,a2,a3,g1,g2,aQ,aL];refine av (Yoo hx hy la lb) ?_;rintro _ h1 m1 k1 hg;obtain⟨ng,ug,rfl,hug⟩:=hg.cells;have QL:=hug;unfold V.one at QL;have wE:=k1.le;have QM:=(k1.get N (by omega)).trans g1;have zP:=(k1.get (N+1) (by omega)).trans g2;have g3':=(k1.get (N+2) (by omega)).trans g3;have d1:¬N=m1:=by omega
 have d2:¬N+1=m1:=by omega
 have d3:¬N+2=m1:=by omega
 have e1:N<m1+1:=by omega
 have e2:N+1<m1+1:=by omega
 have e3:N+2<m1+1:=by omega
 have mZ:0<Int.gcd a b:=Int.gcd_pos_of_ne_zero_right a (by omega);obtain⟨G,hG⟩:∃G,Int.gcd a b=G:=⟨_,rfl⟩;rw[hG]at mZ hg;have hGb:(G:Int)<=b:=by rw[<-hG];exact Int.le_of_dvd hb (Int.gcd_dvd_right ..)
 have lg:wl (G:Int)<10000000000:=po (ML (by omega)) lb;have kS:ab h1 m1 ((h1.set m1 (.cells [.int .i64 0,.aa] 121 true)).set m1 (.cells [.int .i64 ng,ug] 121 true)) (m1+1):=(aM ab.refl _).set (aO _);simp[a2,QM,d1,aQ,aL,ag,bO,QL,e1];refine av (Yn2 ((hx.ad k1).ad kS) (hg.ad kS) (by omega) la lg) ?_;rintro _ h2 m2 k2 vi;obtain⟨n3,u3,rfl,MP⟩:=vi.cells;have o3:=MP;unfold V.one at o3;have kT:=(k1.trans kS).trans k2;have iU:=kT.le;have f1:=(kT.get N (by omega)).trans g1;have f2:=(kT.get (N+1) (by omega)).trans g2;have f3:=(kT.get (N+2) (by omega)).trans g3;have f5:=k2.get m1 (by omega);rw[T.ae,ar rfl]at f5;have jG:=k2.le;have e4:N+1<m2:=by omega
 have e5:m1<m2:=by omega
 have e6:N+2<m2:=by omega
 simp[a3,f2,f5,aQ,aL,e4,e5];refine av (Yn2 ((hy.ad kT)) ((hg.ad kS).ad k2) (by omega) lb lg) ?_;rintro _ h3 m3 k3 nL;obtain⟨n4,u4,rfl,QG⟩:=nL.cells;have o4:=QG;unfold V.one at o4;have kU:=kT.trans k3;have xD:=kU.le;have f6:=(kU.get (N+2) (by omega)).trans g3;have e7:N+2<m3:=by omega
 simp[a4,f6,ag,bO,o3,o4,e7,cQ.cU];have QN:(Rat.divInt a b).num=a/(G:Int):=by rw[Rat.num_divInt,Int.sign_eq_one_of_pos hb,Int.one_mul,Int.gcd_comm,hG]
 have zaD:((Rat.divInt a b).den:Int)=b/(G:Int):=by rw[Rat.den_divInt,ak (by omega),Int.gcd_comm,hG,Int.natCast_ediv,Int.natAbs_of_nonneg (by omega)]
 have mw:¬N+2<N:=by omega
 have n3':¬m1<N:=by omega
 refine⟨by simp[ay,hW,mw,n3'],fun i hi=>?_,by show N+3<=m3;omega,n3,u3,n4,u4,by show T.get (T.set _ _ _) _=_;rw[T.ae,ar rfl],n3,u3,n4,u4,rfl,?_,?_⟩
 ·show T.get (T.set _ _ _) _=_;rw[T.ae,ak (by omega),kU.get i (by omega)]
 ·rw[QN];exact(vi.ad k3).aI f6 pe rfl
 rw[zaD];exact nL.aI f6 pe rfl
def Xa1{H:T O}{n:Nat}{W:List Nat}{r:T V}{n1 n2:Int}{u1 u2:V}(hn:N+3<=n)(hW:ay N W=[])(g1:H.get N=some (.cells [.int .i64 n1,u1] 121 true))(g2:H.get (N+1)=some (.cells [.int .i64 n2,u2] 121 true))(g3:H.get (N+2)=some (.cells [.int .i64 0,.aa,.int .i64 0,.aa] 123 true))
  (hx:In H n (.agg [.int .i64 n1,u1]) a) (hy:In H n (.agg [.int .i64 n2,u2]) b) (hb:0<b) (la:wl a<10000000000) (lb:wl b<10000000000) (a2:r.get 2=some (.ptr N 0)) (a3:r.get 3=some (.ptr (N+1) 0)) (a4:r.get 4=some (.ptr (N+2) 0)):
  Code A.C none A.je ⟨r,34,[]⟩ ⟨H,n,W⟩ (fun e fr st=>e=.ret/\∃r',fr=⟨r',34,[]⟩/\r'.get 4=some (.ptr (N+2) 0)/\Ve H N (Rat.divInt a b) st):=by
 rw[bu];have o1:=dL hx;have o2:=dL hy;unfold V.one at o1 o2;have fin:∀r':T V,r'.get 2=some (.ptr N 0)->r'.get 3=some (.ptr (N+1) 0)->r'.get 4=some (.ptr (N+2) 0)->bD A.C [] (ff (A.C.code none A.oQ ⟨r',34,[]⟩ ⟨H,n,W⟩)) (exQ (fun e fr st=>e=.ret/\∃r',fr=⟨r',34,[]⟩/\r'.get 4=some (.ptr (N+2) 0)/\Ve H N (Rat.divInt a b) st)):=fun r' b2 b3 b4=>bu.1 (Xa2 hn hW g1 g2 g3 hx hy hb la lb b2 b3 b4);have tO:=hy;rcases tO with⟨e0,_,_⟩|⟨i,o,l,c,e0,_,_⟩
 ·simp only[V.agg.injEq,iH,V.int.injEq,true_and,and_true]at e0;obtain⟨rfl,rfl⟩:=e0;by_cases c1:n2=1
  ·subst c1;simp[A.je,a2,a3,a4,g1,g2,g3,aQ,aL,ag,bh,bO,o1];have mw:¬N+2<N:=by omega
   refine⟨by simp[ay,hW,mw],fun i hi=>?_,hn,n1,u1,1,.aa,by show T.get (T.set _ _ _) _=_;rw[T.ae,ar rfl],n1,u1,1,.aa,rfl,?_,?_⟩
   ·show T.get (T.set _ _ _) _=_;rw[T.ae,ak (by omega)]
   ·rw[show (Rat.divInt a 1).num=a by rw[Rat.num_divInt];simp];exact hx.aI g3 pe rfl
   rw[show ((Rat.divInt a 1).den:Int)=1 by rw[Rat.den_divInt];simp];exact In.small (by decide) (by decide)
  simp[A.je,a3,g2,aQ,bh,c1];exact fin _ (by simp[a2]) (by simp[a3]) (by simp[a4])
 simp only[V.agg.injEq,iH,V.int.injEq,true_and,and_true]at e0;obtain⟨rfl,rfl⟩:=e0;simp[A.je,a3,g2,aQ,bh];exact fin _ (by simp[a2]) (by simp[a3]) (by simp[a4])
def Ye{y:V}(hx:In h N x a)(hy:In h N y b)(hb:b≠0)(la:wl a<10000000000)(lb:wl b<10000000000):Fn A.C 164 [x,y] h N (fun v h' n'=>Fc h' n' v (Rat.divInt a b)):=by
 intro w;rw[aN,A.k164 (by simp)];obtain⟨n1,u1,rfl,zp⟩:=hx.cells;obtain⟨n2,u2,rfl,fZ⟩:=hy.cells;have o1:=zp;have o2:=fZ;unfold V.one at o1 o2;have kB:ab h N (((h.set N (.cells [.int .i64 n1,u1] 121 true)).set (N+1) (.cells [.int .i64 n2,u2] 121 true)).set (N+2) (.cells [.int .i64 0,.aa,.int .i64 0,.aa] 123 true)) (N+3):=aM (aM (aM ab.refl _) _) _;have done:∀(r:T V) (h1:T O) (m:Nat) (W1:List Nat) (a' b' kp mw:Int) (u1' u2':V),N+3<=m->ay N W1=[]->(∀i,i<N->h1.get i=h.get i)->h1.get N=some (.cells [.int .i64 kp,u1'] 121 true)->h1.get (N+1)=some (.cells [.int .i64 mw,u2'] 121 true)->h1.get (N+2)=some (.cells [.int .i64 0,.aa,.int .i64 0,.aa] 123 true)->
   In h1 m (.agg [.int .i64 kp,u1']) a'->In h1 m (.agg [.int .i64 mw,u2']) b'->0<b'->wl a'<10000000000->wl b'<10000000000->Rat.divInt a' b'=Rat.divInt a b->r.get 2=some (.ptr N 0)->r.get 3=some (.ptr (N+1) 0)->r.get 4=some (.ptr (N+2) 0)->
   bD A.C [.fin [.cell 4 (some 4)] ⟨h,N,w⟩] (ff (A.C.code none A.je ⟨r,34,[]⟩ ⟨h1,m,W1⟩)) (EU (ax (fun v h' n'=>Fc h' n' v (Rat.divInt a b)) h N w)):=by
  intro r h1 m W1 a' b' kp mw u1' u2' hm A6 hO g1 g2 g3 i1 i2 vw Ht UU hq b2 b3 b4
  refine mJ (Xa1 hm A6 g1 g2 g3 i1 i2 vw Ht UU b2 b3 b4) ?_
  rintro e fr ⟨H6,n6,W6⟩ ⟨rfl,r6,rfl,c4,q1,q2,q3,m1,v1,m2,v2,q4,q5⟩
  simp only at q1 q2 q3 q4 q5
  rw[hq]at q5
  simp[c4,q4,aQ,aL,ax,q1]
  exact⟨⟨by omega,fun i hi=>(q2 i hi).trans (hO i hi)⟩,q5⟩
 simp[A.b164,aQ,aL,o1,o2];generalize jz:((h.set N (.cells [.int .i64 n1,u1] 121 true)).set (N+1) (.cells [.int .i64 n2,u2] 121 true)).set (N+2) (.cells [.int .i64 0,.aa,.int .i64 0,.aa] 123 true)=hB at*;have b1:hB.get N=some (.cells [.int .i64 n1,u1] 121 true):=by rw[<-jz];simp
 have b2:hB.get (N+1)=some (.cells [.int .i64 n2,u2] 121 true):=by rw[<-jz];simp
 have b3:hB.get (N+2)=some (.cells [.int .i64 0,.aa,.int .i64 0,.aa] 123 true):=by rw[<-jz];simp
 refine av (J8 (hy.ad kB)) ?_;rintro _ h1 m1 k1 rfl;have kk:=kB.trans k1;have wE:=kk.le;have fL:=k1.le;have f1:=(k1.get N (by omega)).trans b1;have f2:=(k1.get (N+1) (by omega)).trans b2;have f3:=(k1.get (N+2) (by omega)).trans b3;by_cases hbn:b<0
 ·have s1:eE b= -1:=by unfold eE;rw[ar hbn]
  have l1:N<m1:=by omega
  simp[s1,f1,l1,aQ,aL];refine av (MG (hx.ad kk) (by omega)) ?_;rintro _ h2 m2 k2 q1;obtain⟨n3,u3,rfl,MP⟩:=q1.cells;have o3:=MP;unfold V.one at o3;have iU:=k2.le;have f4:=(k2.get N (by omega)).trans f1;have f5:=(k2.get (N+1) (by omega)).trans f2;have f6:=(k2.get (N+2) (by omega)).trans f3;have l2:N+1<m2:=by omega
  simp[f5,l2,aQ,aL];refine av (MG ((hy.ad kk).ad k2) (by omega)) ?_;rintro _ h3 m3 k3 q2;obtain⟨n4,u4,rfl,QG⟩:=q2.cells;have o4:=QG;unfold V.one at o4;have jG:=k3.le;have f7:=(k3.get N (by omega)).trans f4;have f8:=(k3.get (N+1) (by omega)).trans f5;have f9:=(k3.get (N+2) (by omega)).trans f6;have l3:N+1<m3:=by omega
  have l4:N<m3:=by omega
  simp[f7,f8,l3,l4,ag,bO,o3,o4,cQ.cU];have i1:=(q1.ad k3).aI (c1:=[.int .i64 n3,u3]) (e1:=121) (w1:=true) f7 hx.nu rfl;have i2:=q2.aI (c1:=[.int .i64 n3,u3]) (e1:=121) (w1:=true) f7 hx.nu rfl;have f8':((h3.set N (.cells [.int .i64 n3,u3] 121 true)):T O).get (N+1)=some (.cells [.int .i64 n2,u2] 121 true):=by rw[T.ae,ak (by omega)];exact f8
  have j1:=i1.aI (c1:=[.int .i64 n4,u4]) (e1:=121) (w1:=true) f8' hy.nu rfl;have j2:=i2.aI (c1:=[.int .i64 n4,u4]) (e1:=121) (w1:=true) f8' hy.nu rfl;have l5:¬N+1<N:=by omega
  exact done _ _ _ _ (-a) (-b) n3 n4 u3 u4 (by omega) (by simp[ay,l5]) (fun i hi=>by rw[T.ae,ak (by omega),T.ae,ak (by omega),k3.get i (by omega),k2.get i (by omega),kk.get i hi]) (by rw[T.ae,ak (by omega),T.ae,ar rfl]) (by rw[T.ae,ar rfl]) (by rw[T.ae,ak (by omega),T.ae,ak (by omega)];exact f9) j1 j2 (by omega) (by rw[Qg];exact la) (by rw[Qg];exact lb) (Rat.neg_divInt_neg a b) (by simp) (by simp) (by simp)
 have s1:eE b=1:=by unfold eE;rw[ak hbn,ak hb]
 simp[s1];exact done _ _ _ _ a b n1 n2 u1 u2 (by omega) (by simp[ay]) (fun i hi=>kk.get i hi) f1 f2 f3 (hx.ad kk) (hy.ad kk) (by omega) la lb rfl (by simp) (by simp) (by simp)
def A.b105:=A.q Tryz.f105
def A.k105:=@A.kk 105 16 [.cell 4 (some 4)] A.b105 (by kernel_rfl) rfl
def Sf{x y:V}{p q:Rat}{h:T O}{N:Nat}(hx:Fc h N x p)(hy:Fc h N y q)(l1:wl p.num<1000000000)(l2:wl (p.den:Nat)<1000000000)(l3:wl q.num<1000000000)(l4:wl (q.den:Nat)<1000000000):Fn A.C 105 [x,y] h N (fun v h' n'=>Fc h' n' v (p*q)):=by
 intro w;rw[aN,A.k105 (by simp)];obtain⟨n1,u1,n2,u2,rfl,s1,s2⟩:=hx;obtain⟨n3,u3,n4,u4,rfl,s3,s4⟩:=hy;have o1:=dL s1;have o2:=dL s2;have o3:=dL s3;have o4:=dL s4;unfold V.one at o1 o2 o3 o4;have kB:ab h N (((h.set N (.cells [.int .i64 n1,u1,.int .i64 n2,u2] 123 true)).set (N+1) (.cells [.int .i64 n3,u3,.int .i64 n4,u4] 123 true)).set (N+2) (.cells [.int .i64 0,.aa,.int .i64 0,.aa] 123 true)) (N+3):=aM (aM (aM ab.refl _) _) _;simp[A.b105,aQ,aL,o1,o2,o3,o4];generalize jz:((h.set N (.cells [.int .i64 n1,u1,.int .i64 n2,u2] 123 true)).set (N+1) (.cells [.int .i64 n3,u3,.int .i64 n4,u4] 123 true)).set (N+2) (.cells [.int .i64 0,.aa,.int .i64 0,.aa] 123 true)=hB at*;have b1:hB.get N=some (.cells [.int .i64 n1,u1,.int .i64 n2,u2] 123 true):=by rw[<-jz];simp
 have b2:hB.get (N+1)=some (.cells [.int .i64 n3,u3,.int .i64 n4,u4] 123 true):=by rw[<-jz];simp
 have b3:hB.get (N+2)=some (.cells [.int .i64 0,.aa,.int .i64 0,.aa] 123 true):=by rw[<-jz];simp
 refine av (Ce (s1.ad kB) (s3.ad kB) (by omega) (by omega)) ?_;rintro v5 h1 m1 k1 q1;have fL:=k1.le;have f1:=(k1.get N (by omega)).trans b1;have f2:=(k1.get (N+1) (by omega)).trans b2;have f3:=(k1.get (N+2) (by omega)).trans b3;have e1:N<m1:=by omega
 have e2:N+1<m1:=by omega
 simp[f1,f2,e1,e2,aQ,aL];refine av (Ce ((s2.ad kB).ad k1) ((s4.ad kB).ad k1) (by omega) (by omega)) ?_;rintro v6 h2 m2 k2 q2;have iU:=k2.le;have f4:=(k2.get (N+2) (by omega)).trans f3;simp[];have hd:((p.den:Nat):Int)*((q.den:Nat):Int)≠0:=by have:=p.den_nz;have:=q.den_nz;exact Int.mul_ne_zero (by omega) (by omega)
 refine av (Ye (q1.ad k2) q2 hd ?_ ?_) ?_
 ·have:=Fu p.num q.num;omega
 ·have:=Fu ((p.den:Nat):Int) ((q.den:Nat):Int);omega
 rintro v7 h3 m3 k3 hv;rw[<-Rat.divInt_mul_divInt,AO,AO]at hv;obtain⟨n5,u5,n6,u6,rfl,t1,t2⟩:=hv;have o5:=dL t1;have o6:=dL t2;unfold V.one at o5 o6;have jG:=k3.le;have f5:=(k3.get (N+2) (by omega)).trans f4;have e3:N+2<m3:=by omega
 simp[f5,e3,aQ,aL,ag,bO,o5,o6,cQ.cU,ax];have kk:=((kB.trans k1).trans k2).trans k3;exact⟨kk.set (by omega),n5,u5,n6,u6,rfl,t1.aI (i:=N+2) f5 pe rfl,t2.aI (i:=N+2) f5 pe rfl⟩
def Yg5{x:V}{q:Rat}{h:T O}{N:Nat}(hx:Fc h N x q):Fn A.C 161 [x] h N (fun v _ _=>v=.bool (decide (q.den=1))):=by
 intro w;rw[aN,A.k161 (by simp)];obtain⟨n1,u1,n2,u2,rfl,s1,s2⟩:=hx;have o1:=dL s1;have o2:=dL s2;unfold V.one at o1 o2;rcases s2 with⟨e0,_,_⟩|⟨i,o,l,c,e0,_,hz⟩
 ·simp only[V.agg.injEq,iH,V.int.injEq,true_and,and_true]at e0;obtain⟨rfl,rfl⟩:=e0;by_cases c1:q.den=1
  ·have c2:((q.den:Nat):Int)=1:=by omega
   simp[A.b161,aQ,o1,bh,c1,ax];exact aM ab.refl _
  have c2:¬((q.den:Nat):Int)=1:=by omega
  simp[A.b161,aQ,o1,bh,c1,c2,ax];exact aM ab.refl _
 simp only[V.agg.injEq,iH,V.int.injEq,true_and,and_true]at e0;obtain⟨rfl,rfl⟩:=e0;have c1:¬q.den=1:=by omega
 simp[A.b161,aQ,o1,bh,c1,ax];exact aM ab.refl _
def A.b187:=A.q Tryz.f187
def A.k187:=@A.kk 187 16 [.tmp 4] A.b187 (by kernel_rfl) rfl
def A.b107:=A.q Tryz.f107
def A.k107:=@A.kk 107 16 [.tmp 2] A.b107 (by kernel_rfl) rfl
def Ysg{x y:V}{p q:Rat}{h:T O}{N:Nat}(hx:Fc h N x p)(hy:Fc h N y q)(l1:wl p.num<1000000000)(l2:wl (p.den:Nat)<1000000000)(l3:wl q.num<1000000000)(l4:wl (q.den:Nat)<1000000000):Fn A.C 187 [x,y] h N (fun v _ _=>v=.int .i64 (eE (p.num*(q.den:Nat)-q.num*(p.den:Nat)))):=by
 intro w;rw[aN,A.k187 (by simp)];obtain⟨n1,u1,n2,u2,rfl,s1,s2⟩:=hx;obtain⟨n3,u3,n4,u4,rfl,s3,s4⟩:=hy;have o1:=dL s1;have o2:=dL s2;have o3:=dL s3;have o4:=dL s4;unfold V.one at o1 o2 o3 o4;have kB:ab h N ((h.set N (.cells [.int .i64 n1,u1,.int .i64 n2,u2] 123 true)).set (N+1) (.cells [.int .i64 n3,u3,.int .i64 n4,u4] 123 true)) (N+2):=aM (aM ab.refl _) _;simp[A.b187,aQ,aL,o1,o2,o3,o4];generalize jz:(h.set N (.cells [.int .i64 n1,u1,.int .i64 n2,u2] 123 true)).set (N+1) (.cells [.int .i64 n3,u3,.int .i64 n4,u4] 123 true)=hB at*;have b1:hB.get N=some (.cells [.int .i64 n1,u1,.int .i64 n2,u2] 123 true):=by rw[<-jz];simp
 have b2:hB.get (N+1)=some (.cells [.int .i64 n3,u3,.int .i64 n4,u4] 123 true):=by rw[<-jz];simp
 refine av (Ce (s1.ad kB) (s4.ad kB) (by omega) (by omega)) ?_;rintro v5 h1 m1 k1 q1;have fL:=k1.le;have f1:=(k1.get N (by omega)).trans b1;have f2:=(k1.get (N+1) (by omega)).trans b2;have e1:N<m1:=by omega
 have e2:N+1<m1:=by omega
 simp[f1,f2,e1,e2,aQ,aL];refine av (Ce ((s3.ad kB).ad k1) ((s2.ad kB).ad k1) (by omega) (by omega)) ?_;rintro v6 h2 m2 k2 q2;have iU:=k2.le;simp[];refine av (Yoy (q1.ad k2) q2 ?_ ?_) ?_
 ·have:=Fu p.num ((q.den:Nat):Int);omega
 ·have:=Fu q.num ((p.den:Nat):Int);omega
 rintro _ h3 m3 k3 rfl;simp[cQ.cU,ax];exact((kB.trans k1).trans k2).trans k3
def Ypr{x:V}{q:Rat}{h:T O}{N:Nat}(hx:Fc h N x q)(hP:ik h N)(l1:(dv q.num.natAbs).length<1000000000)(l2:(dv q.den).length<1000000000):Fn A.C 107 [x] h N (fun v _ _=>v=.str (aP q)):=by
 intro w;rw[aN,A.k107 (by simp)];have fK:=hx;obtain⟨n1,u1,n2,u2,rfl,s1,s2⟩:=hx;have o1:=dL s1;have o2:=dL s2;unfold V.one at o1 o2;have kB:=aM (ab.refl (h:=h) (n:=N)) (.cells [.int .i64 n1,u1,.int .i64 n2,u2] 123 true);simp[A.b107,aQ,aL,o1,o2];generalize jz:h.set N (.cells [.int .i64 n1,u1,.int .i64 n2,u2] 123 true)=hB at*;have b1:hB.get N=some (.cells [.int .i64 n1,u1,.int .i64 n2,u2] 123 true):=by rw[<-jz];simp
 refine av (Yg5 (fK.ad kB)) ?_;rintro _ h1 m1 k1 rfl;have fL:=k1.le;have f1:=(k1.get N (by omega)).trans b1;have kk:=kB.trans k1;by_cases c1:q.den=1
 ·simp[c1,f1,aQ,aL];refine av (Vd (s1.ad kk) (hP.ad kk) (by omega)) ?_;rintro _ h2 m2 k2 rfl;simp[ax,aP,c1];exact kk.trans k2
 have l0:N<m1:=by omega
 simp[c1,f1,l0,aQ,aL];refine av (Vd (s1.ad kk) (hP.ad kk) (by omega)) ?_;rintro _ h2 m2 k2 rfl;have iU:=k2.le;have QO:=kk.trans k2;have f2:=(k2.get N (by omega)).trans f1;have l3:N<m2:=by omega
 have dh:IntKind.max .i64=9223372036854775807:=rfl;have hS1:(aK q.num).length<2000000000:=by
  have h1:(an q.num.natAbs).length<=(dv q.num.natAbs).length+1:=by unfold an;split<;>simp
  unfold aK;split<;>simp<;>omega
 have hS2:(an q.den).length<2000000000:=by
  have h1:(an q.den).length<=(dv q.den).length+1:=by unfold an;split<;>simp
  omega
 have nk:aP q=aK q.num++47::an q.den:=by unfold aP;rw[ak c1]
 have hdI:aK ((q.den:Nat):Int)=an q.den:=by unfold aK;rw[ak (by omega)];rfl
 rw[nk];generalize aK q.num=S1 at*;have g1:¬(9223372036854775807:Int)<(S1.length:Int)+1:=by omega
 simp[f2,l3,jF,dh,g1,aQ,aL];refine av (Vd (s2.ad QO) (hP.ad QO) (by rw[eh];omega)) ?_;rintro _ h3 m3 k3 rfl;rw[hdI];generalize an q.den=S2 at*;have g2:¬(9223372036854775807:Int)<(S1.length:Int)+1+(S2.length:Int):=by omega
 simp[jF,dh,g2,cQ.cU,ax];exact QO.trans k3
def A.w98:=A.q Tryz.f98
def A.xL:=A.qt A.w98 [] [] [1,1]
def A.b98:=(fun y0=>A.qt A.w98 [] [([1,1],y0)] []) A.xL
def A.k98:=@A.kk 98 34 [.cell 4 (some 4)] A.b98 (by kernel_rfl) rfl
def Zod{q:Rat}(h:q.den=1):q=(q.num:Rat):=by
 apply Rat.ext
 ·simp
 simp[h]
def Yzm{H:T O}{N n:Nat}{W:List Nat}{r:T V}{p q:Rat}{n1 n2 n3 n4:Int}{u1 u2 u3 u4:V}(hn:N+3<=n)(hW:ay N W=[])(b1:H.get N=some (.cells [.int .i64 n1,u1,.int .i64 n2,u2] 123 true))(b2:H.get (N+1)=some (.cells [.int .i64 n3,u3,.int .i64 n4,u4] 123 true))(b3:H.get (N+2)=some (.cells [.int .i64 0,.aa,.int .i64 0,.aa] 123 true))
  (s1:In H n (.agg [.int .i64 n1,u1]) p.num) (s2:In H n (.agg [.int .i64 n2,u2]) (p.den:Nat)) (s3:In H n (.agg [.int .i64 n3,u3]) q.num) (s4:In H n (.agg [.int .i64 n4,u4]) (q.den:Nat)) (l1:wl p.num<1000000000) (l2:wl (p.den:Nat)<1000000000) (l3:wl q.num<1000000000) (l4:wl (q.den:Nat)<1000000000) (a2:r.get 2=some (.ptr N 0)) (a3:r.get 3=some (.ptr (N+1) 0)) (a4:r.get 4=some (.ptr (N+2) 0)):
  Code A.C none A.xL ⟨r,34,[]⟩ ⟨H,n,W⟩ (fun e fr st=>e=.ret/\∃r',fr=⟨r',34,[]⟩/\r'.get 4=some (.ptr (N+2) 0)/\Ve H N (p+q) st):=by
 rw[bu];have o1:=dL s1;have o2:=dL s2;have o3:=dL s3;have o4:=dL s4;unfold V.one at o1 o2 o3 o4;have z1:N<n:=by omega
 have z2:N+1<n:=by omega
 simp[A.xL,a2,a3,b1,b2,z1,z2,aQ,aL];refine av (Ce s1 s4 (by omega) (by omega)) ?_;rintro v5 h1 m1 k1 q1;have fL:=k1.le;have f1:=(k1.get N (by omega)).trans b1;have f2:=(k1.get (N+1) (by omega)).trans b2;have f3:=(k1.get (N+2) (by omega)).trans b3;have e1:N<m1:=by omega
 have e2:N+1<m1:=by omega
 simp[a2,a3,f1,f2,e1,e2,aQ,aL];refine av (Ce (s3.ad k1) (s2.ad k1) (by omega) (by omega)) ?_;rintro v6 h2 m2 k2 q2;have iU:=k2.le;have w1:=Fu p.num ((q.den:Nat):Int);have w2:=Fu q.num ((p.den:Nat):Int);have w3:=Fu ((p.den:Nat):Int) ((q.den:Nat):Int);have w4:=Ydz (p.num*((q.den:Nat):Int)) (q.num*((p.den:Nat):Int));simp[];refine av (Qm (q1.ad k2) q2 (by omega) (by omega)) ?_;rintro v7 h3 m3 k3 q3;have jG:=k3.le;have k13:=(k1.trans k2).trans k3;have f4:=(k13.get N (by omega)).trans b1;have f5:=(k13.get (N+1) (by omega)).trans b2;have e3:N<m3:=by omega
 have e4:N+1<m3:=by omega
 simp[a2,a3,f4,f5,e3,e4,aQ,aL];refine av (Ce (s2.ad k13) (s4.ad k13) (by omega) (by omega)) ?_;rintro v8 h4 m4 k4 q4;have xD:=k4.le;have k14:=k13.trans k4;have hd:((p.den:Nat):Int)*((q.den:Nat):Int)≠0:=by have:=p.den_nz;have:=q.den_nz;exact Int.mul_ne_zero (by omega) (by omega)
 simp[];refine av (Ye (q3.ad k4) q4 hd (by omega) (by omega)) ?_;rintro v9 h5 m5 k5 hv;have uO:((p.den:Nat):Int)≠0:=by have:=p.den_nz;omega
 have xy:((q.den:Nat):Int)≠0:=by have:=q.den_nz;omega
 rw[<-Rat.divInt_add_divInt _ _ uO xy,AO,AO]at hv;obtain⟨n5,u5,n6,u6,rfl,t1,t2⟩:=hv;have o5:=dL t1;have o6:=dL t2;unfold V.one at o5 o6;have Kv:=k5.le;have k15:=k14.trans k5;have f6:=(k15.get (N+2) (by omega)).trans b3;have e5:N+2<m5:=by omega
 simp[a4,f6,e5,ag,bO,o5,o6,cQ.cU];have mw:¬N+2<N:=by omega
 refine⟨by simp[ay,hW,mw],fun i hi=>?_,by show N+3<=m5;omega,n5,u5,n6,u6,by show T.get (T.set _ _ _) _=_;rw[T.ae,ar rfl],n5,u5,n6,u6,rfl,t1.aI (i:=N+2) f6 pe rfl,t2.aI (i:=N+2) f6 pe rfl⟩;show T.get (T.set _ _ _) _=_;rw[T.ae,ak (by omega),k15.get i (by omega)]
def Yhl{x y:V}{p q:Rat}{h:T O}{N:Nat}(hx:Fc h N x p)(hy:Fc h N y q)(l1:wl p.num<1000000000)(l2:wl (p.den:Nat)<1000000000)(l3:wl q.num<1000000000)(l4:wl (q.den:Nat)<1000000000):Fn A.C 98 [x,y] h N (fun v h' n'=>Fc h' n' v (p+q)):=by
 intro w;rw[aN,A.k98 (by simp)];have fK:=hx;have tO:=hy;obtain⟨n1,u1,n2,u2,rfl,s1,s2⟩:=hx;obtain⟨n3,u3,n4,u4,rfl,s3,s4⟩:=hy;have o1:=dL s1;have o2:=dL s2;have o3:=dL s3;have o4:=dL s4;unfold V.one at o1 o2 o3 o4;have kB:ab h N (((h.set N (.cells [.int .i64 n1,u1,.int .i64 n2,u2] 123 true)).set (N+1) (.cells [.int .i64 n3,u3,.int .i64 n4,u4] 123 true)).set (N+2) (.cells [.int .i64 0,.aa,.int .i64 0,.aa] 123 true)) (N+3):=aM (aM (aM ab.refl _) _) _;simp[A.b98,aQ,aL,o1,o2,o3,o4];generalize jz:((h.set N (.cells [.int .i64 n1,u1,.int .i64 n2,u2] 123 true)).set (N+1) (.cells [.int .i64 n3,u3,.int .i64 n4,u4] 123 true)).set (N+2) (.cells [.int .i64 0,.aa,.int .i64 0,.aa] 123 true)=hB at*;have b1:hB.get N=some (.cells [.int .i64 n1,u1,.int .i64 n2,u2] 123 true):=by rw[<-jz];simp
 have b2:hB.get (N+1)=some (.cells [.int .i64 n3,u3,.int .i64 n4,u4] 123 true):=by rw[<-jz];simp
 have b3:hB.get (N+2)=some (.cells [.int .i64 0,.aa,.int .i64 0,.aa] 123 true):=by rw[<-jz];simp
 refine av (Yg5 (fK.ad kB)) ?_;rintro _ h0 m0 k0 rfl;have zbJ:=k0.le;have k0':=kB.trans k0;have d1:=(k0.get N (by omega)).trans b1;have d2:=(k0.get (N+1) (by omega)).trans b2;have d3:=(k0.get (N+2) (by omega)).trans b3;by_cases cp:p.den=1
 ·simp[cp,d2,aQ,aL];refine av (Yg5 (tO.ad k0')) ?_;rintro _ h1 m1 k1 rfl;have fL:=k1.le;have g1:=(k1.get N (by omega)).trans d1;have g2:=(k1.get (N+1) (by omega)).trans d2;have g3:=(k1.get (N+2) (by omega)).trans d3;have k1':=k0'.trans k1;by_cases cq:q.den=1
  ·simp[cq,g1,g2,aQ,aL];refine av (Qm (s1.ad k1') (s3.ad k1') (by omega) (by omega)) ?_;rintro v5 h2 m2 k2 q1;have iU:=k2.le;simp[];refine av (Zrs q1) ?_;rintro _ h3 m3 k3 ⟨n5,u5,n6,u6,rfl,t1,t2⟩;have o5:=dL t1;have o6:=dL t2;unfold V.one at o5 o6;have jG:=k3.le;have f5:=(k3.get (N+2) (by omega)).trans ((k2.get (N+2) (by omega)).trans g3);simp[f5,aQ,aL,ag,bO,o5,o6,ax];have kk:=(k1'.trans k2).trans k3;have y_:p+q=((p.num+q.num:Int):Rat):=by rw[Zod cp,Zod cq];simp
   rw[y_];exact⟨kk.set (by omega),n5,u5,n6,u6,rfl,t1.aI (i:=N+2) f5 pe rfl,t2.aI (i:=N+2) f5 pe rfl⟩
  simp[cq];refine mJ (Yzm (N:=N) (p:=p) (q:=q) (by omega) (by simp[ay]) g1 g2 g3 (s1.ad k1') (s2.ad k1') (s3.ad k1') (s4.ad k1') l1 l2 l3 l4 (by simp) (by simp) (by simp)) ?_;rintro e fr ⟨H6,n6,W6⟩ ⟨rfl,r6,rfl,c4,q1,q2,q3,m5,v5,m6,v6,q4,q5⟩;simp only at q1 q2 q3 q4 q5;simp[c4,q4,aQ,aL,ax,q1];exact⟨⟨by omega,fun i hi=>(q2 i hi).trans (k1'.get i hi)⟩,q5⟩
 simp[cp];refine mJ (Yzm (N:=N) (p:=p) (q:=q) (by omega) (by simp[ay]) d1 d2 d3 (s1.ad k0') (s2.ad k0') (s3.ad k0') (s4.ad k0') l1 l2 l3 l4 (by simp) (by simp) (by simp)) ?_;rintro e fr ⟨H6,n6,W6⟩ ⟨rfl,r6,rfl,c4,q1,q2,q3,m5,v5,m6,v6,q4,q5⟩;simp only at q1 q2 q3 q4 q5;simp[c4,q4,aQ,aL,ax,q1];exact⟨⟨by omega,fun i hi=>(q2 i hi).trans (k0'.get i hi)⟩,q5⟩
def A.b99:=A.q Tryz.f99
def A.k99:=@A.kk 99 22 [.cell 2 (some 4)] A.b99 (by kernel_rfl) rfl
def Zoy{z:Int}{h:T O}{N:Nat}(hl:(aK z).length<=100000):Fn A.C 167 [.str (aK z)] h N (fun v h' n'=>In h' n' v z):=by
 have hb:(an z.natAbs).length<=100000:=by unfold aK at hl;split at hl<;>(try simp at hl)<;>omega
 have:=Yfg (s:=aK z) (h:=h) (N:=N) (by rw[Mv];exact zM _) (by rw[Mv];exact hb);rw[Mt,Mv,B5]at this;have e:(if decide (z<0)=true then -(z.natAbs:Int) else (z.natAbs:Int))=z:=by by_cases hz:z<0<;>simp[hz]<;>omega
 rw[e]at this;exact this
def Yhf{q:Rat}{h:T O}{N:Nat}(l1:(aK q.num).length<=100000)(l2:(an q.den).length<=100000):Fn A.C 99 [.str (aP q)] h N (fun v h' n'=>Fc h' n' v q):=by
 intro w;have hc:=fun st=>Yox (s:=aP q) (st:=st) (by unfold aP;split<;>(try simp)<;>omega);rw[PA]at hc;have kB:=aM (ab.refl (h:=h) (n:=N)) (.cells [.int .i64 0,.aa,.int .i64 0,.aa] 123 true);rw[aN,A.k99 (by simp)];by_cases c1:q.den=1
 ·have aC:¬ah (aP q)<(aP q).length:=fun hx=>(Fa q).1 hx c1;simp[A.b99,hc,aC];refine av (Zoy l1) ?_;rintro v1 h1 m1 k1 q1;simp[];refine av (Zrs q1) ?_;rintro _ h3 m3 k3 ⟨n5,u5,n6,u6,rfl,t1,t2⟩;have o5:=dL t1;have o6:=dL t2;unfold V.one at o5 o6;have fL:=k1.le;have jG:=k3.le;have kk:=(kB.trans k1).trans k3;have f5:=((k1.trans k3).get N (by omega));rw[T.ae,ar rfl]at f5;simp[f5,aQ,aL,ag,bO,o5,o6,ax];rw[Zod c1];exact⟨kk.set (by omega),n5,u5,n6,u6,rfl,t1.aI f5 pe rfl,t2.aI f5 pe rfl⟩
 have aC:ah (aP q)<(aP q).length:=(Fa q).2 c1;have hd:=PB q c1;have hdI:an q.den=aK ((q.den:Nat):Int):=by unfold aK;rw[ak (by omega)];rfl
 rw[hdI]at l2 hd;simp[A.b99,hc,aC,hd];refine av (Zoy l1) ?_;rintro v1 h1 m1 k1 q1;simp[];refine av (Zoy l2) ?_;rintro v2 h2 m2 k2 q2;obtain⟨n5,u5,rfl,Cj⟩:=q1.cells;obtain⟨n6,u6,rfl,Kq⟩:=q2.cells;have o5:=Cj;have o6:=Kq;unfold V.one at o5 o6;have fL:=k1.le;have iU:=k2.le;have kk:=(kB.trans k1).trans k2;have f5:=((k1.trans k2).get N (by omega));rw[T.ae,ar rfl]at f5;simp[f5,aQ,aL,ag,bO,o5,o6,ax];exact⟨kk.set (by omega),n5,u5,n6,u6,rfl,(q1.ad k2).aI f5 pe rfl,q2.aI f5 pe rfl⟩
variable {N k:Nat} {h:T O} {x:V} {z:Int}
def A.b123:=A.q Tryz.f123
def A.k123:=@A.kk 123 6 [.tmp 2] A.b123 (by kernel_rfl) rfl
def A.b106:=A.q Tryz.f106
def A.k106:=@A.kk 106 11 [.tmp 2] A.b106 (by kernel_rfl) rfl
def A.b168:=A.q Tryz.f168
def A.k168:=@A.kk 168 13 [.tmp 2] A.b168 (by kernel_rfl) rfl
def A.b213:=A.q Tryz.f213
def A.k213:=@A.kk 213 25 [.tmp 2] A.b213 (by kernel_rfl) rfl
def Fc.parts{q:Rat}(s:Fc h N x q):∃n1 u1 n2 u2,x=.agg [.int .i64 n1,u1,.int .i64 n2,u2]/\In h N (.agg [.int .i64 n1,u1]) q.num/\In h N (.agg [.int .i64 n2,u2]) (q.den:Int)/\V.one u1=true/\V.one u2=true:=by obtain⟨n1,u1,n2,u2,rfl,s1,s2⟩:=s;exact⟨n1,u1,n2,u2,rfl,s1,s2,dL s1,dL s2⟩
def Yf{q:Rat}(hx:Fc h N x q):Fn A.C 123 [x] h N (fun v _ _=>v=.int .i64 (eE q.num)):=by intro w;obtain⟨n1,u1,n2,u2,rfl,s1,s2,o1,o2⟩:=hx.parts;unfold V.one at o1 o2;rw[aN,A.k123 (by simp)];have k0:=(ab.refl (h:=h) (n:=N)).new (.cells [.int .i64 n1,u1,.int .i64 n2,u2] 123 true);simp[A.b123,aQ,aL,o1,o2];refine av (J8 (s1.ad k0)) ?_;rintro _ h1 m1 k1 rfl;simp[ax];exact k0.trans k1
def Ym8{n d:Nat}(hk:(aH n).length=k+1)(hd:(aH n)[k]?=some d):n<2^(64*k+aX d):=by
 have h1:=oz n;have h2:=GV (b:=B) hd;rw[gp (by omega),h1]at h2;have h3:val B ((aH n).take k)<B^k:=by have:=GU (b:=B) (l:=(aH n).take k) (fun x hx=>sX n x (wB hx));rw[iX,rj (by omega)]at this;exact this
 have h4:d+1<=2^aX d:=UP d;have h5:B^k*(d+1)<=B^k*2^aX d:=mM _ h4;have h6:B^k=2^(64*k):=by rw[Nat.pow_mul];rfl
 rw[mr,<-h6];rw[uI]at h5;omega
def Zxb{n b:Nat}(h:600<(an n).length)(hb:n<2^b):1800<b:=by
 apply Classical.byContradiction;intro hc;obtain⟨M,hM⟩:∃M:Nat,M=600:=⟨_,rfl⟩;have h1:n<2^(3*M):=fm hb (PD (by omega));have h2:(2:Nat)^(3*M)<=10^M:=by rw[Nat.pow_mul];exact I1 (by decide) _
 have h3:=(CF (n:=n) (k:=M) (by omega)).2 (fm h1 h2);omega
def Ytl(hx:In h N x z)(hl:wl z<10000000000):Fn A.C 213 [x] h N (fun v _ _=>∃b:Nat,v=.int .i64 b/\z.natAbs<2^b):=by
 intro w;obtain⟨n,u,rfl,hu⟩:=hx.cells;have nU:=hu;unfold V.one at nU;have k0:=(ab.refl (h:=h) (n:=N)).new (.cells [.int .i64 n,u] 121 true);rw[aN,A.k213 (by simp)];simp[A.b213,aQ,aL,nU];refine av (Fq (hx.ad k0)) ?_;rintro _ h1 m1 k1 ⟨u2,rfl,hw⟩;have hlen:=Sl.len hw;rw[bq]at hlen;by_cases h0:(aH z.natAbs).length=0
 ·rw[h0]at hlen;have hz:z.natAbs=0:=by have:=oz z.natAbs;rw[rS h0]at this;simpa[val]using this.symm
  simp[hlen,ax];exact⟨k0.trans k1,0,rfl,by omega⟩
 obtain⟨k,hk⟩:∃k,(aH z.natAbs).length=k+1:=⟨(aH z.natAbs).length-1,by omega⟩;rw[hk]at hlen;obtain⟨d,hd⟩:=bj (l:=aH z.natAbs) (k:=k) (by omega);obtain⟨i,o,c,e,rw,q1,q2,q3,q4⟩:=Sl.at hw (f_ hd);have hdB:d<18446744073709551616:=(sX _).get hd;have tW:k+1<10000000000:=by have:=hl;unfold wl at this;omega
 have DZ:aX d<=64:=by
  apply Classical.byContradiction;intro hc;have h1:d≠0:=fun h=>by rw[h]at hc;simp[aX]at hc
  have h2:=MH h1;have h3:=PD (j:=64) (k:=aX d-1) (by omega);have h4:(2:Nat)^64=18446744073709551616:=by decide
  omega
 have c1:¬((k:Int)+1=0):=by omega
 have c2:bo .i64 ((k:Int)+1-1)=(k:Int):=by rw[cP (by omega) (by omega)];omega
 have c3:bo .i64 (64*(k:Int))=64*(k:Int):=cP (by omega) (by omega);have c4:bo .i64 (64*(k:Int)+(aX d:Nat))=64*(k:Int)+(aX d:Nat):=cP (by omega) (by omega);have c5:(k:Int)<(k:Int)+1:=by omega
 simp(disch:=omega) [hlen,c1,c3,q1,q3,q4];refine av (Zsn hdB) ?_;rintro _ h2 m2 k2 ⟨rfl,rfl,rfl⟩;simp[c4,ax];exact⟨k0.trans k1,64*k+aX d,by simp,Ym8 hk hd⟩
def Ygq(hx:In h N x z)(hP:ik h N)(hl:wl z<10000000000)(hd:(dv z.natAbs).length<1000000000):Fn A.C 168 [x] h N (fun v _ _=>v=.bool (decide (600<(an z.natAbs).length))):=by
 intro w;obtain⟨n,u,rfl,hu⟩:=hx.cells;have nU:=hu;unfold V.one at nU;have k0:=(ab.refl (h:=h) (n:=N)).new (.cells [.int .i64 n,u] 121 true);have g0:(h.set N (.cells [.int .i64 n,u] 121 true)).get N=some (.cells [.int .i64 n,u] 121 true):=by rw[T.ae,ar rfl]
 rw[aN,A.k168 (by simp)];simp[A.b168,aQ,aL,nU];refine av (Ytl (hx.ad k0) hl) ?_;rintro _ h1 m1 k1 ⟨b,rfl,hb⟩;have g1:=(k1.get N (by omega)).trans g0;by_cases hbb:1800<b
 ·have Kw:(1800:Int)<(b:Int):=by omega
  simp[Kw,g1,aQ,aL];refine av (Vd ((hx.ad k0).ad k1) ((hP.ad k0).ad k1) (by omega)) ?_;rintro _ h2 m2 k2 rfl;have ht:=fun st=>Zk9 (s:=aK z) (st:=st);rw[Mv]at ht;simp[ht,ax];exact⟨(k0.trans k1).trans k2,by omega⟩
 have Kw:¬(1800:Int)<(b:Int):=by omega
 have PR:¬600<(an z.natAbs).length:=fun hc=>hbb (Zxb hc hb);simp[Kw,PR,ax];exact k0.trans k1
def vU(h:z.natAbs<2^k):wl z<=k:=by have:=Hv (fm h (I1 (by decide) k));unfold wl at this ⊢;rwa [eh]at this
def Yhg{q:Rat}(hx:Fc h N x q)(hP:ik h N)(hq:Qb k q)(hk:k<=400000000):Fn A.C 106 [x] h N (fun v _ _=>v=.bool (zW q)):=by
 intro w;obtain⟨n1,u1,n2,u2,rfl,s1,s2,o1,o2⟩:=hx.parts;unfold V.one at o1 o2;have k0:=(ab.refl (h:=h) (n:=N)).new (.cells [.int .i64 n1,u1,.int .i64 n2,u2] 123 true);have g0:(h.set N (.cells [.int .i64 n1,u1,.int .i64 n2,u2] 123 true)).get N=some (.cells [.int .i64 n1,u1,.int .i64 n2,u2] 123 true):=by rw[T.ae,ar rfl]
 have l1:=PE hq.1;have l2:=PE hq.2;have z1:=vU hq.1;have z2:=vU (z:=(q.den:Int)) (k:=k) (by rw[eh];exact hq.2);rw[aN,A.k106 (by simp)];simp[A.b106,aQ,aL,o1,o2];refine av (Ygq (s1.ad k0) (hP.ad k0) (by omega) (by omega)) ?_;rintro _ h1 m1 k1 rfl;have g1:=(k1.get N (by omega)).trans g0;unfold zW;by_cases c1:600<(an q.num.natAbs).length
 ·simp[c1,ax];exact k0.trans k1
 simp[c1,g1,aQ,aL];refine av (Ygq ((s2.ad k0).ad k1) ((hP.ad k0).ad k1) (by omega) (by rw[eh];omega)) ?_;rintro _ h2 m2 k2 rfl;simp[ax];exact(k0.trans k1).trans k2
end
end Go.Mx
