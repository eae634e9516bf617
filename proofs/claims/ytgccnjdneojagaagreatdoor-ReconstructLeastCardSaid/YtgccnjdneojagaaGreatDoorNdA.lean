/-num-/
import Derived.Test.YtgccnjdneojagaaGreatDoorNcC
set_option linter.all false
set_option maxHeartbeats 4000000
namespace Go.Mx
noncomputable section
open Go Go.Proofs
variable {N:Nat} {a b z:Int} {h:T O} {x:V}
set_option maxRecDepth 1000000
def A.b171:=A.q Tryz.f171
def A.k171:=@A.kk 171 6 [.cell 2 (some 4)] A.b171 (by kernel_rfl) rfl
def A.b113:=A.q Tryz.f113
def A.k113:=@A.kk 113 6 [.cell 2 (some 4)] A.b113 (by kernel_rfl) rfl
def A.b142:=A.q Tryz.f142
def A.k142:=@A.kk 142 13 [.tmp 2] A.b142 (by kernel_rfl) rfl
def A.Kv:=A.q Tryz.f139
def A.pg:=A.qt A.Kv [] [] [1,1,1]
def A.jj:=(fun y0=>A.qt A.Kv [] [([1,1,1],y0)] [1,1]) A.pg
def A.b139:=(fun y0=>A.qt A.Kv [] [([1,1],y0)] []) A.jj
def A.k139:=@A.kk 139 34 [.cell 4 (some 4)] A.b139 (by kernel_rfl) rfl
def Fc(h:T O)(N:Nat)(x:V)(q:Rat):Prop:=∃n1 u1 n2 u2,x=.agg [.int .i64 n1,u1,.int .i64 n2,u2]/\In h N (.agg [.int .i64 n1,u1]) q.num/\In h N (.agg [.int .i64 n2,u2]) (q.den:Nat)
def Fc.ad{h':T O}{N':Nat}{q:Rat}(s:Fc h N x q)(k:ab h N h' N'):Fc h' N' x q:=by obtain⟨n1,u1,n2,u2,rfl,s1,s2⟩:=s;exact⟨n1,u1,n2,u2,rfl,s1.ad k,s2.ad k⟩
def eD{n:Int}{u:V}(s:In h N (.agg [.int .i64 n,u]) z):V.one u=true:=by obtain⟨n',u',e,h1⟩:=s.cells;simp at e;rw[e.2];exact h1
def Zss(hx:In h N x z):Fn A.C 171 [x] h N (fun v h' N'=>Fc h' N' v (z:Rat)):=by
 intro w;rw[aQ,A.k171 (by simp)];obtain⟨n,u,rfl,hu⟩:=hx.cells;have ot:=hu;unfold V.one at ot;simp[A.b171,aS,aP,ot];refine ar J5 ?_;rintro _ h1 n1 k1 rfl;have uM:=k1.le;have g0:=k1.get (N+1) (by omega);simp at g0;simp[aS,aP,ae,bO,g0,ot,dv.dw,az];have kk:=(((aR (aR ab.refl (.cells [.int .i64 n,u] 94 true)) (.cells [.int .i64 0,.aa,.int .i64 0,.aa] 96 true)).trans k1).set (h:=h) (n:=N) (i:=N+1) (o:=.cells [.int .i64 n,u,.int .i64 1,.aa] 96 true) (by omega));refine⟨?_,kk,n,u,1,.aa,rfl,?_,?_⟩
 ·split<;>simp[ay]
 ·exact hx.ad kk
 exact In.small (by decide) (by decide)
def Yuk(h1: -9223372036854775808<=z)(h2:z<9223372036854775808){h:T O}{N:Nat}:Fn A.C 113 [.int .i64 z] h N (fun v h' N'=>Fc h' N' v (z:Rat)):=by
 intro w;rw[aQ,A.k113 (by simp)];simp[A.b113];refine ar J5 ?_;rintro _ h3 n3 k3 rfl;simp[];refine ar (Zss (In.small h1 h2)) ?_;rintro _ h4 n4 k4 ⟨n1,u1,n2,u2,rfl,s1,s2⟩;have uM:=k3.le;have we:=k4.le;have g0:=(k4.get N (by omega)).trans (k3.get N (by omega));simp at g0;have o1:=eD s1;have o2:=eD s2;unfold V.one at o1 o2;simp[aS,aP,ae,bO,g0,o1,o2,az];have kk:=(((aR (ab.refl (h:=h) (n:=N)) (.cells [.int .i64 0,.aa,.int .i64 0,.aa] 96 true)).trans k3).trans k4).set (h:=h) (n:=N) (i:=N) (o:=.cells [.int .i64 n1,u1,.int .i64 n2,u2] 96 true) (by omega);have g1:=(k4.get N (by omega)).trans (k3.get N (by omega));rw[T.ag,av rfl]at g1;have hn:∀x∈[V.int .i64 0,V.aa,V.int .i64 0,V.aa],∀m,x≠.int .u64 m:=by intro x hx m hc;simp at hx;rcases hx with rfl|rfl|rfl|rfl<;>cases hc
 exact⟨kk,n1,u1,n2,u2,rfl,s1.aI g1 hn rfl,s2.aI g1 hn rfl⟩
def pF:∀x∈[V.int .i64 0,V.aa,V.int .i64 0,V.aa],∀m,x≠.int .u64 m:=by intro x hx m hc;simp at hx;rcases hx with rfl|rfl|rfl|rfl<;>cases hc
structure VA (H:T O) (N:Nat) (q:Rat) (st:St):Prop where
 w:ay N st.w=[]
 old:∀i,i<N->st.h.get i=H.get i
 le:N+3<=st.n
 ex:∃n1 u1 n2 u2,st.h.get (N+2)=some (.cells [.int .i64 n1,u1,.int .i64 n2,u2] 96 true)/\Fc st.h st.n (.agg [.int .i64 n1,u1,.int .i64 n2,u2]) q
def Xct{H:T O}{n:Nat}{W:List Nat}{r:T V}{n1 n2:Int}{u1 u2:V}(hn:N+3<=n)(hW:ay N W=[])(g1:H.get N=some (.cells [.int .i64 n1,u1] 94 true))(g2:H.get (N+1)=some (.cells [.int .i64 n2,u2] 94 true))(g3:H.get (N+2)=some (.cells [.int .i64 0,.aa,.int .i64 0,.aa] 96 true))
  (hx:In H n (.agg [.int .i64 n1,u1]) a) (hy:In H n (.agg [.int .i64 n2,u2]) b) (hb:0<b) (la:wl a<10000000000) (lb:wl b<10000000000) (a2:r.get 2=some (.ptr N 0)) (a3:r.get 3=some (.ptr (N+1) 0)) (a4:r.get 4=some (.ptr (N+2) 0)):
  Code A.C none A.pg ⟨r,34,[]⟩ ⟨H,n,W⟩ (fun e fr st=>e=.ret/\∃r',fr=⟨r',34,[]⟩/\r'.get 4=some (.ptr (N+2) 0)/\VA H N (Rat.divInt a b) st):=by
 rw[bu];have o1:=eD hx;have o2:=eD hy;unfold V.one at o1 o2;simp[A.pg,a2,a3,g1,g2,aS,aP];refine ar (Yp8 hx hy la lb) ?_;rintro _ h1 m1 k1 hg;obtain⟨ng,ug,rfl,hug⟩:=hg.cells;have QX:=hug;unfold V.one at QX;have uM:=k1.le;have QY:=(k1.get N (by omega)).trans g1;have Ai:=(k1.get (N+1) (by omega)).trans g2;have g3':=(k1.get (N+2) (by omega)).trans g3;have d1:¬N=m1:=by omega
 have d2:¬N+1=m1:=by omega
 have d3:¬N+2=m1:=by omega
 have e1:N<m1+1:=by omega
 have e2:N+1<m1+1:=by omega
 have e3:N+2<m1+1:=by omega
 have jP:0<Int.gcd a b:=Int.gcd_pos_of_ne_zero_right a (by omega);obtain⟨G,hG⟩:∃G,Int.gcd a b=G:=⟨_,rfl⟩;rw[hG]at jP hg;have hGb:(G:Int)<=b:=by rw[<-hG];exact Int.le_of_dvd hb (Int.gcd_dvd_right ..)
 have lg:wl (G:Int)<10000000000:=oC (Kg (by omega)) lb;have kS:ab h1 m1 ((h1.set m1 (.cells [.int .i64 0,.aa] 94 true)).set m1 (.cells [.int .i64 ng,ug] 94 true)) (m1+1):=(aR ab.refl _).set (aM _);simp[a2,QY,d1,aS,aP,ae,bO,QX,e1];refine ar (Ypq ((hx.ad k1).ad kS) (hg.ad kS) (by omega) la lg) ?_;rintro _ h2 m2 k2 sS;obtain⟨n3,u3,rfl,MP⟩:=sS.cells;have o3:=MP;unfold V.one at o3;have kT:=(k1.trans kS).trans k2;have iX:=kT.le;have f1:=(kT.get N (by omega)).trans g1;have f2:=(kT.get (N+1) (by omega)).trans g2;have f3:=(kT.get (N+2) (by omega)).trans g3;have f5:=k2.get m1 (by omega);rw[T.ag,av rfl]at f5;have jT:=k2.le;have e4:N+1<m2:=by omega
 have e5:m1<m2:=by omega
 have e6:N+2<m2:=by omega
 simp[a3,f2,f5,aS,aP,e4,e5];refine ar (Ypq ((hy.ad kT)) ((hg.ad kS).ad k2) (by omega) lb lg) ?_;rintro _ h3 m3 k3 jS;obtain⟨n4,u4,rfl,QS⟩:=jS.cells;have o4:=QS;unfold V.one at o4;have kU:=kT.trans k3;have we:=kU.le;have f6:=(kU.get (N+2) (by omega)).trans g3;have e7:N+2<m3:=by omega
 simp[a4,f6,ae,bO,o3,o4,e7,dv.dw];have zaL:(Rat.divInt a b).num=a/(G:Int):=by rw[Rat.num_divInt,Int.sign_eq_one_of_pos hb,Int.one_mul,Int.gcd_comm,hG]
 have zaM:((Rat.divInt a b).den:Int)=b/(G:Int):=by rw[Rat.den_divInt,ak (by omega),Int.gcd_comm,hG,Int.natCast_ediv,Int.natAbs_of_nonneg (by omega)]
 have nW:¬N+2<N:=by omega
 have n3':¬m1<N:=by omega
 refine⟨by simp[ay,hW,nW,n3'],fun i hi=>?_,by show N+3<=m3;omega,n3,u3,n4,u4,by show T.get (T.set _ _ _) _=_;rw[T.ag,av rfl],n3,u3,n4,u4,rfl,?_,?_⟩
 ·show T.get (T.set _ _ _) _=_;rw[T.ag,ak (by omega),kU.get i (by omega)]
 ·rw[zaL];exact(sS.ad k3).aI f6 pF rfl
 rw[zaM];exact jS.aI f6 pF rfl
def Xcs{H:T O}{n:Nat}{W:List Nat}{r:T V}{n1 n2:Int}{u1 u2:V}(hn:N+3<=n)(hW:ay N W=[])(g1:H.get N=some (.cells [.int .i64 n1,u1] 94 true))(g2:H.get (N+1)=some (.cells [.int .i64 n2,u2] 94 true))(g3:H.get (N+2)=some (.cells [.int .i64 0,.aa,.int .i64 0,.aa] 96 true))
  (hx:In H n (.agg [.int .i64 n1,u1]) a) (hy:In H n (.agg [.int .i64 n2,u2]) b) (hb:0<b) (la:wl a<10000000000) (lb:wl b<10000000000) (a2:r.get 2=some (.ptr N 0)) (a3:r.get 3=some (.ptr (N+1) 0)) (a4:r.get 4=some (.ptr (N+2) 0)):
  Code A.C none A.jj ⟨r,34,[]⟩ ⟨H,n,W⟩ (fun e fr st=>e=.ret/\∃r',fr=⟨r',34,[]⟩/\r'.get 4=some (.ptr (N+2) 0)/\VA H N (Rat.divInt a b) st):=by
 rw[bu];have o1:=eD hx;have o2:=eD hy;unfold V.one at o1 o2;have fin:∀r':T V,r'.get 2=some (.ptr N 0)->r'.get 3=some (.ptr (N+1) 0)->r'.get 4=some (.ptr (N+2) 0)->bE A.C [] (fl (A.C.code none A.pg ⟨r',34,[]⟩ ⟨H,n,W⟩)) (exQ (fun e fr st=>e=.ret/\∃r',fr=⟨r',34,[]⟩/\r'.get 4=some (.ptr (N+2) 0)/\VA H N (Rat.divInt a b) st)):=fun r' b2 b3 b4=>bu.1 (Xct hn hW g1 g2 g3 hx hy hb la lb b2 b3 b4);have yD:=hy;rcases yD with⟨e0,_,_⟩|⟨i,o,l,c,e0,_,_⟩
 ·simp only[V.agg.injEq,jc,V.int.injEq,true_and,and_true]at e0;obtain⟨rfl,rfl⟩:=e0;by_cases c1:n2=1
  ·subst c1;simp[A.jj,a2,a3,a4,g1,g2,g3,aS,aP,ae,bA,bO,o1];have nW:¬N+2<N:=by omega
   refine⟨by simp[ay,hW,nW],fun i hi=>?_,hn,n1,u1,1,.aa,by show T.get (T.set _ _ _) _=_;rw[T.ag,av rfl],n1,u1,1,.aa,rfl,?_,?_⟩
   ·show T.get (T.set _ _ _) _=_;rw[T.ag,ak (by omega)]
   ·rw[show (Rat.divInt a 1).num=a by rw[Rat.num_divInt];simp];exact hx.aI g3 pF rfl
   rw[show ((Rat.divInt a 1).den:Int)=1 by rw[Rat.den_divInt];simp];exact In.small (by decide) (by decide)
  simp[A.jj,a3,g2,aS,bA,c1];exact fin _ (by simp[a2]) (by simp[a3]) (by simp[a4])
 simp only[V.agg.injEq,jc,V.int.injEq,true_and,and_true]at e0;obtain⟨rfl,rfl⟩:=e0;simp[A.jj,a3,g2,aS,bA];exact fin _ (by simp[a2]) (by simp[a3]) (by simp[a4])
def YH{y:V}(hx:In h N x a)(hy:In h N y b)(hb:b≠0)(la:wl a<10000000000)(lb:wl b<10000000000):Fn A.C 139 [x,y] h N (fun v h' n'=>Fc h' n' v (Rat.divInt a b)):=by
 intro w;rw[aQ,A.k139 (by simp)];obtain⟨n1,u1,rfl,Ae⟩:=hx.cells;obtain⟨n2,u2,rfl,fX⟩:=hy.cells;have o1:=Ae;have o2:=fX;unfold V.one at o1 o2;have kB:ab h N (((h.set N (.cells [.int .i64 n1,u1] 94 true)).set (N+1) (.cells [.int .i64 n2,u2] 94 true)).set (N+2) (.cells [.int .i64 0,.aa,.int .i64 0,.aa] 96 true)) (N+3):=aR (aR (aR ab.refl _) _) _;have done:∀(r:T V) (h1:T O) (m:Nat) (W1:List Nat) (a' b' oF nW:Int) (u1' u2':V),N+3<=m->ay N W1=[]->(∀i,i<N->h1.get i=h.get i)->h1.get N=some (.cells [.int .i64 oF,u1'] 94 true)->h1.get (N+1)=some (.cells [.int .i64 nW,u2'] 94 true)->h1.get (N+2)=some (.cells [.int .i64 0,.aa,.int .i64 0,.aa] 96 true)->
   In h1 m (.agg [.int .i64 oF,u1']) a'->In h1 m (.agg [.int .i64 nW,u2']) b'->0<b'->wl a'<10000000000->wl b'<10000000000->Rat.divInt a' b'=Rat.divInt a b->r.get 2=some (.ptr N 0)->r.get 3=some (.ptr (N+1) 0)->r.get 4=some (.ptr (N+2) 0)->
   bE A.C [.fin [.cell 4 (some 4)] ⟨h,N,w⟩] (fl (A.C.code none A.jj ⟨r,34,[]⟩ ⟨h1,m,W1⟩)) (EU (az (fun v h' n'=>Fc h' n' v (Rat.divInt a b)) h N w)):=by
  intro r h1 m W1 a' b' oF nW u1' u2' hm T7 hO g1 g2 g3 i1 i2 vi Hu Vk hq b2 b3 b4
  refine mO (Xcs hm T7 g1 g2 g3 i1 i2 vi Hu Vk b2 b3 b4) ?_
  rintro e fr ⟨H6,n6,W6⟩ ⟨rfl,r6,rfl,c4,q1,q2,q3,m1,v1,m2,v2,q4,q5⟩
  simp only at q1 q2 q3 q4 q5
  rw[hq]at q5
  simp[c4,q4,aS,aP,az,q1]
  exact⟨⟨by omega,fun i hi=>(q2 i hi).trans (hO i hi)⟩,q5⟩
 simp[A.b139,aS,aP,o1,o2];generalize kV:((h.set N (.cells [.int .i64 n1,u1] 94 true)).set (N+1) (.cells [.int .i64 n2,u2] 94 true)).set (N+2) (.cells [.int .i64 0,.aa,.int .i64 0,.aa] 96 true)=hB at*;have b1:hB.get N=some (.cells [.int .i64 n1,u1] 94 true):=by rw[<-kV];simp
 have b2:hB.get (N+1)=some (.cells [.int .i64 n2,u2] 94 true):=by rw[<-kV];simp
 have b3:hB.get (N+2)=some (.cells [.int .i64 0,.aa,.int .i64 0,.aa] 96 true):=by rw[<-kV];simp
 refine ar (J6 (hy.ad kB)) ?_;rintro _ h1 m1 k1 rfl;have kk:=kB.trans k1;have uM:=kk.le;have fM:=k1.le;have f1:=(k1.get N (by omega)).trans b1;have f2:=(k1.get (N+1) (by omega)).trans b2;have f3:=(k1.get (N+2) (by omega)).trans b3;by_cases hbn:b<0
 ·have s1:dN b= -1:=by unfold dN;rw[av hbn]
  have l1:N<m1:=by omega
  simp[s1,f1,l1,aS,aP];refine ar (MH (hx.ad kk) (by omega)) ?_;rintro _ h2 m2 k2 q1;obtain⟨n3,u3,rfl,MP⟩:=q1.cells;have o3:=MP;unfold V.one at o3;have iX:=k2.le;have f4:=(k2.get N (by omega)).trans f1;have f5:=(k2.get (N+1) (by omega)).trans f2;have f6:=(k2.get (N+2) (by omega)).trans f3;have l2:N+1<m2:=by omega
  simp[f5,l2,aS,aP];refine ar (MH ((hy.ad kk).ad k2) (by omega)) ?_;rintro _ h3 m3 k3 q2;obtain⟨n4,u4,rfl,QS⟩:=q2.cells;have o4:=QS;unfold V.one at o4;have jT:=k3.le;have f7:=(k3.get N (by omega)).trans f4;have f8:=(k3.get (N+1) (by omega)).trans f5;have f9:=(k3.get (N+2) (by omega)).trans f6;have l3:N+1<m3:=by omega
  have l4:N<m3:=by omega
  simp[f7,f8,l3,l4,ae,bO,o3,o4,dv.dw];have i1:=(q1.ad k3).aI (c1:=[.int .i64 n3,u3]) (e1:=94) (w1:=true) f7 hx.nu rfl;have i2:=q2.aI (c1:=[.int .i64 n3,u3]) (e1:=94) (w1:=true) f7 hx.nu rfl;have f8':((h3.set N (.cells [.int .i64 n3,u3] 94 true)):T O).get (N+1)=some (.cells [.int .i64 n2,u2] 94 true):=by rw[T.ag,ak (by omega)];exact f8
  have j1:=i1.aI (c1:=[.int .i64 n4,u4]) (e1:=94) (w1:=true) f8' hy.nu rfl;have j2:=i2.aI (c1:=[.int .i64 n4,u4]) (e1:=94) (w1:=true) f8' hy.nu rfl;have l5:¬N+1<N:=by omega
  exact done _ _ _ _ (-a) (-b) n3 n4 u3 u4 (by omega) (by simp[ay,l5]) (fun i hi=>by rw[T.ag,ak (by omega),T.ag,ak (by omega),k3.get i (by omega),k2.get i (by omega),kk.get i hi]) (by rw[T.ag,ak (by omega),T.ag,av rfl]) (by rw[T.ag,av rfl]) (by rw[T.ag,ak (by omega),T.ag,ak (by omega)];exact f9) j1 j2 (by omega) (by rw[Qs];exact la) (by rw[Qs];exact lb) (Rat.neg_divInt_neg a b) (by simp) (by simp) (by simp)
 have s1:dN b=1:=by unfold dN;rw[ak hbn,ak hb]
 simp[s1];exact done _ _ _ _ a b n1 n2 u1 u2 (by omega) (by simp[ay]) (fun i hi=>kk.get i hi) f1 f2 f3 (hx.ad kk) (hy.ad kk) (by omega) la lb rfl (by simp) (by simp) (by simp)
def A.b70:=A.q Tryz.f70
def A.k70:=@A.kk 70 16 [.cell 4 (some 4)] A.b70 (by kernel_rfl) rfl
def SN{x y:V}{p q:Rat}{h:T O}{N:Nat}(hx:Fc h N x p)(hy:Fc h N y q)(l1:wl p.num<1000000000)(l2:wl (p.den:Nat)<1000000000)(l3:wl q.num<1000000000)(l4:wl (q.den:Nat)<1000000000):Fn A.C 70 [x,y] h N (fun v h' n'=>Fc h' n' v (p*q)):=by
 intro w;rw[aQ,A.k70 (by simp)];obtain⟨n1,u1,n2,u2,rfl,s1,s2⟩:=hx;obtain⟨n3,u3,n4,u4,rfl,s3,s4⟩:=hy;have o1:=eD s1;have o2:=eD s2;have o3:=eD s3;have o4:=eD s4;unfold V.one at o1 o2 o3 o4;have kB:ab h N (((h.set N (.cells [.int .i64 n1,u1,.int .i64 n2,u2] 96 true)).set (N+1) (.cells [.int .i64 n3,u3,.int .i64 n4,u4] 96 true)).set (N+2) (.cells [.int .i64 0,.aa,.int .i64 0,.aa] 96 true)) (N+3):=aR (aR (aR ab.refl _) _) _;simp[A.b70,aS,aP,o1,o2,o3,o4];generalize kV:((h.set N (.cells [.int .i64 n1,u1,.int .i64 n2,u2] 96 true)).set (N+1) (.cells [.int .i64 n3,u3,.int .i64 n4,u4] 96 true)).set (N+2) (.cells [.int .i64 0,.aa,.int .i64 0,.aa] 96 true)=hB at*;have b1:hB.get N=some (.cells [.int .i64 n1,u1,.int .i64 n2,u2] 96 true):=by rw[<-kV];simp
 have b2:hB.get (N+1)=some (.cells [.int .i64 n3,u3,.int .i64 n4,u4] 96 true):=by rw[<-kV];simp
 have b3:hB.get (N+2)=some (.cells [.int .i64 0,.aa,.int .i64 0,.aa] 96 true):=by rw[<-kV];simp
 refine ar (Fu (s1.ad kB) (s3.ad kB) (by omega) (by omega)) ?_;rintro v5 h1 m1 k1 q1;have fM:=k1.le;have f1:=(k1.get N (by omega)).trans b1;have f2:=(k1.get (N+1) (by omega)).trans b2;have f3:=(k1.get (N+2) (by omega)).trans b3;have e1:N<m1:=by omega
 have e2:N+1<m1:=by omega
 simp[f1,f2,e1,e2,aS,aP];refine ar (Fu ((s2.ad kB).ad k1) ((s4.ad kB).ad k1) (by omega) (by omega)) ?_;rintro v6 h2 m2 k2 q2;have iX:=k2.le;have f4:=(k2.get (N+2) (by omega)).trans f3;simp[];have hd:((p.den:Nat):Int)*((q.den:Nat):Int)≠0:=by have:=p.den_nz;have:=q.den_nz;exact LP (by omega) (by omega)
 refine ar (YH (q1.ad k2) q2 hd ?_ ?_) ?_
 ·have:=Ke p.num q.num;omega
 ·have:=Ke ((p.den:Nat):Int) ((q.den:Nat):Int);omega
 rintro v7 h3 m3 k3 hv;rw[<-Rat.divInt_mul_divInt,D8,D8]at hv;obtain⟨n5,u5,n6,u6,rfl,t1,t2⟩:=hv;have o5:=eD t1;have o6:=eD t2;unfold V.one at o5 o6;have jT:=k3.le;have f5:=(k3.get (N+2) (by omega)).trans f4;have e3:N+2<m3:=by omega
 simp[f5,e3,aS,aP,ae,bO,o5,o6,dv.dw,az];have kk:=((kB.trans k1).trans k2).trans k3;exact⟨kk.set (by omega),n5,u5,n6,u6,rfl,t1.aI (i:=N+2) f5 pF rfl,t2.aI (i:=N+2) f5 pF rfl⟩
def Yik{x:V}{q:Rat}{h:T O}{N:Nat}(hx:Fc h N x q):Fn A.C 142 [x] h N (fun v _ _=>v=.bool (decide (q.den=1))):=by
 intro w;rw[aQ,A.k142 (by simp)];obtain⟨n1,u1,n2,u2,rfl,s1,s2⟩:=hx;have o1:=eD s1;have o2:=eD s2;unfold V.one at o1 o2;rcases s2 with⟨e0,_,_⟩|⟨i,o,l,c,e0,_,hz⟩
 ·simp only[V.agg.injEq,jc,V.int.injEq,true_and,and_true]at e0;obtain⟨rfl,rfl⟩:=e0;by_cases c1:q.den=1
  ·have c2:((q.den:Nat):Int)=1:=by omega
   simp[A.b142,aS,o1,bA,c1,az];exact aR ab.refl _
  have c2:¬((q.den:Nat):Int)=1:=by omega
  simp[A.b142,aS,o1,bA,c1,c2,az];exact aR ab.refl _
 simp only[V.agg.injEq,jc,V.int.injEq,true_and,and_true]at e0;obtain⟨rfl,rfl⟩:=e0;have c1:¬q.den=1:=by omega
 simp[A.b142,aS,o1,bA,c1,az];exact aR ab.refl _
def A.b72:=A.q Tryz.f72
def A.k72:=@A.kk 72 16 [.tmp 2] A.b72 (by kernel_rfl) rfl
def Yfg{x:V}{q:Rat}{h:T O}{N:Nat}(hx:Fc h N x q)(hP:iG h N)(l1:(du q.num.natAbs).length<1000000000)(l2:(du q.den).length<1000000000):Fn A.C 72 [x] h N (fun v _ _=>v=.str (aO q)):=by
 intro w;rw[aQ,A.k72 (by simp)];have jK:=hx;obtain⟨n1,u1,n2,u2,rfl,s1,s2⟩:=hx;have o1:=eD s1;have o2:=eD s2;unfold V.one at o1 o2;have kB:=aR (ab.refl (h:=h) (n:=N)) (.cells [.int .i64 n1,u1,.int .i64 n2,u2] 96 true);simp[A.b72,aS,aP,o1,o2];generalize kV:h.set N (.cells [.int .i64 n1,u1,.int .i64 n2,u2] 96 true)=hB at*;have b1:hB.get N=some (.cells [.int .i64 n1,u1,.int .i64 n2,u2] 96 true):=by rw[<-kV];simp
 refine ar (Yik (jK.ad kB)) ?_;rintro _ h1 m1 k1 rfl;have fM:=k1.le;have f1:=(k1.get N (by omega)).trans b1;have kk:=kB.trans k1;by_cases c1:q.den=1
 ·simp[c1,f1,aS,aP];refine ar (Vz (s1.ad kk) (hP.ad kk) (by omega)) ?_;rintro _ h2 m2 k2 rfl;simp[az,aO,c1];exact kk.trans k2
 have l0:N<m1:=by omega
 simp[c1,f1,l0,aS,aP];refine ar (Vz (s1.ad kk) (hP.ad kk) (by omega)) ?_;rintro _ h2 m2 k2 rfl;have iX:=k2.le;have DS:=kk.trans k2;have f2:=(k2.get N (by omega)).trans f1;have l3:N<m2:=by omega
 have cU:IntKind.max .i64=9223372036854775807:=rfl;have hS1:(aN q.num).length<2000000000:=by
  have h1:(aq q.num.natAbs).length<=(du q.num.natAbs).length+1:=by unfold aq;split<;>simp
  unfold aN;split<;>simp<;>omega
 have hS2:(aq q.den).length<2000000000:=by
  have h1:(aq q.den).length<=(du q.den).length+1:=by unfold aq;split<;>simp
  omega
 have nJ:aO q=aN q.num++47::aq q.den:=by unfold aO;rw[ak c1]
 have hdI:aN ((q.den:Nat):Int)=aq q.den:=by unfold aN;rw[ak (by omega)];rfl
 rw[nJ];generalize aN q.num=S1 at*;have g1:¬(9223372036854775807:Int)<(S1.length:Int)+1:=by omega
 simp[f2,l3,jE,cU,g1,aS,aP];refine ar (Vz (s2.ad DS) (hP.ad DS) (by rw[ed];omega)) ?_;rintro _ h3 m3 k3 rfl;rw[hdI];generalize aq q.den=S2 at*;have g2:¬(9223372036854775807:Int)<(S1.length:Int)+1+(S2.length:Int):=by omega
 simp[jE,cU,g2,dv.dw,az];exact DS.trans k3
def A.QZ:=A.q Tryz.f101
def A.tY:=A.qt A.QZ [] [] [1,1]
def A.b101:=(fun y0=>A.qt A.QZ [] [([1,1],y0)] []) A.tY
def A.k101:=@A.kk 101 34 [.cell 4 (some 4)] A.b101 (by kernel_rfl) rfl
def Zo1{q:Rat}(h:q.den=1):q=(q.num:Rat):=by
 apply Rat.ext
 ·simp
 simp[h]
def Xbf{H:T O}{N n:Nat}{W:List Nat}{r:T V}{p q:Rat}{n1 n2 n3 n4:Int}{u1 u2 u3 u4:V}(hn:N+3<=n)(hW:ay N W=[])(b1:H.get N=some (.cells [.int .i64 n1,u1,.int .i64 n2,u2] 96 true))(b2:H.get (N+1)=some (.cells [.int .i64 n3,u3,.int .i64 n4,u4] 96 true))(b3:H.get (N+2)=some (.cells [.int .i64 0,.aa,.int .i64 0,.aa] 96 true))
  (s1:In H n (.agg [.int .i64 n1,u1]) p.num) (s2:In H n (.agg [.int .i64 n2,u2]) (p.den:Nat)) (s3:In H n (.agg [.int .i64 n3,u3]) q.num) (s4:In H n (.agg [.int .i64 n4,u4]) (q.den:Nat)) (l1:wl p.num<1000000000) (l2:wl (p.den:Nat)<1000000000) (l3:wl q.num<1000000000) (l4:wl (q.den:Nat)<1000000000) (a2:r.get 2=some (.ptr N 0)) (a3:r.get 3=some (.ptr (N+1) 0)) (a4:r.get 4=some (.ptr (N+2) 0)):
  Code A.C none A.tY ⟨r,34,[]⟩ ⟨H,n,W⟩ (fun e fr st=>e=.ret/\∃r',fr=⟨r',34,[]⟩/\r'.get 4=some (.ptr (N+2) 0)/\VA H N (p+q) st):=by
 rw[bu];have o1:=eD s1;have o2:=eD s2;have o3:=eD s3;have o4:=eD s4;unfold V.one at o1 o2 o3 o4;have z1:N<n:=by omega
 have z2:N+1<n:=by omega
 simp[A.tY,a2,a3,b1,b2,z1,z2,aS,aP];refine ar (Fu s1 s4 (by omega) (by omega)) ?_;rintro v5 h1 m1 k1 q1;have fM:=k1.le;have f1:=(k1.get N (by omega)).trans b1;have f2:=(k1.get (N+1) (by omega)).trans b2;have f3:=(k1.get (N+2) (by omega)).trans b3;have e1:N<m1:=by omega
 have e2:N+1<m1:=by omega
 simp[a2,a3,f1,f2,e1,e2,aS,aP];refine ar (Fu (s3.ad k1) (s2.ad k1) (by omega) (by omega)) ?_;rintro v6 h2 m2 k2 q2;have iX:=k2.le;have w1:=Ke p.num ((q.den:Nat):Int);have w2:=Ke q.num ((p.den:Nat):Int);have w3:=Ke ((p.den:Nat):Int) ((q.den:Nat):Int);have w4:=Ye3 (p.num*((q.den:Nat):Int)) (q.num*((p.den:Nat):Int));simp[];refine ar (Qy (q1.ad k2) q2 (by omega) (by omega)) ?_;rintro v7 h3 m3 k3 q3;have jT:=k3.le;have k13:=(k1.trans k2).trans k3;have f4:=(k13.get N (by omega)).trans b1;have f5:=(k13.get (N+1) (by omega)).trans b2;have e3:N<m3:=by omega
 have e4:N+1<m3:=by omega
 simp[a2,a3,f4,f5,e3,e4,aS,aP];refine ar (Fu (s2.ad k13) (s4.ad k13) (by omega) (by omega)) ?_;rintro v8 h4 m4 k4 q4;have we:=k4.le;have k14:=k13.trans k4;have hd:((p.den:Nat):Int)*((q.den:Nat):Int)≠0:=by have:=p.den_nz;have:=q.den_nz;exact LP (by omega) (by omega)
 simp[];refine ar (YH (q3.ad k4) q4 hd (by omega) (by omega)) ?_;rintro v9 h5 m5 k5 hv;have uT:((p.den:Nat):Int)≠0:=by have:=p.den_nz;omega
 have xW:((q.den:Nat):Int)≠0:=by have:=q.den_nz;omega
 rw[<-Rat.divInt_add_divInt _ _ uT xW,D8,D8]at hv;obtain⟨n5,u5,n6,u6,rfl,t1,t2⟩:=hv;have o5:=eD t1;have o6:=eD t2;unfold V.one at o5 o6;have Kw:=k5.le;have k15:=k14.trans k5;have f6:=(k15.get (N+2) (by omega)).trans b3;have e5:N+2<m5:=by omega
 simp[a4,f6,e5,ae,bO,o5,o6,dv.dw];have nW:¬N+2<N:=by omega
 refine⟨by simp[ay,hW,nW],fun i hi=>?_,by show N+3<=m5;omega,n5,u5,n6,u6,by show T.get (T.set _ _ _) _=_;rw[T.ag,av rfl],n5,u5,n6,u6,rfl,t1.aI (i:=N+2) f6 pF rfl,t2.aI (i:=N+2) f6 pF rfl⟩;show T.get (T.set _ _ _) _=_;rw[T.ag,ak (by omega),k15.get i (by omega)]
def Yi3{x y:V}{p q:Rat}{h:T O}{N:Nat}(hx:Fc h N x p)(hy:Fc h N y q)(l1:wl p.num<1000000000)(l2:wl (p.den:Nat)<1000000000)(l3:wl q.num<1000000000)(l4:wl (q.den:Nat)<1000000000):Fn A.C 101 [x,y] h N (fun v h' n'=>Fc h' n' v (p+q)):=by
 intro w;rw[aQ,A.k101 (by simp)];have jK:=hx;have yD:=hy;obtain⟨n1,u1,n2,u2,rfl,s1,s2⟩:=hx;obtain⟨n3,u3,n4,u4,rfl,s3,s4⟩:=hy;have o1:=eD s1;have o2:=eD s2;have o3:=eD s3;have o4:=eD s4;unfold V.one at o1 o2 o3 o4;have kB:ab h N (((h.set N (.cells [.int .i64 n1,u1,.int .i64 n2,u2] 96 true)).set (N+1) (.cells [.int .i64 n3,u3,.int .i64 n4,u4] 96 true)).set (N+2) (.cells [.int .i64 0,.aa,.int .i64 0,.aa] 96 true)) (N+3):=aR (aR (aR ab.refl _) _) _;simp[A.b101,aS,aP,o1,o2,o3,o4];generalize kV:((h.set N (.cells [.int .i64 n1,u1,.int .i64 n2,u2] 96 true)).set (N+1) (.cells [.int .i64 n3,u3,.int .i64 n4,u4] 96 true)).set (N+2) (.cells [.int .i64 0,.aa,.int .i64 0,.aa] 96 true)=hB at*;have b1:hB.get N=some (.cells [.int .i64 n1,u1,.int .i64 n2,u2] 96 true):=by rw[<-kV];simp
 have b2:hB.get (N+1)=some (.cells [.int .i64 n3,u3,.int .i64 n4,u4] 96 true):=by rw[<-kV];simp
 have b3:hB.get (N+2)=some (.cells [.int .i64 0,.aa,.int .i64 0,.aa] 96 true):=by rw[<-kV];simp
 refine ar (Yik (jK.ad kB)) ?_;rintro _ h0 m0 k0 rfl;have zb0:=k0.le;have k0':=kB.trans k0;have d1:=(k0.get N (by omega)).trans b1;have d2:=(k0.get (N+1) (by omega)).trans b2;have d3:=(k0.get (N+2) (by omega)).trans b3;by_cases cp:p.den=1
 ·simp[cp,d2,aS,aP];refine ar (Yik (yD.ad k0')) ?_;rintro _ h1 m1 k1 rfl;have fM:=k1.le;have g1:=(k1.get N (by omega)).trans d1;have g2:=(k1.get (N+1) (by omega)).trans d2;have g3:=(k1.get (N+2) (by omega)).trans d3;have k1':=k0'.trans k1;by_cases cq:q.den=1
  ·simp[cq,g1,g2,aS,aP];refine ar (Qy (s1.ad k1') (s3.ad k1') (by omega) (by omega)) ?_;rintro v5 h2 m2 k2 q1;have iX:=k2.le;simp[];refine ar (Zss q1) ?_;rintro _ h3 m3 k3 ⟨n5,u5,n6,u6,rfl,t1,t2⟩;have o5:=eD t1;have o6:=eD t2;unfold V.one at o5 o6;have jT:=k3.le;have f5:=(k3.get (N+2) (by omega)).trans ((k2.get (N+2) (by omega)).trans g3);simp[f5,aS,aP,ae,bO,o5,o6,az];have kk:=(k1'.trans k2).trans k3;have VB:p+q=((p.num+q.num:Int):Rat):=by rw[Zo1 cp,Zo1 cq];simp
   rw[VB];exact⟨kk.set (by omega),n5,u5,n6,u6,rfl,t1.aI (i:=N+2) f5 pF rfl,t2.aI (i:=N+2) f5 pF rfl⟩
  simp[cq];refine mO (Xbf (N:=N) (p:=p) (q:=q) (by omega) (by simp[ay]) g1 g2 g3 (s1.ad k1') (s2.ad k1') (s3.ad k1') (s4.ad k1') l1 l2 l3 l4 (by simp) (by simp) (by simp)) ?_;rintro e fr ⟨H6,n6,W6⟩ ⟨rfl,r6,rfl,c4,q1,q2,q3,m5,v5,m6,v6,q4,q5⟩;simp only at q1 q2 q3 q4 q5;simp[c4,q4,aS,aP,az,q1];exact⟨⟨by omega,fun i hi=>(q2 i hi).trans (k1'.get i hi)⟩,q5⟩
 simp[cp];refine mO (Xbf (N:=N) (p:=p) (q:=q) (by omega) (by simp[ay]) d1 d2 d3 (s1.ad k0') (s2.ad k0') (s3.ad k0') (s4.ad k0') l1 l2 l3 l4 (by simp) (by simp) (by simp)) ?_;rintro e fr ⟨H6,n6,W6⟩ ⟨rfl,r6,rfl,c4,q1,q2,q3,m5,v5,m6,v6,q4,q5⟩;simp only at q1 q2 q3 q4 q5;simp[c4,q4,aS,aP,az,q1];exact⟨⟨by omega,fun i hi=>(q2 i hi).trans (k0'.get i hi)⟩,q5⟩
def A.b102:=A.q Tryz.f102
def A.k102:=@A.kk 102 22 [.cell 2 (some 4)] A.b102 (by kernel_rfl) rfl
def Zpl{z:Int}{h:T O}{N:Nat}(hl:(aN z).length<=100000):Fn A.C 174 [.str (aN z)] h N (fun v h' n'=>In h' n' v z):=by
 have hb:(aq z.natAbs).length<=100000:=by unfold aN at hl;split at hl<;>(try simp at hl)<;>omega
 have:=Ygr (s:=aN z) (h:=h) (N:=N) (by rw[My];exact Ag _) (by rw[My];exact hb);rw[Mw,My,B6]at this;have e:(if decide (z<0)=true then -(z.natAbs:Int) else (z.natAbs:Int))=z:=by by_cases hz:z<0<;>simp[hz]<;>omega
 rw[e]at this;exact this
def Yiw{q:Rat}{h:T O}{N:Nat}(l1:(aN q.num).length<=100000)(l2:(aq q.den).length<=100000):Fn A.C 102 [.str (aO q)] h N (fun v h' n'=>Fc h' n' v q):=by
 intro w;have hc:=fun st=>Yqj (s:=aO q) (st:=st) (by unfold aO;split<;>(try simp)<;>omega);rw[Py]at hc;have kB:=aR (ab.refl (h:=h) (n:=N)) (.cells [.int .i64 0,.aa,.int .i64 0,.aa] 96 true);rw[aQ,A.k102 (by simp)];by_cases c1:q.den=1
 ·have aE:¬ah (aO q)<(aO q).length:=fun hx=>(EY q).1 hx c1;simp[A.b102,hc,aE];refine ar (Zpl l1) ?_;rintro v1 h1 m1 k1 q1;simp[];refine ar (Zss q1) ?_;rintro _ h3 m3 k3 ⟨n5,u5,n6,u6,rfl,t1,t2⟩;have o5:=eD t1;have o6:=eD t2;unfold V.one at o5 o6;have fM:=k1.le;have jT:=k3.le;have kk:=(kB.trans k1).trans k3;have f5:=((k1.trans k3).get N (by omega));rw[T.ag,av rfl]at f5;simp[f5,aS,aP,ae,bO,o5,o6,az];rw[Zo1 c1];exact⟨kk.set (by omega),n5,u5,n6,u6,rfl,t1.aI f5 pF rfl,t2.aI f5 pF rfl⟩
 have aE:ah (aO q)<(aO q).length:=(EY q).2 c1;have hd:=Pz q c1;have hdI:aq q.den=aN ((q.den:Nat):Int):=by unfold aN;rw[ak (by omega)];rfl
 rw[hdI]at l2 hd;simp[A.b102,hc,aE,hd];refine ar (Zpl l1) ?_;rintro v1 h1 m1 k1 q1;simp[];refine ar (Zpl l2) ?_;rintro v2 h2 m2 k2 q2;obtain⟨n5,u5,rfl,Cs⟩:=q1.cells;obtain⟨n6,u6,rfl,Kq⟩:=q2.cells;have o5:=Cs;have o6:=Kq;unfold V.one at o5 o6;have fM:=k1.le;have iX:=k2.le;have kk:=(kB.trans k1).trans k2;have f5:=((k1.trans k2).get N (by omega));rw[T.ag,av rfl]at f5;simp[f5,aS,aP,ae,bO,o5,o6,az];exact⟨kk.set (by omega),n5,u5,n6,u6,rfl,(q1.ad k2).aI f5 pF rfl,q2.aI f5 pF rfl⟩
variable {N k:Nat} {h:T O} {x:V} {z:Int}
def A.b128:=A.q Tryz.f128
def A.k128:=@A.kk 128 6 [.tmp 2] A.b128 (by kernel_rfl) rfl
def A.b71:=A.q Tryz.f71
def A.k71:=@A.kk 71 11 [.tmp 2] A.b71 (by kernel_rfl) rfl
def A.b141:=A.q Tryz.f141
def A.k141:=@A.kk 141 13 [.tmp 2] A.b141 (by kernel_rfl) rfl
def A.b208:=A.q Tryz.f208
def A.k208:=@A.kk 208 25 [.tmp 2] A.b208 (by kernel_rfl) rfl
def Fc.parts{q:Rat}(s:Fc h N x q):∃n1 u1 n2 u2,x=.agg [.int .i64 n1,u1,.int .i64 n2,u2]/\In h N (.agg [.int .i64 n1,u1]) q.num/\In h N (.agg [.int .i64 n2,u2]) (q.den:Int)/\V.one u1=true/\V.one u2=true:=by obtain⟨n1,u1,n2,u2,rfl,s1,s2⟩:=s;exact⟨n1,u1,n2,u2,rfl,s1,s2,eD s1,eD s2⟩
def YI{q:Rat}(hx:Fc h N x q):Fn A.C 128 [x] h N (fun v _ _=>v=.int .i64 (dN q.num)):=by intro w;obtain⟨n1,u1,n2,u2,rfl,s1,s2,o1,o2⟩:=hx.parts;unfold V.one at o1 o2;rw[aQ,A.k128 (by simp)];have k0:=(ab.refl (h:=h) (n:=N)).new (.cells [.int .i64 n1,u1,.int .i64 n2,u2] 96 true);simp[A.b128,aS,aP,o1,o2];refine ar (J6 (s1.ad k0)) ?_;rintro _ h1 m1 k1 rfl;simp[az];exact k0.trans k1
def You{n d:Nat}(hk:(aJ n).length=k+1)(hd:(aJ n)[k]?=some d):n<2^(64*k+ba d):=by
 have h1:=oO n;have h2:=He (b:=B) hd;rw[fU (by omega),h1]at h2;have h3:val B ((aJ n).take k)<B^k:=by have:=Hf (b:=B) (l:=(aJ n).take k) (fun x hx=>tK n x (wy hx));rw[ik,ry (by omega)]at this;exact this
 have h4:d+1<=2^ba d:=Ve d;have h5:B^k*(d+1)<=B^k*2^ba d:=lF _ h4;have h6:B^k=2^(64*k):=by rw[Nat.pow_mul];rfl
 rw[mJ,<-h6];rw[vF]at h5;omega
def Zyk{n b:Nat}(h:600<(aq n).length)(hb:n<2^b):1800<b:=by
 apply Classical.byContradiction;intro hc;obtain⟨M,hM⟩:∃M:Nat,M=600:=⟨_,rfl⟩;have h1:n<2^(3*M):=fg hb (PB (by omega));have h2:(2:Nat)^(3*M)<=10^M:=by rw[Nat.pow_mul];exact I1 (by decide) _
 have h3:=(CO (n:=n) (k:=M) (by omega)).2 (fg h1 h2);omega
def Yvn(hx:In h N x z)(hl:wl z<10000000000):Fn A.C 208 [x] h N (fun v _ _=>∃b:Nat,v=.int .i64 b/\z.natAbs<2^b):=by
 intro w;obtain⟨n,u,rfl,hu⟩:=hx.cells;have ot:=hu;unfold V.one at ot;have k0:=(ab.refl (h:=h) (n:=N)).new (.cells [.int .i64 n,u] 94 true);rw[aQ,A.k208 (by simp)];simp[A.b208,aS,aP,ot];refine ar (Fp (hx.ad k0)) ?_;rintro _ h1 m1 k1 ⟨u2,rfl,hw⟩;have hlen:=Sl.len hw;rw[bz]at hlen;by_cases h0:(aJ z.natAbs).length=0
 ·rw[h0]at hlen;have hz:z.natAbs=0:=by have:=oO z.natAbs;rw[th h0]at this;simpa[val]using this.symm
  simp[hlen,az];exact⟨k0.trans k1,0,rfl,by omega⟩
 obtain⟨k,hk⟩:∃k,(aJ z.natAbs).length=k+1:=⟨(aJ z.natAbs).length-1,by omega⟩;rw[hk]at hlen;obtain⟨d,hd⟩:=bj (l:=aJ z.natAbs) (k:=k) (by omega);obtain⟨i,o,c,e,rw,q1,q2,q3,q4⟩:=Sl.at hw (fZ hd);have Vb:d<18446744073709551616:=(tK _).get hd;have rP:k+1<10000000000:=by have:=hl;unfold wl at this;omega
 have hbl:ba d<=64:=by
  apply Classical.byContradiction;intro hc;have h1:d≠0:=fun h=>by rw[h]at hc;simp[ba]at hc
  have h2:=MJ h1;have h3:=PB (j:=64) (k:=ba d-1) (by omega);have h4:(2:Nat)^64=18446744073709551616:=by decide
  omega
 have c1:¬((k:Int)+1=0):=by omega
 have c2:bn .i64 ((k:Int)+1-1)=(k:Int):=by rw[cL (by omega) (by omega)];omega
 have c3:bn .i64 (64*(k:Int))=64*(k:Int):=cL (by omega) (by omega);have c4:bn .i64 (64*(k:Int)+(ba d:Nat))=64*(k:Int)+(ba d:Nat):=cL (by omega) (by omega);have c5:(k:Int)<(k:Int)+1:=by omega
 simp(disch:=omega) [hlen,c1,c3,q1,q3,q4];refine ar (Ztn Vb) ?_;rintro _ h2 m2 k2 ⟨rfl,rfl,rfl⟩;simp[c4,az];exact⟨k0.trans k1,64*k+ba d,by simp,You hk hd⟩
def Yh1(hx:In h N x z)(hP:iG h N)(hl:wl z<10000000000)(hd:(du z.natAbs).length<1000000000):Fn A.C 141 [x] h N (fun v _ _=>v=.bool (decide (600<(aq z.natAbs).length))):=by
 intro w;obtain⟨n,u,rfl,hu⟩:=hx.cells;have ot:=hu;unfold V.one at ot;have k0:=(ab.refl (h:=h) (n:=N)).new (.cells [.int .i64 n,u] 94 true);have g0:(h.set N (.cells [.int .i64 n,u] 94 true)).get N=some (.cells [.int .i64 n,u] 94 true):=by rw[T.ag,av rfl]
 rw[aQ,A.k141 (by simp)];simp[A.b141,aS,aP,ot];refine ar (Yvn (hx.ad k0) hl) ?_;rintro _ h1 m1 k1 ⟨b,rfl,hb⟩;have g1:=(k1.get N (by omega)).trans g0;by_cases hbb:1800<b
 ·have Kx:(1800:Int)<(b:Int):=by omega
  simp[Kx,g1,aS,aP];refine ar (Vz ((hx.ad k0).ad k1) ((hP.ad k0).ad k1) (by omega)) ?_;rintro _ h2 m2 k2 rfl;have ht:=fun st=>Zlp (s:=aN z) (st:=st);rw[My]at ht;simp[ht,az];exact⟨(k0.trans k1).trans k2,by omega⟩
 have Kx:¬(1800:Int)<(b:Int):=by omega
 have PO:¬600<(aq z.natAbs).length:=fun hc=>hbb (Zyk hc hb);simp[Kx,PO,az];exact k0.trans k1
def wN(h:z.natAbs<2^k):wl z<=k:=by have:=Hx (fg h (I1 (by decide) k));unfold wl at this ⊢;rwa [ed]at this
def Zv6{q:Rat}(hx:Fc h N x q)(hP:iG h N)(hq:Qb k q)(hk:k<=400000000):Fn A.C 71 [x] h N (fun v _ _=>v=.bool (wW q)):=by
 intro w;obtain⟨n1,u1,n2,u2,rfl,s1,s2,o1,o2⟩:=hx.parts;unfold V.one at o1 o2;have k0:=(ab.refl (h:=h) (n:=N)).new (.cells [.int .i64 n1,u1,.int .i64 n2,u2] 96 true);have g0:(h.set N (.cells [.int .i64 n1,u1,.int .i64 n2,u2] 96 true)).get N=some (.cells [.int .i64 n1,u1,.int .i64 n2,u2] 96 true):=by rw[T.ag,av rfl]
 have l1:=IE hq.1;have l2:=IE hq.2;have z1:=wN hq.1;have z2:=wN (z:=(q.den:Int)) (k:=k) (by rw[ed];exact hq.2);rw[aQ,A.k71 (by simp)];simp[A.b71,aS,aP,o1,o2];refine ar (Yh1 (s1.ad k0) (hP.ad k0) (by omega) (by omega)) ?_;rintro _ h1 m1 k1 rfl;have g1:=(k1.get N (by omega)).trans g0;unfold wW;by_cases c1:600<(aq q.num.natAbs).length
 ·simp[c1,az];exact k0.trans k1
 simp[c1,g1,aS,aP];refine ar (Yh1 ((s2.ad k0).ad k1) ((hP.ad k0).ad k1) (by omega) (by rw[ed];omega)) ?_;rintro _ h2 m2 k2 rfl;simp[az];exact(k0.trans k1).trans k2
end
end Go.Mx
