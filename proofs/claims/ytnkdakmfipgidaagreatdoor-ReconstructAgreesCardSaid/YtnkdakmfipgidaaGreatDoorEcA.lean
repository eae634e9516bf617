/-num-/
import Derived.Test.YtnkdakmfipgidaaGreatDoorVbE
set_option linter.all false
namespace Go.Mx
noncomputable section
open Go Go.Proofs
set_option maxRecDepth 1000000
def A.b186:=A.q Tryz.f186
def A.k186:=@A.kk 186 8 [.cell 2 (some 4)] A.b186 (by kernel_rfl) rfl
def A.b129:=A.q Tryz.f129
def A.k129:=@A.kk 129 9 [.cell 4 (some 4)] A.b129 (by kernel_rfl) rfl
def A.b126:=A.q Tryz.f126
def A.k126:=@A.kk 126 10 [.tmp 3] A.b126 (by kernel_rfl) rfl
def A.b128:=A.q Tryz.f128
def A.k128:=@A.kk 128 7 [.cell 3 (some 4)] A.b128 (by kernel_rfl) rfl
def A.b130:=A.q Tryz.f130
def A.k130:=@A.kk 130 11 [.cell 5 (some 4)] A.b130 (by kernel_rfl) rfl
def Ysd{x:V}{q:Rat}{h:T O}{N:Nat}(hx:Fc h N x q)(h0:q≠0)(l1:wl q.num<1000000000)(l2:wl (q.den:Nat)<1000000000):Fn A.C 186 [x] h N (fun v h' n'=>Fc h' n' v q⁻¹):=by
 intro w;rw[aN,A.k186 (by simp)];obtain⟨n1,u1,n2,u2,rfl,s1,s2⟩:=hx;have o1:=dL s1;have o2:=dL s2;unfold V.one at o1 o2;have kB:ab h N ((h.set N (.cells [.int .i64 n1,u1,.int .i64 n2,u2] 123 true)).set (N+1) (.cells [.int .i64 0,.aa,.int .i64 0,.aa] 123 true)) (N+2):=aM (aM ab.refl _) _;simp[A.b186,aQ,aL,o1,o2];generalize jz:(h.set N (.cells [.int .i64 n1,u1,.int .i64 n2,u2] 123 true)).set (N+1) (.cells [.int .i64 0,.aa,.int .i64 0,.aa] 123 true)=hB at*;have b3:hB.get (N+1)=some (.cells [.int .i64 0,.aa,.int .i64 0,.aa] 123 true):=by rw[<-jz];simp
 have hn:q.num≠0:=fun hc=>h0 (HT.1 hc);refine av (Ye (s2.ad kB) (s1.ad kB) hn (by omega) (by omega)) ?_;rintro v7 h3 m3 k3 hv;rw[<-Zrf]at hv;obtain⟨n5,u5,n6,u6,rfl,t1,t2⟩:=hv;have o5:=dL t1;have o6:=dL t2;unfold V.one at o5 o6;have jG:=k3.le;have f5:=(k3.get (N+1) (by omega)).trans b3;have e3:N+1<m3:=by omega
 simp[f5,aQ,aL,ag,bO,o5,o6,ax];have kk:=kB.trans k3;exact⟨kk.set (by omega),n5,u5,n6,u6,rfl,t1.aI (i:=N+1) f5 pe rfl,t2.aI (i:=N+1) f5 pe rfl⟩
def Ysf{x y:V}{p q:Rat}{h:T O}{N:Nat}(hx:Fc h N x p)(hy:Fc h N y q)(h0:q≠0)(l1:wl p.num<1000000000)(l2:wl (p.den:Nat)<1000000000)(l3:wl q.num<1000000000)(l4:wl (q.den:Nat)<1000000000)(l5:wl q⁻¹.num<1000000000)(l6:wl (q⁻¹.den:Nat)<1000000000):Fn A.C 129 [x,y] h N (fun v h' n'=>Fc h' n' v (p/q)):=by
 intro w;rw[aN,A.k129 (by simp)];have fK:=hx;have tO:=hy;obtain⟨n1,u1,n2,u2,rfl,s1,s2⟩:=hx;obtain⟨n3,u3,n4,u4,rfl,s3,s4⟩:=hy;have o1:=dL s1;have o2:=dL s2;have o3:=dL s3;have o4:=dL s4;unfold V.one at o1 o2 o3 o4;have kB:ab h N (((h.set N (.cells [.int .i64 n1,u1,.int .i64 n2,u2] 123 true)).set (N+1) (.cells [.int .i64 n3,u3,.int .i64 n4,u4] 123 true)).set (N+2) (.cells [.int .i64 0,.aa,.int .i64 0,.aa] 123 true)) (N+3):=aM (aM (aM ab.refl _) _) _;simp[A.b129,aQ,aL,o1,o2,o3,o4];generalize jz:((h.set N (.cells [.int .i64 n1,u1,.int .i64 n2,u2] 123 true)).set (N+1) (.cells [.int .i64 n3,u3,.int .i64 n4,u4] 123 true)).set (N+2) (.cells [.int .i64 0,.aa,.int .i64 0,.aa] 123 true)=hB at*;have b1:hB.get N=some (.cells [.int .i64 n1,u1,.int .i64 n2,u2] 123 true):=by rw[<-jz];simp
 have b2:hB.get (N+1)=some (.cells [.int .i64 n3,u3,.int .i64 n4,u4] 123 true):=by rw[<-jz];simp
 have b3:hB.get (N+2)=some (.cells [.int .i64 0,.aa,.int .i64 0,.aa] 123 true):=by rw[<-jz];simp
 refine av (Ysd (tO.ad kB) h0 l3 l4) ?_;rintro v5 h1 m1 k1 q1;have fL:=k1.le;have f1:=(k1.get N (by omega)).trans b1;have f2:=(k1.get (N+1) (by omega)).trans b2;have f3:=(k1.get (N+2) (by omega)).trans b3;have e1:N<m1:=by omega
 have e2:N+1<m1:=by omega
 simp;refine av (Sf ((fK.ad kB).ad k1) q1 l1 l2 l5 l6) ?_;rintro v7 h3 m3 k3 hv;rw[<-Rat.div_def]at hv;obtain⟨n5,u5,n6,u6,rfl,t1,t2⟩:=hv;have o5:=dL t1;have o6:=dL t2;unfold V.one at o5 o6;have jG:=k3.le;have f5:=(k3.get (N+2) (by omega)).trans f3;have e3:N+2<m3:=by omega
 simp[f5,e3,aQ,aL,ag,bO,o5,o6,cQ.cU,ax];have kk:=(kB.trans k1).trans k3;exact⟨kk.set (by omega),n5,u5,n6,u6,rfl,t1.aI (i:=N+2) f5 pe rfl,t2.aI (i:=N+2) f5 pe rfl⟩
variable {N k:Nat} {h:T O} {rw:Bool}
def Yzk{q:Rat}(h:Qb k q)(h0:q≠0):Qb k q⁻¹:=by
 have e:=Zrf q;have h1:q.num≠0:=fun hc=>h0 (HT.1 hc);refine⟨?_,?_⟩
 ·rw[Rat.num_inv,ye,eh];have:q.num.sign.natAbs=1:=by
   rcases Int.lt_trichotomy q.num 0 with h2|h2|h2
   ·rw[Int.sign_eq_neg_one_of_neg h2];rfl
   ·exact absurd h2 h1
   rw[Int.sign_eq_one_of_pos h2];rfl
  rw[this,Nat.one_mul];exact h.2
 rw[Rat.den_inv,ak h1];exact h.1
def Ywh{p:Nat}{u:V}{l:List Rat}{e:TypeId}(hp:h.get p=some (.cells [.int .i64 k] e rw))(jA:p<N)(hu:kf h N u l)(hk:k<l.length):ij A.C (.func 126 [] [.ptr p 0]) [u] h N (fun x _ _=>x=.bool (decide (l[k]?.getD 0≠0))):=by
 intro w;have l1:=hu.len;have iD:(k:Int)<(l.length:Int):=by omega
 obtain⟨q,hq⟩:=bj hk;obtain⟨i,o,cc,e,rw,c,q1,q2,q3,q4,q5⟩:=hu.at hq;rw[hq];rw[aN,A.k126 (by simp)];simp[A.b126,hp,l1,iD,q1,q3,q4];refine av (Yf q5.fc) ?_;rintro _ H2 n2 k2 rfl;have hz:(eE q.num≠0)=(q≠0):=by
  have h1:=@HT q;apply propext;unfold eE;constructor
  ·intro hh hc;have:=h1.2 hc;rw[this]at hh;simp at hh
  intro hh hc;apply hh;apply h1.1;split at hc
  ·omega
  split at hc<;>omega
 simp[ax];refine⟨k2,?_⟩;by_cases c0:q=0
 ·simp[c0,eE]
 have:eE q.num≠0:=by rw[hz];exact c0
 simp[c0,this]
def Ywg{p:Nat}{c d:List V}{x q:Rat}{e:TypeId}{j:Nat}(hp:h.get p=some (.cells d e rw))(jA:p<N)(hc:fV h N c x)(hd:fV h N d q)(h0:q≠0)(hx:Qb j x)(hq:Qb k q)(hj:j<=500000000)(hk:k<=500000000):ij A.C (.func 128 [] [.ptr p 0]) [.agg c] h N (fun z h' n'=>Fc h' n' z (x/q)):=by
 intro w;obtain⟨c1,c2⟩:=hc.len;obtain⟨d1,d2⟩:=hd.len;have w1:=hx.DF;have w2:=hq.DF;have w3:=(Yzk hq h0).DF;have mW:∀c:List V,(V.agg c).cells=c:=fun _=>rfl;have s0:aL c 0 4=some c:=by unfold aL;rw[c1];simp;exact gp (by omega)
 have s1:aL d 0 4=some d:=by unfold aL;rw[d1];simp;exact gp (by omega)
 have kB:ab h N ((h.set N (.cells c 123 true)).set (N+1) (.cells zF 123 true)) (N+1+1):=(ab.refl.new _).new _;unfold zF at kB;have n1:¬p=N:=by omega
 have n2:¬p=N+1:=by omega
 have n3:¬N=N+1:=by omega
 rw[aN,A.k128 (by simp)];simp[-V.cells, -V.one,A.b128,hp,n1,n2,mW,c2,s0,s1];generalize hG:(h.set N (.cells c 123 true)).set (N+1) (.cells [.int .i64 0,.aa,.int .i64 0,.aa] 123 true)=G at*;have g1:G.get (N+1)=some (.cells [.int .i64 0,.aa,.int .i64 0,.aa] 123 true):=by rw[<-hG];simp
 clear hG;refine av (Ysf (hc.ad kB).fc (hd.ad kB).fc h0 (by omega) (by omega) (by omega) (by omega) (by omega) (by omega)) ?_;rintro _ H2 m2 k2 hz;obtain⟨z,rfl,DG⟩:=hz.c;obtain⟨z1,z2⟩:=DG.len;have me:=k2.le;have g2:=(k2.get (N+1) (by omega)).trans g1;have e4:ag [V.int .i64 0,.aa,.int .i64 0,.aa] 0 z=z:=by unfold ag;rw[z1];simp
 have s2:aL z 0 4=some z:=by unfold aL;rw[z1];simp;exact gp (by omega)
 have lt:N+1<m2:=by omega
 simp[-V.cells, -V.one,bO,mW,z1,z2,e4,s2,g2,ax];exact⟨(kB.trans k2).set (by omega),(DG.aI (e1:=123) (w1:=true) (c1:=z) g2 pe (by rw[z1];rfl)).fc⟩
def Ywf{p:Nat}{a b d:List V}{x y f:Rat}{e:TypeId}{i j:Nat}(hp:h.get p=some (.cells d e rw))(jA:p<N)(ha:fV h N a x)(hb:fV h N b y)(hd:fV h N d f)(hx:Qb i x)(hy:Qb j y)(hf:Qb k f)(hi:i<=450000000)(hj:j<=450000000)(hk:k<=450000000)(tP:1<=j)(cI:1<=k):ij A.C (.func 130 [] [.ptr p 0]) [.agg a,.agg b] h N (fun z h' n'=>Fc h' n' z (x-f*y)):=by
 intro w;obtain⟨a1,a2⟩:=ha.len;obtain⟨b1,b2⟩:=hb.len;obtain⟨d1,d2⟩:=hd.len;have w1:=hx.DF;have w2:=hy.DF;have w3:=hf.DF;have w4:=(hf.mul hy).DF;have mW:∀c:List V,(V.agg c).cells=c:=fun _=>rfl;have s0:∀c:List V,c.length=4->aL c 0 4=some c:=fun c h=>by unfold aL;rw[h];simp;exact gp (by omega)
 have sa:=s0 a a1;have sb:=s0 b b1;have sd:=s0 d d1;have kB:ab h N (((h.set N (.cells a 123 true)).set (N+1) (.cells b 123 true)).set (N+1+1) (.cells zF 123 true)) (N+1+1+1):=((ab.refl.new _).new _).new _;unfold zF at kB;have n1:¬p=N:=by omega
 have n2:¬p=N+1:=by omega
 have n3:¬p=N+1+1:=by omega
 have n4:¬N=N+1:=by omega
 have n5:¬N=N+1+1:=by omega
 have lp:p<N+1+1+1:=by omega
 rw[aN,A.k130 (by simp)];simp[-V.cells, -V.one,A.b130,hp,n1,n2,n3,mW,a2,b2,sa,sb,sd,n5,lp];generalize hG:((h.set N (.cells a 123 true)).set (N+1) (.cells b 123 true)).set (N+1+1) (.cells [.int .i64 0,.aa,.int .i64 0,.aa] 123 true)=G at*;have g1:G.get (N+1+1)=some (.cells [.int .i64 0,.aa,.int .i64 0,.aa] 123 true):=by rw[<-hG];simp
 have g2:G.get N=some (.cells a 123 true):=by rw[<-hG];simp[n5]
 have g3:G.get (N+1)=some (.cells b 123 true):=by rw[<-hG];simp
 clear hG;refine av (Sf (hd.ad kB).fc (hb.ad kB).fc (by omega) (by omega) (by omega) (by omega)) ?_;rintro _ H2 m2 k2 hz;have me:=k2.le;have lt:N+1+1<m2:=by omega
 simp[];refine av (Ysa ((ha.ad kB).ad k2).fc hz (by omega) (by omega) (by omega) (by omega)) ?_;rintro _ H3 m3 k3 hv;obtain⟨z,rfl,DG⟩:=hv.c;obtain⟨z1,z2⟩:=DG.len;have wc:=k3.le;have g4:=(k3.get (N+1+1) (by omega)).trans ((k2.get (N+1+1) (by omega)).trans g1);have e4:ag [V.int .i64 0,.aa,.int .i64 0,.aa] 0 z=z:=by unfold ag;rw[z1];simp
 have s2:=s0 z z1;have lt3:N+1+1<m3:=by omega
 simp[-V.cells, -V.one,bO,mW,z1,z2,e4,s2,g4,lt,lt3,ax,cQ.cU];exact⟨((kB.trans k2).trans k3).set (by omega),(DG.aI (e1:=123) (w1:=true) (c1:=z) g4 pe (by rw[z1];rfl)).fc⟩
variable {N R:Nat} {f u v:V} {h:T O} {l:List Rat}
def A.M9:=A.q Tryz.f125
def A.rL:=A.ql A.M9 0 []
def A.b125:=(fun x0=>A.qb A.M9 [x0]) A.rL
def A.k125:=@A.kk 125 19 [.tmp 4] A.b125 (by kernel_rfl) rfl
def Yr6(l:List V)(p:Nat->Bool)(hs:Sl h N v l)(hl:l.length<1152921504606846976)(hf:∀(j:Nat) (x:V),l[j]?=some x->∀h' n',ab h N h' n'->ij A.C f [x] h' n' (fun u _ _=>u=.bool (p j))):Fn A.C 125 [v,f] h N (fun u _ _=>u=.int .i64 (pg p 0 l.length)):=by
 intro w;have hlen:=hs.len;rw[aN,A.k125 (by simp)];simp[A.b125,hlen];refine cm [(4,5),(8,18)] (fun e r st=>ay N st.w=[]/\ab h N st.h st.n/\((e=.exit 0/\pg p 0 l.length= -1)\/(e=.ret/\r.get 4=some (.int .i64 (pg p 0 l.length))))) (fun m r st=>ay N st.w=[]/\ab h N st.h st.n/\∃k,k+m=l.length/\r.get 8=some (.int .i64 k)/\pg p 0 l.length=pg p k m) l.length ?_ ?_ ?_
 ·exact⟨by simp,ab.refl,0,by omega,by simp,rfl⟩
 ·rintro m r ⟨H,n1,W⟩ hr dT ⟨hW,hK,k,hk,h8,hz⟩;simp only at hW hK;rw[bu];cases m with
  |zero=>
   have:k=l.length:=by omega
   subst this;simp only[pg]at hz;simp[A.rL,hr,dT,h8,hW,hK,hz]
  |succ m=>
   have aC:k<l.length:=by omega
   obtain⟨c,hc⟩:=bj aC;obtain⟨i,o,cc,e,rw,q1,q2,q3,q4⟩:=hs.at hc;have q3:=(hK.get _ q2).trans q3;have cI:(k:Int)<(l.length:Int):=by omega
   simp only[pg]at hz;simp[A.rL,hr,h8,cI,hlen,q1,q3,q4];refine DH (hf k c hc _ _ hK) ?_;rintro v h2 n2 k2 rfl;have kk:=hK.trans k2;cases hp:p k
   ·rw[hp]at hz;simp(disch:=first|(simp;done)|omega|rfl) [dT,h8,hW,kk];exact⟨m,by omega,k+1,by omega,by simp,by simpa using hz⟩
   rw[hp]at hz;simp[dT,hW,kk];simpa using hz.symm
 rintro e r ⟨H,n1,W⟩ hr ⟨hW,hK,⟨rfl,hz⟩|⟨rfl,h4⟩⟩
 ·simp only at hW hK;simp[hz,ax,hW,hK]
 simp only at hW hK;simp[h4,ax,hW,hK]
def A.Na:=A.q Tryz.f127
def A.rM:=A.ql A.Na 0 []
def A.b127:=(fun x0=>A.qb A.Na [x0]) A.rM
def A.k127:=@A.kk 127 22 [.tmp 4] A.b127 (by kernel_rfl) rfl
def Ylk{l:List (List V)}{Q:Nat->T O->Nat->List V->Prop}(Y:V->Prop)(hQ:∀j h n h' n' c u,Q j h n c->er (fun i=>i∈dk u) h n h' n'->nQ 123 Y h u->Q j h' n' c)(hs:Sn 4 h N v l)(hl:l.length<1000000000)(h1:∀(j:Nat) (x:List V),l[j]?=some x->x.length=4/\x.all V.one=true)(hf:∀(j:Nat) (x:List V),l[j]?=some x->∀h' n',ab h N h' n'->ij A.C f [(.agg x)] h' n' (fun u h2 n2=>∃c,u=(.agg c)/\c.length=4/\c.all V.one=true/\(∀q∈c,Y q)/\Q j h2 n2 c)):Fn A.C 127 [v,f] h N (fun u h' n'=>∃out,Own 4 123 N h' n' u out/\out.length=l.length/\∀(j:Nat),j<l.length->∃c,out[j]?=some c/\Q j h' n' c):=by
 intro w;have hlen:=hs.len;rw[aN,A.k127 (by simp)];simp[A.b127,hlen];refine cm [(5,5),(7,7),(10,20)] (fun e r st=>e=.exit 0/\ay N st.w=[]/\ab h N st.h st.n/\∃u out,r.get 5=some u/\Own 4 123 N st.h st.n u out/\out.length=l.length/\∀(j:Nat),j<l.length->∃c,out[j]?=some c/\Q j st.h st.n c) (fun m r st=>ay N st.w=[]/\ab h N st.h st.n/\∃k u out,k+m=l.length/\r.get 10=some (.int .i64 k)/\r.get 5=some u/\Own 4 123 N st.h st.n u out/\out.length=k/\(out=[]->u=.aa)/\(∀c∈out,∀y∈c,Y y)/\∀(j:Nat),j<k->∃c,out[j]?=some c/\Q j st.h st.n c) l.length ?_ ?_ ?_
 ·exact⟨by simp,ab.refl,0,.aa,[],by omega,by simp,by simp,Own.nil,rfl,fun _=>rfl,by simp,fun j hj=>by omega⟩
 ·rintro m r ⟨H,n1,W⟩ hr dT ⟨hW,hK,k,u,out,hk,jH,h5,ho,iI,we,hY,dE⟩;simp only at hW hK ho dE;rw[bu];cases m with
  |zero=>
   have AD:k=l.length:=by omega
   subst AD;simp[A.rM,hr,dT,jH,hW,hK];exact⟨u,h5,out,ho,iI,dE⟩
  |succ m=>
   have aC:k<l.length:=by omega
   obtain⟨x,hx⟩:=bj aC;obtain⟨i,o,cc,e,rw,q1,q2,q3,q4⟩:=(hs.ad hK).at hx;have cI:(k:Int)<(l.length:Int):=by omega
   obtain⟨e1,e2⟩:=h1 k x hx;have d1:¬i=n1:=by omega
   have d4:n1<n1+1:=by omega
   have kA:=(hK.new (.cells [(.int .i64 0),.aa,(.int .i64 0),.aa] 123 true)).set (i:=n1) (o:=.cells x 123 true) hK.le;have e3:∀v:List V,(V.agg v).cells=v:=fun _=>rfl;have e4:ag [(.int .i64 0),.aa,(.int .i64 0),.aa] 0 x=x:=by unfold ag;rw[e1];simp
   have e5:aL x 0 4=some x:=by unfold aL;rw[ar (by omega)];simp;exact gp (by omega)
   simp[-V.cells, -V.one,A.rM,hr,jH,h5,cI,hlen,q1,q3,q4,aQ,bO,e3,e1,e2,e4,e5];refine DH (hf k x hx _ _ kA) ?_;rintro _ h3 n3 k3 ⟨c,rfl,c1,c2,cY,c3⟩;have jG:=k3.le;have kn:=hK.le;have kB:=kA.trans k3;have b1:∀v:List V,(V.agg v).cells=v:=fun _=>rfl;have b2:ag [(.int .i64 0),.aa,(.int .i64 0),.aa] 0 c=c:=by unfold ag;rw[c1];simp
   simp[-V.cells, -V.one,b1,b2,c1,c2];have vo:Own 4 123 N (h3.set n3 (.cells c 123 true)) (n3+1) u out:=(ho.ad (((ab.refl.new _).set (aO n1)).trans k3)).ad (ab.refl.new _);obtain⟨v',h',w',f1,f2,f3,f4,fD,f5⟩:=FO (Y:=Y) (x:=c) (u:=.slice n3 0 1 (some 1) 4) (bytes:=64) (w:=n1::W) vo we hY (by omega) (by decide) c1 (by simp only[gb,St.row,T.ae,if_true];unfold aL;simp[c1];exact gp (by omega)) (by omega);rw[f1];have mi:¬n1<N:=by omega
   have f6:ay N w'=[]:=by rw[f2];simp[ay,hW,mi]
   have kz:=(kB.new (.cells c 123 true)).then f3;have k4:ab h3 n3 (h3.set n3 (.cells c 123 true)) (n3+1):=ab.refl.new _;have zT:Q k (h3.set n3 (.cells c 123 true)) (n3+1) c:=hQ _ _ _ _ _ _ .aa c3 k4.upd nQ.nil;simp(disch:=first|(simp;done)|omega|rfl) [dT,jH,f6];refine⟨m,by omega,kz,k+1,by omega,by simp,out++[c],f5,by simp[iI],by simp,fun c' hc z hz=>?_,fun j hj=>?_⟩
   ·rcases jB.1 hc with hc|hc
    ·exact hY c' hc z hz
    simp only[uv]at hc;subst hc;exact cY z hz
   by_cases qU:j<k
   ·obtain⟨c,g1,g2⟩:=dE j qU;exact⟨c,by rw[mj (by omega)];exact g1,hQ _ _ _ _ _ _ _ (hQ _ _ _ _ _ _ .aa g2 ((((ab.refl.new _).set (aO n1)).trans k3).trans k4).upd nQ.nil) f4 fD⟩
   obtain rfl:j=k:=by omega
   exact⟨c,by rw[pY (by omega),iI];simp,hQ _ _ _ _ _ _ _ zT f4 fD⟩
 rintro _ r ⟨H,n1,W⟩ hr ⟨rfl,hW,hK,u,out,h5,ho,iI,dE⟩;simp only at hW hK ho dE;simp[h5,ax,hW,hK];exact⟨out,ho,iI,dE⟩
def Yrn(F:Rat->Rat)(hs:kf h N v l)(hl:l.length<1000000000)(hf:∀q∈l,∀c h' n',ab h N h' n'->fV h' n' c q->ij A.C f [.agg c] h' n' (fun x h2 n2=>Fc h2 n2 x (F q))):Fn A.C 127 [v,f] h N (fun u h' n'=>ec h' n' u (l.map F)):=by
 obtain⟨cs,h1,h2,h3⟩:=hs;have key:=Ylk (f:=f) (Q:=fun j h n c=>∀q,(l.map F)[j]?=some q->fV h n c q) NW (fun j h n h' n' c u hq k hd q uw=>(hq q uw).bY k hd) h1 (by omega) (fun j x hx=>?_) ?_
 ·intro w;refine(key w).mono fun u st=>?_;rintro⟨q1,q2,out,o1,o2,o3⟩;exact⟨q1,q2,Yg o1 (by simpa[h2]using o2) fun j hj=>o3 j (by simp at hj;omega)⟩
 ·obtain⟨q,hq⟩:=bj (l:=l) (k:=j) (by have:=gZ hx;omega);obtain⟨c,g1,g2⟩:=h3 j q hq;rw[hx]at g1;obtain rfl:x=c:=by simpa using g1
  exact g2.len
 intro j x hx h' n' hk;obtain⟨q,hq⟩:=bj (l:=l) (k:=j) (by have:=gZ hx;omega);obtain⟨c,g1,g2⟩:=h3 j q hq;rw[hx]at g1;obtain rfl:x=c:=by simpa using g1
 refine fun w=>(hf q (cF hq) x h' n' hk (g2.ad hk) w).mono fun y st=>?_;rintro⟨q1,q2,q3⟩;obtain⟨c,rfl,hc⟩:=q3.c;refine⟨q1,q2,c,rfl,hc.len.1,hc.len.2,hc.Nb,fun t ht=>?_⟩;simp[hq]at ht;rw[<-ht];exact hc
structure nv (h:T O) (N R:Nat) (m:List (List Rat)):Prop where
 lt:R<N
 ex:∃us:List V,h.get R=some (.cells us 81 true)/\us.length=m.length/\ux us/\us.all V.one=true/\∀(j:Nat) (l:List Rat),m[j]?=some l->∃u,us[j]?=some u/\ec h N u l
def ec.bm{us vs:List V}{e:TypeId}{b c:Bool}(s:ec h N u l)(g:h.get R=some (.cells us e b))(he:e≠123)(hn:ux us)(hl:vs.length=us.length):ec (h.set R (.cells vs e c)) N u l:=by
 have aW:∀i∈dk u,i≠R:=fun i hi hc=>by obtain⟨z,w,hz⟩:=s.2 i hi;rw[hc,g]at hz;simp at hz;exact he hz.2.1
 obtain⟨cs,h1,h2,h3⟩:=s.1;have k:er (fun i=>i=R) h N (h.set R (.cells vs e c)) N:=⟨aO _,fun i _ hi=>by rw[T.ae,ak hi]⟩;refine⟨⟨cs,h1.bY k aW,h2,fun j q hq=>?_⟩,fun i hi=>?_⟩
 ·obtain⟨x,g1,g2⟩:=h3 j q hq;exact⟨x,g1,g2.aI g hn hl⟩
 rw[T.ae,ak (aW i hi)];exact s.2 i hi
def nv.ad{h':T O}{N':Nat}{m:List (List Rat)}(s:nv h N R m)(k:ab h N h' N'):nv h' N' R m:=by obtain⟨us,g1,g2,g3,g4,g5⟩:=s.ex;refine⟨fm s.lt k.le,us,(k.get R s.lt).trans g1,g2,g3,g4,fun j l hl=>?_⟩;obtain⟨u,a1,a2⟩:=g5 j l hl;exact⟨u,a1,a2.ad k⟩
def ec.FQ(s:ec h N u l):(∀n,u≠.int .u64 n)/\V.one u=true/\V.cells u=[u]:=by obtain⟨a,b,c⟩:=s.1.form;exact⟨c,a,b⟩
def nv.put{i:Nat}{m:List (List Rat)}(s:nv h N R m)(hu:ec h N u l)(hi:i<m.length):∃us,h.get R=some (.cells us 81 true)/\us.length=m.length/\nv (h.set R (.cells (us.set i u) 81 true)) N R (m.set i l):=by
 obtain⟨us,g1,g2,g3,g4,g5⟩:=s.ex;refine⟨us,g1,g2,s.lt,us.set i u,by rw[T.ae,ar rfl],by simp[g2],fun x hx=>?_,?_,fun j r hr=>?_⟩
 ·rcases CB hx with hx|rfl
  ·exact g3 x hx
  exact hu.FQ.1
 ·rw[jY];intro x hx;rcases CB hx with hx|rfl
  ·exact jY.1 g4 x hx
  exact hu.FQ.2.1
 by_cases e:j=i
 ·subst e;rw[mD hi]at hr;simp only[aq]at hr;subst hr;exact⟨u,by rw[mD (by omega)],hu.bm g1 (by decide) g3 (by simp)⟩
 rw[eX (Ne.symm e)]at hr ⊢;obtain⟨u',a1,a2⟩:=g5 j r hr;exact⟨u',a1,a2.bm g1 (by decide) g3 (by simp)⟩
variable {d k:Nat} {m:List (List Rat)}
def rN(m:List (List Rat))(k:Nat):Nat->Nat->Nat
 |d,0=>d
 |d,n+1=>if (m[d]?.getD [])[k]?.getD 0≠0 then d else rN m k (d+1) n
def eZ(m:List (List Rat))(d k:Nat):Nat:=rN m k d (m.length-d)
def FR{m:List (List Rat)}{k:Nat}:∀{n d:Nat},d<=rN m k d n/\rN m k d n<=d+n
 |0,d=>by simp[rN]
 |n+1,d=>by
  unfold rN
  split
  ·omega
  ·have:=@FR m k n (d+1)
   omega
def HU{m:List (List Rat)}{k:Nat}:∀{n d:Nat},rN m k d n<d+n->(m[rN m k d n]?.getD [])[k]?.getD 0≠0
 |0,d,h=>by simp[rN]at h
 |n+1,d,h=>by
  unfold rN at h ⊢
  split
  ·assumption
  ·rename_i hc
   rw[ak hc]at h
   exact HU (by omega)
def tQ(r p:List Rat)(k:Nat):List Rat:=zU (fun x y=>x-r[k]?.getD 0*y) r p r.length
def df(m:List (List Rat))(d k t:Nat):List (List Rat):=(List.range m.length).map fun i=>if i<t/\i≠d then tQ (m[i]?.getD []) (m[d]?.getD []) k else m[i]?.getD []
def cr(m:List (List Rat))(d p:Nat):List (List Rat):=(m.set d (m[p]?.getD [])).set p (m[d]?.getD [])
def gJ(m:List (List Rat))(d k:Nat):List (List Rat):=m.set d ((m[d]?.getD []).map fun x=>x/(m[d]?.getD [])[k]?.getD 0)
def iE(s:List (List Rat)×Nat×List Nat)(k:Nat):List (List Rat)×Nat×List Nat:=
 if eZ s.1 s.2.1 k<s.1.length then (df (gJ (cr s.1 s.2.1 (eZ s.1 s.2.1 k)) s.2.1 k) s.2.1 k s.1.length,s.2.1+1,s.2.2++[k]) else s
def aF(m:List (List Rat))(n:Nat):List (List Rat)×Nat×List Nat:=(List.range n).foldl iE (m,0,[])
def wg{n:Nat}:aF m (n+1)=iE (aF m n) n:=by simp[aF,List.range_succ]
def CC{t:Nat}:(df m d k t).length=m.length:=by simp[df]
def HV{t i:Nat}(h:i<m.length):(df m d k t)[i]?=some (if i<t/\i≠d then tQ (m[i]?.getD []) (m[d]?.getD []) k else m[i]?.getD []):=by simp[df,h]
def Yy5:df m d k 0=m:=by
 apply ph;intro i;by_cases h:i<m.length
 ·rw[HV h];simp[bV h]
 rw[fW (by rw[CC];omega),fW (by omega)]
def Yy4{t:Nat}(h:d<m.length):(df m d k t)[d]?=m[d]?:=by rw[HV h,bV h];simp
def Zz4{t:Nat}(h:t<m.length)(hd:t≠d):df m d k (t+1)=(df m d k t).set t (tQ (m[t]?.getD []) (m[d]?.getD []) k):=by
 apply ph;intro i;by_cases hi:i<m.length
 ·by_cases e:i=t
  ·subst e;rw[mD (by rw[CC];exact h),HV hi,ar ⟨by omega,hd⟩]
  rw[eX (Ne.symm e),HV hi,HV hi];congr 1;by_cases e2:i<t
  ·simp[e2,show i<t+1 by omega]
  simp[e2,show ¬i<t+1 by omega]
 rw[fW (by rw[CC];omega),fW (by rw[zV,CC];omega)]
def Ymf:df m d k (d+1)=df m d k d:=by
 unfold df;apply AE;intro i _;by_cases e:i=d
 ·subst e;simp
 by_cases e2:i<d
 ·simp[e,e2,show i<d+1 by omega]
 simp[e2,show ¬i<d+1 by omega]
def Yed{r p:List Rat}(h:r[k]?.getD 0=0):tQ r p k=r:=by
 apply ph;intro i;by_cases hi:i<r.length
 ·unfold tQ;rw[Sg hi,h,Rat.zero_mul,Rat.sub_eq_add_neg,Rat.neg_zero,Rat.add_zero,bV hi];rfl
 rw[fW (by unfold tQ;rw[KU];omega),fW (by omega)]
def Nc{r p:List Rat}:(tQ r p k).length=r.length:=by unfold tQ;rw[KU]
variable {K d i k n:Nat} {m:List (List Rat)} {r:List Rat}
def aR(m:List (List Rat))(n:Nat):Prop:=∀r∈m,r.length=n
def aR.at(h:aR m n)(hi:i<m.length):(m[i]?.getD []).length=n:=by rw[bV hi];exact h _ (List.getElem_mem hi)
def aR.set(h:aR m n)(hr:r.length=n):aR (m.set i r) n:=fun x hx=>by
 rcases CB hx with hx|rfl
 ·exact h x hx
 ·exact hr
def aR.DI{p:Nat}(h:aR m n)(hd:d<m.length)(hp:p<m.length):aR (cr m d p) n:=(h.set (h.at hp)).set (h.at hd)
def aR.KV(h:aR m n)(hd:d<m.length):aR (gJ m d k) n:=h.set (by rw[cG];exact h.at hd)
def aR.elm{t:Nat}(h:aR m n):aR (df m d k t) n:=fun r hr=>by
 unfold df at hr
 obtain⟨i,hi,rfl⟩:=bF.1 hr
 have hi:=gm.1 hi
 split
 ·rw[Nc];exact h.at hi
 ·exact h.at hi
def pZ{p:Nat}:(cr m d p).length=m.length:=by simp[cr]
def CD:(gJ m d k).length=m.length:=by simp[gJ]
def Ypx{s:List (List Rat)×Nat×List Nat}:(iE s k).1.length=s.1.length:=by
 unfold iE;split
 ·simp only[CC,CD,pZ]
 rfl
def Yup{s:List (List Rat)×Nat×List Nat}(h:aR s.1 n)(hd:s.2.1<=s.1.length):aR (iE s k).1 n/\(iE s k).2.1<=s.1.length/\s.2.1<=(iE s k).2.1:=by
 unfold iE;have hle:=@FR s.1 k (s.1.length-s.2.1) s.2.1;split
 ·rename_i hp;have dX:s.2.1<s.1.length:=by unfold eZ at hp;omega
  exact⟨((h.DI dX hp).KV (by rw[pZ];exact dX)).elm,by simp only;omega,by simp⟩
 exact⟨h,hd,aO _⟩
def bz(m:List (List Rat))(K:Nat):Prop:=∀r∈m,∀q∈r,Qb K q
def bz.mono{L:Nat}(h:bz m K)(hk:K<=L):bz m L:=fun r hr q hq=>(h r hr q hq).mono hk
def bz.at{m:List (List Rat)}{K i:Nat}(h:bz m K):∀q∈m[i]?.getD [],Qb K q:=fun q hq=>by
 cases hr:m[i]? with
 |none=>rw[hr]at hq;simp at hq
 |some r=>rw[hr]at hq;exact h r (cF hr) q hq
def bz.set(h:bz m K)(hr:∀q∈r,Qb K q):bz (m.set i r) K:=fun x hx=>by
 rcases CB hx with hx|rfl
 ·exact h x hx
 ·exact hr
def bz.DI{p:Nat}(h:bz m K):bz (cr m d p) K:=(h.set h.at).set h.at
def Yny(h:bz m K)(hK:1<=K)(hp:(m[d]?.getD [])[k]?.getD 0≠0):∀q∈(m[d]?.getD []).map (fun x=>x/(m[d]?.getD [])[k]?.getD 0),Qb (2*K) q:=fun q hq=>by
 obtain⟨x,hx,rfl⟩:=bF.1 hq
 have h1:=h.at (i:=d) x hx
 have h2:=Yzk (rO (fun q hq=>h.at (i:=d) q hq) hK k) hp
 rw[Rat.div_def,show 2*K=K+K by omega]
 exact h1.mul h2
def Ypv{p:List Rat}(hr:∀q∈r,Qb K q)(hp:∀q∈p,Qb (2*K) q)(hK:1<=K):∀q∈tQ r p k,Qb (4*K+1) q:=fun q hq=>by
 unfold tQ zU at hq
 obtain⟨i,_,rfl⟩:=bF.1 hq
 have h1:=rO hr hK i
 have h2:=(rO hr hK k).mul (rO hp (by omega) i)
 have h3:Qb (K+2*K) (-(r[k]?.getD 0*p[i]?.getD 0)):=⟨by rw[Rat.neg_num,CE];exact h2.1,by rw[Rat.neg_den];exact h2.2⟩
 have h4:=h1.add h3
 rw[<-Rat.sub_eq_add_neg]at h4
 exact h4.mono (by omega)
def Yuq{s:List (List Rat)×Nat×List Nat}(h:bz s.1 K)(hK:1<=K):bz (iE s k).1 (4*K+1):=by
 unfold iE;split
 ·rename_i hp;have hle:=@FR s.1 k (s.1.length-s.2.1) s.2.1;have dX:s.2.1<s.1.length:=by unfold eZ at hp;omega
  have aW:=@HU s.1 k (s.1.length-s.2.1) s.2.1 (by unfold eZ at hp;omega);have DJ:=h.DI (d:=s.2.1) (p:=eZ s.1 s.2.1 k);have az:(cr s.1 s.2.1 (eZ s.1 s.2.1 k))[s.2.1]?.getD []=s.1[eZ s.1 s.2.1 k]?.getD []:=by
   unfold cr;by_cases e:eZ s.1 s.2.1 k=s.2.1
   ·rw[e,mD (by simp;omega)];rfl
   rw[eX e,mD dX];rfl
  have DK:((cr s.1 s.2.1 (eZ s.1 s.2.1 k))[s.2.1]?.getD [])[k]?.getD 0≠0:=by rw[az];exact aW
  have FT:=Yny DJ hK DK;intro r hr;unfold df at hr;obtain⟨i,hi,rfl⟩:=bF.1 hr;have hi:=gm.1 hi;rw[CD,pZ]at hi;have FU:(gJ (cr s.1 s.2.1 (eZ s.1 s.2.1 k)) s.2.1 k)[s.2.1]?.getD []=((cr s.1 s.2.1 (eZ s.1 s.2.1 k))[s.2.1]?.getD []).map (fun x=>x/((cr s.1 s.2.1 (eZ s.1 s.2.1 k))[s.2.1]?.getD [])[k]?.getD 0):=by unfold gJ;rw[mD (by rw[pZ];exact dX)];rfl
  split
  ·rename_i hc;have Nd:(gJ (cr s.1 s.2.1 (eZ s.1 s.2.1 k)) s.2.1 k)[i]?.getD []=(cr s.1 s.2.1 (eZ s.1 s.2.1 k))[i]?.getD []:=by unfold gJ;rw[eX (Ne.symm hc.2)]
   rw[FU,Nd];exact Ypv DJ.at FT hK
  by_cases e:i=s.2.1
  ·rw[e,FU];exact fun q hq=>(FT q hq).mono (by omega)
  unfold gJ;rw[eX (Ne.symm e)];exact fun q hq=>(DJ.at q hq).mono (by omega)
 exact h.mono (by omega)
def TxO(N0:Nat)(h:T O)(N:Nat)(u:V)(l:List Rat):Prop:=Tx h N u l/\∀i∈dk u,i<N0\/∃z w,h.get i=some (.cells z 38 w)
structure RwT (N0:Nat) (h:T O) (N R:Nat) (m:List (List Rat)):Prop where
 ge:N0<=R
 lt:R<N
 ex:∃us:List V,h.get R=some (.cells us 23 true)/\us.length=m.length/\∀(j:Nat) (l:List Rat),m[j]?=some l->∃u,us[j]?=some u/\TxO N0 h N u l
def KW{l:List V}{i:Nat}{u:V}(h:i<l.length):ag l i [u]=l.set i u:=by unfold ag;rw[List.set_eq_take_append_cons_drop,ar h];simp
def vt(m:List (List Rat)):Bool:=m.any yf
def FV(e:Int)(m:List (List Rat))(v:V)(c:Int)(h:T O)(n:Nat):Prop:=(e≠0/\v=.aa/\c=e)\/(e=0/\((vt m=true/\v=.aa/\c=4)\/(vt m=false/\c=0/\mX h n v m)))
def TPN(e:Int)(q:Rat)(s:List UInt8)(c:Int):Prop:=(e≠0/\s=[]/\c=e)\/(e=0/\((zW q=true/\s=[]/\c=4)\/(zW q=false/\c=0/\s=aP q)))
def A.b5:=A.q Tryz.f5
def A.c5:A.F 5=some ⟨16,[.tmp 2],A.b5⟩:=by kernel_rfl
def A.k5:=@A.kk 5 _ _ _ A.c5 rfl
def Ypz{h:T O}{N:Nat}{a b c:V}{ws s x:List aD}(ha:Sl h N a (strs ws))(hb:Sl h N b (strs s))(hc:Sl h N c (strs x))(la:ws.length<9223372036854775808)(lb:s.length<9223372036854775808)(lc:x.length<9223372036854775808):Fn A.C 5 [.agg [a,b,c]] h N (fun u _ _=>u=.bool (dJ 6 ws&&dJ 6 s&&dJ 6 x)):=by
 intro w;have o1:=ha.form.one;have o2:=hb.form.one;have o3:=hc.form.one;unfold V.one at o1 o2 o3;have kB:ab h N (h.set N (.cells [a,b,c] 25 true)) (N+1):=ab.refl.new _;have e1:∀w,A.C.call (.func 23 [] []) [a,.int .i64 6] ⟨h.set N (.cells [a,b,c] 25 true),N+1,w⟩=some (.bool (dJ 6 ws),⟨h.set N (.cells [a,b,c] 25 true),N+1,w⟩):=fun w=>Nf (w:=w) (n:=6) (ha.ad kB) la (by decide);have e2:∀w,A.C.call (.func 23 [] []) [b,.int .i64 6] ⟨h.set N (.cells [a,b,c] 25 true),N+1,w⟩=some (.bool (dJ 6 s),⟨h.set N (.cells [a,b,c] 25 true),N+1,w⟩):=fun w=>Nf (w:=w) (n:=6) (hb.ad kB) lb (by decide);have e3:∀w,A.C.call (.func 23 [] []) [c,.int .i64 6] ⟨h.set N (.cells [a,b,c] 25 true),N+1,w⟩=some (.bool (dJ 6 x),⟨h.set N (.cells [a,b,c] 25 true),N+1,w⟩):=fun w=>Nf (w:=w) (n:=6) (hc.ad kB) lc (by decide);rw[aN,A.k5 (by simp)];cases q1:dJ 6 ws with
 |false=> rw[q1]at e1;simp[A.b5,o1,o2,o3,e1,ax];exact kB
 |true=>
  rw[q1]at e1;cases q2:dJ 6 s with
  |false=> rw[q2]at e2;simp[A.b5,o1,o2,o3,e1,e2,ax];exact kB
  |true=> rw[q2]at e2;simp[A.b5,o1,o2,o3,e1,e2,e3,ax];exact kB
structure Wt (e:Int) (l:List Rat) (v:V) (c:Int) (u:V) (h:T O) (n:Nat):Prop where
 p:ik h n
 tp:TP e l v c h n
 tx:e=0->Tx h n u l
 len:l.length<100000
 DL:e=0->∀q∈l,(aP q).length<1000000000
structure WtN (e:Int) (q:Rat) (s:aD) (c:Int) (t:aD):Prop where
 tp:TPN e q s c
 tx:e=0->t=aP q
 DL:e=0->(aP q).length<1000000000
structure WtM (e:Int) (m:List (List Rat)) (v:V) (c:Int) (u:V) (h:T O) (n:Nat):Prop where
 tp:FV e m v c h n
 tx:e=0->mX h n u m
 len:m.length<100000
 DL:e=0->∀r∈m,r.length<100000/\∀q∈r,(aP q).length<1000000000
def Zzc{N n:Nat}{w:List Nat}(h:ay n w=[])(hN:N<=n):ay N w=[]:=Ng fun i hi=>by
 have:=FW h i hi
 omega
def Sl.AF{h:T O}{N:Nat}{v:V}{l:List V}(s:Sl h N v l):v.cells=[v]:=by rcases s with⟨_,rfl|rfl⟩|⟨j,o,cp,c,e,rw,rfl,hj,_⟩<;>rfl
def Sl.Nh{h:T O}{N:Nat}{v:V}{l:List V}(s:Sl h N v l):v.one=true:=by rcases s with⟨_,rfl|rfl⟩|⟨j,o,cp,c,e,rw,rfl,hj,_⟩<;>rfl
def AG{m:List (List Rat)}:∀{n:Nat},(aF m n).1.length=m.length
 |0=>rfl
 |n+1=>by rw[wg,Ypx];exact AG
def nR{m:List (List Rat)}{c:Nat}(h:aR m c):∀{n:Nat},aR (aF m n).1 c/\(aF m n).2.1<=m.length
 |0=>⟨h,wh _⟩
 |n+1=>by
  obtain⟨a,b⟩:=@nR m c h n
  rw[wg]
  have:=Yup (k:=n) a (by rw[AG];exact b)
  rw[AG]at this
  exact⟨this.1,this.2.1⟩
def kB(K:Nat):Nat->Nat
 |0=>K
 |n+1=>4*kB K n+1
def Yh{K:Nat}(h:1<=K):∀{n:Nat},1<=kB K n
 |0=>h
 |n+1=>by rw[kB];omega
def Yi{K:Nat}:∀{n m:Nat},n<=m->kB K n<=kB K m
 |n,0,h=>by
  obtain rfl:n=0:=by omega
  exact aO _
 |n,m+1,h=>by
  by_cases e:n=m+1
  ·rw[e];exact aO _
  ·have:=@Yi K n m (by omega)
   rw[kB];omega
def Yyz:∀{n:Nat},n<6->3*kB 96 n<=400000000:=by decide
def Yvv{n:Nat}(h:n<=6):kB 96 n<=400000000:=j_ (Yi h) (by decide)
def Zz6{m:List (List Rat)}:∀{n:Nat},(aF m n).2.1<=n
 |0=>aO _
 |n+1=>by
  have:=@Zz6 m n
  rw[wg]
  unfold iE
  split
  ·show (aF m n).2.1+1<=n+1
   omega
  ·omega
def Sh{m:List (List Rat)}{K:Nat}(h:bz m K)(hK:1<=K):∀{n:Nat},bz (aF m n).1 (kB K (aF m n).2.1)
 |0=>h
 |n+1=>by
  have ih:=@Sh m K h hK n
  rw[wg]
  by_cases hp:eZ (aF m n).1 (aF m n).2.1 n<(aF m n).1.length
  ·have hs:=Yuq (k:=n) ih (Yh hK)
   have e:(iE (aF m n) n).2.1=(aF m n).2.1+1:=by unfold iE;rw[ar hp]
   rw[e,kB]
   exact hs
  ·have e:iE (aF m n) n=aF m n:=by unfold iE;rw[ak hp]
   rw[e]
   exact ih
variable {N n:Nat} {h:T O} {l:List Int} {m:List (List Rat)} {v:V}
def Ni{m:List (List Rat)}{k:Nat}(h:(aF m k).2.1=m.length):∀{n:Nat},aF m (k+n)=aF m k
 |0=>rfl
 |n+1=>by
  rw[Nat.add_succ,wg,Ni h]
  unfold iE
  rw[ak]
  unfold eZ
  rw[AG,h,Nat.sub_self]
  simp[rN]
def Yhq{m:List (List Rat)}:∀{n:Nat},(aF m n).2.2.length=(aF m n).2.1
 |0=>rfl
 |n+1=>by
  have:=@Yhq m n
  rw[wg]
  unfold iE
  split
  ·simp[this]
  ·exact this
def bb(m:List (List Rat))(n:Nat):List (List Rat):=(aF m n).1.take (aF m n).2.1
def p9(h:aR m n):(bb m n).length=(aF m n).2.1:=by unfold bb;rw[iX,AG];have:=(@nR m n h n).2;omega
def Ys9{s:aD}(h:aS s=0)(hn:s.length<=n)(h1:0<n):Qb (4*n) (jh s):=by
 obtain⟨e,_,_⟩:=HW h;have hb:=Yj (jh s);have l1:(bl (aP (jh s))).length<=n:=by
  rw[e];unfold bl;split
  ·simp;omega
  exact hn
 rw[hb]at l1;have g:∀m:Nat,(an m).length<=n->m<2^(4*n):=fun m hm=>fm ((CF h1).1 hm) (Yn7 n);split at l1
 ·rename_i h2;have h3:(an 1).length=1:=by rw[Nj];rfl
  exact⟨g _ l1,by rw[h2];exact g 1 (by omega)⟩
 simp at l1;exact⟨g _ (by omega),g _ (by omega)⟩
def zX.qb{m:List (List aD)}(h:zX m n):aR (bC m) n/\bz (bC m) 96:=⟨fun r hr=>(h.rat r hr).1,fun r hr q hq=>by
 obtain⟨s,hs,rfl⟩:=bF.1 hr
 obtain⟨t,ht,rfl⟩:=bF.1 hq
 have:=(h.row s hs).2 t ht
 exact Ys9 this.1 this.2 (by decide)⟩
def vu{m:List (List aD)}:(bC m).length=m.length:=by simp[bC]
def DM(l:List Int):List (List V):=l.map fun z=>[V.int .i64 z]
def rP(N0:Nat)(h:T O)(N:Nat)(v:V)(l:List Int):Prop:=Own 1 3 N0 h N v (DM l)/\(l=[]->v=.aa)
def rP.nil{N0:Nat}:rP N0 h N .aa []:=⟨Own.nil,fun _=>rfl⟩
def rP.ad{N0:Nat}{h':T O}{N':Nat}(s:rP N0 h N v l)(k:ab h N h' N'):rP N0 h' N' v l:=⟨s.1.ad k,s.2⟩
def rP.wi{N0:Nat}{h':T O}{N' R:Nat}{o:O}(s:rP N0 h N v l)(g:h.get R=some o)(he:∀z,o≠.cells z 3 true)(k:er (fun i=>i=R) h N h' N'):rP N0 h' N' v l:=by
 obtain⟨⟨hl,s|⟨i,h1,h2,h3,h4⟩⟩,hn⟩:=s
 ·exact⟨⟨hl,.inl s⟩,hn⟩
 refine⟨⟨hl,.inr ⟨i,h1,h2,fm h3 k.le,(k.get i h3 fun hc=>?_).trans h4⟩⟩,hn⟩;rw[hc,g]at h4;simp only[aq]at h4;exact he _ h4
def rP.push{B N0:Nat}{x:V}{k:Int}{w:List Nat}(s:rP N0 h N v l)(hB:B<=N0)(hN:N0<=N)(hw:ay B w=[])(hx:gb ⟨h,N,w⟩ 1 x=some (1,[.int .i64 k]))(hl:l.length<1000):∃v' h' w',mm ⟨h,N,w⟩ 1 8 3 v x=some (v',⟨h',N+1,w'⟩)/\ay B w'=[]/\er (fun i=>i∈dk v) h N h' (N+1)/\nQ 3 NW h v/\(∀i∈dk v,N0<=i)/\rP N0 h' (N+1) v' (l++[k]):=by
 obtain⟨s,hn⟩:=s;have sB:Own 1 3 B h N v (DM l):=⟨s.1,s.2.imp id fun ⟨i,a,b,c⟩=>⟨i,a,by omega,c⟩⟩;have hY:∀c∈DM l,∀y∈c,NW y:=fun c hc y hy=>by obtain⟨p,_,rfl⟩:=bF.1 hc;simp at hy;subst hy;exact fun m=>by simp
 have h0:DM l=[]->v=.aa:=fun h0=>hn (List.map_eq_nil_iff.1 h0);have hb:2*((DM l).length+1)*8<=281474976710656:=by simp only[DM,cG];omega
 obtain⟨v1,h1,w1,a1,a2,_,_,_,_⟩:=FO (Y:=NW) (bytes:=8) (w:=w) sB h0 hY (by omega) (by decide) rfl hx hb;obtain⟨v2,h2,w2,b1,_,_,b4,b5,b6⟩:=FO (Y:=NW) (bytes:=8) (w:=w) s h0 hY hN (by decide) rfl hx hb;rw[a1]at b1;simp only[aq,bB,St.mk.injEq,true_and]at b1;obtain⟨rfl,rfl,rfl⟩:=b1;refine⟨v1,h1,w1,a1,a2.trans hw,b4,b5,fun i hi=>?_,by simpa[DM]using b6,fun hc=>by simp at hc⟩;obtain⟨_,⟨_,rfl⟩|⟨j,rfl,c1,_⟩⟩:=s
 ·simp[dk]at hi
 simp[dk]at hi;omega
def rP.sl{N0:Nat}(s:rP N0 h N v l):Sl h N v (dI l):=by
 have:=s.1.sn;have e:DM l=(dI l).map fun y=>[y]:=by unfold DM dI;rw[List.map_map];rfl
 rw[e]at this;exact Sn.one.1 this
end
end Go.Mx
