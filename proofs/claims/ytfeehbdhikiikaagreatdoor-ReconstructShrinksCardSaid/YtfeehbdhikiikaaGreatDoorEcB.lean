/-reconstruct-/
import Derived.Test.YtfeehbdhikiikaaGreatDoorVbF
set_option linter.all false
namespace Go.Mx
variable{s:List (List Rat)×Nat×List Nat}{W0 ps w:List Nat}{a us vs:List V}{N' P:Nat}{H h':T O}
noncomputable section
open Go Go.Proofs
variable {N k:Nat} {h:T O} {rw:Bool}
set_option maxRecDepth 1000000
def Xar{q:Rat}(h:Qb k q)(h0:q≠0):Qb k q⁻¹:=by
 have e:=inv_divInt q;have h1:q.num≠0:=fun hc=>h0 (Ec.1 hc);refine⟨?_,?_⟩
 ·rw[Rat.num_inv,wg,dT];have:q.num.sign.natAbs=1:=by
   rcases Int.lt_trichotomy q.num 0 with h2|h2|h2
   ·rw[Int.sign_eq_neg_one_of_neg h2];rfl
   ·exact absurd h2 h1
   rw[Int.sign_eq_one_of_pos h2];rfl
  rw[this,Nat.one_mul];exact h.2
 rw[Rat.den_inv,ak h1];exact h.1
def Yxi{p:Nat}{u:V}{l:List Rat}{e:TypeId}(hp:h.get p=some (.cells [.int .i64 k] e rw))(jA:p<N)(hu:iM h N u l)(hk:k<l.length):fW A.C (.func 163 [] [.ptr p 0]) [u] h N (fun x _ _=>x=.bool (decide (l[k]?.getD 0≠0))):=by
 intro w;have l1:=hu.len;have gW:(k:Int)<(l.length:Int):=by omega
 obtain⟨q,hq⟩:=bs hk;obtain⟨i,o,cc,e,rw,c,q1,q2,q3,q4,q5⟩:=hu.at hq;rw[hq];rw[aP,A.k163 (by simp)];simp[A.b163,hp,l1,gW,q1,q3,q4];refine au (ZM q5.fc) ?_;rintro _ H2 n2 k2 rfl;have hz:(dB q.num≠0)=(q≠0):=by
  have h1:=@Ec q;apply propext;unfold dB;constructor
  ·intro hh hc;have:=h1.2 hc;rw[this]at hh;simp at hh
  intro hh hc;apply hh;apply h1.1;split at hc
  ·omega
  split at hc<;>omega
 simp[ay];refine⟨k2,?_⟩;by_cases c0:q=0
 ·simp[c0,dB]
 have:dB q.num≠0:=by rw[hz];exact c0
 simp[c0,this]
def Yxh{p:Nat}{c d:List V}{x q:Rat}{e:TypeId}{j:Nat}(hp:h.get p=some (.cells d e rw))(jA:p<N)(hc:fI h N c x)(hd:fI h N d q)(h0:q≠0)(hx:Qb j x)(hq:Qb k q)(hj:j<=500000000)(hk:k<=500000000):fW A.C (.func 165 [] [.ptr p 0]) [.agg c] h N (fun z h' n'=>Fc h' n' z (x/q)):=by
 intro w;obtain⟨c1,c2⟩:=hc.len;obtain⟨d1,d2⟩:=hd.len;have w1:=hx.Bk;have w2:=hq.Bk;have w3:=(Xar hq h0).Bk;have jT:∀c:List V,(V.agg c).cells=c:=fun _=>rfl;have s0:aO c 0 4=some c:=by unfold aO;rw[c1];simp;exact gm (by omega)
 have s1:aO d 0 4=some d:=by unfold aO;rw[d1];simp;exact gm (by omega)
 have kB:ab h N ((h.set N (.cells c 101 true)).set (N+1) (.cells zF 101 true)) (N+1+1):=(ab.refl.new _).new _;unfold zF at kB;have n1:¬p=N:=by omega
 have n2:¬p=N+1:=by omega
 have n3:¬N=N+1:=by omega
 rw[aP,A.k165 (by simp)];simp[-V.cells, -V.one,A.b165,hp,n1,n2,jT,c2,s0,s1];generalize hG:(h.set N (.cells c 101 true)).set (N+1) (.cells [.int .i64 0,.aa,.int .i64 0,.aa] 101 true)=G at*;have g1:G.get (N+1)=some (.cells [.int .i64 0,.aa,.int .i64 0,.aa] 101 true):=by rw[<-hG];simp
 clear hG;refine au (Ys9 (hc.ad kB).fc (hd.ad kB).fc h0 (by omega) (by omega) (by omega) (by omega) (by omega) (by omega)) ?_;rintro _ H2 m2 k2 hz;obtain⟨z,rfl,AB⟩:=hz.c;obtain⟨z1,z2⟩:=AB.len;have lf:=k2.le;have g2:=(k2.get (N+1) (by omega)).trans g1;have e4:ae [V.int .i64 0,.aa,.int .i64 0,.aa] 0 z=z:=by unfold ae;rw[z1];simp
 have s2:aO z 0 4=some z:=by unfold aO;rw[z1];simp;exact gm (by omega)
 have lt:N+1<m2:=by omega
 simp[-V.cells, -V.one,bM,jT,z1,z2,e4,s2,g2,ay];exact⟨(kB.trans k2).set (by omega),(AB.aG (e1:=101) (w1:=true) (c1:=z) g2 qp (by rw[z1];rfl)).fc⟩
def Yxg{p:Nat}{b d:List V}{x y f:Rat}{e:TypeId}{i j:Nat}(hp:h.get p=some (.cells d e rw))(jA:p<N)(ha:fI h N a x)(hb:fI h N b y)(hd:fI h N d f)(hx:Qb i x)(hy:Qb j y)(hf:Qb k f)(hi:i<=450000000)(hj:j<=450000000)(hk:k<=450000000)(uP:1<=j)(dj:1<=k):fW A.C (.func 167 [] [.ptr p 0]) [.agg a,.agg b] h N (fun z h' n'=>Fc h' n' z (x-f*y)):=by
 intro w;obtain⟨a1,a2⟩:=ha.len;obtain⟨b1,b2⟩:=hb.len;obtain⟨d1,d2⟩:=hd.len;have w1:=hx.Bk;have w2:=hy.Bk;have w3:=hf.Bk;have w4:=(hf.mul hy).Bk;have jT:∀c:List V,(V.agg c).cells=c:=fun _=>rfl;have s0:∀c:List V,c.length=4->aO c 0 4=some c:=fun c h=>by unfold aO;rw[h];simp;exact gm (by omega)
 have sa:=s0 a a1;have sb:=s0 b b1;have sd:=s0 d d1;have kB:ab h N (((h.set N (.cells a 101 true)).set (N+1) (.cells b 101 true)).set (N+1+1) (.cells zF 101 true)) (N+1+1+1):=((ab.refl.new _).new _).new _;unfold zF at kB;have n1:¬p=N:=by omega
 have n2:¬p=N+1:=by omega
 have n3:¬p=N+1+1:=by omega
 have n4:¬N=N+1:=by omega
 have n5:¬N=N+1+1:=by omega
 have lp:p<N+1+1+1:=by omega
 rw[aP,A.k167 (by simp)];simp[-V.cells, -V.one,A.b167,hp,n1,n2,n3,jT,a2,b2,sa,sb,sd,n5,lp];generalize hG:((h.set N (.cells a 101 true)).set (N+1) (.cells b 101 true)).set (N+1+1) (.cells [.int .i64 0,.aa,.int .i64 0,.aa] 101 true)=G at*;have g1:G.get (N+1+1)=some (.cells [.int .i64 0,.aa,.int .i64 0,.aa] 101 true):=by rw[<-hG];simp
 have g2:G.get N=some (.cells a 101 true):=by rw[<-hG];simp[n5]
 have g3:G.get (N+1)=some (.cells b 101 true):=by rw[<-hG];simp
 clear hG;refine au (VA (hd.ad kB).fc (hb.ad kB).fc (by omega) (by omega) (by omega) (by omega)) ?_;rintro _ H2 m2 k2 hz;have lf:=k2.le;have lt:N+1+1<m2:=by omega
 simp[];refine au (Yhz ((ha.ad kB).ad k2).fc hz (by omega) (by omega) (by omega) (by omega)) ?_;rintro _ H3 m3 k3 hv;obtain⟨z,rfl,AB⟩:=hv.c;obtain⟨z1,z2⟩:=AB.len;have yG:=k3.le;have g4:=(k3.get (N+1+1) (by omega)).trans ((k2.get (N+1+1) (by omega)).trans g1);have e4:ae [V.int .i64 0,.aa,.int .i64 0,.aa] 0 z=z:=by unfold ae;rw[z1];simp
 have s2:=s0 z z1;have lt3:N+1+1<m3:=by omega
 simp[-V.cells, -V.one,bM,jT,z1,z2,e4,s2,g4,lt,lt3,ay,c9.c_];exact⟨((kB.trans k2).trans k3).set (by omega),(AB.aG (e1:=101) (w1:=true) (c1:=z) g4 qp (by rw[z1];rfl)).fc⟩
variable {N R:Nat} {f u v:V} {h:T O} {l:List Rat}
def A.Oh:=A.q Tryz.f162
def A.sX:=A.ql A.Oh 0 []
def A.b162:=(fun x0=>A.qb A.Oh [x0]) A.sX
def A.k162:=@A.kk 162 19 [.tmp 4] A.b162 (by kernel_rfl) rfl
def Ys1(l:List V)(p:Nat->Bool)(hs:Sl h N v l)(hl:l.length<1152921504606846976)(hf:∀(j:Nat) (x:V),l[j]?=some x->∀h' n',ab h N h' n'->fW A.C f [x] h' n' (fun u _ _=>u=.bool (p j))):Fn A.C 162 [v,f] h N (fun u _ _=>u=.int .i64 (pL p 0 l.length)):=by
 intro w;have hlen:=hs.len;rw[aP,A.k162 (by simp)];simp[A.b162,hlen];refine cB [(4,5),(8,18)] (fun e r st=>az N st.w=[]/\ab h N st.h st.n/\((e=.exit 0/\pL p 0 l.length= -1)\/(e=.ret/\r.get 4=some (.int .i64 (pL p 0 l.length))))) (fun m r st=>az N st.w=[]/\ab h N st.h st.n/\∃k,k+m=l.length/\r.get 8=some (.int .i64 k)/\pL p 0 l.length=pL p k m) l.length ?_ ?_ ?_
 ·exact⟨by simp,ab.refl,0,by omega,by simp,rfl⟩
 ·rintro m r ⟨H,n1,W⟩ hr eI ⟨hW,hK,k,hk,h8,hz⟩;simp only at hW hK;rw[bG];cases m with
  |zero=>
   have:k=l.length:=by omega
   subst this;simp only[pL]at hz;simp[A.sX,hr,eI,h8,hW,hK,hz]
  |succ m=>
   have aD:k<l.length:=by omega
   obtain⟨c,hc⟩:=bs aD;obtain⟨i,o,cc,e,rw,q1,q2,q3,q4⟩:=hs.at hc;have q3:=(hK.get _ q2).trans q3;have dj:(k:Int)<(l.length:Int):=by omega
   simp only[pL]at hz;simp[A.sX,hr,h8,dj,hlen,q1,q3,q4];refine Bo (hf k c hc _ _ hK) ?_;rintro v h2 n2 k2 rfl;have kk:=hK.trans k2;cases hp:p k
   ·rw[hp]at hz;simp(disch:=first|(simp;done)|omega|rfl) [eI,h8,hW,kk];exact⟨m,by omega,k+1,by omega,by simp,by simpa using hz⟩
   rw[hp]at hz;simp[eI,hW,kk];simpa using hz.symm
 rintro e r ⟨H,n1,W⟩ hr ⟨hW,hK,⟨rfl,hz⟩|⟨rfl,h4⟩⟩
 ·simp only at hW hK;simp[hz,ay,hW,hK]
 simp only at hW hK;simp[h4,ay,hW,hK]
def A.Oi:=A.q Tryz.f164
def A.sY:=A.ql A.Oi 0 []
def A.b164:=(fun x0=>A.qb A.Oi [x0]) A.sY
def A.k164:=@A.kk 164 22 [.tmp 4] A.b164 (by kernel_rfl) rfl
def Yl1{l:List (List V)}{Q:Nat->T O->Nat->List V->Prop}(Y:V->Prop)(hQ:∀j h n h' n' c u,Q j h n c->ec (fun i=>i∈bI u) h n h' n'->mP 101 Y h u->Q j h' n' c)(hs:Sn 4 h N v l)(hl:l.length<1000000000)(h1:∀(j:Nat) (x:List V),l[j]?=some x->x.length=4/\x.all V.one=true)(hf:∀(j:Nat) (x:List V),l[j]?=some x->∀h' n',ab h N h' n'->fW A.C f [(.agg x)] h' n' (fun u h2 n2=>∃c,u=(.agg c)/\c.length=4/\c.all V.one=true/\(∀q∈c,Y q)/\Q j h2 n2 c)):Fn A.C 164 [v,f] h N (fun u h' n'=>∃out,Own 4 101 N h' n' u out/\out.length=l.length/\∀(j:Nat),j<l.length->∃c,out[j]?=some c/\Q j h' n' c):=by
 intro w;have hlen:=hs.len;rw[aP,A.k164 (by simp)];simp[A.b164,hlen];refine cB [(5,5),(7,7),(10,20)] (fun e r st=>e=.exit 0/\az N st.w=[]/\ab h N st.h st.n/\∃u out,r.get 5=some u/\Own 4 101 N st.h st.n u out/\out.length=l.length/\∀(j:Nat),j<l.length->∃c,out[j]?=some c/\Q j st.h st.n c) (fun m r st=>az N st.w=[]/\ab h N st.h st.n/\∃k u out,k+m=l.length/\r.get 10=some (.int .i64 k)/\r.get 5=some u/\Own 4 101 N st.h st.n u out/\out.length=k/\(out=[]->u=.aa)/\(∀c∈out,∀y∈c,Y y)/\∀(j:Nat),j<k->∃c,out[j]?=some c/\Q j st.h st.n c) l.length ?_ ?_ ?_
 ·exact⟨by simp,ab.refl,0,.aa,[],by omega,by simp,by simp,Own.nil,rfl,fun _=>rfl,by simp,fun j hj=>by omega⟩
 ·rintro m r ⟨H,n1,W⟩ hr eI ⟨hW,hK,k,u,out,hk,iN,h5,ho,gJ,s_,hY,dc⟩;simp only at hW hK ho dc;rw[bG];cases m with
  |zero=>
   have ta:k=l.length:=by omega
   subst ta;simp[A.sY,hr,eI,iN,hW,hK];exact⟨u,h5,out,ho,gJ,dc⟩
  |succ m=>
   have aD:k<l.length:=by omega
   obtain⟨x,hx⟩:=bs aD;obtain⟨i,o,cc,e,rw,q1,q2,q3,q4⟩:=(hs.ad hK).at hx;have dj:(k:Int)<(l.length:Int):=by omega
   obtain⟨e1,e2⟩:=h1 k x hx;have d1:¬i=n1:=by omega
   have d4:n1<n1+1:=by omega
   have kA:=(hK.new (.cells [(.int .i64 0),.aa,(.int .i64 0),.aa] 101 true)).set (i:=n1) (o:=.cells x 101 true) hK.le;have e3:∀v:List V,(V.agg v).cells=v:=fun _=>rfl;have e4:ae [(.int .i64 0),.aa,(.int .i64 0),.aa] 0 x=x:=by unfold ae;rw[e1];simp
   have e5:aO x 0 4=some x:=by unfold aO;rw[av (by omega)];simp;exact gm (by omega)
   simp[-V.cells, -V.one,A.sY,hr,iN,h5,dj,hlen,q1,q3,q4,aS,bM,e3,e1,e2,e4,e5];refine Bo (hf k x hx _ _ kA) ?_;rintro _ h3 n3 k3 ⟨c,rfl,c1,c2,cY,c3⟩;have jE:=k3.le;have kn:=hK.le;have kB:=kA.trans k3;have b1:∀v:List V,(V.agg v).cells=v:=fun _=>rfl;have b2:ae [(.int .i64 0),.aa,(.int .i64 0),.aa] 0 c=c:=by unfold ae;rw[c1];simp
   simp[-V.cells, -V.one,b1,b2,c1,c2];have uI:Own 4 101 N (h3.set n3 (.cells c 101 true)) (n3+1) u out:=(ho.ad (((ab.refl.new _).set (aN n1)).trans k3)).ad (ab.refl.new _);obtain⟨v',h',w',f1,f2,f3,f4,fD,f5⟩:=D9 (Y:=Y) (x:=c) (u:=.slice n3 0 1 (some 1) 4) (bytes:=64) (w:=n1::W) uI s_ hY (by omega) (by decide) c1 (by simp only[fO,St.row,T.ag,if_true];unfold aO;simp[c1];exact gm (by omega)) (by omega);rw[f1];have jC:¬n1<N:=by omega
   have f6:az N w'=[]:=by rw[f2];simp[az,hW,jC]
   have kz:=(kB.new (.cells c 101 true)).then f3;have k4:ab h3 n3 (h3.set n3 (.cells c 101 true)) (n3+1):=ab.refl.new _;have yK:Q k (h3.set n3 (.cells c 101 true)) (n3+1) c:=hQ _ _ _ _ _ _ .aa c3 k4.upd mP.nil;simp(disch:=first|(simp;done)|omega|rfl) [eI,iN,f6];refine⟨m,by omega,kz,k+1,by omega,by simp,out++[c],f5,by simp[gJ],by simp,fun c' hc z hz=>?_,fun j hj=>?_⟩
   ·rcases iS.1 hc with hc|hc
    ·exact hY c' hc z hz
    simp only[og]at hc;subst hc;exact cY z hz
   by_cases qW:j<k
   ·obtain⟨c,g1,g2⟩:=dc j qW;exact⟨c,by rw[k_ (by omega)];exact g1,hQ _ _ _ _ _ _ _ (hQ _ _ _ _ _ _ .aa g2 ((((ab.refl.new _).set (aN n1)).trans k3).trans k4).upd mP.nil) f4 fD⟩
   obtain rfl:j=k:=by omega
   exact⟨c,by rw[pC (by omega),gJ];simp,hQ _ _ _ _ _ _ _ yK f4 fD⟩
 rintro _ r ⟨H,n1,W⟩ hr ⟨rfl,hW,hK,u,out,h5,ho,gJ,dc⟩;simp only at hW hK ho dc;simp[h5,ay,hW,hK];exact⟨out,ho,gJ,dc⟩
def Ysh(F:Rat->Rat)(hs:iM h N v l)(hl:l.length<1000000000)(hf:∀q∈l,∀c h' n',ab h N h' n'->fI h' n' c q->fW A.C f [.agg c] h' n' (fun x h2 n2=>Fc h2 n2 x (F q))):Fn A.C 164 [v,f] h N (fun u h' n'=>dR h' n' u (l.map F)):=by
 obtain⟨cs,h1,h2,h3⟩:=hs;have key:=Yl1 (f:=f) (Q:=fun j h n c=>∀q,(l.map F)[j]?=some q->fI h n c q) NW (fun j h n h' n' c u hq k hd q nQ=>(hq q nQ).bE k hd) h1 (by omega) (fun j x hx=>?_) ?_
 ·intro w;refine(key w).mono fun u st=>?_;rintro⟨q1,q2,out,o1,o2,o3⟩;exact⟨q1,q2,Tm o1 (by simpa[h2]using o2) fun j hj=>o3 j (by simp at hj;omega)⟩
 ·obtain⟨q,hq⟩:=bs (l:=l) (k:=j) (by have:=fv hx;omega);obtain⟨c,g1,g2⟩:=h3 j q hq;rw[hx]at g1;obtain rfl:x=c:=by simpa using g1
  exact g2.len
 intro j x hx h' n' hk;obtain⟨q,hq⟩:=bs (l:=l) (k:=j) (by have:=fv hx;omega);obtain⟨c,g1,g2⟩:=h3 j q hq;rw[hx]at g1;obtain rfl:x=c:=by simpa using g1
 refine fun w=>(hf q (cP hq) x h' n' hk (g2.ad hk) w).mono fun y st=>?_;rintro⟨q1,q2,q3⟩;obtain⟨c,rfl,hc⟩:=q3.c;refine⟨q1,q2,c,rfl,hc.len.1,hc.len.2,hc.IH,fun t ht=>?_⟩;simp[hq]at ht;rw[<-ht];exact hc
structure nR (h:T O) (N R:Nat) (m:List (List Rat)):Prop where
 lt:R<N
 ex:∃us:List V,h.get R=some (.cells us 90 true)/\us.length=m.length/\tc us/\us.all V.one=true/\∀(j:Nat) (l:List Rat),m[j]?=some l->∃u,us[j]?=some u/\dR h N u l
def dR.bp{e:TypeId}{b c:Bool}(s:dR h N u l)(g:h.get R=some (.cells us e b))(he:e≠101)(hn:tc us)(hl:vs.length=us.length):dR (h.set R (.cells vs e c)) N u l:=by
 have aX:∀i∈bI u,i≠R:=fun i hi hc=>by obtain⟨z,w,hz⟩:=s.2 i hi;rw[hc,g]at hz;simp at hz;exact he hz.2.1
 obtain⟨cs,h1,h2,h3⟩:=s.1;have k:ec (fun i=>i=R) h N (h.set R (.cells vs e c)) N:=⟨aN _,fun i _ hi=>by rw[T.ag,ak hi]⟩;refine⟨⟨cs,h1.bE k aX,h2,fun j q hq=>?_⟩,fun i hi=>?_⟩
 ·obtain⟨x,g1,g2⟩:=h3 j q hq;exact⟨x,g1,g2.aG g hn hl⟩
 rw[T.ag,ak (aX i hi)];exact s.2 i hi
def nR.ad{h':T O}{N':Nat}{m:List (List Rat)}(s:nR h N R m)(k:ab h N h' N'):nR h' N' R m:=by obtain⟨us,g1,g2,g3,g4,g5⟩:=s.ex;refine⟨fH s.lt k.le,us,(k.get R s.lt).trans g1,g2,g3,g4,fun j l hl=>?_⟩;obtain⟨u,a1,a2⟩:=g5 j l hl;exact⟨u,a1,a2.ad k⟩
def dR.Gb(s:dR h N u l):(∀n,u≠.int .u64 n)/\V.one u=true/\V.cells u=[u]:=by obtain⟨a,b,c⟩:=s.1.form;exact⟨c,a,b⟩
def nR.put{i:Nat}{m:List (List Rat)}(s:nR h N R m)(hu:dR h N u l)(hi:i<m.length):∃us,h.get R=some (.cells us 90 true)/\us.length=m.length/\nR (h.set R (.cells (us.set i u) 90 true)) N R (m.set i l):=by
 obtain⟨us,g1,g2,g3,g4,g5⟩:=s.ex;refine⟨us,g1,g2,s.lt,us.set i u,by rw[T.ag,av rfl],by simp[g2],fun x hx=>?_,?_,fun j r hr=>?_⟩
 ·rcases CV hx with hx|rfl
  ·exact g3 x hx
  exact hu.Gb.1
 ·rw[kJ];intro x hx;rcases CV hx with hx|rfl
  ·exact kJ.1 g4 x hx
  exact hu.Gb.2.1
 by_cases e:j=i
 ·subst e;rw[mQ hi]at hr;simp only[ar]at hr;subst hr;exact⟨u,by rw[mQ (by omega)],hu.bp g1 (by decide) g3 (by simp)⟩
 rw[fk (Ne.symm e)]at hr ⊢;obtain⟨u',a1,a2⟩:=g5 j r hr;exact⟨u',a1,a2.bp g1 (by decide) g3 (by simp)⟩
variable {d k:Nat} {m:List (List Rat)}
def td(m:List (List Rat))(k:Nat):Nat->Nat->Nat
 |d,0=>d
 |d,n+1=>if (m[d]?.getD [])[k]?.getD 0≠0 then d else td m k (d+1) n
def iQ(m:List (List Rat))(d k:Nat):Nat:=td m k d (m.length-d)
def Ij{m:List (List Rat)}{k:Nat}:∀{n d:Nat},d<=td m k d n/\td m k d n<=d+n
 |0,d=>by simp[td]
 |n+1,d=>by
  unfold td
  split
  ·omega
  ·have:=@Ij m k n (d+1)
   omega
def La{m:List (List Rat)}{k:Nat}:∀{n d:Nat},td m k d n<d+n->(m[td m k d n]?.getD [])[k]?.getD 0≠0
 |0,d,h=>by simp[td]at h
 |n+1,d,h=>by
  unfold td at h ⊢
  split
  ·assumption
  ·rename_i hc
   rw[ak hc]at h
   exact La (by omega)
def wc(r p:List Rat)(k:Nat):List Rat:=wW (fun x y=>x-r[k]?.getD 0*y) r p r.length
def dr(m:List (List Rat))(d k t:Nat):List (List Rat):=(List.range m.length).map fun i=>if i<t/\i≠d then wc (m[i]?.getD []) (m[d]?.getD []) k else m[i]?.getD []
def cX(m:List (List Rat))(d p:Nat):List (List Rat):=(m.set d (m[p]?.getD [])).set p (m[d]?.getD [])
def jk(m:List (List Rat))(d k:Nat):List (List Rat):=m.set d ((m[d]?.getD []).map fun x=>x/(m[d]?.getD [])[k]?.getD 0)
def kL(s:List (List Rat)×Nat×List Nat)(k:Nat):List (List Rat)×Nat×List Nat:=
 if iQ s.1 s.2.1 k<s.1.length then (dr (jk (cX s.1 s.2.1 (iQ s.1 s.2.1 k)) s.2.1 k) s.2.1 k s.1.length,s.2.1+1,s.2.2++[k]) else s
def aK(m:List (List Rat))(n:Nat):List (List Rat)×Nat×List Nat:=(List.range n).foldl kL (m,0,[])
def yA{n:Nat}:aK m (n+1)=kL (aK m n) n:=by simp[aK,List.range_succ]
def CQ{t:Nat}:(dr m d k t).length=m.length:=by simp[dr]
def II{t i:Nat}(h:i<m.length):(dr m d k t)[i]?=some (if i<t/\i≠d then wc (m[i]?.getD []) (m[d]?.getD []) k else m[i]?.getD []):=by simp[dr,h]
def Yz7:dr m d k 0=m:=by
 apply pM;intro i;by_cases h:i<m.length
 ·rw[II h];simp[cj h]
 rw[gl (by rw[CQ];omega),gl (by omega)]
def Yz6{t:Nat}(h:d<m.length):(dr m d k t)[d]?=m[d]?:=by rw[II h,cj h];simp
def Yaz{t:Nat}(h:t<m.length)(hd:t≠d):dr m d k (t+1)=(dr m d k t).set t (wc (m[t]?.getD []) (m[d]?.getD []) k):=by
 apply pM;intro i;by_cases hi:i<m.length
 ·by_cases e:i=t
  ·subst e;rw[mQ (by rw[CQ];exact h),II hi,av ⟨by omega,hd⟩]
  rw[fk (Ne.symm e),II hi,II hi];congr 1;by_cases e2:i<t
  ·simp[e2,show i<t+1 by omega]
  simp[e2,show ¬i<t+1 by omega]
 rw[gl (by rw[CQ];omega),gl (by rw[yE,CQ];omega)]
def Yms:dr m d k (d+1)=dr m d k d:=by
 unfold dr;apply Ax;intro i _;by_cases e:i=d
 ·subst e;simp
 by_cases e2:i<d
 ·simp[e,e2,show i<d+1 by omega]
 simp[e2,show ¬i<d+1 by omega]
def Ye7{r p:List Rat}(h:r[k]?.getD 0=0):wc r p k=r:=by
 apply pM;intro i;by_cases hi:i<r.length
 ·unfold wc;rw[Tn hi,h,Rat.zero_mul,Rat.sub_eq_add_neg,Rat.neg_zero,Rat.add_zero,cj hi];rfl
 rw[gl (by unfold wc;rw[IJ];omega),gl (by omega)]
def Oj{r p:List Rat}:(wc r p k).length=r.length:=by unfold wc;rw[IJ]
variable {K d i k n:Nat} {m:List (List Rat)}
def aW(m:List (List Rat))(n:Nat):Prop:=∀r∈m,r.length=n
def aW.at(h:aW m n)(hi:i<m.length):(m[i]?.getD []).length=n:=by rw[cj hi];exact h _ (List.getElem_mem hi)
def aW.set{r:List Rat}(h:aW m n)(hr:r.length=n):aW (m.set i r) n:=fun x hx=>by
 rcases CV hx with hx|rfl
 ·exact h x hx
 ·exact hr
def aW.FT{p:Nat}(h:aW m n)(hd:d<m.length)(hp:p<m.length):aW (cX m d p) n:=(h.set (h.at hp)).set (h.at hd)
def aW.Lb(h:aW m n)(hd:d<m.length):aW (jk m d k) n:=h.set (by rw[dL];exact h.at hd)
def aW.elm{t:Nat}(h:aW m n):aW (dr m d k t) n:=fun r hr=>by
 unfold dr at hr
 obtain⟨i,hi,rfl⟩:=bO.1 hr
 have hi:=jz.1 hi
 split
 ·rw[Oj];exact h.at hi
 ·exact h.at hi
def rK{p:Nat}:(cX m d p).length=m.length:=by simp[cX]
def DW:(jk m d k).length=m.length:=by simp[jk]
def Yqd:(kL s k).1.length=s.1.length:=by
 unfold kL;split
 ·simp only[CQ,DW,rK]
 rfl
def Yvo(h:aW s.1 n)(hd:s.2.1<=s.1.length):aW (kL s k).1 n/\(kL s k).2.1<=s.1.length/\s.2.1<=(kL s k).2.1:=by
 unfold kL;have hle:=@Ij s.1 k (s.1.length-s.2.1) s.2.1;split
 ·rename_i hp;have eY:s.2.1<s.1.length:=by unfold iQ at hp;omega
  exact⟨((h.FT eY hp).Lb (by rw[rK];exact eY)).elm,by simp only;omega,by simp⟩
 exact⟨h,hd,aN _⟩
def bR(m:List (List Rat))(K:Nat):Prop:=∀r∈m,∀q∈r,Qb K q
def bR.mono{L:Nat}(h:bR m K)(hk:K<=L):bR m L:=fun r hr q hq=>(h r hr q hq).mono hk
def bR.at{m:List (List Rat)}{K i:Nat}(h:bR m K):∀q∈m[i]?.getD [],Qb K q:=fun q hq=>by
 cases hr:m[i]? with
 |none=>rw[hr]at hq;simp at hq
 |some r=>rw[hr]at hq;exact h r (cP hr) q hq
def bR.set{r:List Rat}(h:bR m K)(hr:∀q∈r,Qb K q):bR (m.set i r) K:=fun x hx=>by
 rcases CV hx with hx|rfl
 ·exact h x hx
 ·exact hr
def bR.FT{p:Nat}(h:bR m K):bR (cX m d p) K:=(h.set h.at).set h.at
def Yvy(h:bR m K)(hK:1<=K)(hp:(m[d]?.getD [])[k]?.getD 0≠0):∀q∈(m[d]?.getD []).map (fun x=>x/(m[d]?.getD [])[k]?.getD 0),Qb (2*K) q:=fun q hq=>by
 obtain⟨x,hx,rfl⟩:=bO.1 hq
 have h1:=h.at (i:=d) x hx
 have h2:=Xar (rN (fun q hq=>h.at (i:=d) q hq) hK k) hp
 rw[Rat.div_def,show 2*K=K+K by omega]
 exact h1.mul h2
def TxO(N0:Nat)(h:T O)(N:Nat)(u:V)(l:List Rat):Prop:=Tx h N u l/\∀i∈bI u,i<N0\/∃z w,h.get i=some (.cells z 26 w)
structure RwT (N0:Nat) (h:T O) (N R:Nat) (m:List (List Rat)):Prop where
 ge:N0<=R
 lt:R<N
 ex:∃us:List V,h.get R=some (.cells us 23 true)/\us.length=m.length/\∀(j:Nat) (l:List Rat),m[j]?=some l->∃u,us[j]?=some u/\TxO N0 h N u l
def To{l:List V}(h:i<l.length):ae l i [u]=l.set i u:=by unfold ae;rw[List.set_eq_take_append_cons_drop,av h];simp
def we(m:List (List Rat)):Bool:=m.any uE
def Ls(e:Int)(m:List (List Rat))(v:V)(c:Int)(h:T O)(n:Nat):Prop:=(e≠0/\v=.aa/\c=e)\/(e=0/\((we m=true/\v=.aa/\c=4)\/(we m=false/\c=0/\uF h n v m)))
def TPN(e:Int)(q:Rat)(s:List UInt8)(c:Int):Prop:=(e≠0/\s=[]/\c=e)\/(e=0/\((vV q=true/\s=[]/\c=4)\/(vV q=false/\c=0/\s=aI q)))
def A.b5:=A.q Tryz.f5
def A.c5:A.F 5=some ⟨16,[.tmp 2],A.b5⟩:=by kernel_rfl
def A.k5:=@A.kk 5 _ _ _ A.c5 rfl
def Yqf{a b c:V}{ws s x:List aH}(ha:Sl h N a (strs ws))(hb:Sl h N b (strs s))(hc:Sl h N c (strs x))(la:ws.length<9223372036854775808)(lb:s.length<9223372036854775808)(lc:x.length<9223372036854775808):Fn A.C 5 [.agg [a,b,c]] h N (fun u _ _=>u=.bool (ef 6 ws&&ef 6 s&&ef 6 x)):=by
 intro w;have o1:=ha.form.one;have o2:=hb.form.one;have o3:=hc.form.one;unfold V.one at o1 o2 o3;have kB:ab h N (h.set N (.cells [a,b,c] 25 true)) (N+1):=ab.refl.new _;have e1:∀w,A.C.call (.func 27 [] []) [a,.int .i64 6] ⟨h.set N (.cells [a,b,c] 25 true),N+1,w⟩=some (.bool (ef 6 ws),⟨h.set N (.cells [a,b,c] 25 true),N+1,w⟩):=fun w=>Ok (w:=w) (n:=6) (ha.ad kB) la (by decide);have e2:∀w,A.C.call (.func 27 [] []) [b,.int .i64 6] ⟨h.set N (.cells [a,b,c] 25 true),N+1,w⟩=some (.bool (ef 6 s),⟨h.set N (.cells [a,b,c] 25 true),N+1,w⟩):=fun w=>Ok (w:=w) (n:=6) (hb.ad kB) lb (by decide);have e3:∀w,A.C.call (.func 27 [] []) [c,.int .i64 6] ⟨h.set N (.cells [a,b,c] 25 true),N+1,w⟩=some (.bool (ef 6 x),⟨h.set N (.cells [a,b,c] 25 true),N+1,w⟩):=fun w=>Ok (w:=w) (n:=6) (hc.ad kB) lc (by decide);rw[aP,A.k5 (by simp)];cases q1:ef 6 ws with
 |false=> rw[q1]at e1;simp[A.b5,o1,o2,o3,e1,ay];exact kB
 |true=>
  rw[q1]at e1;cases q2:ef 6 s with
  |false=> rw[q2]at e2;simp[A.b5,o1,o2,o3,e1,e2,ay];exact kB
  |true=> rw[q2]at e2;simp[A.b5,o1,o2,o3,e1,e2,e3,ay];exact kB
structure Wt (e:Int) (l:List Rat) (v:V) (c:Int) (u:V) (h:T O) (n:Nat):Prop where
 p:iT h n
 tp:TP e l v c h n
 tx:e=0->Tx h n u l
 len:l.length<100000
 zQ:e=0->∀q∈l,(aI q).length<1000000000
structure WtN (e:Int) (q:Rat) (s:aH) (c:Int) (t:aH):Prop where
 tp:TPN e q s c
 tx:e=0->t=aI q
 zQ:e=0->(aI q).length<1000000000
structure WtM (e:Int) (m:List (List Rat)) (v:V) (c:Int) (u:V) (h:T O) (n:Nat):Prop where
 tp:Ls e m v c h n
 tx:e=0->uF h n u m
 len:m.length<100000
 zQ:e=0->∀r∈m,r.length<100000/\∀q∈r,(aI q).length<1000000000
def Y9(h:az n w=[])(hN:N<=n):az N w=[]:=Iq fun i hi=>by
 have:=FZ h i hi
 omega
def ID{q:Rat}(h:Qb k q)(hk:k<=400000000):(aI q).length<1000000000:=by have h1:=LF h.1;have h2:=IK h.2;unfold aI;split<;>simp<;>omega
def Sl.Bp{l:List V}(s:Sl h N v l):v.cells=[v]:=by rcases s with⟨_,rfl|rfl⟩|⟨j,o,cp,c,e,rw,rfl,hj,_⟩<;>rfl
def Sl.Ol{l:List V}(s:Sl h N v l):v.one=true:=by rcases s with⟨_,rfl|rfl⟩|⟨j,o,cp,c,e,rw,rfl,hj,_⟩<;>rfl
def Gc{m:List (List Rat)}:∀{n:Nat},(aK m n).1.length=m.length
 |0=>rfl
 |n+1=>by rw[yA,Yqd];exact Gc
def qJ{m:List (List Rat)}{c:Nat}(h:aW m c):∀{n:Nat},aW (aK m n).1 c/\(aK m n).2.1<=m.length
 |0=>⟨h,wX _⟩
 |n+1=>by
  obtain⟨a,b⟩:=@qJ m c h n
  rw[yA]
  have:=Yvo (k:=n) a (by rw[Gc];exact b)
  rw[Gc]at this
  exact⟨this.1,this.2.1⟩
def kB(K:Nat):Nat->Nat
 |0=>K
 |n+1=>4*kB K n+1
def Ya0{m:List (List Rat)}:∀{n:Nat},(aK m n).2.1<=n
 |0=>aN _
 |n+1=>by
  have:=@Ya0 m n
  rw[yA]
  unfold kL
  split
  ·show (aK m n).2.1+1<=n+1
   omega
  ·omega
variable {N n:Nat} {h:T O} {l:List Int} {m:List (List Rat)} {v:V}
def Om{m:List (List Rat)}{k:Nat}(h:(aK m k).2.1=m.length):∀{n:Nat},aK m (k+n)=aK m k
 |0=>rfl
 |n+1=>by
  rw[Nat.add_succ,yA,Om h]
  unfold kL
  rw[ak]
  unfold iQ
  rw[Gc,h,Nat.sub_self]
  simp[td]
def Yh6{m:List (List Rat)}:∀{n:Nat},(aK m n).2.2.length=(aK m n).2.1
 |0=>rfl
 |n+1=>by
  have:=@Yh6 m n
  rw[yA]
  unfold kL
  split
  ·simp[this]
  ·exact this
def bH(m:List (List Rat))(n:Nat):List (List Rat):=(aK m n).1.take (aK m n).2.1
def vU(h:aW m n):(bH m n).length=(aK m n).2.1:=by unfold bH;rw[iV,Gc];have:=(@qJ m n h n).2;omega
def Yt5{s:aH}(h:aR s=0)(hn:s.length<=n)(h1:0<n):Qb (4*n) (e_ s):=by
 obtain⟨e,_,_⟩:=Gd h;have hb:=ZJ (e_ s);have l1:(bm (aI (e_ s))).length<=n:=by
  rw[e];unfold bm;split
  ·simp;omega
  exact hn
 rw[hb]at l1;have g:∀m:Nat,(aq m).length<=n->m<2^(4*n):=fun m hm=>fH ((C5 h1).1 hm) (Yok n);split at l1
 ·rename_i h2;have h3:(aq 1).length=1:=by rw[On];rfl
  exact⟨g _ l1,by rw[h2];exact g 1 (by omega)⟩
 simp at l1;exact⟨g _ (by omega),g _ (by omega)⟩
def C6.qb{m:List (List aH)}(h:C6 m n):aW (cF m) n/\bR (cF m) 96:=⟨fun r hr=>(h.rat r hr).1,fun r hr q hq=>by
 obtain⟨s,hs,rfl⟩:=bO.1 hr
 obtain⟨t,ht,rfl⟩:=bO.1 hq
 have:=(h.row s hs).2 t ht
 exact Yt5 this.1 this.2 (by decide)⟩
def NY{m:List (List aH)}:(cF m).length=m.length:=by simp[cF]
def Ea(l:List Int):List (List V):=l.map fun z=>[V.int .i64 z]
def tf(N0:Nat)(h:T O)(N:Nat)(v:V)(l:List Int):Prop:=Own 1 3 N0 h N v (Ea l)/\(l=[]->v=.aa)
def tf.nil{N0:Nat}:tf N0 h N .aa []:=⟨Own.nil,fun _=>rfl⟩
def tf.ad{N0:Nat}{h':T O}{N':Nat}(s:tf N0 h N v l)(k:ab h N h' N'):tf N0 h' N' v l:=⟨s.1.ad k,s.2⟩
def tf.wY{N0:Nat}{o:O}(s:tf N0 h N v l)(g:h.get R=some o)(he:∀z,o≠.cells z 3 true)(k:ec (fun i=>i=R) h N h' N'):tf N0 h' N' v l:=by
 obtain⟨⟨hl,s|⟨i,h1,h2,h3,h4⟩⟩,hn⟩:=s
 ·exact⟨⟨hl,.inl s⟩,hn⟩
 refine⟨⟨hl,.inr ⟨i,h1,h2,fH h3 k.le,(k.get i h3 fun hc=>?_).trans h4⟩⟩,hn⟩;rw[hc,g]at h4;simp only[ar]at h4;exact he _ h4
def tf.push{B N0:Nat}{x:V}{k:Int}(s:tf N0 h N v l)(hB:B<=N0)(hN:N0<=N)(hw:az B w=[])(hx:fO ⟨h,N,w⟩ 1 x=some (1,[.int .i64 k]))(hl:l.length<1000):∃v' h' w',mR ⟨h,N,w⟩ 1 8 3 v x=some (v',⟨h',N+1,w'⟩)/\az B w'=[]/\ec (fun i=>i∈bI v) h N h' (N+1)/\mP 3 NW h v/\(∀i∈bI v,N0<=i)/\tf N0 h' (N+1) v' (l++[k]):=by
 obtain⟨s,hn⟩:=s;have sB:Own 1 3 B h N v (Ea l):=⟨s.1,s.2.imp id fun ⟨i,a,b,c⟩=>⟨i,a,by omega,c⟩⟩;have hY:∀c∈Ea l,∀y∈c,NW y:=fun c hc y hy=>by obtain⟨p,_,rfl⟩:=bO.1 hc;simp at hy;subst hy;exact fun m=>by simp
 have h0:Ea l=[]->v=.aa:=fun h0=>hn (List.map_eq_nil_iff.1 h0);have hb:2*((Ea l).length+1)*8<=281474976710656:=by simp only[Ea,dL];omega
 obtain⟨v1,h1,w1,a1,a2,_,_,_,_⟩:=D9 (Y:=NW) (bytes:=8) (w:=w) sB h0 hY (by omega) (by decide) rfl hx hb;obtain⟨v2,h2,w2,b1,_,_,b4,b5,b6⟩:=D9 (Y:=NW) (bytes:=8) (w:=w) s h0 hY hN (by decide) rfl hx hb;rw[a1]at b1;simp only[ar,bB,St.mk.injEq,true_and]at b1;obtain⟨rfl,rfl,rfl⟩:=b1;refine⟨v1,h1,w1,a1,a2.trans hw,b4,b5,fun i hi=>?_,by simpa[Ea]using b6,fun hc=>by simp at hc⟩;obtain⟨_,⟨_,rfl⟩|⟨j,rfl,c1,_⟩⟩:=s
 ·simp[bI]at hi
 simp[bI]at hi;omega
def tf.sl{N0:Nat}(s:tf N0 h N v l):Sl h N v (dI l):=by
 have:=s.1.sn;have e:Ea l=(dI l).map fun y=>[y]:=by unfold Ea dI;rw[List.map_map];rfl
 rw[e]at this;exact Sn.one.1 this
variable {d i j k:Nat} {m:List (List Rat)}
def al(m:List (List Rat))(i j:Nat):Rat:=(m[i]?.getD [])[j]?.getD 0
def Ik{p:Nat}(hd:d<m.length)(hp:p<m.length):al (cX m d p) i j=if i=d then al m p j else if i=p then al m d j else al m i j:=by
 unfold al cX;by_cases e1:i=p
 ·subst e1;rw[mQ (by simp;exact hp)];by_cases e2:i=d
  ·subst e2;simp
  simp[e2]
 rw[fk (Ne.symm e1)];by_cases e2:i=d
 ·subst e2;rw[mQ hd];simp
 rw[fk (Ne.symm e2)];simp[e1,e2]
def SM(hd:d<m.length):al (jk m d k) i j=if i=d then al m d j/al m d k else al m i j:=by
 unfold al jk;by_cases e:i=d
 ·subst e;rw[mQ hd,av rfl,iL,eH];cases (m[i]?.getD [])[j]? with
  |none=>simp[Rat.div_def,Rat.zero_mul]
  |some q=>rfl
 rw[fk (Ne.symm e),ak e]
def SN{c:Nat}(h:aW m c)(hi:i<m.length)(hd:d<m.length):al (dr m d k m.length) i j=if i=d then al m i j else al m i j-al m i k*al m d j:=by
 unfold al;rw[II hi,iL];by_cases e:i=d
 ·rw[ak (by omega),av e]
 rw[av ⟨hi,e⟩,ak e];have l1:=h.at hi;have l2:=h.at hd;by_cases hj:j<c
 ·unfold wc;rw[Tn (by omega)];rfl
 rw[gl (by rw[Oj];omega),gl (l:=m[i]?.getD []) (by omega),gl (l:=m[d]?.getD []) (by omega)];show (0:Rat)=0-(m[i]?.getD [])[k]?.getD 0*0;rw[Rat.mul_zero,Rat.sub_self]
def Yoi{m:List (List Rat)}{k:Nat}:∀{n d:Nat},d+n<=td m k d n->∀i,d<=i->i<d+n->al m i k=0
 |0,d,h,i,h1,h2=>by omega
 |n+1,d,h,i,h1,h2=>by
  unfold td at h
  split at h
  ·omega
  ·rename_i hc
   by_cases e:i=d
   ·subst e;unfold al;simpa using hc
   ·exact Yoi (n:=n) (d:=d+1) (by omega) i (by omega) (by omega)
structure zE (m:List (List Rat)) (d:Nat) (ps:List Nat) (n:Nat):Prop where
 len:ps.length=d
 le:d<=m.length
 lt:∀i,i<d->ps[i]?.getD 0<n
 zU:∀i j,i<j->j<d->ps[i]?.getD 0<ps[j]?.getD 0
 one:∀i j,i<d->j<m.length->al m j (ps[i]?.getD 0)=if j=i then 1 else 0
 lead:∀i k,i<d->k<ps[i]?.getD 0->al m i k=0
 rest:∀i k,d<=i->i<m.length->k<n->al m i k=0
def zE.step{c:Nat}(h:zE s.1 s.2.1 s.2.2 n)(hc:aW s.1 c):zE (kL s n).1 (kL s n).2.1 (kL s n).2.2 (n+1):=by
 obtain⟨m,d,ps⟩:=s;simp only at h hc;unfold kL;simp only;have hle:=@Ij m n (m.length-d) d;have kM:=h.le;split
 ·rename_i hp;have eY:d<m.length:=by unfold iQ at hp;omega
  have Nw:d<=iQ m d n:=hle.1;have aX:al m (iQ m d n) n≠0:=@La m n (m.length-d) d (by unfold iQ at hp;omega);generalize iQ m d n=p at*;have kZ:=(hc.FT eY hp).Lb (d:=d) (k:=n) (by rw[rK];exact eY);have hlen:(dr (jk (cX m d p) d n) d n m.length).length=m.length:=by rw[CQ,DW,rK]
  have iC:(jk (cX m d p) d n).length=m.length:=by rw[DW,rK]
  have hb:∀i j,al (cX m d p) i j=if i=d then al m p j else if i=p then al m d j else al m i j:=fun i j=>Ik eY hp
  have hs:∀i j,al (jk (cX m d p) d n) i j=if i=d then al m p j/al m p n else al (cX m d p) i j:=fun i j=>by rw[SM (by rw[rK];exact eY),hb d j,hb d n,av rfl,av rfl]
  have he:∀i j,i<m.length->al (dr (jk (cX m d p) d n) d n m.length) i j=if i=d then al m p j/al m p n else al (cX m d p) i j-al (cX m d p) i n*(al m p j/al m p n):=fun i j hi=>by have:=SN (m:=jk (cX m d p) d n) (k:=n) (j:=j) kZ (i:=i) (d:=d) (by rw[iC];exact hi) (by rw[iC];exact eY);rw[iC]at this;rw[this,hs i j,hs i n,hs d j,av rfl];split<;>rfl
  have rO:al m p n/al m p n=1:=by rw[Rat.div_def];exact Rat.mul_inv_cancel _ aX
  have Im:∀i j,i<d->al (cX m d p) i j=al m i j:=fun i j hi=>by rw[hb,ak (by omega),ak (by omega)]
  have iY:∀i k,d<=i->i<m.length->k<n->al (cX m d p) i k=0:=fun i k h1 h2 h3=>by
   rw[hb];split
   ·exact h.rest p k Nw hp h3
   split
   ·exact h.rest d k (aN _) eY h3
   exact h.rest i k h1 h2 h3
  have uZ:∀k,k<n->al m p k/al m p n=0:=fun k hk=>by rw[h.rest p k Nw hp hk,Rat.div_def,Rat.zero_mul]
  have hold:∀i k,i<m.length->k<n->al (dr (jk (cX m d p) d n) d n m.length) i k=if i<d then al m i k else 0:=fun i k hi hk=>by
   rw[he i k hi,uZ k hk,Rat.mul_zero];by_cases e:i=d
   ·rw[av e,ak (by omega)]
   rw[ak e];by_cases e2:i<d
   ·rw[av e2,Im i k e2,Rat.sub_eq_add_neg,Rat.neg_zero,Rat.add_zero]
   rw[ak e2,iY i k (by omega) hi hk,Rat.sub_eq_add_neg,Rat.neg_zero,Rat.add_zero]
  have tg:∀i,i<m.length->al (dr (jk (cX m d p) d n) d n m.length) i n=if i=d then 1 else 0:=fun i hi=>by
   rw[he i n hi,rO];split
   ·rfl
   rw[Rat.mul_one,Rat.sub_self]
  have ho:∀i,i<d->(ps++[n])[i]?.getD 0=ps[i]?.getD 0:=fun i hi=>by rw[k_ (by have:=h.len;omega)]
  have uB:(ps++[n])[d]?.getD 0=n:=by rw[pC (by have:=h.len;omega),h.len];simp
  show zE (dr (jk (cX m d p) d n) d n m.length) (d+1) (ps++[n]) (n+1);refine⟨by simp[h.len],by rw[hlen];omega,fun i hi=>?_,fun i j h1 h2=>?_,fun i j h1 h2=>?_,fun i k h1 h2=>?_,fun i k h1 h2 h3=>?_⟩
  ·by_cases e:i<d
   ·rw[ho i e];have:=h.lt i e;omega
   obtain rfl:i=d:=by omega
   rw[uB];omega
  ·rw[ho i (by omega)];by_cases e:j<d
   ·rw[ho j e];exact h.zU i j h1 e
   obtain rfl:j=d:=by omega
   rw[uB];exact h.lt i h1
  ·rw[hlen]at h2;by_cases e:i<d
   ·rw[ho i e,hold j _ h2 (h.lt i e)];by_cases e2:j<d
    ·rw[av e2];exact h.one i j e h2
    rw[ak e2,ak (by omega)]
   obtain rfl:i=d:=by omega
   rw[uB];exact tg j h2
  ·by_cases e:i<d
   ·rw[ho i e]at h2;rw[hold i k (by omega) (by have:=h.lt i e;omega),av e];exact h.lead i k e h2
   obtain rfl:i=d:=by omega
   rw[uB]at h2;rw[hold i k eY h2,ak e]
  rw[hlen]at h2;by_cases e:k<n
  ·rw[hold i k h2 e,ak (by omega)]
  obtain rfl:k=n:=by omega
  rw[tg i h2,ak (by omega)]
 rename_i hp;have Oo:=@Yoi m n (m.length-d) d (by unfold iQ at hp;omega);show zE m d ps (n+1);refine⟨h.len,h.le,fun i hi=>by have:=h.lt i hi;omega,h.zU,h.one,h.lead,fun i k h1 h2 h3=>?_⟩;by_cases e:k<n
 ·exact h.rest i k h1 h2 e
 obtain rfl:k=n:=by omega
 exact Oo i h1 (by omega)
def qI{m:List (List Rat)}{c:Nat}(hc:aW m c):∀{n:Nat},zE (aK m n).1 (aK m n).2.1 (aK m n).2.2 n
 |0=>⟨rfl,wX _,fun i hi=>absurd hi (Nat.not_lt_zero i),fun i j _ hj=>absurd hj (Nat.not_lt_zero j),fun i j hi=>absurd hi (Nat.not_lt_zero i),fun i k hi=>absurd hi (Nat.not_lt_zero i),fun i k _ _ hk=>absurd hk (Nat.not_lt_zero k)⟩
 |n+1=>by
  rw[yA]
  exact(@qI m c hc n).step (qJ hc).1
def Tp(m:List (List Rat))(ps:List Nat)(n k:Nat):List Rat:=(List.range n).map fun j=>if j=k then 1 else if j∈ps then -al m (ps.idxOf j) k else 0
def pF(ps:List Nat)(n:Nat):List Nat:=(List.range n).filter fun k=>!ps.contains k
def mO(m:List (List Rat))(n:Nat):List (List Rat):=(pF (aK m n).2.2 n).map (Tp (bH m n) (aK m n).2.2 n)
def zV(m:List (List Rat))(n:Nat):List (List Rat):=bH (mO m n) n
def Oq:∀{n:Nat} {ps:List Nat},(∀i,i<ps.length->ps[i]?.getD 0<n)->(∀i j,i<j->j<ps.length->ps[i]?.getD 0<ps[j]?.getD 0)->(pF ps n).length+ps.length=n
 |0,ps,h1,h2=>by
  cases ps with
  |nil=>rfl
  |cons p t=>exact absurd (h1 0 (by simp)) (by omega)
 |n+1,ps,h1,h2=>by
  have hs:pF ps (n+1)=pF ps n++if ps.contains n=true then [] else [n]:=by
   unfold pF
   rw[List.range_succ,List.filter_append]
   congr 1
   rw[List.filter_cons]
   cases hc:ps.contains n<;>rfl
  by_cases hm:n∈ps
  ·have th:ps=ps.dropLast++[n]:=by
    obtain⟨i,hi⟩:=nP hm
    have uV:=(yL.1 hi).1
    have:i=ps.length-1:=by
     by_cases e:i=ps.length-1
     ·exact e
     ·have h3:=h2 i (ps.length-1) (by omega) (by omega)
      have h4:=h1 (ps.length-1) (by omega)
      rw[hi]at h3
      simp only[iL]at h3
      omega
    subst this
    have aX:ps≠[]:=fun hc=>by rw[hc]at hm;simp at hm
    have hl:ps.getLast aX=n:=by rw[List.getLast_eq_getElem];rw[cj uV]at hi;exact px hi
    conv=>lhs;rw[<-Tq aX,hl]
   generalize ps.dropLast=l at th
   subst th
   have jX:(l++[n]).length=l.length+1:=by simp
   have aD:∀i,i<l.length->l[i]?.getD 0<n:=fun i hi=>by
    have:=h2 i l.length hi (by omega)
    rw[k_ hi,pC (aN _)]at this
    simpa using this
   have ih:=@Oq n l aD fun i j h3 h4=>by
    have:=h2 i j h3 (by omega)
    rw[k_ h4,k_ (by omega)]at this
    exact this
   have he:pF (l++[n]) n=pF l n:=by
    unfold pF
    apply List.filter_congr
    intro k hk
    have hk:=jz.1 hk
    have AF:k≠n:=by omega
    simp[AF]
   rw[hs,he,jX]
   simp
   omega
  ·have hb:∀i,i<ps.length->ps[i]?.getD 0<n:=fun i hi=>by
    have:=h1 i hi
    have h3:ps[i]?.getD 0≠n:=fun hc=>by
     rw[cj hi]at hc
     simp only[iL]at hc
     exact hm (hc▸List.getElem_mem hi)
    omega
   have ih:=@Oq n ps hb h2
   rw[hs]
   simp[hm]
   omega
def zE.idx(h:zE m d ps n)(hi:i<d):ps.idxOf (ps[i]?.getD 0)=i:=by
 have hl:=h.len;have hm:ps[i]?.getD 0∈ps:=by rw[cj (by omega)];exact List.getElem_mem _
 have hj:=List.idxOf_lt_length_iff.2 hm;have hg:=List.getElem_idxOf hj;by_cases e:ps.idxOf (ps[i]?.getD 0)=i
 ·exact e
 exfalso;rcases Nat.lt_or_gt_of_ne e with h1|h1
 ·have:=h.zU _ _ h1 hi;rw[cj hj,hg]at this;simp at this
 have:=h.zU _ _ h1 (by omega);rw[cj hj,hg]at this;simp at this
variable {R:Nat} {m:List (List Rat)}
set_option maxHeartbeats 2000000
def A.ZK:=A.q Tryz.f96
def A.pN:=A.ql A.ZK 1 []
def A.ti:=(fun x0=>A.ql A.ZK 0 [x0]) A.pN
def A.b96:=(fun x0=>A.qb A.ZK [x0]) A.ti
def A.k96:=@A.kk 96 120 [.tmp 2,.tmp 3] A.b96 (by kernel_rfl) rfl
def nR.at(s:nR h N R m){l:List Rat}(hj:m[j]?=some l):∃us u,h.get R=some (.cells us 90 true)/\us.length=m.length/\us[j]?=some u/\dR h N u l:=by obtain⟨us,g1,g2,_,_,g5⟩:=s.ex;obtain⟨u,a1,a2⟩:=g5 j l hj;exact⟨us,u,g1,g2,a1,a2⟩
def nR.Eb{l:List Rat}(s:nR h N R m)(g:h.get R=some (.cells us 90 true))(hu:dR h N u l)(hi:i<m.length):nR (h.set R (.cells (us.set i u) 90 true)) N R (m.set i l):=by obtain⟨vs,g1,_,g2⟩:=s.put hu hi;rw[g]at g1;simp only[ar,O.cells.injEq,and_true]at g1;subst g1;exact g2
def Xap{c:List V}(h:c.length=4):aO c 0 4=some c:=by unfold aO;rw[h];simp;exact gm (by omega)
def Xao{c:List V}(h:c.length=4):ae [V.int .i64 0,.aa,.int .i64 0,.aa] 0 c=c:=by unfold ae;rw[h];simp
def Ykm{α:Type}{l:List α}{a:α}(h:l[i]?=some a):l.set i a=l:=by
 apply pM;intro j;by_cases e:j=i
 ·subst e;rw[mQ (yL.1 h).1,h]
 rw[fk (Ne.symm e)]
def Yvw{q:Rat}:dB q.num=0↔q=0:=by
 have h1:=@Ec q;unfold dB;constructor
 ·intro hh;apply h1.1;split at hh
  ·omega
  split at hh<;>omega
 intro hh;have:=h1.2 hh;rw[this];rfl
def Yk5{N0:Nat}{r0:T V}{c:Nat}{cp:Option Nat}(s:nR H n R m)(Bq:N0<=R)(hP:H.get P=some (.cells [.int .i64 k] 3 true))(hPl:P<n)(hc:aW m c)(hk:k<c)(hd:d<m.length)(jR:m.length<1000)(cy:c<1000)(IL:1<=K)(hK:∀i,i≠d->∀q∈m[i]?.getD [],Qb K q)(hPq:∀q∈m[d]?.getD [],Qb (2*K) q)(hKl:3*K<=400000000)(LG:az N0 W0=[])(a4:r0.get 4=some (.slice R 0 m.length cp 1))(a6:r0.get 6=some (.int .i64 d))(a7:r0.get 7=some (.ptr P 0))(ZL:r0.get 71=some (.int .i64 m.length))(a72:r0.get 72=some (.int .i64 0)):
  Code A.C none (.loop A.pN) ⟨r0,120,[]⟩ ⟨H,n,W0⟩ (fun e fr st=>e=.exit 2/\az N0 st.w=[]/\ec (fun i=>i=R) H n st.h st.n/\nR st.h st.n R (dr m d k m.length)/\∃r,Fx [(10,12),(72,104)] r0 120 ⟨r,120,[]⟩/\fr=⟨r,120,[]⟩):=by
 have hPR:¬P=R:=fun hc=>by obtain⟨us,g,_⟩:=s.ex;rw[hc,g]at hP;simp at hP
 rw[bG];refine cB [(10,12),(72,104)] (fun e r st=>e=.exit 2/\az N0 st.w=[]/\ec (fun i=>i=R) H n st.h st.n/\nR st.h st.n R (dr m d k m.length)) (fun i r st=>az N0 st.w=[]/\ec (fun i=>i=R) H n st.h st.n/\∃t,t<=m.length/\i=m.length-t/\r.get 72=some (.int .i64 t)/\nR st.h st.n R (dr m d k t)) (m.length) ?_ ?_ ?_
 ·exact⟨LG,ec.refl,0,by omega,by omega,a72,by rw[Yz7];exact s⟩
 ·rintro i r ⟨H1,n1,W⟩ hr hf ⟨hW,k1,t,ht,rfl,Ot,s1⟩;simp only at hW k1 s1;rw[bG];have LH:=(k1.get P hPl hPR).trans hP;have Ou:=fH hPl k1.le;by_cases aD:t<m.length
  ·have bV:(t:Int)<(m.length:Int):=by omega
   have Tr:(d:Int)<(m.length:Int):=by omega
   obtain⟨row,aA⟩:=bs aD;obtain⟨Br,u9⟩:=bs hd;have wL:=hc row (cP aA);have jA:=hc Br (cP u9);have w2:(dr m d k t)[d]?=some Br:=by rw[Yz6 hd];exact u9
   have w1:(dr m d k t)[t]?=some row:=by rw[II aD,ak (by omega),aA];rfl
   obtain⟨us,u,g1,g2,g3,g4⟩:=s1.at w1;obtain⟨us',v,Ov,_,g3',Ts⟩:=s1.at w2;rw[g1]at Ov;simp only[ar,O.cells.injEq,and_true]at Ov;subst Ov;obtain⟨q,hq⟩:=bs (l:=row) (k:=k) (by omega);obtain⟨i1,o1,c1,e1,x1,cs,q1,q2,q3,q4,q5⟩:=g4.1.at hq;obtain⟨z1,z2⟩:=q5.len;have LI:=g4.1.len;have dj:(k:Int)<(row.length:Int):=by omega
   have jV:k<row.length:=by omega
   have hR:=s1.lt;have hRn:¬R=n1:=by omega
   have hPn:¬P=n1:=by omega
   have jT:∀c:List V,(V.agg c).cells=c:=fun _=>rfl;have s0:=Xap z1;have e4:=Xao z1;have lt1:n1<n1+1:=by omega
   have lR:R<n1+1:=by omega
   have kB:ab H1 n1 ((H1.set n1 (.cells [.int .i64 0,.aa,.int .i64 0,.aa] 101 true)).set n1 (.cells cs 101 true)) (n1+1):=(ab.refl.new _).set (aN _);have gN:((H1.set n1 (.cells [.int .i64 0,.aa,.int .i64 0,.aa] 101 true)).set n1 (.cells cs 101 true)).get n1=some (.cells cs 101 true):=by rw[T.ag,av rfl]
   by_cases e:t=d
   ·subst e;rw[<-Yms]at s1;simp(disch:=first|(simp;done)|omega|rfl) [-V.cells, -V.one,A.pN,hr,hf,a4,a6,a7,ZL,Ot,bV,g1,g3,hR,q1,q2,q3,q4,LI,LH,Ou,bM,jT,z1,z2,e4,lt1,hW];have yJ:=k1.le;refine⟨m.length-(t+1),by omega,by omega,(k1.new _).set (.inr yJ),t+1,by omega,rfl,by simp,s1.ad kB⟩
   have e':¬(t:Int)=(d:Int):=by omega
   simp[-V.cells, -V.one,A.pN,hr,a4,a6,a7,ZL,Ot,bV,g1,g3,hR,q1,q2,q3,q4,LI,dj,LH,Ou,bM,jT,z1,z2,s0,e4,lt1,e'];have sB:=s1.ad kB;have gR:=(kB.get R hR).trans g1;have qB:=q5.ad kB;have rB:=g4.ad kB;have pB:=Ts.ad kB;have kU:ec (fun i=>i=R) H n ((H1.set n1 (.cells [.int .i64 0,.aa,.int .i64 0,.aa] 101 true)).set n1 (.cells cs 101 true)) (n1+1):=(k1.new _).set (.inr k1.le);generalize (H1.set n1 (.cells [.int .i64 0,.aa,.int .i64 0,.aa] 101 true)).set n1 (.cells cs 101 true)=G at*;refine au (ZM qB.fc) ?_;rintro _ H2 n2 k2 rfl;have lf:=k2.le;have Ow:¬n1<N0:=by have:=s.lt;have:=k1.le;omega
   have zW:=(k2.get R (by omega)).trans gR;have LJ:=(k2.get n1 (by omega)).trans gN;have Ox:R<n2:=by omega
   have lN2:n1<n2:=by omega
   have ZN:=@Ec q;have hz:(dB q.num=0)↔q=0:=Yvw;by_cases c0:q=0
   ·have Ed:=hz.2 c0;simp(disch:=first|(simp;done)|omega|rfl) [hf,Ot,Ed,Ow,hW];refine⟨m.length-(t+1),by omega,kU.trans k2.upd,t+1,by omega,rfl,by simp,?_⟩;rw[Yaz aD e,aA,u9];simp only[iL];rw[Ye7 (by rw[hq];exact c0),Ykm w1];exact sB.ad k2
   have Ed:¬dB q.num=0:=fun hc=>c0 (hz.1 hc);simp[hr,a4,a6,Ed,zW,g3,g3',bV,Tr];have IM:∀q∈row,Qb K q:=by have:=hK t e;rw[aA]at this;exact this
   have Bt:∀q∈Br,Qb (2*K) q:=by have:=hPq;rw[u9]at this;exact this
   have j_:=IM q (cP hq);refine au (ZO (fun x y=>x-q*y) (rB.1.ad k2) (pB.1.ad k2) (by omega) (fun x hx y hy h' n' ca cb k' ha hb=>Yxg (i:=K) (j:=2*K) (k:=K) ((k'.get n1 lN2).trans LJ) (fH lN2 k'.le) ha hb ((qB.ad k2).ad k') (IM x hx) (Bt y hy) j_ (by omega) (by omega) (by omega) (by omega) (by omega)) (by omega)) ?_;rintro v3 H3 n3 k3 t3;have yG:=k3.le;have s3:=(sB.ad k2).ad k3;have Ts:=(k3.get R Ox).trans zW;have CR:t<us.length:=by rw[g2,CQ];exact aD
   have Bu:t+1<=us.length:=CR;have lH:(t:Int)<(us.length:Int):=by omega
   have iw:∀u,ae us t [u]=us.set t u:=fun u=>To CR;have lR3:R<n3:=by omega
   obtain⟨_,hon,ZP⟩:=t3.Gb;simp(disch:=first|(simp;done)|omega|rfl) [-V.cells, -V.one,bM,ZP,hon,iw,Bu,Ts,hf,Ot];have er:wW (fun x y=>x-q*y) row Br row.length=wc row Br k:=by unfold wc;rw[hq];rfl
   rw[er]at t3;have sp:=s3.Eb Ts t3 (i:=t) (by rw[CQ];exact aD);refine⟨m.length-(t+1),by omega,by rw[ak (by omega),ak Ow];exact hW,((kU.trans k2.upd).trans k3.upd).set (.inl rfl),t+1,by omega,rfl,by simp,?_⟩;rw[Yaz aD e,aA,u9];exact sp
  obtain rfl:t=m.length:=by omega
  simp[A.pN,hr,hf,ZL,Ot,k1,hW];exact s1
 rintro _ r st hr ⟨rfl,hw,k1,s1⟩;simp[];exact⟨hw,k1,s1,hr,rfl,rfl⟩
end
end Go.Mx
