/-lensletref05-/
import Derived.Test.YtgccnjdneojagaaGreatDoorVbF
set_option linter.all false
namespace Go.Mx
noncomputable section
open Go Go.Proofs
set_option maxRecDepth 1000000
def A.w23:=A.q Tryz.f23
def A.wQ:=A.ql A.w23 0 []
def A.b23:=(fun x0=>A.qb A.w23 [x0]) A.wQ
def A.k23:=@A.kk 23 26 [.tmp 4] A.b23 (by kernel_rfl) rfl
def Yew{F:Rat->Rat->Rat}{a b:List Rat}{t:Nat}{p q:Rat}(hp:a[t]?=some p)(hq:b[t]?=some q):mF F a b (t+1)=mF F a b t++[F p q]:=by simp[mF,List.range_succ,hp,hq]
def Yo0{h:T O}{N:Nat}{u v:V}{a b:List Rat}{j k:Nat}(hu:Tx h N u a)(hv:Tx h N v b)(f_:a.length<=b.length)(ha:∀q∈a,Qb j q)(hb:∀q∈b,Qb k q)(hj:j<=400000000)(hk:k<=400000000)(hl:a.length<100000):Fn A.C 23 [u,v] h N (fun x h' n'=>Own 1 40 N h' n' x ((tx (mF (fun x y=>x+y) a b a.length)).map fun y=>[y])):=by
 intro w;have l1:=hu.len;have l2:=hv.len;rw[aQ,A.k23 (by simp)];simp[A.b23];refine b_ [(5,24)] (fun e r st=>e=.exit 0/\ay N st.w=[]/\ab h N st.h st.n/\∃x,r.get 5=some x/\Own 1 40 N st.h st.n x ((tx (mF (fun x y=>x+y) a b a.length)).map fun y=>[y])) (fun i r st=>ay N st.w=[]/\ab h N st.h st.n/\∃t x,t+i=a.length/\r.get 6=some (.int .i64 t)/\r.get 5=some x/\Own 1 40 N st.h st.n x ((tx (mF (fun x y=>x+y) a b t)).map fun y=>[y])) (a.length) ?_ ?_ ?_
 ·exact⟨by simp,ab.refl,0,.aa,by omega,by simp,by simp,by simpa[tx,strs,mF]using Own.nil⟩
 ·rintro i r ⟨H,n1,W⟩ hr hf ⟨hW,hK,t,x,ht,h6,h5,ho⟩;simp only at hW hK ho;rw[bu];cases i with
  |zero=>
   obtain rfl:t=a.length:=by omega
   simp[A.wQ,hr,hf,h6,h5,l1,hW,hK];exact ho
  |succ i=>
   have aE:t<a.length:=by omega
   have bG:(t:Int)<((a.length:Nat):Int):=by omega
   obtain⟨p,hp⟩:=bj aE;have zE:=ha p (cy hp);have YF:t<b.length:=by omega
   have Nb:(t:Int)<(b.length:Int):=by omega
   obtain⟨q,hq⟩:=bj YF;have mG:=hb q (cy hq);obtain⟨i',o,cc,e,rw,q1,q2,q3,q4⟩:=(hu.ad hK).at (FQ hp);obtain⟨i2,o2,YG,e2,Nc,p1,p2,p3,p4⟩:=(hv.ad hK).at (FQ hq);simp[A.wQ,hr,h6,h5,l1,bG,l2,Nb,q1,q2,q3,q4,p1,p2,p3,p4];refine ar (SM zE mG hj hk) ?_;rintro _ H2 n2 k2 rfl;have kR:=k2.le;have ij:=hK.le;obtain⟨v',h',w',f1,f2,f3,_,f5⟩:=Ao (x:=[.str (aO (p+q))]) (u:=.slice n2 0 1 (some 1) 1) (bytes:=16) (w:=[]) ((ho.ad k2).ad (ab.refl.new (.cells [.str (aO (p+q))] 40 true))) (by omega) (by decide) rfl (by simp[fQ,St.row,aP]) (by simp[FR,zG];omega);have e7:((tx (mF (fun x y=>x+y) a b t)).map fun y=>[y])++[[.str (aO (p+q))]]=(tx (mF (fun x y=>x+y) a b (t+1))).map fun y=>[y]:=by rw[Yew hp hq];simp[tx,strs]
   rw[e7]at f5;have ow:ay N w'=[]:=Ymi f2 (by omega) rfl;simp(disch:=first|(simp;done)|omega|rfl) [-ay,hf,h6,ae,f1];exact⟨i,by omega,Ysx ow hW,((hK.trans k2).trans (ab.refl.new (.cells [.str (aO (p+q))] 40 true))).then f3,t+1,by omega,by simp,f5⟩
 rintro _ r ⟨H,n1,W⟩ hr ⟨rfl,hW,hK,x,h5,ho⟩;simp only at hW hK ho;simp[h5,az,hW,hK];exact ho
def A.b26:=A.q Tryz.f26
def A.k26:=@A.kk 26 5 [.tmp 2] A.b26 (by kernel_rfl) rfl
def Ylz{h:T O}{N:Nat}{v:V}{l:List (List aG)}(hs:eN h N v l)(hl:l.length<100000)(hx:∀x∈l,x.length<100000/\∀s∈x,s.length<=100000):Fn A.C 26 [v] h N (fun u _ _=>u=.int .i64 (fI l 64 16)):=by intro w;rw[aQ,A.k26 (by simp)];simp[A.b26];refine ar (Yvc (a:=64) (b:=16) hs hl hx) ?_;rintro _ H2 n2 k2 rfl;simp[az];exact k2
def A.b220:=A.q Tryz.f220
def A.k220:=@A.kk 220 8 [.cell 2 (some 4)] A.b220 (by kernel_rfl) rfl
def A.b163:=A.q Tryz.f163
def A.k163:=@A.kk 163 9 [.cell 4 (some 4)] A.b163 (by kernel_rfl) rfl
def A.b160:=A.q Tryz.f160
def A.k160:=@A.kk 160 10 [.tmp 3] A.b160 (by kernel_rfl) rfl
def A.b162:=A.q Tryz.f162
def A.k162:=@A.kk 162 7 [.cell 3 (some 4)] A.b162 (by kernel_rfl) rfl
def A.b164:=A.q Tryz.f164
def A.k164:=@A.kk 164 11 [.cell 5 (some 4)] A.b164 (by kernel_rfl) rfl
def Yuj{x:V}{q:Rat}{h:T O}{N:Nat}(hx:Fc h N x q)(h0:q≠0)(l1:wl q.num<1000000000)(l2:wl (q.den:Nat)<1000000000):Fn A.C 220 [x] h N (fun v h' n'=>Fc h' n' v q⁻¹):=by
 intro w;rw[aQ,A.k220 (by simp)];obtain⟨n1,u1,n2,u2,rfl,s1,s2⟩:=hx;have o1:=eD s1;have o2:=eD s2;unfold V.one at o1 o2;have kB:ab h N ((h.set N (.cells [.int .i64 n1,u1,.int .i64 n2,u2] 96 true)).set (N+1) (.cells [.int .i64 0,.aa,.int .i64 0,.aa] 96 true)) (N+2):=aR (aR ab.refl _) _;simp[A.b220,aS,aP,o1,o2];generalize kV:(h.set N (.cells [.int .i64 n1,u1,.int .i64 n2,u2] 96 true)).set (N+1) (.cells [.int .i64 0,.aa,.int .i64 0,.aa] 96 true)=hB at*;have b3:hB.get (N+1)=some (.cells [.int .i64 0,.aa,.int .i64 0,.aa] 96 true):=by rw[<-kV];simp
 have hn:q.num≠0:=fun hc=>h0 (DX.1 hc);refine ar (YH (s2.ad kB) (s1.ad kB) hn (by omega) (by omega)) ?_;rintro v7 h3 m3 k3 hv;rw[<-Zsc]at hv;obtain⟨n5,u5,n6,u6,rfl,t1,t2⟩:=hv;have o5:=eD t1;have o6:=eD t2;unfold V.one at o5 o6;have jT:=k3.le;have f5:=(k3.get (N+1) (by omega)).trans b3;have e3:N+1<m3:=by omega
 simp[f5,aS,aP,ae,bO,o5,o6,az];have kk:=kB.trans k3;exact⟨kk.set (by omega),n5,u5,n6,u6,rfl,t1.aI (i:=N+1) f5 pF rfl,t2.aI (i:=N+1) f5 pF rfl⟩
def Yum{x y:V}{p q:Rat}{h:T O}{N:Nat}(hx:Fc h N x p)(hy:Fc h N y q)(h0:q≠0)(l1:wl p.num<1000000000)(l2:wl (p.den:Nat)<1000000000)(l3:wl q.num<1000000000)(l4:wl (q.den:Nat)<1000000000)(l5:wl q⁻¹.num<1000000000)(l6:wl (q⁻¹.den:Nat)<1000000000):Fn A.C 163 [x,y] h N (fun v h' n'=>Fc h' n' v (p/q)):=by
 intro w;rw[aQ,A.k163 (by simp)];have jK:=hx;have yD:=hy;obtain⟨n1,u1,n2,u2,rfl,s1,s2⟩:=hx;obtain⟨n3,u3,n4,u4,rfl,s3,s4⟩:=hy;have o1:=eD s1;have o2:=eD s2;have o3:=eD s3;have o4:=eD s4;unfold V.one at o1 o2 o3 o4;have kB:ab h N (((h.set N (.cells [.int .i64 n1,u1,.int .i64 n2,u2] 96 true)).set (N+1) (.cells [.int .i64 n3,u3,.int .i64 n4,u4] 96 true)).set (N+2) (.cells [.int .i64 0,.aa,.int .i64 0,.aa] 96 true)) (N+3):=aR (aR (aR ab.refl _) _) _;simp[A.b163,aS,aP,o1,o2,o3,o4];generalize kV:((h.set N (.cells [.int .i64 n1,u1,.int .i64 n2,u2] 96 true)).set (N+1) (.cells [.int .i64 n3,u3,.int .i64 n4,u4] 96 true)).set (N+2) (.cells [.int .i64 0,.aa,.int .i64 0,.aa] 96 true)=hB at*;have b1:hB.get N=some (.cells [.int .i64 n1,u1,.int .i64 n2,u2] 96 true):=by rw[<-kV];simp
 have b2:hB.get (N+1)=some (.cells [.int .i64 n3,u3,.int .i64 n4,u4] 96 true):=by rw[<-kV];simp
 have b3:hB.get (N+2)=some (.cells [.int .i64 0,.aa,.int .i64 0,.aa] 96 true):=by rw[<-kV];simp
 refine ar (Yuj (yD.ad kB) h0 l3 l4) ?_;rintro v5 h1 m1 k1 q1;have fM:=k1.le;have f1:=(k1.get N (by omega)).trans b1;have f2:=(k1.get (N+1) (by omega)).trans b2;have f3:=(k1.get (N+2) (by omega)).trans b3;have e1:N<m1:=by omega
 have e2:N+1<m1:=by omega
 simp;refine ar (SN ((jK.ad kB).ad k1) q1 l1 l2 l5 l6) ?_;rintro v7 h3 m3 k3 hv;rw[<-Rat.div_def]at hv;obtain⟨n5,u5,n6,u6,rfl,t1,t2⟩:=hv;have o5:=eD t1;have o6:=eD t2;unfold V.one at o5 o6;have jT:=k3.le;have f5:=(k3.get (N+2) (by omega)).trans f3;have e3:N+2<m3:=by omega
 simp[f5,e3,aS,aP,ae,bO,o5,o6,dv.dw,az];have kk:=(kB.trans k1).trans k3;exact⟨kk.set (by omega),n5,u5,n6,u6,rfl,t1.aI (i:=N+2) f5 pF rfl,t2.aI (i:=N+2) f5 pF rfl⟩
variable {N k:Nat} {h:T O} {rw:Bool}
def Xbd{q:Rat}(h:Qb k q)(h0:q≠0):Qb k q⁻¹:=by
 have e:=Zsc q;have h1:q.num≠0:=fun hc=>h0 (DX.1 hc);refine⟨?_,?_⟩
 ·rw[Rat.num_inv,wS,ed];have:q.num.sign.natAbs=1:=by
   rcases Int.lt_trichotomy q.num 0 with h2|h2|h2
   ·rw[Int.sign_eq_neg_one_of_neg h2];rfl
   ·exact absurd h2 h1
   rw[Int.sign_eq_one_of_pos h2];rfl
  rw[this,Nat.one_mul];exact h.2
 rw[Rat.den_inv,ak h1];exact h.1
def Yye{p:Nat}{u:V}{l:List Rat}{e:TypeId}(hp:h.get p=some (.cells [.int .i64 k] e rw))(iD:p<N)(hu:jm h N u l)(hk:k<l.length):gF A.C (.func 160 [] [.ptr p 0]) [u] h N (fun x _ _=>x=.bool (decide (l[k]?.getD 0≠0))):=by
 intro w;have l1:=hu.len;have iE:(k:Int)<(l.length:Int):=by omega
 obtain⟨q,hq⟩:=bj hk;obtain⟨i,o,cc,e,rw,c,q1,q2,q3,q4,q5⟩:=hu.at hq;rw[hq];rw[aQ,A.k160 (by simp)];simp[A.b160,hp,l1,iE,q1,q3,q4];refine ar (YI q5.fc) ?_;rintro _ H2 n2 k2 rfl;have hz:(dN q.num≠0)=(q≠0):=by
  have h1:=@DX q;apply propext;unfold dN;constructor
  ·intro hh hc;have:=h1.2 hc;rw[this]at hh;simp at hh
  intro hh hc;apply hh;apply h1.1;split at hc
  ·omega
  split at hc<;>omega
 simp[az];refine⟨k2,?_⟩;by_cases c0:q=0
 ·simp[c0,dN]
 have:dN q.num≠0:=by rw[hz];exact c0
 simp[c0,this]
def Yyd{p:Nat}{c d:List V}{x q:Rat}{e:TypeId}{j:Nat}(hp:h.get p=some (.cells d e rw))(iD:p<N)(hc:fS h N c x)(hd:fS h N d q)(h0:q≠0)(hx:Qb j x)(hq:Qb k q)(hj:j<=500000000)(hk:k<=500000000):gF A.C (.func 162 [] [.ptr p 0]) [.agg c] h N (fun z h' n'=>Fc h' n' z (x/q)):=by
 intro w;obtain⟨c1,c2⟩:=hc.len;obtain⟨d1,d2⟩:=hd.len;have w1:=hx.CK;have w2:=hq.CK;have w3:=(Xbd hq h0).CK;have kJ:∀c:List V,(V.agg c).cells=c:=fun _=>rfl;have s0:aP c 0 4=some c:=by unfold aP;rw[c1];simp;exact fU (by omega)
 have s1:aP d 0 4=some d:=by unfold aP;rw[d1];simp;exact fU (by omega)
 have kB:ab h N ((h.set N (.cells c 96 true)).set (N+1) (.cells zF 96 true)) (N+1+1):=(ab.refl.new _).new _;unfold zF at kB;have n1:¬p=N:=by omega
 have n2:¬p=N+1:=by omega
 have n3:¬N=N+1:=by omega
 rw[aQ,A.k162 (by simp)];simp[-V.cells, -V.one,A.b162,hp,n1,n2,kJ,c2,s0,s1];generalize hG:(h.set N (.cells c 96 true)).set (N+1) (.cells [.int .i64 0,.aa,.int .i64 0,.aa] 96 true)=G at*;have g1:G.get (N+1)=some (.cells [.int .i64 0,.aa,.int .i64 0,.aa] 96 true):=by rw[<-hG];simp
 clear hG;refine ar (Yum (hc.ad kB).fc (hd.ad kB).fc h0 (by omega) (by omega) (by omega) (by omega) (by omega) (by omega)) ?_;rintro _ H2 m2 k2 hz;obtain⟨z,rfl,DY⟩:=hz.c;obtain⟨z1,z2⟩:=DY.len;have kR:=k2.le;have g2:=(k2.get (N+1) (by omega)).trans g1;have e4:ae [V.int .i64 0,.aa,.int .i64 0,.aa] 0 z=z:=by unfold ae;rw[z1];simp
 have s2:aP z 0 4=some z:=by unfold aP;rw[z1];simp;exact fU (by omega)
 have lt:N+1<m2:=by omega
 simp[-V.cells, -V.one,bO,kJ,z1,z2,e4,s2,g2,az];exact⟨(kB.trans k2).set (by omega),(DY.aI (e1:=96) (w1:=true) (c1:=z) g2 pF (by rw[z1];rfl)).fc⟩
def Yyc{p:Nat}{a b d:List V}{x y f:Rat}{e:TypeId}{i j:Nat}(hp:h.get p=some (.cells d e rw))(iD:p<N)(ha:fS h N a x)(hb:fS h N b y)(hd:fS h N d f)(hx:Qb i x)(hy:Qb j y)(hf:Qb k f)(hi:i<=450000000)(hj:j<=450000000)(hk:k<=450000000)(uG:1<=j)(cK:1<=k):gF A.C (.func 164 [] [.ptr p 0]) [.agg a,.agg b] h N (fun z h' n'=>Fc h' n' z (x-f*y)):=by
 intro w;obtain⟨a1,a2⟩:=ha.len;obtain⟨b1,b2⟩:=hb.len;obtain⟨d1,d2⟩:=hd.len;have w1:=hx.CK;have w2:=hy.CK;have w3:=hf.CK;have w4:=(hf.mul hy).CK;have kJ:∀c:List V,(V.agg c).cells=c:=fun _=>rfl;have s0:∀c:List V,c.length=4->aP c 0 4=some c:=fun c h=>by unfold aP;rw[h];simp;exact fU (by omega)
 have sa:=s0 a a1;have sb:=s0 b b1;have sd:=s0 d d1;have kB:ab h N (((h.set N (.cells a 96 true)).set (N+1) (.cells b 96 true)).set (N+1+1) (.cells zF 96 true)) (N+1+1+1):=((ab.refl.new _).new _).new _;unfold zF at kB;have n1:¬p=N:=by omega
 have n2:¬p=N+1:=by omega
 have n3:¬p=N+1+1:=by omega
 have n4:¬N=N+1:=by omega
 have n5:¬N=N+1+1:=by omega
 have lp:p<N+1+1+1:=by omega
 rw[aQ,A.k164 (by simp)];simp[-V.cells, -V.one,A.b164,hp,n1,n2,n3,kJ,a2,b2,sa,sb,sd,n5,lp];generalize hG:((h.set N (.cells a 96 true)).set (N+1) (.cells b 96 true)).set (N+1+1) (.cells [.int .i64 0,.aa,.int .i64 0,.aa] 96 true)=G at*;have g1:G.get (N+1+1)=some (.cells [.int .i64 0,.aa,.int .i64 0,.aa] 96 true):=by rw[<-hG];simp
 have g2:G.get N=some (.cells a 96 true):=by rw[<-hG];simp[n5]
 have g3:G.get (N+1)=some (.cells b 96 true):=by rw[<-hG];simp
 clear hG;refine ar (SN (hd.ad kB).fc (hb.ad kB).fc (by omega) (by omega) (by omega) (by omega)) ?_;rintro _ H2 m2 k2 hz;have kR:=k2.le;have lt:N+1+1<m2:=by omega
 simp[];refine ar (Yiv ((ha.ad kB).ad k2).fc hz (by omega) (by omega) (by omega) (by omega)) ?_;rintro _ H3 m3 k3 hv;obtain⟨z,rfl,DY⟩:=hv.c;obtain⟨z1,z2⟩:=DY.len;have uZ:=k3.le;have g4:=(k3.get (N+1+1) (by omega)).trans ((k2.get (N+1+1) (by omega)).trans g1);have e4:ae [V.int .i64 0,.aa,.int .i64 0,.aa] 0 z=z:=by unfold ae;rw[z1];simp
 have s2:=s0 z z1;have lt3:N+1+1<m3:=by omega
 simp[-V.cells, -V.one,bO,kJ,z1,z2,e4,s2,g4,lt,lt3,az,dv.dw];exact⟨((kB.trans k2).trans k3).set (by omega),(DY.aI (e1:=96) (w1:=true) (c1:=z) g4 pF (by rw[z1];rfl)).fc⟩
variable {N R:Nat} {f u v:V} {h:T O} {l:List Rat}
def A.Nd:=A.q Tryz.f159
def A.sW:=A.ql A.Nd 0 []
def A.b159:=(fun x0=>A.qb A.Nd [x0]) A.sW
def A.k159:=@A.kk 159 19 [.tmp 4] A.b159 (by kernel_rfl) rfl
def Yud(l:List V)(p:Nat->Bool)(hs:Sl h N v l)(hl:l.length<1152921504606846976)(hf:∀(j:Nat) (x:V),l[j]?=some x->∀h' n',ab h N h' n'->gF A.C f [x] h' n' (fun u _ _=>u=.bool (p j))):Fn A.C 159 [v,f] h N (fun u _ _=>u=.int .i64 (pG p 0 l.length)):=by
 intro w;have hlen:=hs.len;rw[aQ,A.k159 (by simp)];simp[A.b159,hlen];refine b_ [(4,5),(8,18)] (fun e r st=>ay N st.w=[]/\ab h N st.h st.n/\((e=.exit 0/\pG p 0 l.length= -1)\/(e=.ret/\r.get 4=some (.int .i64 (pG p 0 l.length))))) (fun m r st=>ay N st.w=[]/\ab h N st.h st.n/\∃k,k+m=l.length/\r.get 8=some (.int .i64 k)/\pG p 0 l.length=pG p k m) l.length ?_ ?_ ?_
 ·exact⟨by simp,ab.refl,0,by omega,by simp,rfl⟩
 ·rintro m r ⟨H,n1,W⟩ hr ef ⟨hW,hK,k,hk,h8,hz⟩;simp only at hW hK;rw[bu];cases m with
  |zero=>
   have:k=l.length:=by omega
   subst this;simp only[pG]at hz;simp[A.sW,hr,ef,h8,hW,hK,hz]
  |succ m=>
   have aE:k<l.length:=by omega
   obtain⟨c,hc⟩:=bj aE;obtain⟨i,o,cc,e,rw,q1,q2,q3,q4⟩:=hs.at hc;have q3:=(hK.get _ q2).trans q3;have cK:(k:Int)<(l.length:Int):=by omega
   simp only[pG]at hz;simp[A.sW,hr,h8,cK,hlen,q1,q3,q4];refine DZ (hf k c hc _ _ hK) ?_;rintro v h2 n2 k2 rfl;have kk:=hK.trans k2;cases hp:p k
   ·rw[hp]at hz;simp(disch:=first|(simp;done)|omega|rfl) [ef,h8,hW,kk];exact⟨m,by omega,k+1,by omega,by simp,by simpa using hz⟩
   rw[hp]at hz;simp[ef,hW,kk];simpa using hz.symm
 rintro e r ⟨H,n1,W⟩ hr ⟨hW,hK,⟨rfl,hz⟩|⟨rfl,h4⟩⟩
 ·simp only at hW hK;simp[hz,az,hW,hK]
 simp only at hW hK;simp[h4,az,hW,hK]
def A.Nf:=A.q Tryz.f161
def A.sX:=A.ql A.Nf 0 []
def A.b161:=(fun x0=>A.qb A.Nf [x0]) A.sX
def A.k161:=@A.kk 161 22 [.tmp 4] A.b161 (by kernel_rfl) rfl
def Ym2{l:List (List V)}{Q:Nat->T O->Nat->List V->Prop}(Y:V->Prop)(hQ:∀j h n h' n' c u,Q j h n c->dR (fun i=>i∈dm u) h n h' n'->n_ 96 Y h u->Q j h' n' c)(hs:Sn 4 h N v l)(hl:l.length<1000000000)(h1:∀(j:Nat) (x:List V),l[j]?=some x->x.length=4/\x.all V.one=true)(hf:∀(j:Nat) (x:List V),l[j]?=some x->∀h' n',ab h N h' n'->gF A.C f [(.agg x)] h' n' (fun u h2 n2=>∃c,u=(.agg c)/\c.length=4/\c.all V.one=true/\(∀q∈c,Y q)/\Q j h2 n2 c)):Fn A.C 161 [v,f] h N (fun u h' n'=>∃out,Own 4 96 N h' n' u out/\out.length=l.length/\∀(j:Nat),j<l.length->∃c,out[j]?=some c/\Q j h' n' c):=by
 intro w;have hlen:=hs.len;rw[aQ,A.k161 (by simp)];simp[A.b161,hlen];refine b_ [(5,5),(7,7),(10,20)] (fun e r st=>e=.exit 0/\ay N st.w=[]/\ab h N st.h st.n/\∃u out,r.get 5=some u/\Own 4 96 N st.h st.n u out/\out.length=l.length/\∀(j:Nat),j<l.length->∃c,out[j]?=some c/\Q j st.h st.n c) (fun m r st=>ay N st.w=[]/\ab h N st.h st.n/\∃k u out,k+m=l.length/\r.get 10=some (.int .i64 k)/\r.get 5=some u/\Own 4 96 N st.h st.n u out/\out.length=k/\(out=[]->u=.aa)/\(∀c∈out,∀y∈c,Y y)/\∀(j:Nat),j<k->∃c,out[j]?=some c/\Q j st.h st.n c) l.length ?_ ?_ ?_
 ·exact⟨by simp,ab.refl,0,.aa,[],by omega,by simp,by simp,Own.nil,rfl,fun _=>rfl,by simp,fun j hj=>by omega⟩
 ·rintro m r ⟨H,n1,W⟩ hr ef ⟨hW,hK,k,u,out,hk,jU,h5,ho,iM,wU,hY,dH⟩;simp only at hW hK ho dH;rw[bu];cases m with
  |zero=>
   have A2:k=l.length:=by omega
   subst A2;simp[A.sX,hr,ef,jU,hW,hK];exact⟨u,h5,out,ho,iM,dH⟩
  |succ m=>
   have aE:k<l.length:=by omega
   obtain⟨x,hx⟩:=bj aE;obtain⟨i,o,cc,e,rw,q1,q2,q3,q4⟩:=(hs.ad hK).at hx;have cK:(k:Int)<(l.length:Int):=by omega
   obtain⟨e1,e2⟩:=h1 k x hx;have d1:¬i=n1:=by omega
   have d4:n1<n1+1:=by omega
   have kA:=(hK.new (.cells [(.int .i64 0),.aa,(.int .i64 0),.aa] 96 true)).set (i:=n1) (o:=.cells x 96 true) hK.le;have e3:∀v:List V,(V.agg v).cells=v:=fun _=>rfl;have e4:ae [(.int .i64 0),.aa,(.int .i64 0),.aa] 0 x=x:=by unfold ae;rw[e1];simp
   have e5:aP x 0 4=some x:=by unfold aP;rw[av (by omega)];simp;exact fU (by omega)
   simp[-V.cells, -V.one,A.sX,hr,jU,h5,cK,hlen,q1,q3,q4,aS,bO,e3,e1,e2,e4,e5];refine DZ (hf k x hx _ _ kA) ?_;rintro _ h3 n3 k3 ⟨c,rfl,c1,c2,cY,c3⟩;have jT:=k3.le;have kn:=hK.le;have kB:=kA.trans k3;have b1:∀v:List V,(V.agg v).cells=v:=fun _=>rfl;have b2:ae [(.int .i64 0),.aa,(.int .i64 0),.aa] 0 c=c:=by unfold ae;rw[c1];simp
   simp[-V.cells, -V.one,b1,b2,c1,c2];have wm:Own 4 96 N (h3.set n3 (.cells c 96 true)) (n3+1) u out:=(ho.ad (((ab.refl.new _).set (aM n1)).trans k3)).ad (ab.refl.new _);obtain⟨v',h',w',f1,f2,f3,f4,fD,f5⟩:=FT (Y:=Y) (x:=c) (u:=.slice n3 0 1 (some 1) 4) (bytes:=64) (w:=n1::W) wm wU hY (by omega) (by decide) c1 (by simp only[fQ,St.row,T.ag,if_true];unfold aP;simp[c1];exact fU (by omega)) (by omega);rw[f1];have jV:¬n1<N:=by omega
   have f6:ay N w'=[]:=by rw[f2];simp[ay,hW,jV]
   have kz:=(kB.new (.cells c 96 true)).then f3;have k4:ab h3 n3 (h3.set n3 (.cells c 96 true)) (n3+1):=ab.refl.new _;have Ap:Q k (h3.set n3 (.cells c 96 true)) (n3+1) c:=hQ _ _ _ _ _ _ .aa c3 k4.upd n_.nil;simp(disch:=first|(simp;done)|omega|rfl) [ef,jU,f6];refine⟨m,by omega,kz,k+1,by omega,by simp,out++[c],f5,by simp[iM],by simp,fun c' hc z hz=>?_,fun j hj=>?_⟩
   ·rcases jn.1 hc with hc|hc
    ·exact hY c' hc z hz
    simp only[u9]at hc;subst hc;exact cY z hz
   by_cases rL:j<k
   ·obtain⟨c,g1,g2⟩:=dH j rL;exact⟨c,by rw[mH (by omega)];exact g1,hQ _ _ _ _ _ _ _ (hQ _ _ _ _ _ _ .aa g2 ((((ab.refl.new _).set (aM n1)).trans k3).trans k4).upd n_.nil) f4 fD⟩
   obtain rfl:j=k:=by omega
   exact⟨c,by rw[qI (by omega),iM];simp,hQ _ _ _ _ _ _ _ Ap f4 fD⟩
 rintro _ r ⟨H,n1,W⟩ hr ⟨rfl,hW,hK,u,out,h5,ho,iM,dH⟩;simp only at hW hK ho dH;simp[h5,az,hW,hK];exact⟨out,ho,iM,dH⟩
def Ytn(F:Rat->Rat)(hs:jm h N v l)(hl:l.length<1000000000)(hf:∀q∈l,∀c h' n',ab h N h' n'->fS h' n' c q->gF A.C f [.agg c] h' n' (fun x h2 n2=>Fc h2 n2 x (F q))):Fn A.C 161 [v,f] h N (fun u h' n'=>d_ h' n' u (l.map F)):=by
 obtain⟨cs,h1,h2,h3⟩:=hs;have key:=Ym2 (f:=f) (Q:=fun j h n c=>∀q,(l.map F)[j]?=some q->fS h n c q) NW (fun j h n h' n' c u hq k hd q zH=>(hq q zH).cf k hd) h1 (by omega) (fun j x hx=>?_) ?_
 ·intro w;refine(key w).mono fun u st=>?_;rintro⟨q1,q2,out,o1,o2,o3⟩;exact⟨q1,q2,YJ o1 (by simpa[h2]using o2) fun j hj=>o3 j (by simp at hj;omega)⟩
 ·obtain⟨q,hq⟩:=bj (l:=l) (k:=j) (by have:=gI hx;omega);obtain⟨c,g1,g2⟩:=h3 j q hq;rw[hx]at g1;obtain rfl:x=c:=by simpa using g1
  exact g2.len
 intro j x hx h' n' hk;obtain⟨q,hq⟩:=bj (l:=l) (k:=j) (by have:=gI hx;omega);obtain⟨c,g1,g2⟩:=h3 j q hq;rw[hx]at g1;obtain rfl:x=c:=by simpa using g1
 refine fun w=>(hf q (cy hq) x h' n' hk (g2.ad hk) w).mono fun y st=>?_;rintro⟨q1,q2,q3⟩;obtain⟨c,rfl,hc⟩:=q3.c;refine⟨q1,q2,c,rfl,hc.len.1,hc.len.2,hc.Ng,fun t ht=>?_⟩;simp[hq]at ht;rw[<-ht];exact hc
structure nM (h:T O) (N R:Nat) (m:List (List Rat)):Prop where
 lt:R<N
 ex:∃us:List V,h.get R=some (.cells us 82 true)/\us.length=m.length/\uH us/\us.all V.one=true/\∀(j:Nat) (l:List Rat),m[j]?=some l->∃u,us[j]?=some u/\d_ h N u l
def d_.bo{us vs:List V}{e:TypeId}{b c:Bool}(s:d_ h N u l)(g:h.get R=some (.cells us e b))(he:e≠96)(hn:uH us)(hl:vs.length=us.length):d_ (h.set R (.cells vs e c)) N u l:=by
 have aZ:∀i∈dm u,i≠R:=fun i hi hc=>by obtain⟨z,w,hz⟩:=s.2 i hi;rw[hc,g]at hz;simp at hz;exact he hz.2.1
 obtain⟨cs,h1,h2,h3⟩:=s.1;have k:dR (fun i=>i=R) h N (h.set R (.cells vs e c)) N:=⟨aM _,fun i _ hi=>by rw[T.ag,ak hi]⟩;refine⟨⟨cs,h1.cf k aZ,h2,fun j q hq=>?_⟩,fun i hi=>?_⟩
 ·obtain⟨x,g1,g2⟩:=h3 j q hq;exact⟨x,g1,g2.aI g hn hl⟩
 rw[T.ag,ak (aZ i hi)];exact s.2 i hi
def nM.ad{h':T O}{N':Nat}{m:List (List Rat)}(s:nM h N R m)(k:ab h N h' N'):nM h' N' R m:=by obtain⟨us,g1,g2,g3,g4,g5⟩:=s.ex;refine⟨fg s.lt k.le,us,(k.get R s.lt).trans g1,g2,g3,g4,fun j l hl=>?_⟩;obtain⟨u,a1,a2⟩:=g5 j l hl;exact⟨u,a1,a2.ad k⟩
def d_.D3(s:d_ h N u l):(∀n,u≠.int .u64 n)/\V.one u=true/\V.cells u=[u]:=by obtain⟨a,b,c⟩:=s.1.form;exact⟨c,a,b⟩
def nM.put{i:Nat}{m:List (List Rat)}(s:nM h N R m)(hu:d_ h N u l)(hi:i<m.length):∃us,h.get R=some (.cells us 82 true)/\us.length=m.length/\nM (h.set R (.cells (us.set i u) 82 true)) N R (m.set i l):=by
 obtain⟨us,g1,g2,g3,g4,g5⟩:=s.ex;refine⟨us,g1,g2,s.lt,us.set i u,by rw[T.ag,av rfl],by simp[g2],fun x hx=>?_,?_,fun j r hr=>?_⟩
 ·rcases FU hx with hx|rfl
  ·exact g3 x hx
  exact hu.D3.1
 ·rw[iK];intro x hx;rcases FU hx with hx|rfl
  ·exact iK.1 g4 x hx
  exact hu.D3.2.1
 by_cases e:j=i
 ·subst e;rw[jW hi]at hr;simp only[au]at hr;subst hr;exact⟨u,by rw[jW (by omega)],hu.bo g1 (by decide) g3 (by simp)⟩
 rw[eW (Ne.symm e)]at hr ⊢;obtain⟨u',a1,a2⟩:=g5 j r hr;exact⟨u',a1,a2.bo g1 (by decide) g3 (by simp)⟩
variable {d k:Nat} {m:List (List Rat)}
def sY(m:List (List Rat))(k:Nat):Nat->Nat->Nat
 |d,0=>d
 |d,n+1=>if (m[d]?.getD [])[k]?.getD 0≠0 then d else sY m k (d+1) n
def fh(m:List (List Rat))(d k:Nat):Nat:=sY m k d (m.length-d)
def FV{m:List (List Rat)}{k:Nat}:∀{n d:Nat},d<=sY m k d n/\sY m k d n<=d+n
 |0,d=>by simp[sY]
 |n+1,d=>by
  unfold sY
  split
  ·omega
  ·have:=@FV m k n (d+1)
   omega
def HU{m:List (List Rat)}{k:Nat}:∀{n d:Nat},sY m k d n<d+n->(m[sY m k d n]?.getD [])[k]?.getD 0≠0
 |0,d,h=>by simp[sY]at h
 |n+1,d,h=>by
  unfold sY at h ⊢
  split
  ·assumption
  ·rename_i hc
   rw[ak hc]at h
   exact HU (by omega)
def uI(r p:List Rat)(k:Nat):List Rat:=mF (fun x y=>x-r[k]?.getD 0*y) r p r.length
def de(m:List (List Rat))(d k t:Nat):List (List Rat):=(List.range m.length).map fun i=>if i<t/\i≠d then uI (m[i]?.getD []) (m[d]?.getD []) k else m[i]?.getD []
def cA(m:List (List Rat))(d p:Nat):List (List Rat):=(m.set d (m[p]?.getD [])).set p (m[d]?.getD [])
def gJ(m:List (List Rat))(d k:Nat):List (List Rat):=m.set d ((m[d]?.getD []).map fun x=>x/(m[d]?.getD [])[k]?.getD 0)
def iF(s:List (List Rat)×Nat×List Nat)(k:Nat):List (List Rat)×Nat×List Nat:=
 if fh s.1 s.2.1 k<s.1.length then (de (gJ (cA s.1 s.2.1 (fh s.1 s.2.1 k)) s.2.1 k) s.2.1 k s.1.length,s.2.1+1,s.2.2++[k]) else s
def aD(m:List (List Rat))(n:Nat):List (List Rat)×Nat×List Nat:=(List.range n).foldl iF (m,0,[])
def wV{n:Nat}:aD m (n+1)=iF (aD m n) n:=by simp[aD,List.range_succ]
def CL{t:Nat}:(de m d k t).length=m.length:=by simp[de]
def HV{t i:Nat}(h:i<m.length):(de m d k t)[i]?=some (if i<t/\i≠d then uI (m[i]?.getD []) (m[d]?.getD []) k else m[i]?.getD []):=by simp[de,h]
def Xav:de m d k 0=m:=by
 apply nN;intro i;by_cases h:i<m.length
 ·rw[HV h];simp[ct h]
 rw[fy (by rw[CL];omega),fy (by omega)]
def Xau{t:Nat}(h:d<m.length):(de m d k t)[d]?=m[d]?:=by rw[HV h,ct h];simp
def Ybg{t:Nat}(h:t<m.length)(hd:t≠d):de m d k (t+1)=(de m d k t).set t (uI (m[t]?.getD []) (m[d]?.getD []) k):=by
 apply nN;intro i;by_cases hi:i<m.length
 ·by_cases e:i=t
  ·subst e;rw[jW (by rw[CL];exact h),HV hi,av ⟨by omega,hd⟩]
  rw[eW (Ne.symm e),HV hi,HV hi];congr 1;by_cases e2:i<t
  ·simp[e2,show i<t+1 by omega]
  simp[e2,show ¬i<t+1 by omega]
 rw[fy (by rw[CL];omega),fy (by rw[A3,CL];omega)]
def Yn0:de m d k (d+1)=de m d k d:=by
 unfold de;apply Aq;intro i _;by_cases e:i=d
 ·subst e;simp
 by_cases e2:i<d
 ·simp[e,e2,show i<d+1 by omega]
 simp[e2,show ¬i<d+1 by omega]
def Yfj{r p:List Rat}(h:r[k]?.getD 0=0):uI r p k=r:=by
 apply nN;intro i;by_cases hi:i<r.length
 ·unfold uI;rw[Nh hi,h,Rat.zero_mul,Rat.sub_eq_add_neg,Rat.neg_zero,Rat.add_zero,ct hi];rfl
 rw[fy (by unfold uI;rw[zG];omega),fy (by omega)]
def Ni{r p:List Rat}:(uI r p k).length=r.length:=by unfold uI;rw[zG]
variable {K d i k n:Nat} {m:List (List Rat)} {r:List Rat}
def aU(m:List (List Rat))(n:Nat):Prop:=∀r∈m,r.length=n
def aU.at(h:aU m n)(hi:i<m.length):(m[i]?.getD []).length=n:=by rw[ct hi];exact h _ (List.getElem_mem hi)
def aU.set(h:aU m n)(hr:r.length=n):aU (m.set i r) n:=fun x hx=>by
 rcases FU hx with hx|rfl
 ·exact h x hx
 ·exact hr
def aU.D4{p:Nat}(h:aU m n)(hd:d<m.length)(hp:p<m.length):aU (cA m d p) n:=(h.set (h.at hp)).set (h.at hd)
def aU.K6(h:aU m n)(hd:d<m.length):aU (gJ m d k) n:=h.set (by rw[di];exact h.at hd)
def aU.elm{t:Nat}(h:aU m n):aU (de m d k t) n:=fun r hr=>by
 unfold de at hr
 obtain⟨i,hi,rfl⟩:=bK.1 hr
 have hi:=iL.1 hi
 split
 ·rw[Ni];exact h.at hi
 ·exact h.at hi
def qJ{p:Nat}:(cA m d p).length=m.length:=by simp[cA]
def CM:(gJ m d k).length=m.length:=by simp[gJ]
def Yrl{s:List (List Rat)×Nat×List Nat}:(iF s k).1.length=s.1.length:=by
 unfold iF;split
 ·simp only[CL,CM,qJ]
 rfl
def Ywl{s:List (List Rat)×Nat×List Nat}(h:aU s.1 n)(hd:s.2.1<=s.1.length):aU (iF s k).1 n/\(iF s k).2.1<=s.1.length/\s.2.1<=(iF s k).2.1:=by
 unfold iF;have hle:=@FV s.1 k (s.1.length-s.2.1) s.2.1;split
 ·rename_i hp;have ew:s.2.1<s.1.length:=by unfold fh at hp;omega
  exact⟨((h.D4 ew hp).K6 (by rw[qJ];exact ew)).elm,by simp only;omega,by simp⟩
 exact⟨h,hd,aM _⟩
def bH(m:List (List Rat))(K:Nat):Prop:=∀r∈m,∀q∈r,Qb K q
def bH.mono{L:Nat}(h:bH m K)(hk:K<=L):bH m L:=fun r hr q hq=>(h r hr q hq).mono hk
def bH.at{m:List (List Rat)}{K i:Nat}(h:bH m K):∀q∈m[i]?.getD [],Qb K q:=fun q hq=>by
 cases hr:m[i]? with
 |none=>rw[hr]at hq;simp at hq
 |some r=>rw[hr]at hq;exact h r (cy hr) q hq
def bH.set(h:bH m K)(hr:∀q∈r,Qb K q):bH (m.set i r) K:=fun x hx=>by
 rcases FU hx with hx|rfl
 ·exact h x hx
 ·exact hr
def bH.D4{p:Nat}(h:bH m K):bH (cA m d p) K:=(h.set h.at).set h.at
def Ypl(h:bH m K)(hK:1<=K)(hp:(m[d]?.getD [])[k]?.getD 0≠0):∀q∈(m[d]?.getD []).map (fun x=>x/(m[d]?.getD [])[k]?.getD 0),Qb (2*K) q:=fun q hq=>by
 obtain⟨x,hx,rfl⟩:=bK.1 hq
 have h1:=h.at (i:=d) x hx
 have h2:=Xbd (mS (fun q hq=>h.at (i:=d) q hq) hK k) hp
 rw[Rat.div_def,show 2*K=K+K by omega]
 exact h1.mul h2
def Yri{p:List Rat}(hr:∀q∈r,Qb K q)(hp:∀q∈p,Qb (2*K) q)(hK:1<=K):∀q∈uI r p k,Qb (4*K+1) q:=fun q hq=>by
 unfold uI mF at hq
 obtain⟨i,_,rfl⟩:=bK.1 hq
 have h1:=mS hr hK i
 have h2:=(mS hr hK k).mul (mS hp (by omega) i)
 have h3:Qb (K+2*K) (-(r[k]?.getD 0*p[i]?.getD 0)):=⟨by rw[Rat.neg_num,yE];exact h2.1,by rw[Rat.neg_den];exact h2.2⟩
 have h4:=h1.add h3
 rw[<-Rat.sub_eq_add_neg]at h4
 exact h4.mono (by omega)
def Ywm{s:List (List Rat)×Nat×List Nat}(h:bH s.1 K)(hK:1<=K):bH (iF s k).1 (4*K+1):=by
 unfold iF;split
 ·rename_i hp;have hle:=@FV s.1 k (s.1.length-s.2.1) s.2.1;have ew:s.2.1<s.1.length:=by unfold fh at hp;omega
  have aZ:=@HU s.1 k (s.1.length-s.2.1) s.2.1 (by unfold fh at hp;omega);have D5:=h.D4 (d:=s.2.1) (p:=fh s.1 s.2.1 k);have aA:(cA s.1 s.2.1 (fh s.1 s.2.1 k))[s.2.1]?.getD []=s.1[fh s.1 s.2.1 k]?.getD []:=by
   unfold cA;by_cases e:fh s.1 s.2.1 k=s.2.1
   ·rw[e,jW (by simp;omega)];rfl
   rw[eW e,jW ew];rfl
  have A4:((cA s.1 s.2.1 (fh s.1 s.2.1 k))[s.2.1]?.getD [])[k]?.getD 0≠0:=by rw[aA];exact aZ
  have FW:=Ypl D5 hK A4;intro r hr;unfold de at hr;obtain⟨i,hi,rfl⟩:=bK.1 hr;have hi:=iL.1 hi;rw[CM,qJ]at hi;have FX:(gJ (cA s.1 s.2.1 (fh s.1 s.2.1 k)) s.2.1 k)[s.2.1]?.getD []=((cA s.1 s.2.1 (fh s.1 s.2.1 k))[s.2.1]?.getD []).map (fun x=>x/((cA s.1 s.2.1 (fh s.1 s.2.1 k))[s.2.1]?.getD [])[k]?.getD 0):=by unfold gJ;rw[jW (by rw[qJ];exact ew)];rfl
  split
  ·rename_i hc;have Nj:(gJ (cA s.1 s.2.1 (fh s.1 s.2.1 k)) s.2.1 k)[i]?.getD []=(cA s.1 s.2.1 (fh s.1 s.2.1 k))[i]?.getD []:=by unfold gJ;rw[eW (Ne.symm hc.2)]
   rw[FX,Nj];exact Yri D5.at FW hK
  by_cases e:i=s.2.1
  ·rw[e,FX];exact fun q hq=>(FW q hq).mono (by omega)
  unfold gJ;rw[eW (Ne.symm e)];exact fun q hq=>(D5.at q hq).mono (by omega)
 exact h.mono (by omega)
def TxO(N0:Nat)(h:T O)(N:Nat)(u:V)(l:List Rat):Prop:=Tx h N u l/\∀i∈dm u,i<N0\/∃z w,h.get i=some (.cells z 40 w)
structure RwT (N0:Nat) (h:T O) (N R:Nat) (m:List (List Rat)):Prop where
 ge:N0<=R
 lt:R<N
 ex:∃us:List V,h.get R=some (.cells us 23 true)/\us.length=m.length/\∀(j:Nat) (l:List Rat),m[j]?=some l->∃u,us[j]?=some u/\TxO N0 h N u l
def SO{l:List V}{i:Nat}{u:V}(h:i<l.length):ae l i [u]=l.set i u:=by unfold ae;rw[List.set_eq_take_append_cons_drop,av h];simp
def wu(m:List (List Rat)):Bool:=m.any mT
def HW(e:Int)(m:List (List Rat))(v:V)(c:Int)(h:T O)(n:Nat):Prop:=(e≠0/\v=.aa/\c=e)\/(e=0/\((wu m=true/\v=.aa/\c=4)\/(wu m=false/\c=0/\oa h n v m)))
def TPN(e:Int)(q:Rat)(s:List UInt8)(c:Int):Prop:=(e≠0/\s=[]/\c=e)\/(e=0/\((wW q=true/\s=[]/\c=4)\/(wW q=false/\c=0/\s=aO q)))
def A.b5:=A.q Tryz.f5
def A.c5:A.F 5=some ⟨16,[.tmp 2],A.b5⟩:=by kernel_rfl
def A.k5:=@A.kk 5 _ _ _ A.c5 rfl
def Yrn{h:T O}{N:Nat}{a b c:V}{ws s x:List aG}(ha:Sl h N a (strs ws))(hb:Sl h N b (strs s))(hc:Sl h N c (strs x))(la:ws.length<9223372036854775808)(lb:s.length<9223372036854775808)(lc:x.length<9223372036854775808):Fn A.C 5 [.agg [a,b,c]] h N (fun u _ _=>u=.bool (dr 6 ws&&dr 6 s&&dr 6 x)):=by
 intro w;have o1:=ha.form.one;have o2:=hb.form.one;have o3:=hc.form.one;unfold V.one at o1 o2 o3;have kB:ab h N (h.set N (.cells [a,b,c] 25 true)) (N+1):=ab.refl.new _;have e1:∀w,A.C.call (.func 27 [] []) [a,.int .i64 6] ⟨h.set N (.cells [a,b,c] 25 true),N+1,w⟩=some (.bool (dr 6 ws),⟨h.set N (.cells [a,b,c] 25 true),N+1,w⟩):=fun w=>Nk (w:=w) (n:=6) (ha.ad kB) la (by decide);have e2:∀w,A.C.call (.func 27 [] []) [b,.int .i64 6] ⟨h.set N (.cells [a,b,c] 25 true),N+1,w⟩=some (.bool (dr 6 s),⟨h.set N (.cells [a,b,c] 25 true),N+1,w⟩):=fun w=>Nk (w:=w) (n:=6) (hb.ad kB) lb (by decide);have e3:∀w,A.C.call (.func 27 [] []) [c,.int .i64 6] ⟨h.set N (.cells [a,b,c] 25 true),N+1,w⟩=some (.bool (dr 6 x),⟨h.set N (.cells [a,b,c] 25 true),N+1,w⟩):=fun w=>Nk (w:=w) (n:=6) (hc.ad kB) lc (by decide);rw[aQ,A.k5 (by simp)];cases q1:dr 6 ws with
 |false=> rw[q1]at e1;simp[A.b5,o1,o2,o3,e1,az];exact kB
 |true=>
  rw[q1]at e1;cases q2:dr 6 s with
  |false=> rw[q2]at e2;simp[A.b5,o1,o2,o3,e1,e2,az];exact kB
  |true=> rw[q2]at e2;simp[A.b5,o1,o2,o3,e1,e2,e3,az];exact kB
structure Wt (e:Int) (l:List Rat) (v:V) (c:Int) (u:V) (h:T O) (n:Nat):Prop where
 p:iG h n
 tp:TP e l v c h n
 tx:e=0->Tx h n u l
 len:l.length<100000
 yF:e=0->∀q∈l,(aO q).length<1000000000
structure WtN (e:Int) (q:Rat) (s:aG) (c:Int) (t:aG):Prop where
 tp:TPN e q s c
 tx:e=0->t=aO q
 yF:e=0->(aO q).length<1000000000
structure WtM (e:Int) (m:List (List Rat)) (v:V) (c:Int) (u:V) (h:T O) (n:Nat):Prop where
 tp:HW e m v c h n
 tx:e=0->oa h n u m
 len:m.length<100000
 yF:e=0->∀r∈m,r.length<100000/\∀q∈r,(aO q).length<1000000000
def SP{N n:Nat}{w:List Nat}(h:ay n w=[])(hN:N<=n):ay N w=[]:=HX fun i hi=>by
 have:=CN h i hi
 omega
def Zup{q:Rat}{k:Nat}(h:Qb k q)(hk:k<=400000000):(aO q).length<1000000000:=by have h1:=K7 h.1;have h2:=HY h.2;unfold aO;split<;>simp<;>omega
def Sl.A5{h:T O}{N:Nat}{v:V}{l:List V}(s:Sl h N v l):v.cells=[v]:=by rcases s with⟨_,rfl|rfl⟩|⟨j,o,cp,c,e,rw,rfl,hj,_⟩<;>rfl
def Sl.Nl{h:T O}{N:Nat}{v:V}{l:List V}(s:Sl h N v l):v.one=true:=by rcases s with⟨_,rfl|rfl⟩|⟨j,o,cp,c,e,rw,rfl,hj,_⟩<;>rfl
def yG{m:List (List Rat)}:∀{n:Nat},(aD m n).1.length=m.length
 |0=>rfl
 |n+1=>by rw[wV,Yrl];exact yG
def pH{m:List (List Rat)}{c:Nat}(h:aU m c):∀{n:Nat},aU (aD m n).1 c/\(aD m n).2.1<=m.length
 |0=>⟨h,wx _⟩
 |n+1=>by
  obtain⟨a,b⟩:=@pH m c h n
  rw[wV]
  have:=Ywl (k:=n) a (by rw[yG];exact b)
  rw[yG]at this
  exact⟨this.1,this.2.1⟩
def kB(K:Nat):Nat->Nat
 |0=>K
 |n+1=>4*kB K n+1
def HZ{K:Nat}(h:1<=K):∀{n:Nat},1<=kB K n
 |0=>h
 |n+1=>by rw[kB];omega
def Yih{K:Nat}:∀{n m:Nat},n<=m->kB K n<=kB K m
 |n,0,h=>by
  obtain rfl:n=0:=by omega
  exact aM _
 |n,m+1,h=>by
  by_cases e:n=m+1
  ·rw[e];exact aM _
  ·have:=@Yih K n m (by omega)
   rw[kB];omega
def YK{K a:Nat}:∀{b:Nat},kB (kB K a) b=kB K (a+b)
 |0=>rfl
 |b+1=>by
  show 4*kB (kB K a) b+1=4*kB K (a+b)+1
  rw[YK]
def YL:∀{n:Nat},n<6->3*kB 96 n<=400000000:=by decide
def Yp5{n:Nat}(h:n<=6):kB 96 n<=400000000:=iZ (Yih h) (by decide)
def YM{m:List (List Rat)}:∀{n:Nat},(aD m n).2.1<=n
 |0=>aM _
 |n+1=>by
  have:=@YM m n
  rw[wV]
  unfold iF
  split
  ·show (aD m n).2.1+1<=n+1
   omega
  ·omega
def SQ{m:List (List Rat)}{K:Nat}(h:bH m K)(hK:1<=K):∀{n:Nat},bH (aD m n).1 (kB K (aD m n).2.1)
 |0=>h
 |n+1=>by
  have ih:=@SQ m K h hK n
  rw[wV]
  by_cases hp:fh (aD m n).1 (aD m n).2.1 n<(aD m n).1.length
  ·have hs:=Ywm (k:=n) ih (HZ hK)
   have e:(iF (aD m n) n).2.1=(aD m n).2.1+1:=by unfold iF;rw[av hp]
   rw[e,kB]
   exact hs
  ·have e:iF (aD m n) n=aD m n:=by unfold iF;rw[ak hp]
   rw[e]
   exact ih
variable {N n:Nat} {h:T O} {l:List Int} {m:List (List Rat)} {v:V}
def Nm{m:List (List Rat)}{k:Nat}(h:(aD m k).2.1=m.length):∀{n:Nat},aD m (k+n)=aD m k
 |0=>rfl
 |n+1=>by
  rw[Nat.add_succ,wV,Nm h]
  unfold iF
  rw[ak]
  unfold fh
  rw[yG,h,Nat.sub_self]
  simp[sY]
def Yi7{m:List (List Rat)}:∀{n:Nat},(aD m n).2.2.length=(aD m n).2.1
 |0=>rfl
 |n+1=>by
  have:=@Yi7 m n
  rw[wV]
  unfold iF
  split
  ·simp[this]
  ·exact this
def aK(m:List (List Rat))(n:Nat):List (List Rat):=(aD m n).1.take (aD m n).2.1
def nO(h:aU m n):(aK m n).length=(aD m n).2.1:=by unfold aK;rw[ik,yG];have:=(@pH m n h n).2;omega
def YN{s:aG}(h:aV s=0)(hn:s.length<=n)(h1:0<n):Qb (4*n) (jo s):=by
 obtain⟨e,_,_⟩:=H0 h;have hb:=YO (jo s);have l1:(bm (aO (jo s))).length<=n:=by
  rw[e];unfold bm;split
  ·simp;omega
  exact hn
 rw[hb]at l1;have g:∀m:Nat,(aq m).length<=n->m<2^(4*n):=fun m hm=>fg ((CO h1).1 hm) (Ypu n);split at l1
 ·rename_i h2;have h3:(aq 1).length=1:=by rw[Nn];rfl
  exact⟨g _ l1,by rw[h2];exact g 1 (by omega)⟩
 simp at l1;exact⟨g _ (by omega),g _ (by omega)⟩
def u_.qb{m:List (List aG)}(h:u_ m n):aU (bF m) n/\bH (bF m) 96:=⟨fun r hr=>(h.rat r hr).1,fun r hr q hq=>by
 obtain⟨s,hs,rfl⟩:=bK.1 hr
 obtain⟨t,ht,rfl⟩:=bK.1 hq
 have:=(h.row s hs).2 t ht
 exact YN this.1 this.2 (by decide)⟩
def D6{m:List (List aG)}:(bF m).length=m.length:=by simp[bF]
def D7(l:List Int):List (List V):=l.map fun z=>[V.int .i64 z]
def sZ(N0:Nat)(h:T O)(N:Nat)(v:V)(l:List Int):Prop:=Own 1 3 N0 h N v (D7 l)/\(l=[]->v=.aa)
def sZ.nil{N0:Nat}:sZ N0 h N .aa []:=⟨Own.nil,fun _=>rfl⟩
def sZ.ad{N0:Nat}{h':T O}{N':Nat}(s:sZ N0 h N v l)(k:ab h N h' N'):sZ N0 h' N' v l:=⟨s.1.ad k,s.2⟩
def sZ.wX{N0:Nat}{h':T O}{N' R:Nat}{o:O}(s:sZ N0 h N v l)(g:h.get R=some o)(he:∀z,o≠.cells z 3 true)(k:dR (fun i=>i=R) h N h' N'):sZ N0 h' N' v l:=by
 obtain⟨⟨hl,s|⟨i,h1,h2,h3,h4⟩⟩,hn⟩:=s
 ·exact⟨⟨hl,.inl s⟩,hn⟩
 refine⟨⟨hl,.inr ⟨i,h1,h2,fg h3 k.le,(k.get i h3 fun hc=>?_).trans h4⟩⟩,hn⟩;rw[hc,g]at h4;simp only[au]at h4;exact he _ h4
def sZ.push{B N0:Nat}{x:V}{k:Int}{w:List Nat}(s:sZ N0 h N v l)(hB:B<=N0)(hN:N0<=N)(hw:ay B w=[])(hx:fQ ⟨h,N,w⟩ 1 x=some (1,[.int .i64 k]))(hl:l.length<1000):∃v' h' w',oc ⟨h,N,w⟩ 1 8 3 v x=some (v',⟨h',N+1,w'⟩)/\ay B w'=[]/\dR (fun i=>i∈dm v) h N h' (N+1)/\n_ 3 NW h v/\(∀i∈dm v,N0<=i)/\sZ N0 h' (N+1) v' (l++[k]):=by
 obtain⟨s,hn⟩:=s;have sB:Own 1 3 B h N v (D7 l):=⟨s.1,s.2.imp id fun ⟨i,a,b,c⟩=>⟨i,a,by omega,c⟩⟩;have hY:∀c∈D7 l,∀y∈c,NW y:=fun c hc y hy=>by obtain⟨p,_,rfl⟩:=bK.1 hc;simp at hy;subst hy;exact fun m=>by simp
 have h0:D7 l=[]->v=.aa:=fun h0=>hn (List.map_eq_nil_iff.1 h0);have hb:2*((D7 l).length+1)*8<=281474976710656:=by simp only[D7,di];omega
 obtain⟨v1,h1,w1,a1,a2,_,_,_,_⟩:=FT (Y:=NW) (bytes:=8) (w:=w) sB h0 hY (by omega) (by decide) rfl hx hb;obtain⟨v2,h2,w2,b1,_,_,b4,b5,b6⟩:=FT (Y:=NW) (bytes:=8) (w:=w) s h0 hY hN (by decide) rfl hx hb;rw[a1]at b1;simp only[au,bD,St.mk.injEq,true_and]at b1;obtain⟨rfl,rfl,rfl⟩:=b1;refine⟨v1,h1,w1,a1,a2.trans hw,b4,b5,fun i hi=>?_,by simpa[D7]using b6,fun hc=>by simp at hc⟩;obtain⟨_,⟨_,rfl⟩|⟨j,rfl,c1,_⟩⟩:=s
 ·simp[dm]at hi
 simp[dm]at hi;omega
def sZ.sl{N0:Nat}(s:sZ N0 h N v l):Sl h N v (dI l):=by
 have:=s.1.sn;have e:D7 l=(dI l).map fun y=>[y]:=by unfold D7 dI;rw[List.map_map];rfl
 rw[e]at this;exact Sn.one.1 this
end
end Go.Mx
