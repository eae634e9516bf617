/-Residual, Cost-/
import Derived.Test.YtgccnjdneojagaaGreatDoorSvF
set_option linter.all false
set_option maxHeartbeats 4000000
namespace Go.Mx
open Go Go.Proofs
variable {N n:Nat} {h:T O} {m:List (List aG)} {s x:List aG} {u v y:V}
set_option maxRecDepth 1000000
structure AB (l:List aG):Prop where
 yF:l=(a_ l).map aO
 q:∀q∈a_ l,Qb 1800 q
 len:l.length<1000
def AB.lim{l:List aG}(h:AB l):l.length<100000/\∀s∈l,s.length<=100000:=by refine⟨by have:=h.len;omega,fun s hs=>?_⟩;rw[h.yF]at hs;obtain⟨q,hq,rfl⟩:=bK.1 hs;have:=(C4 (h.q q hq) (aM _)).2;omega
def AB.sl{l:List aG}(b:AB l)(hs:Sl h N v (strs l)):Tx h N v (a_ l):=by unfold Tx tx;rw[<-b.yF];exact hs
def AB.mk2{x:List Rat}(hx:∀q∈x,Qb 1800 q)(hl:x.length<1000):AB (x.map aO):=⟨by rw[Tq],by rw[Tq];exact hx,by rw[di];exact hl⟩
def Ysb(h:NZ m s x=0)(sm:jO 6 6 m=true)(ss:dr 6 s=true):u_ m (aW m)/\(s.length=m.length/\jB s)/\x.length=aW m:=
 ⟨Lr (uN h (fI m 64 16) (by simp)) sm,Tn (uN h (dj s m.length) (by simp)) ss,Lt (uN h (dj x (aW m)) (by simp))⟩
def Yu6{w:List aG}(h:N6 m w s x=0)(sm:jO 6 6 m=true)(sw:dr 6 w=true)(ss:dr 6 s=true):u_ m (aW m)/\(w.length=m.length/\jB w)/\(s.length=m.length/\jB s)/\x.length=aW m:=by obtain⟨h1,h2,h3⟩:=Tr (uN h (C9 m w) (by simp)) sm sw;exact⟨h1,⟨h2,h3⟩,Tn (uN h (dj s m.length) (by simp)) ss,Lt (uN h (dj x (aW m)) (by simp))⟩
def Ys5(h:u_ m n){l:List aG}(hL:AB l):∀q∈(bF m).map (fun r=>dh r (a_ l)),Qb 11407 q:=fun q hq=>by
 obtain⟨r,hr,rfl⟩:=bK.1 hq
 obtain⟨a1,a2⟩:=h.rat r hr
 exact CY (n:=6) (j:=100) (k:=1800) a2 hL.q (by decide) (by decide) (by have:=h.n6;omega)
def ZN(hM:u_ m n)(hs:jB s)(hx:AB x)(hn:x.length=n):∀q∈xp m s x,Qb 11508 q:=Yrj hs.qb (Ys5 hM hx) (by decide) (by decide)
def Yoj{w:List aG}(hM:u_ m (aW m))(hw:jB w)(hs:jB s)(hx:AB x)(hn:x.length=aW m)(hl:s.length<=6):Qb 138703 (IC m w s x):=by have h1:=ZN hM hs hx hn;have h2:=CY (n:=6) (ZO (n:=(xp m s x).length) h1 hw.qb (by decide) (by decide)) h1 (by decide) (by decide) (by rw[ZP,Zz4];exact hl);exact h2.mono (by decide)
def Znu{m:List (List Rat)}{a b:List Rat}(hu:fN h N u m)(hv:jm h N v a)(hy:jm h N y b)(hm:∀r∈m,r.length=n/\∀q∈r,Qb 100 q)(hn:n=b.length)(n6:n<=6)(ha:∀q∈a,Qb 100 q)(hb:∀q∈b,Qb 1800 q)(iH:m.length<1000)(hal:a.length=m.length):Fn A.C 64 [u,v,y] h N (fun x h' n'=>d_ h' n' x (mM a (m.map fun r=>dh r b))):=by
 intro w;rw[aQ,A.k64 (by simp)];simp[A.b64];refine ar (NG (n:=n) (j:=100) (k:=1800) hu hy hm (by omega) hb (by decide) (by decide) (by omega) (by omega)) ?_;rintro x H2 n2 k2 hx;simp[];refine ar (Ya6 (j:=100) (k:=11407) (hv.ad k2) hx.1 (by simp;omega) ha (fun q hq=>?_) (by decide) (by decide) (by omega)) ?_
 ·obtain⟨r,hr,rfl⟩:=bK.1 hq;obtain⟨a1,a2⟩:=hm r hr;have hd:=CY (n:=6) (j:=100) (k:=1800) a2 hb (by decide) (by decide) (by omega);exact hd.mono (by decide)
 rintro z H3 n3 k3 hz;simp[az];exact⟨k2.trans k3,hz⟩
def Yge(hm:eN h N u m)(hv:Sl h N v (strs s))(hy:Sl h N y (strs x))(hP:iG h N)(sm:jO 6 6 m=true)(ss:dr 6 s=true)(sx:AB x):Fn A.C 14 [u,v,y] h N (fun z h' n'=>Oa (NZ m s x) (xp m s x) z h' n'):=by
 intro w;obtain⟨m1,m2⟩:=Lu sm;obtain⟨l1,l2⟩:=Ej ss;obtain⟨x1,x2⟩:=sx.lim;obtain⟨o4,o5⟩:=hm.one;have o2:=hv.form.one;have o3:=hv.form.cells;have o6:=hy.form.one;have o7:=hy.form.cells;rw[aQ,A.k14 (by simp)];unfold V.one at o2 o4 o6;unfold V.cells at o3 o5 o7;simp[A.b14,o2,o3,o4,o5,o6,o7,ae];generalize hH:(((h.set N (.cells [u] 22 true)).set (N+1) (.cells [v] 23 true)).set (N+1+1) (.cells [y] 23 true)).set (N+1+1+1) (.cells [.func 61 [] [.ptr N 0],.func 62 [] [.ptr (N+1) 0,.ptr N 0],.func 63 [] [.ptr (N+1+1) 0,.ptr N 0]] 87 true)=H;have kB:ab h N H (N+1+1+1+1):=by rw[<-hH];exact(((ab.refl.new _).new _).new _).new _
 have g0:H.get N=some (.cells [u] 22 true):=by rw[<-hH];simp
 have g1:H.get (N+1)=some (.cells [v] 23 true):=by rw[<-hH];simp
 have g2:H.get (N+1+1)=some (.cells [y] 23 true):=by rw[<-hH];simp
 have g3:H.get (N+1+1+1)=some (.cells [.func 61 [] [.ptr N 0],.func 62 [] [.ptr (N+1) 0,.ptr N 0],.func 63 [] [.ptr (N+1+1) 0,.ptr N 0]] 87 true):=by rw[<-hH];simp
 clear hH;have hs:Sl H (N+1+1+1+1) (.slice (N+1+1+1) 0 3 (some 3) 1) [.func 61 [] [.ptr N 0],.func 62 [] [.ptr (N+1) 0,.ptr N 0],.func 63 [] [.ptr (N+1+1) 0,.ptr N 0]]:=Sl.row (by omega) g3 rfl (fun k hk=>by simp at hk;omega);have key:=Ob (l:=[fI m 64 16,dj s m.length,dj x (aW m)]) hs rfl (by simp) (Yak (P:=fun f e=>∀h' n',ab H (N+1+1+1+1) h' n'->gF A.C f [] h' n' (fun u _ _=>u=.int .i64 e)) (fun h' n' hk=>Ysj (l:=s) ((hk.get N (by omega)).trans g0) (by have:=hk.le;omega) ((hm.ad kB).ad hk) m1 m2) (fun hz h' n' hk=>Ysi ((hk.get (N+1) (by omega)).trans g1) (by have:=hk.le;omega) ((hk.get N (by omega)).trans g0) (by have:=hk.le;omega) ((hm.ad kB).ad hk) m1 m2 ((hv.ad kB).ad hk) l1 l2) (fun hz _ h' n' hk=>Ysh ((hk.get (N+1+1) (by omega)).trans g2) (by have:=hk.le;omega) ((hk.get N (by omega)).trans g0) (by have:=hk.le;omega) ((hm.ad kB).ad hk) m1 m2 ((hy.ad kB).ad hk) x1 x2 (Lr hz sm).pos));change Fn A.C 54 _ H _ (fun u _ _=>u=.int .i64 (NZ m s x))at key;refine ar key ?_;rintro _ H2 n2 k2 rfl;have kR:=k2.le;by_cases hE:NZ m s x=0
 ·obtain⟨hM,⟨z2,hS⟩,z3⟩:=Ysb hE sm ss;have n6:=hM.n6;have m6:=hM.le;have g4:=(k2.get N (by omega)).trans g0;have g5:=(k2.get (N+1) (by omega)).trans g1;have g6:=(k2.get (N+1+1) (by omega)).trans g2;have kC:=kB.trans k2;have d1:N<n2:=by omega
  have d2:N+1<n2:=by omega
  have d22:N+1+1<n2:=by omega
  simp[hE,g4];refine ar (Lv (k0:=100) ((hm.ad kC).rat fun r hr=>(hM.row r hr).2) (by simp[bF];omega) (fun r hr=>by obtain⟨a1,a2⟩:=hM.rat r hr;exact⟨by omega,a2⟩) (by decide)) ?_;rintro q H3 n3 k3 hq;have uZ:=k3.le;have g7:=(k3.get (N+1) (by omega)).trans g5;have g8:=(k3.get (N+1+1) (by omega)).trans g6;have d3:N+1<n3:=by omega
  have d33:N+1+1<n3:=by omega
  simp[g7];refine ar (Ek (l:=a_ s) (k0:=100) (jB.sl ((hv.ad kC).ad k3) hS) (by simp[a_];omega) hS.qb (by decide)) ?_;rintro z H4 n4 k4 hz;have zS:=k4.le;have g9:=(k4.get (N+1+1) (by omega)).trans g8;have d4:N+1+1<n4:=by omega
  simp[g9];refine ar (Ek (l:=a_ x) (k0:=1800) (sx.sl (((hy.ad kC).ad k3).ad k4)) (by simp[a_];omega) sx.q (by decide)) ?_;rintro p H5 n5 k5 hp;have ID:=k5.le;simp[];refine ar (Znu (n:=aW m) ((hq.ad k4).ad k5) (hz.1.ad k5) hp.1 hM.rat (by simp[a_,z3]) n6 hS.qb sx.q (by simp[bF];omega) (by simp[a_,bF,z2])) ?_;rintro t H6 ZQ k6 ht;have Lw:=k6.le;simp[];have kD:=(((kC.trans k3).trans k4).trans k5).trans k6;refine ar (Tp (l:=xp m s x) (k:=11508) ht.1 (hP.ad kD) (by simp[xp,mM,zG,a_];omega) (ZN hM hS sx z3) (by decide)) ?_;rintro a H7 n7 k7 ha;have kE:=kD.trans k7;rcases ha with⟨t1,rfl⟩|⟨t1,v2,rfl,t2⟩
  ·simp;refine(wD (by simp[-ay,d1,d3,d4]<;>omega)).2 ?_;simp[az];exact⟨kE,.inr ⟨rfl,.inl ⟨t1,rfl⟩⟩⟩
  simp;refine(wD (by simp[-ay,d1,d3,d4]<;>omega)).2 ?_;simp[az];exact⟨kE,.inr ⟨rfl,.inr ⟨t1,v2,rfl,t2⟩⟩⟩
 simp[hE,az];exact⟨kB.trans k2,.inl ⟨hE,rfl⟩⟩
def Ybo{z:V}{ws:List aG}(hm:eN h N u m)(hv:Sl h N v (strs ws))(hy:Sl h N y (strs s))(hz:Sl h N z (strs x))(hP:iG h N)(sm:jO 6 6 m=true)(sw:dr 6 ws=true)(ss:dr 6 s=true)(sx:AB x):Fn A.C 15 [u,v,y,z] h N (fun t _ _=>ZR (N6 m ws s x) (IC m ws s x) t):=by
 intro w;obtain⟨m1,m2⟩:=Lu sm;obtain⟨w1,w2⟩:=Ej sw;obtain⟨l1,l2⟩:=Ej ss;obtain⟨x1,x2⟩:=sx.lim;obtain⟨o4,o5⟩:=hm.one;have o2:=hv.form.one;have o3:=hv.form.cells;have o6:=hy.form.one;have o7:=hy.form.cells;have o8:=hz.form.one;have o9:=hz.form.cells;rw[aQ,A.k15 (by simp)];unfold V.one at o2 o4 o6 o8;unfold V.cells at o3 o5 o7 o9;simp[A.b15,o2,o3,o4,o5,o6,o7,o8,o9,ae];generalize hH:((((h.set N (.cells [u] 22 true)).set (N+1) (.cells [v] 23 true)).set (N+1+1) (.cells [y] 23 true)).set (N+1+1+1) (.cells [z] 23 true)).set (N+1+1+1+1) (.cells [.func 65 [] [.ptr N 0,.ptr (N+1) 0],.func 66 [] [.ptr (N+1+1) 0,.ptr N 0],.func 67 [] [.ptr (N+1+1+1) 0,.ptr N 0]] 87 true)=H;have kB:ab h N H (N+1+1+1+1+1):=by rw[<-hH];exact((((ab.refl.new _).new _).new _).new _).new _
 have g0:H.get N=some (.cells [u] 22 true):=by rw[<-hH];simp
 have g1:H.get (N+1)=some (.cells [v] 23 true):=by rw[<-hH];simp
 have g2:H.get (N+1+1)=some (.cells [y] 23 true):=by rw[<-hH];simp
 have g3:H.get (N+1+1+1)=some (.cells [z] 23 true):=by rw[<-hH];simp
 have g4:H.get (N+1+1+1+1)=some (.cells [.func 65 [] [.ptr N 0,.ptr (N+1) 0],.func 66 [] [.ptr (N+1+1) 0,.ptr N 0],.func 67 [] [.ptr (N+1+1+1) 0,.ptr N 0]] 87 true):=by rw[<-hH];simp
 clear hH;have hs:Sl H (N+1+1+1+1+1) (.slice (N+1+1+1+1) 0 3 (some 3) 1) [.func 65 [] [.ptr N 0,.ptr (N+1) 0],.func 66 [] [.ptr (N+1+1) 0,.ptr N 0],.func 67 [] [.ptr (N+1+1+1) 0,.ptr N 0]]:=Sl.row (by omega) g4 rfl (fun k hk=>by simp at hk;omega);have key:=Ob (l:=[C9 m ws,dj s m.length,dj x (aW m)]) hs rfl (by simp) (Yak (P:=fun f e=>∀h' n',ab H (N+1+1+1+1+1) h' n'->gF A.C f [] h' n' (fun u _ _=>u=.int .i64 e)) (fun h' n' hk=>Yop ((hk.get N (by omega)).trans g0) (by have:=hk.le;omega) ((hk.get (N+1) (by omega)).trans g1) (by have:=hk.le;omega) ((hm.ad kB).ad hk) m1 m2 ((hv.ad kB).ad hk) w1 w2) (fun hz h' n' hk=>Yoo ((hk.get (N+1+1) (by omega)).trans g2) (by have:=hk.le;omega) ((hk.get N (by omega)).trans g0) (by have:=hk.le;omega) ((hm.ad kB).ad hk) m1 m2 ((hy.ad kB).ad hk) l1 l2) (fun hp _ h' n' hk=>Yon ((hk.get (N+1+1+1) (by omega)).trans g3) (by have:=hk.le;omega) ((hk.get N (by omega)).trans g0) (by have:=hk.le;omega) ((hm.ad kB).ad hk) m1 m2 ((hz.ad kB).ad hk) x1 x2 (Tr hp sm sw).1.pos));change Fn A.C 54 _ H _ (fun u _ _=>u=.int .i64 (N6 m ws s x))at key;refine ar key ?_;rintro _ H2 n2 k2 rfl;have kR:=k2.le;by_cases hE:N6 m ws s x=0
 ·obtain⟨hM,⟨z1,hW⟩,⟨z2,hS⟩,z3⟩:=Yu6 hE sm sw ss;have n6:=hM.n6;have m6:=hM.le;have g4:=(k2.get N (by omega)).trans g0;have g5:=(k2.get (N+1) (by omega)).trans g1;have g6:=(k2.get (N+1+1) (by omega)).trans g2;have g7:=(k2.get (N+1+1+1) (by omega)).trans g3;have kC:=kB.trans k2;have d1:N<n2:=by omega
  have d2:N+1<n2:=by omega
  have d3:N+1+1<n2:=by omega
  have d4:N+1+1+1<n2:=by omega
  simp[hE,g4];refine ar (Lv (k0:=100) ((hm.ad kC).rat fun r hr=>(hM.row r hr).2) (by simp[bF];omega) (fun r hr=>by obtain⟨a1,a2⟩:=hM.rat r hr;exact⟨by omega,a2⟩) (by decide)) ?_;rintro q H3 n3 k3 hq;have uZ:=k3.le;have e6:=(k3.get (N+1+1) (by omega)).trans g6;have e7:=(k3.get (N+1+1+1) (by omega)).trans g7;have d5:N+1+1<n3:=by omega
  have d6:N+1+1+1<n3:=by omega
  simp[e6];refine ar (Ek (l:=a_ s) (k0:=100) (jB.sl ((hy.ad kC).ad k3) hS) (by simp[a_];omega) hS.qb (by decide)) ?_;rintro t H4 n4 k4 ht;have zS:=k4.le;have e8:=(k4.get (N+1+1+1) (by omega)).trans e7;have d7:N+1+1+1<n4:=by omega
  simp[e8];refine ar (Ek (l:=a_ x) (k0:=1800) (sx.sl (((hz.ad kC).ad k3).ad k4)) (by simp[a_];omega) sx.q (by decide)) ?_;rintro p H5 n5 k5 hp;have ID:=k5.le;simp[];refine ar (Znu (n:=aW m) ((hq.ad k4).ad k5) (ht.1.ad k5) hp.1 hM.rat (by simp[a_,z3]) n6 hS.qb sx.q (by simp[bF];omega) (by simp[a_,bF,z2])) ?_;rintro r H6 ZQ k6 hr;change d_ H6 ZQ r (xp m s x)at hr;have Lw:=k6.le;have kD:=(((kC.trans k3).trans k4).trans k5).trans k6;have e9:H6.get (N+1)=some (.cells [v] 23 true):=(((((k6.get _ (by omega)).trans (k5.get _ (by omega))).trans (k4.get _ (by omega))).trans (k3.get _ (by omega)))).trans g5;simp[];refine(wD (by simp[-ay,d1,d5,d7]<;>omega)).2 ?_;simp[e9];refine ar (Ek (l:=a_ ws) (k0:=100) (jB.sl (hv.ad kD) hW) (by simp[a_];omega) hW.qb (by decide)) ?_;rintro c H7 n7 k7 hc;have ZS:=k7.le;simp[];have rq:=ZN hM hS sx z3;have rl:(xp m s x).length=s.length:=Zz4;refine ar (Ya7 (j:=11508) (k:=100) (hr.1.ad k7) hc.1 (by rw[rl];simp[a_];omega) rq hW.qb (by decide) (by decide) (by omega)) ?_;rintro b H8 n8 k8 hb;have ZT:=k8.le;simp[];refine ar (Yqf (j:=11608) (k:=11508) hb.1 ((hr.1.ad k7).ad k8) (by rw[ZP];omega) (ZO rq hW.qb (by decide) (by decide)) rq (by decide) (by decide) (by rw[ZP];omega)) ?_;rintro _ H9 n9 k9 Ts;obtain⟨cc,rfl,kJ⟩:=Ts.c;have le9:=k9.le;have cq:=Yoj hM hW hS sx z3 (by omega);change fS H9 n9 cc (IC m ws s x)at kJ;obtain⟨f1,f2⟩:=kJ.len;have zU:(V.agg cc).cells=cc:=rfl;have e4:ae [V.int .i64 0,.aa,.int .i64 0,.aa] 0 cc=cc:=by unfold ae;rw[f1];simp
  have kN:ab H9 n9 ((H9.set n9 (.cells zF 96 true)).set n9 (.cells cc 96 true)) (n9+1):=(ab.refl.new _).set (aM _);unfold zF at kN;have s0:aP cc 0 4=some cc:=by unfold aP;rw[f1];simp;exact fU (by omega)
  simp[-V.cells, -V.one,bO,zU,f1,f2,e4,s0];generalize hG:(H9.set n9 (.cells [.int .i64 0,.aa,.int .i64 0,.aa] 96 true)).set n9 (.cells cc 96 true)=G at*;have gG:G.get n9=some (.cells cc 96 true):=by rw[<-hG];simp
  clear hG;have kE:=(((kD.trans k7).trans k8).trans k9).trans kN;have hfc:=(kJ.ad kN).fc;refine ar (Zv6 hfc (hP.ad kE) cq (by decide)) ?_;rintro _ Ha na ka rfl;have lea:=ka.le;have gH:=(ka.get n9 (by omega)).trans gG;cases hb:wW (IC m ws s x)with
  |true=> simp[az];exact⟨by omega,kE.trans ka,.inr ⟨rfl,.inl ⟨hb,rfl⟩⟩⟩
  |false=> have q1:=IE cq.1;have q2:=IE cq.2;simp[gH,s0];refine ar (Yfg (hfc.ad ka) (hP.ad (kE.trans ka)) (by omega) (by omega)) ?_;rintro _ Hb nb kb rfl;simp[az];exact⟨by omega,(kE.trans ka).trans kb,.inr ⟨rfl,.inr ⟨hb,rfl⟩⟩⟩
 simp[hE,az];exact⟨kB.trans k2,.inl ⟨hE,rfl⟩⟩
def ZU{h:T O}{N:Nat}{u v:V}{M:List (List Rat)}{x0:List Rat}{c:Nat}(hmT:oa h N u M)(cB:Tx h N v x0)(hP:iG h N)(M1:0<M.length)(M6:M.length<=6)(c1:0<c)(c6:c<=6)(Lx:aU M c)(Oc:bH M 1800)(jK:∀q∈x0,Qb 1800 q)(ZV:x0.length=c):Fn A.C 13 [u,v] h N (fun x h' n'=>Oa 0 (M.map fun r=>dh r x0) x h' n'):=by
 intro w;obtain⟨l,el⟩:∃l,l=x0.map aO:=⟨_,rfl⟩;have ZW:a_ l=x0:=by rw[el];exact Tq
 have hl:Sl h N v (strs l):=by rw[el];exact cB
 have l1:l.length<100000:=by rw[el,di];omega
 have l2:∀s∈l,s.length<=100000:=fun s hs=>by rw[el]at hs;obtain⟨q,hq,rfl⟩:=bK.1 hs;have:=(C4 (jK q hq) (aM _)).2;omega
 have mG:∀q∈a_ l,Qb 1800 q:=by rw[ZW];exact jK
 have hlen:(a_ l).length=l.length:=by simp[a_]
 obtain⟨m,em⟩:∃m,m=M.map fun r=>r.map aO:=⟨_,rfl⟩;have hm:eN h N u m:=by rw[em];exact hmT.ZX
 have lm:m.length=M.length:=by rw[em,di]
 have m1:m.length<100000:=by omega
 have m2:∀x∈m,x.length<100000/\∀s∈x,s.length<=100000:=fun x hx=>by rw[em]at hx;obtain⟨r,hr,rfl⟩:=bK.1 hx;refine⟨by rw[di,Lx r hr];omega,fun s hs=>?_⟩;obtain⟨q,hq,rfl⟩:=bK.1 hs;have:=(C4 (Oc r hr q hq) (aM _)).2;omega
 have ZY:aW m=c:=by obtain⟨r0,ib⟩:=bj M1;unfold aW;rw[em,eH,ib];show (r0.map aO).length=c;rw[di,Lx r0 (cy ib)]
 have IF:fI m 64 64=0:=by unfold fI;rw[ak (by omega),ak (by omega),ZY,em];exact Z0 Oc Lx
 have cM:dj l (aW m)=0:=by rw[ZY,el,<-ZV];exact IG jK
 have hE:Z1 m l=0:=by
  unfold Z1;apply F9;intro e he;simp only[ky,List.not_mem_nil,or_false]at he;rcases he with rfl|rfl
  ·exact IF
  exact cM
 have mp:0<m.length:=by omega
 have o1:V.one u=true/\V.cells u=[u]:=by obtain⟨us,⟨_,rfl|rfl⟩|⟨i,o,cp,c,e,rw,rfl,_⟩,_⟩:=hm<;>exact⟨rfl,rfl⟩
 have o2:=hl.form.one;have o3:=hl.form.cells;obtain⟨o4,o5⟩:=o1;rw[aQ,A.k13 (by simp)];unfold V.one at o2 o4;unfold V.cells at o3 o5;simp[A.b13,o2,o3,o4,o5,ae];generalize hH:((h.set N (.cells [u] 22 true)).set (N+1) (.cells [v] 23 true)).set (N+1+1) (.cells [.func 55 [] [.ptr N 0],.func 57 [] [.ptr (N+1) 0,.ptr N 0]] 87 true)=H;have kB:ab h N H (N+1+1+1):=by rw[<-hH];exact((ab.refl.new _).new _).new _
 have g0:H.get N=some (.cells [u] 22 true):=by rw[<-hH];simp
 have g1:H.get (N+1)=some (.cells [v] 23 true):=by rw[<-hH];simp
 have g2:H.get (N+1+1)=some (.cells [.func 55 [] [.ptr N 0],.func 57 [] [.ptr (N+1) 0,.ptr N 0]] 87 true):=by rw[<-hH];simp
 clear hH;have hs:Sl H (N+1+1+1) (.slice (N+1+1) 0 2 (some 2) 1) [.func 55 [] [.ptr N 0],.func 57 [] [.ptr (N+1) 0,.ptr N 0]]:=Sl.row (by omega) g2 rfl (fun k hk=>by simp at hk;omega);have key:=Ob (l:=[fI m 64 64,dj l (aW m)]) hs rfl (by simp) (Z2 (P:=fun f e _=>∀h' n',ab H (N+1+1+1) h' n'->gF A.C f [] h' n' (fun u _ _=>u=.int .i64 e)) (fun h' n' hk=>Yvv (l:=l) ((hk.get N (by omega)).trans g0) (by have:=hk.le;omega) ((hm.ad kB).ad hk) m1 m2) (fun hz h' n' hk=>Yvu ((hk.get (N+1) (by omega)).trans g1) (by have:=hk.le;omega) ((hk.get N (by omega)).trans g0) (by have:=hk.le;omega) ((hm.ad kB).ad hk) m1 m2 ((hl.ad kB).ad hk) l1 l2 mp));change Fn A.C 54 _ H _ (fun u _ _=>u=.int .i64 (Z1 m l))at key;refine ar key ?_;rintro _ H2 n2 k2 rfl;have kR:=k2.le;rw[hE];have z3:=Lt cM;rw[ZY]at z3;have g3:=(k2.get N (by omega)).trans g0;have kC:=kB.trans k2;have d1:N<n2:=by omega
 have d2:N+1<n2:=by omega
 simp[g3];refine ar (Lv (m:=M) (k0:=1800) (hmT.ad kC) (by omega) (fun r hr=>⟨by rw[Lx r hr];omega,Oc r hr⟩) (by decide)) ?_;rintro y H3 n3 k3 hy;have uZ:=k3.le;have g4:=(k3.get (N+1) (by omega)).trans ((k2.get (N+1) (by omega)).trans g1);have d3:N+1<n3:=by omega
 simp[g4];refine ar (Ek (l:=a_ l) (k0:=1800) (by rw[ZW];exact((Tx.ad cB kC).ad k3)) (by omega) mG (by decide)) ?_;rintro z H4 n4 k4 hz;have zS:=k4.le;simp[];refine ar (NG (n:=c) (j:=1800) (k:=1800) (hy.ad k4) hz.1 (fun r hr=>⟨Lx r hr,Oc r hr⟩) (by omega) mG (by decide) (by decide) (by omega) (by omega)) ?_;rintro x H5 n5 k5 hx;have ID:=k5.le;simp[];have kD:=((kC.trans k3).trans k4).trans k5;rw[ZW]at hx;have hq:∀q∈M.map (fun r=>dh r x0),Qb 21607 q:=fun q hq=>by obtain⟨r,hr,rfl⟩:=bK.1 hq;exact CY (n:=6) (Oc r hr) jK (by decide) (by decide) (by rw[Lx r hr];exact c6)
 refine ar (Tp (l:=M.map fun r=>dh r x0) (k:=21607) hx.1 (hP.ad kD) (by rw[di];omega) hq (by decide)) ?_;rintro a H6 ZQ k6 ha;have kE:=kD.trans k6;rcases ha with⟨t1,rfl⟩|⟨t1,v2,rfl,t2⟩
 ·simp;refine(wD (by simp[-ay,d1,d3]<;>omega)).2 ?_;simp[az];exact⟨kE,.inr ⟨rfl,.inl ⟨t1,rfl⟩⟩⟩
 simp;refine(wD (by simp[-ay,d1,d3]<;>omega)).2 ?_;simp[az];exact⟨kE,.inr ⟨rfl,.inr ⟨t1,v2,rfl,t2⟩⟩⟩
variable {n:Nat}
def IH{f:Nat->Rat}{g:Nat->Nat->Rat}{m:Nat}:sN (fun i=>f i*sN (g i) m) n=sN (fun j=>sN (fun i=>f i*g i j) n) m:=by rw[bq (g:=fun i=>sN (fun j=>f i*g i j) m) fun i _=>gm.symm,A6]
def Od{f:Nat->Rat}{c:Rat}:sN (fun i=>f i*c) n=sN f n*c:=by rw[bq (g:=fun i=>c*f i) fun i _=>Rat.mul_comm _ _,gm,Rat.mul_comm]
def Yfe{a C:List (List Rat)}:aU (dC a C) C.length:=fun r hr=>by
 unfold dC at hr
 obtain⟨t,_,rfl⟩:=bK.1 hr
 rw[di]
def Ymk{r S:Nat}{P D T G H:Nat->Nat->Rat}{w s y x:Nat->Rat}(hT:∀a i,a<r->i<S->T a i=sN (fun l=>P a l*D i l) n)(hG:∀a b,a<r->b<r->G a b=sN (fun i=>T b i*(T a i*w i)) S)(hH:∀a i,a<r->i<S->sN (fun b=>G a b*H b i) r=T a i*w i)(hy:∀b,b<r->y b=sN (fun i=>H b i*s i) S)(hx:∀l,l<n->x l=sN (fun b=>P b l*y b) r){a:Nat}(ha:a<r):sN (fun l=>P a l*sN (fun i=>w i*(D i l*(s i-sN (fun l=>D i l*x l) n))) S) n=0:=by
 have h1:∀i,i<S->sN (fun b=>T b i*y b) r=sN (fun l=>D i l*x l) n:=fun i hi=>by rw[bq (g:=fun b=>y b*sN (fun l=>P b l*D i l) n) fun b hb=>by rw[hT b i hb hi,Rat.mul_comm],IH];apply bq;intro l hl;rw[hx l hl,<-gm];exact bq fun b _=>by grind
 have h2:sN (fun b=>G a b*y b) r=sN (fun i=>T a i*w i*s i) S:=by rw[bq (g:=fun b=>G a b*sN (fun i=>H b i*s i) S) fun b hb=>by rw[hy b hb],IH];apply bq;intro i hi;rw[<-hH a i ha hi,<-Od];exact bq fun b _=>by grind
 have h3:sN (fun b=>G a b*y b) r=sN (fun i=>T a i*w i*sN (fun l=>D i l*x l) n) S:=by rw[bq (g:=fun b=>y b*sN (fun i=>T b i*(T a i*w i)) S) fun b hb=>by rw[hG a b ha hb,Rat.mul_comm],IH];apply bq;intro i hi;rw[<-h1 i hi,<-gm];exact bq fun b _=>by grind
 rw[IH];rw[bq (g:=fun i=>T a i*w i*s i-T a i*w i*sN (fun l=>D i l*x l) n) fun i hi=>by rw[hT a i ha hi];generalize sN (fun l=>D i l*x l) n=z;rw[bq (g:=fun l=>P a l*D i l*(w i*(s i-z))) fun l _=>by grind,Od];grind,CT,<-h2,<-h3];grind
def oD(D:List (List Rat))(w s:List Rat)(x:Nat->Rat)(n l:Nat):Rat:=sN (fun i=>w[i]?.getD 0*(al D i l*(s[i]?.getD 0-sN (fun l=>al D i l*x l) n))) D.length
def Zu{D:List (List Rat)}{w s:List Rat}(hD:aU D n)(jy:0<n)(hw:w.length=D.length)(hp:∀q∈w,0<q)(hs:s.length=D.length)(h0:0<(aK D n).length):∃x y:Nat->Rat,(∀j,j<n->((jx D w n).map fun r=>dh r s)[j]?.getD 0=x j)/\(∀j,j<n->x j=sN (fun a=>al (aK D n) a j*y a) (aK D n).length)/\∀k,k<n->oD D w s x n k=0:=by
 obtain⟨J,_,hJ⟩:=Z3 hD hw hp h0;obtain⟨H,hH⟩:∃H,dC J (dt (oE D (aK D n) w) D.length)=H:=⟨_,rfl⟩;rw[hH]at hJ;have hPc:aU (aK D n) n:=xg hD;obtain⟨P,eP⟩:∃P,aK D n=P:=⟨_,rfl⟩;have Z4:∀g,dS P n g->dS (bS D n) n g->∀j,j<n->g j=0:=fun g=>by rw[<-eP];exact NK hD
 have Oe:∀a,a<(bS D n).length->dS D n fun l=>al (bS D n) a l:=fun a ha=>Li hD ha;unfold jx;rw[ak (by omega),hJ,il];rw[eP]at hJ hPc h0 ⊢;have Z5:(dt (dC D P) P.length).length=P.length:=jN;have Of:(oE D P w).length=P.length:=by unfold oE;rw[di,Z5]
 have hTc:aU (dt (dC D P) P.length) D.length:=by have:=@C0 (dC D P) P.length;rwa [show (dC D P).length=D.length from di ..]at this
 have Og:aU (oE D P w) D.length:=fun r hr=>by unfold oE at hr;obtain⟨t,ht,rfl⟩:=bK.1 hr;rw[show (CU t w).length=w.length by simp[CU],hw]
 have hGl:(rY D P w).length=P.length:=by unfold rY dC;rw[di,Of]
 have hGc:aU (rY D P w) P.length:=fun r hr=>by rw[<-Z5];exact Yfe r hr
 obtain⟨m1,m2,m3⟩:=Zi hGc hGl Og Of h0 hJ;have fT:∀a i,a<P.length->i<D.length->al (dt (dC D P) P.length) a i=sN (fun l=>al P a l*al D i l) n:=fun a i ha hi=>by rw[CZ ha (by unfold dC;rw[di];exact hi),Ed hi ha hPc]
 have fR:∀a i,a<P.length->i<D.length->al (oE D P w) a i=al (dt (dC D P) P.length) a i*w[i]?.getD 0:=fun a i ha hi=>Yyx (by rw[Z5];exact ha) (by omega);have fG:∀a b,a<P.length->b<P.length->al (rY D P w) a b=sN (fun i=>al (dt (dC D P) P.length) b i*(al (dt (dC D P) P.length) a i*w[i]?.getD 0)) D.length:=fun a b ha hb=>by unfold rY;rw[Ed (by omega) (by omega) hTc];exact bq fun i hi=>by rw[fR a i ha hi]
 have hHt:(dt H D.length).length=D.length:=jN;have hPt:(dt P n).length=n:=jN;obtain⟨y,hy⟩:∃y:Nat->Rat,∀b,y b=sN (fun i=>al H b i*s[i]?.getD 0) D.length:=⟨_,fun _=>rfl⟩;obtain⟨x,hx⟩:∃x:Nat->Rat,∀j,x j=sN (fun a=>al P a j*y a) P.length:=⟨_,fun _=>rfl⟩;have key:=fun a (ha:a<P.length)=>Ymk (s:=fun i=>s[i]?.getD 0) (w:=fun i=>w[i]?.getD 0) (H:=al H) fT fG (fun a i ha hi=>by rw[m3 a i ha hi,fR a i ha hi]) (fun b _=>hy b) (fun l _=>hx l) ha;refine⟨x,y,fun j hj=>?_,fun j _=>hx j,fun k hk=>?_⟩
 ·have Da:aU (dt H D.length) P.length:=by have:=@C0 H D.length;rwa [m1]at this
  have Tt:aU (dC (dt P n) (dt H D.length)) D.length:=fun r hr=>by unfold dC at hr;obtain⟨t,_,rfl⟩:=bK.1 hr;rw[di,hHt]
  have e:sN (fun a=>al P a j*y a) P.length=sN (fun i=>sN (fun a=>al P a j*(al H a i*s[i]?.getD 0)) P.length) D.length:=by rw[bq (g:=fun a=>al P a j*sN (fun i=>al H a i*s[i]?.getD 0) D.length) fun a _=>by rw[hy],IH]
  rw[Lj Tt (by unfold dC;rw[di,hPt];exact hj),hx,e];apply bq;intro i hi;rw[Ed (by omega) (by omega) Da,<-Od];apply bq;intro b hb;rw[CZ hi (by omega),CZ hj hb];grind
 refine Z4 (fun l=>oD D w s x n l) (fun a ha=>key a ha) (fun a ha=>?_) k hk;show sN (fun l=>al (bS D n) a l*oD D w s x n l) n=0;unfold oD;rw[IH];apply pJ;intro i hi;have h1:=Oe a ha i hi;simp only at h1;rw[bq (g:=fun l=>al D i l*al (bS D n) a l*(w[i]?.getD 0*(s[i]?.getD 0-sN (fun l=>al D i l*x l) n))) fun l _=>by grind,Od,h1,Rat.zero_mul]
variable {D:List (List Rat)} {n:Nat} {s w:List Rat}
def eI(D:List (List Rat))(x:Nat->Rat)(n i:Nat):Rat:=sN (fun l=>al D i l*x l) n
def NO{D:List (List Rat)}{x o:Nat->Rat}{n i:Nat}:eI D (fun l=>o l-x l) n i=eI D o n i-eI D x n i:=by unfold eI;rw[<-CT];exact bq fun l _=>by grind
def nQ(D:List (List Rat))(w s:List Rat)(x:Nat->Rat)(n:Nat):Rat:=sN (fun i=>w[i]?.getD 0*((s[i]?.getD 0-eI D x n i)*(s[i]?.getD 0-eI D x n i))) D.length
def Yxf{x g:Nat->Rat}(h:∀k,k<n->oD D w s x n k=0):sN (fun i=>w[i]?.getD 0*(s[i]?.getD 0-eI D x n i)*eI D g n i) D.length=0:=by unfold eI;rw[IH];apply pJ;intro l hl;have h1:=h l hl;unfold oD at h1;rw[bq (g:=fun i=>w[i]?.getD 0*(al D i l*(s[i]?.getD 0-sN (fun l=>al D i l*x l) n))*g l) fun i _=>by grind,Od,h1,Rat.zero_mul]
def Zo{x o:Nat->Rat}(h:∀k,k<n->oD D w s x n k=0):nQ D w s o n=nQ D w s x n+sN (fun i=>w[i]?.getD 0*(eI D (fun l=>o l-x l) n i*eI D (fun l=>o l-x l) n i)) D.length:=by
 have h1:=Yxf (g:=fun l=>o l-x l) h;have h2:nQ D w s o n=nQ D w s x n+sN (fun i=>w[i]?.getD 0*(eI D (fun l=>o l-x l) n i*eI D (fun l=>o l-x l) n i)) D.length-2*sN (fun i=>w[i]?.getD 0*(s[i]?.getD 0-eI D x n i)*eI D (fun l=>o l-x l) n i) D.length:=by unfold nQ;rw[<-w_,<-gm,<-CT];apply bq;intro i _;rw[NO];grind
 rw[h2,h1];grind
def Yo7{i:Nat}(hp:∀q∈w,0<q)(hi:i<w.length):0<w[i]?.getD 0:=by rw[ct hi];exact hp _ (List.getElem_mem _)
def Zp{e:Nat->Rat}(hw:w.length=D.length)(hp:∀q∈w,0<q):∀i,i<D.length->0<=w[i]?.getD 0*(eI D e n i*eI D e n i):=fun i hi=>Rat.mul_nonneg (Rat.le_of_lt (Yo7 hp (by omega))) NH
def Zq{e:Nat->Rat}(hw:w.length=D.length)(hp:∀q∈w,0<q)(h:sN (fun i=>w[i]?.getD 0*(eI D e n i*eI D e n i)) D.length=0):dS D n e:=fun i hi=>by
 have h1:=NB (Zp hw hp) h i hi
 have h2:=Yo7 hp (i:=i) (by omega)
 rcases Rat.mul_eq_zero.1 h1 with h3|h3
 ·rw[h3]at h2
  exact absurd h2 (Rat.lt_irrefl)
 ·exact Tb h3
def Yjw{x:Nat->Rat}(o:Nat->Rat)(hw:w.length=D.length)(hp:∀q∈w,0<q)(h:∀k,k<n->oD D w s x n k=0):nQ D w s x n<=nQ D w s o n:=by rw[Zo h (o:=o)];have:=NA (Zp (e:=fun l=>o l-x l) (n:=n) hw hp);grind
def Lm{x y e:Nat->Rat}(hD:aU D n)(hx:∀j,j<n->x j=sN (fun a=>al (aK D n) a j*y a) (aK D n).length)(he:dS D n e):sN (fun l=>e l*x l) n=0:=by have h1:=(xb hD).2 he;rw[bq (g:=fun l=>e l*sN (fun a=>al (aK D n) a l*y a) (aK D n).length) fun l hl=>by rw[hx l hl],FZ (b:=fun _=>0) fun t ht=>h1 t ht];exact pJ fun a _=>Rat.zero_mul _
def Yu2{x y o:Nat->Rat}(hD:aU D n)(hw:w.length=D.length)(hp:∀q∈w,0<q)(hx:∀j,j<n->x j=sN (fun a=>al (aK D n) a j*y a) (aK D n).length)(h:∀k,k<n->oD D w s x n k=0)(ht:nQ D w s o n=nQ D w s x n):sN (fun l=>x l*x l) n<=sN (fun l=>o l*o l) n:=by
 rw[Zo h (o:=o)]at ht;have h1:=Zq (n:=n) (e:=fun l=>o l-x l) hw hp (by grind);have h2:=Lm hD hx h1;have h3:sN (fun l=>o l*o l) n=sN (fun l=>x l*x l) n+2*sN (fun l=>(o l-x l)*x l) n+sN (fun l=>(o l-x l)*(o l-x l)) n:=by rw[<-gm,<-w_,<-w_];exact bq fun l _=>by grind
 have h4:=NA (f:=fun l=>(o l-x l)*(o l-x l)) (n:=n) fun l _=>NH;rw[h3,h2];grind
def Yr7{x y x' y':Nat->Rat}(hD:aU D n)(hx:∀j,j<n->x j=sN (fun a=>al (aK D n) a j*y a) (aK D n).length)(kL:∀j,j<n->x' j=sN (fun a=>al (aK D n) a j*y' a) (aK D n).length)(he:dS D n fun l=>x l-x' l):∀j,j<n->x j=x' j:=fun j hj=>by
 have hk:∀a,a<(bS D n).length->dS D n fun l=>al (bS D n) a l:=fun a ha=>Li hD ha
 have:=NK (e:=fun l=>x l-x' l) hD ((xb hD).2 he) (fun a ha=>by
  have h1:=Lm hD hx (hk a ha)
  have h2:=Lm hD kL (hk a ha)
  show sN (fun l=>al (bS D n) a l*(x l-x' l)) n=0
  rw[bq (g:=fun l=>al (bS D n) a l*x l-al (bS D n) a l*x' l) fun l _=>by grind,CT,h1,h2]
  grind) j hj
 grind
def Ycn{x c:Nat->Rat}(hw:w.length=D.length)(hp:∀q∈w,0<q)(hs:∀i,i<D.length->s[i]?.getD 0=eI D c n i)(h:∀k,k<n->oD D w s x n k=0):dS D n fun l=>c l-x l:=by apply Zq hw hp;have h1:=Yxf (g:=fun l=>c l-x l) h;rw[<-h1];apply bq;intro i hi;rw[hs i hi,NO];grind
def Zs{A:List (List Rat)}{u R:Nat}(hA:Ar A (u+1) R)(hc:aU A (u+1))(hR:1<=R){z0:Nat->Rat}(h0:dS A (u+1) z0)(h0u:z0 u= -1):∃d:Rat,d≠0/\df ((u+1)*(R+u+1)) d/\∀p,p<u->(∀z,dS A (u+1) z->z u= -1->z p=z0 p)->df ((u+1)*(R+u+1)) (d*z0 p):=by
 obtain⟨Bs,s,hC⟩:=Nr hA hc (n:=u+1) (aM _);have I:=mU hc (n:=u+1);obtain⟨h1,h2⟩:=hC.done I (aM _) hR;have aZ:=hC.ne;have hl:=nO (n:=u+1) hc;have Z6:u∉(aD A (u+1)).2.2:=fun hm=>by
  obtain⟨i,hi,ei,_⟩:=K9 hc hm;have h3:=(xb hc).2 h0 i (by rw[hl];exact hi);rw[S7 hc hi,ei,h0u,pJ]at h3
  ·rw[Rat.add_zero]at h3;exact absurd h3 (by decide)
  intro j hj;split
  ·rfl
  rename_i hjp;by_cases hju:j=u
  ·rw[hju]at hjp;exact absurd hm hjp
  rw[Lc hi,I.lead i j hi (by rw[ei];omega),Rat.zero_mul]
 have Z7:(aD A (u+1)).2.1<=u:=by
  have hf:=Ij (ps:=(aD A (u+1)).2.2) (n:=u+1) (fun i hi=>I.lt i (by rw[<-I.len];exact hi)) (fun i j h1 h2=>I.xc i j h1 (by rw[<-I.len];exact h2));have hm:u∈iw (aD A (u+1)).2.2 (u+1):=by simp[iw,Z6]
  have:=List.length_pos_of_mem hm;rw[I.len]at hf;omega
 have hB:((aD A (u+1)).2.1+1)*(R+(aD A (u+1)).2.1+1)<=(u+1)*(R+u+1):=mI (by omega) (by omega);have Z8:(aD A (u+1)).2.1*(R+(aD A (u+1)).2.1+1)+1<=((aD A (u+1)).2.1+1)*(R+(aD A (u+1)).2.1+1):=by rw[js];omega
 refine⟨_,aZ,h1.mono (iZ Z8 hB),fun p hp hu=>?_⟩;have Oh:p∈(aD A (u+1)).2.2:=Classical.byContradiction fun II=>by
  have hk:=FY hc (k:=p) (by omega) II;have h3:=hu (fun j=>z0 j+gp A (u+1) p j) (fun i hi=>by
   rw[bq (g:=fun j=>al A i j*z0 j+al A i j*gp A (u+1) p j) fun j _=>by grind,w_,h0 i hi,hk i hi]
   grind) (by
   show z0 u+gp A (u+1) p u= -1
   unfold gp
   rw[ak (by omega),ak Z6,h0u]
   grind);simp only[gp,if_true]at h3;have h4:(1:Rat)=0:=by grind
  exact absurd h4 (by decide)
 obtain⟨i,hi,_,ex⟩:=K9 hc Oh;have hk:=FY hc (k:=u) (by omega) Z6;have h3:=hu (fun j=> -1*gp A (u+1) u j) (fun i hi=>by rw[bq (g:=fun j=> -1*(al A i j*gp A (u+1) u j)) fun j _=>by grind,gm,hk i hi];grind) (by simp[gp]);rw[<-h3];unfold gp;rw[ak (by omega),av Oh,ex,Lc hi];have h4:=(h2 i u hi (by omega)).mono hB;rw[show (-1:Rat)* -al (aD A (u+1)).1 i u=al (aD A (u+1)).1 i u by grind];exact h4
variable {n:Nat}
def rU(u:Nat)(f:Nat->Rat):List Rat:=(List.range u).map f
def Ygc{u j:Nat}{f:Nat->Rat}(h:j<u):(rU u f)[j]?.getD 0=f j:=by simp[rU,h]
def Zz3{m:List (List Rat)}{c R:Nat}(hc:aU m c)(h:∀r∈m,∃s:Rat,s≠0/\df R s/\∀q∈r,df R (s*q)):Ar m c R:=fun i hi=>by
 obtain⟨s,h1,h2,h3⟩:=h _ (List.getElem_mem hi)
 refine⟨s,h1,h2,fun l hl=>?_⟩
 unfold al
 rw[ct hi,il,ct (by rw[hc _ (List.getElem_mem hi)];exact hl)]
 exact h3 _ (List.getElem_mem _)
def fA(D:List (List Rat))(s:List Rat)(n i j:Nat):Rat:=if j<n then al D i j else if j<n+D.length then (if j-n=i then 1 else 0) else s[i]?.getD 0
def fB(D:List (List Rat))(w:List Rat)(n k j:Nat):Rat:=if j<n then 0 else if j<n+D.length then w[j-n]?.getD 0*al D (j-n) k else 0
def fC(D:List (List Rat))(n a j:Nat):Rat:=if j<n then al (eE D n) a j else 0
def Eg(D:List (List Rat))(w s:List Rat)(n:Nat)(b:Bool):List (List Rat):=(List.range D.length).map (fun i=>rU (n+D.length+1) (fA D s n i))++((List.range n).map (fun k=>rU (n+D.length+1) (fB D w n k))++if b then (List.range (eE D n).length).map (fun a=>rU (n+D.length+1) (fC D n a)) else [])
def Zn{D:List (List Rat)}{w s:List Rat}{b:Bool}:aU (Eg D w s n b) (n+D.length+1):=fun r hr=>by
 unfold Eg at hr
 simp only[jn,bK]at hr
 rcases hr with⟨i,_,rfl⟩|⟨k,_,rfl⟩|hr
 ·simp[rU]
 ·simp[rU]
 ·split at hr
  ·obtain⟨a,_,rfl⟩:=bK.1 hr
   simp[rU]
  ·simp at hr
def Xbp{f:Nat->Rat}{S:Nat}:sN f (n+S+1)=sN f n+sN (fun i=>f (n+i)) S+f (n+S):=by show sN f (n+S)+f (n+S)=_;rw[Zh]
def Zr{D:List (List Rat)}{w s:List Rat}{b:Bool}{z:Nat->Rat}(hz:z (n+D.length)= -1):dS (Eg D w s n b) (n+D.length+1) z↔(∀i,i<D.length->eI D z n i+z (n+i)=s[i]?.getD 0)/\(∀k,k<n->sN (fun i=>w[i]?.getD 0*al D i k*z (n+i)) D.length=0)/\(b=true->dS (eE D n) n z):=by
 have hk:dS (Eg D w s n b) (n+D.length+1) z↔∀r∈Eg D w s n b,sN (fun j=>r[j]?.getD 0*z j) (n+D.length+1)=0:=by
  unfold dS;constructor
  ·intro h r hr;obtain⟨i,hi⟩:=pK hr;have h1:=h i (gI hi);unfold al at h1;rw[hi]at h1;exact h1
  intro h i hi;have h1:=h _ (List.getElem_mem hi);unfold al;rw[ct hi];exact h1
 have hf:∀f:Nat->Rat,sN (fun j=>(rU (n+D.length+1) f)[j]?.getD 0*z j) (n+D.length+1)=sN (fun j=>f j*z j) n+sN (fun i=>f (n+i)*z (n+i)) D.length-f (n+D.length):=fun f=>by rw[bq (g:=fun j=>f j*z j) fun j hj=>by rw[Ygc hj],Xbp,hz];grind
 have eA:∀i,i<D.length->sN (fun j=>(rU (n+D.length+1) (fA D s n i))[j]?.getD 0*z j) (n+D.length+1)=eI D z n i+z (n+i)-s[i]?.getD 0:=fun i hi=>by rw[hf,bq (n:=n) (g:=fun l=>al D i l*z l) fun j hj=>by unfold fA;rw[av hj],ve (n:=D.length) (i:=i) hi fun j hj aZ=>by unfold fA;rw[ak (by omega),av (by omega),ak (by omega),Rat.zero_mul]];unfold fA;rw[ak (by omega),av (by omega),av (by omega),ak (by omega),ak (by omega)];unfold eI;grind
 have eB:∀k,k<n->sN (fun j=>(rU (n+D.length+1) (fB D w n k))[j]?.getD 0*z j) (n+D.length+1)=sN (fun i=>w[i]?.getD 0*al D i k*z (n+i)) D.length:=fun k _=>by rw[hf,pJ (n:=n) fun j hj=>by unfold fB;rw[av hj,Rat.zero_mul],bq (n:=D.length) (g:=fun i=>w[i]?.getD 0*al D i k*z (n+i)) fun i hi=>by unfold fB;rw[ak (by omega),av (by omega),Nat.add_sub_cancel_left]];unfold fB;rw[ak (by omega),ak (by omega)];grind
 have eC:∀a,a<(eE D n).length->sN (fun j=>(rU (n+D.length+1) (fC D n a))[j]?.getD 0*z j) (n+D.length+1)=sN (fun j=>al (eE D n) a j*z j) n:=fun a _=>by rw[hf,bq (n:=n) (g:=fun j=>al (eE D n) a j*z j) fun j hj=>by unfold fC;rw[av hj],pJ (n:=D.length) fun i hi=>by unfold fC;rw[ak (by omega),Rat.zero_mul]];unfold fC;rw[ak (by omega)];grind
 rw[hk];constructor
 ·intro h;refine⟨fun i hi=>?_,fun k wC=>?_,fun hb a ha=>?_⟩
  ·have h1:=h (rU (n+D.length+1) (fA D s n i)) (List.mem_append_left _ (bK.2 ⟨i,iL.2 hi,rfl⟩));rw[eA i hi]at h1;grind
  ·have h1:=h (rU (n+D.length+1) (fB D w n k)) (List.mem_append_right _ (List.mem_append_left _ (bK.2 ⟨k,iL.2 wC,rfl⟩)));rw[eB k wC]at h1;exact h1
  have h1:=h (rU (n+D.length+1) (fC D n a)) (List.mem_append_right _ (List.mem_append_right _ (by rw[av hb];exact bK.2 ⟨a,iL.2 ha,rfl⟩)));rw[eC a ha]at h1;exact h1
 rintro⟨h1,h2,h3⟩ r hr;unfold Eg at hr;simp only[jn,bK,iL]at hr;rcases hr with⟨i,hi,rfl⟩|⟨k,wC,rfl⟩|hr
 ·rw[eA i hi,h1 i hi];grind
 ·rw[eB k wC];exact h2 k wC
 split at hr
 ·rename_i hb;obtain⟨a,ha,rfl⟩:=bK.1 hr;rw[eC a (iL.1 ha)];exact h3 hb a (iL.1 ha)
 simp at hr
end Go.Mx
