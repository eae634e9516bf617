/-Compose, Modal, CheckReconstructor-/
import Derived.Test.YtnkdakmfipgidaaGreatDoorLnF
set_option linter.all false
namespace Go.Mx
open Go Go.Proofs
variable {M:List (List Rat)} {N:Nat} {h:T O} {u v:V}
set_option maxHeartbeats 4000000
set_option maxRecDepth 1000000
def Zm{c:Nat}(M6:M.length<=6)(c6:c<=6)(kr:aR M c)(qk:bz M 1800):∀x∈M.map (fun r=>r.map aP),x.length<100000/\∀s∈x,s.length<=100000:=fun x hx=>by
 obtain⟨r,hr,rfl⟩:=bF.1 hx
 refine⟨by rw[cG,kr r hr];omega,fun s hs=>?_⟩
 obtain⟨q,hq,rfl⟩:=bF.1 hs
 have:=(Iw (qk r hr q hq) (aO _)).2
 omega
def Ytm{l:List Rat}(h:∀q∈l,Qb 1800 q):∀s∈l.map aP,s.length<=100000:=fun s hs=>by
 obtain⟨q,hq,rfl⟩:=bF.1 hs
 have:=(Iw (h q hq) (aO _)).2
 omega
def Ywy{c:Nat}(M1:0<M.length)(kr:aR M c):ba (M.map fun r=>r.map aP)=c:=by obtain⟨r0,fv⟩:=bj M1;unfold ba;rw[eG,fv];show (r0.map aP).length=c;rw[cG,kr r0 (cF fv)]
def Zvi{x0:List Rat}{c:Nat}(IB:mX h N u M)(cH:Tx h N v x0)(hP:ik h N)(M1:0<M.length)(M6:M.length<=6)(c1:0<c)(c6:c<=6)(kr:aR M c)(qk:bz M 1800)(fK:∀q∈x0,Qb 1800 q)(A9:x0.length=M.length):Fn A.C 18 [u,v] h N (fun x h' n'=>NR 0 ((cn M c).map fun r=>e_ r x0) x h' n'):=by
 intro w;have m2:=Zm M6 c6 kr qk;have ID:=Ywy M1 kr;have CV:=Ge qk kr;obtain⟨m,em⟩:∃m,m=M.map fun r=>r.map aP:=⟨_,rfl⟩;obtain⟨l,el⟩:∃l,l=x0.map aP:=⟨_,rfl⟩;have l2:=Ytm fK;have fl:=Lr fK;have lm:m.length=M.length:=by rw[em,cG]
 have ll:l.length=x0.length:=by rw[el,cG]
 have hm:dq h N u m:=by rw[em];exact IB.Gd
 have hl:Sl h N v (strs l):=by rw[el];exact cH
 rw[<-em]at m2 ID CV;rw[<-el,A9,<-lm]at fl;rw[<-el]at l2;have m1:m.length<100000:=by omega
 have l1:l.length<100000:=by omega
 have o1:V.one u=true/\V.cells u=[u]:=by obtain⟨us,⟨_,rfl|rfl⟩|⟨i,o,cp,c,e,rw,rfl,_⟩,_⟩:=hm<;>exact⟨rfl,rfl⟩
 have o2:=hl.form.one;have o3:=hl.form.cells;obtain⟨o4,o5⟩:=o1;have hE:Yzn m l=0:=D6 fun e he=>by
  unfold S7 at he;simp only[iW,List.not_mem_nil,or_false]at he;rcases he with rfl|rfl|rfl|rfl
  ·rw[ak (by omega),ak (by omega)];rfl
  ·rw[ID,ak (by omega),ak (by omega)];rfl
  ·rw[ID];exact CV
  exact fl
 rw[aN,A.k18 (by simp)];unfold V.one at o2 o4;unfold V.cells at o3 o5;simp(disch:=first|(simp;done)|omega|rfl) [-getElem?_pos,A.b18,o2,o3,o4,o5,ag];generalize hH:((h.set N (.cells [u] 22 true)).set (N+1) (.cells [v] 23 true)).set (N+1+1) (.cells [.func 71 [] [.ptr N 0],.func 72 [] [.ptr N 0],.func 73 [] [.ptr N 0],.func 74 [] [.ptr (N+1) 0,.ptr N 0]] 99 true)=H;have kB:ab h N H (N+1+1+1):=by rw[<-hH];exact((ab.refl.new _).new _).new _
 have g0:H.get N=some (.cells [u] 22 true):=by rw[<-hH];simp
 have g1:H.get (N+1)=some (.cells [v] 23 true):=by rw[<-hH];simp
 have g2:H.get (N+1+1)=some (.cells [.func 71 [] [.ptr N 0],.func 72 [] [.ptr N 0],.func 73 [] [.ptr N 0],.func 74 [] [.ptr (N+1) 0,.ptr N 0]] 99 true):=by rw[<-hH];simp
 clear hH;have hs:Sl H (N+1+1+1) (.slice (N+1+1) 0 4 (some 4) 1) [.func 71 [] [.ptr N 0],.func 72 [] [.ptr N 0],.func 73 [] [.ptr N 0],.func 74 [] [.ptr (N+1) 0,.ptr N 0]]:=Sl.row (by omega) g2 rfl (fun k hk=>by simp at hk;omega);have key:=NV (l:=S7 m l) hs rfl (by simp[S7]) (Ykr (P:=fun f e=>∀h' n',ab H (N+1+1+1) h' n'->ij A.C f [] h' n' (fun u _ _=>u=.int .i64 e)) (fun h' n' hk=>Ys6 (l:=l) ((hk.get N (by omega)).trans g0) (by have:=hk.le;omega) ((hm.ad kB).ad hk) m1 m2) (fun hz h' n' hk=>Ys5 (l:=l) ((hk.get N (by omega)).trans g0) (by have:=hk.le;omega) ((hm.ad kB).ad hk) m1 m2 (Yij hz).1) (fun hz _ h' n' hk=>Ys4 (l:=l) ((hk.get N (by omega)).trans g0) (by have:=hk.le;omega) ((hm.ad kB).ad hk) m1 m2 (Yij hz).1) (fun _ _ _ h' n' hk=>Ys3 ((hk.get (N+1) (by omega)).trans g1) (by have:=hk.le;omega) ((hk.get N (by omega)).trans g0) (by have:=hk.le;omega) ((hm.ad kB).ad hk) m1 m2 ((hl.ad kB).ad hk) l1 l2));change Fn A.C 60 _ H _ (fun u _ _=>u=.int .i64 (Yzn m l))at key;refine av key ?_;rintro _ H2 n2 k2 rfl;have me:=k2.le;have g3:=(k2.get N (by omega)).trans g0;have kC:=kB.trans k2;have d1:N<n2:=by omega
 have d2:N+1<n2:=by omega
 simp(disch:=first|(simp;done)|omega|rfl) [-getElem?_pos,hE,bh,g3];refine av (CW (k0:=1800) (IB.ad kC) (by omega) (fun r hr=>⟨by rw[kr r hr];omega,qk r hr⟩) (by decide)) ?_;rintro y H3 n3 k3 hy;have wc:=k3.le;have g4:=(k3.get (N+1) (by omega)).trans ((k2.get (N+1) (by omega)).trans g1);have g5:=(k3.get N (by omega)).trans g3;have d3:N<n3:=by omega
 obtain⟨r0,fv⟩:=bj (l:=m) (k:=0) (by omega);have er0:r0.length=c:=by rw[em,eG]at fv;obtain⟨r1,h1,rfl⟩:=ks.1 fv;rw[cG,kr r1 (cF h1)]
 have mt:=(hm.ad kC).ad k3;have ml:=mt.len;obtain⟨i0,o0,Ir,e0,AU,u0,q1,q2,q3,q4,q5⟩:=mt.at fv;have q6:=q5.len;rw[m7,er0]at q6;rw[gE]at q4;have mp:0<m.length:=by omega
 have mp':0<(m.length:Int):=by omega
 simp(disch:=first|(simp;done)|omega|rfl) [-getElem?_pos,g5,ml,mp,mp',q1,q2,q3,q4,q6];refine av (Sp (n:=c) hy (by omega) kr (by omega)) ?_;rintro yt H3b n3b k3b Zn;have zbr:=k3b.le;have g6:=(k3b.get (N+1) (by omega)).trans g4;have d4:N+1<n3b:=by omega
 simp(disch:=first|(simp;done)|omega|rfl) [-getElem?_pos,g6];refine av (IE (l:=x0) (k0:=1800) (((Tx.ad cH kC).ad k3).ad k3b) (by omega) fK (by decide)) ?_;rintro z H4 n4 k4 hz;have CP:=k4.le;have hTr:=CH (c:=c) qk (by decide);simp(disch:=first|(simp;done)|omega|rfl) [-getElem?_pos,];refine av (Yo (n:=M.length) (j:=1800) (k:=1800) (Zn.DP.ad k4) hz.1 hTr (by omega) fK (by decide) (by decide) (by omega) (by simp[cn];omega)) ?_;rintro x H5 n5 k5 hx;have IF:=k5.le;simp(disch:=first|(simp;done)|omega|rfl) [-getElem?_pos,];have kD:=(((kC.trans k3).trans k3b).trans k4).trans k5;have hq:∀q∈(cn M c).map (fun r=>e_ r x0),Qb 21607 q:=fun q hq=>by obtain⟨r,hr,rfl⟩:=bF.1 hq;obtain⟨a1,a2⟩:=hTr r hr;exact Nt (n:=6) a2 fK (by decide) (by decide) (by omega)
 refine av (Yd9 (l:=(cn M c).map fun r=>e_ r x0) (k:=21607) hx.1 (hP.ad kD) (by simp[cn];omega) hq (by decide)) ?_;rintro a H6 S8 k6 ha;have kE:=kD.trans k6;rcases ha with⟨t1,rfl⟩|⟨t1,v2,rfl,t2⟩
 ·simp(disch:=first|(simp;done)|omega|rfl) [-getElem?_pos,ax];refine(vE (by simp[-ay,d1,d3,q2,d4,Yau,Zuo]<;>omega)).2 ?_;simp(disch:=first|(simp;done)|omega|rfl) [-getElem?_pos,ax];exact⟨kE,.inr ⟨rfl,.inl ⟨t1,rfl⟩⟩⟩
 simp(disch:=first|(simp;done)|omega|rfl) [-getElem?_pos,ax];refine(vE (by simp[-ay,d1,d3,q2,d4,Yau,Zuo]<;>omega)).2 ?_;simp(disch:=first|(simp;done)|omega|rfl) [-getElem?_pos,ax];exact⟨kE,.inr ⟨rfl,.inr ⟨t1,v2,rfl,t2⟩⟩⟩
def Yla{y:V}{m:List (List aD)}{l:List aD}{H0:List (List Rat)}(hm:dq h N u m)(hl:Sl h N v (strs l))(NX:mX h N y M)(hP:ik h N)(sm:nE 6 6 m=true)(sl:dJ 6 l=true)(hE1:zr m l=0)(M1:0<M.length)(M6:M.length<=6)(kr:aR M (ba m))(qk:bz M 1800)(fP:nZ (bC m) M (cv l)=some H0)(hH:bz H0 1800):Fn A.C 17 [u,v,y] h N (fun x h' n'=>∃z,x=.aV [z,.int .i64 0]/\mX h' n' z H0):=by
 intro W;obtain⟨m1,m2⟩:=Ls sm;obtain⟨l1,l2⟩:=Gg sl;obtain⟨hM,zl,hL⟩:=Ix hE1 sm sl;have n6:=hM.n6;have S9:=hM.le;have b2:=Zm M6 n6 kr qk;have CV:=Ge qk kr;obtain⟨b,eb⟩:∃b,b=M.map fun r=>r.map aP:=⟨_,rfl⟩;have lb:b.length=M.length:=by rw[eb,cG]
 have hb:dq h N y b:=by rw[eb];exact NX.Gd
 rw[<-eb]at b2 CV;have DZ:b.length<100000:=by omega
 have CX:q9 b (ba m)=0:=by unfold q9;rw[ak (by omega),ak (by omega)];exact CV
 have hE:Ed m l b=0:=D6 fun e he=>by
  simp only[iW,List.not_mem_nil,or_false]at he;rcases he with rfl|rfl
  ·exact hE1
  exact CX
 have o2:=hl.form.one;have o3:=hl.form.cells;obtain⟨o4,o5⟩:=hm.one;obtain⟨o6,o7⟩:=hb.one;rw[aN,A.k17 (by simp)];unfold V.one at o2 o4 o6;unfold V.cells at o3 o5 o7;simp(disch:=first|(simp;done)|omega|rfl) [-getElem?_pos,A.b17,o2,o3,o4,o5,o6,o7,ag];generalize hH:(((h.set N (.cells [u] 22 true)).set (N+1) (.cells [v] 23 true)).set (N+1+1) (.cells [y] 22 true)).set (N+1+1+1) (.cells [.func 67 [] [.ptr N 0,.ptr (N+1) 0],.func 68 [] [.ptr (N+1+1) 0,.ptr N 0]] 99 true)=H;have kB:ab h N H (N+1+1+1+1):=by rw[<-hH];exact(((ab.refl.new _).new _).new _).new _
 have g0:H.get N=some (.cells [u] 22 true):=by rw[<-hH];simp
 have g1:H.get (N+1)=some (.cells [v] 23 true):=by rw[<-hH];simp
 have g2:H.get (N+1+1)=some (.cells [y] 22 true):=by rw[<-hH];simp
 have g3:H.get (N+1+1+1)=some (.cells [.func 67 [] [.ptr N 0,.ptr (N+1) 0],.func 68 [] [.ptr (N+1+1) 0,.ptr N 0]] 99 true):=by rw[<-hH];simp
 clear hH;have hs:Sl H (N+1+1+1+1) (.slice (N+1+1+1) 0 2 (some 2) 1) [.func 67 [] [.ptr N 0,.ptr (N+1) 0],.func 68 [] [.ptr (N+1+1) 0,.ptr N 0]]:=Sl.row (by omega) g3 rfl (fun k hk=>by simp at hk;omega);have key:=NV (l:=[zr m l,q9 b (ba m)]) hs rfl (by simp) (Ta (P:=fun f e _=>∀h' n',ab H (N+1+1+1+1) h' n'->ij A.C f [] h' n' (fun u _ _=>u=.int .i64 e)) (fun h' n' hk=>Ygc ((hk.get N (by omega)).trans g0) (by have:=hk.le;omega) ((hk.get (N+1) (by omega)).trans g1) (by have:=hk.le;omega) ((hm.ad kB).ad hk) m1 m2 ((hl.ad kB).ad hk) l1 l2) (fun hz h' n' hk=>Ygb (l:=l) ((hk.get (N+1+1) (by omega)).trans g2) (by have:=hk.le;omega) ((hk.get N (by omega)).trans g0) (by have:=hk.le;omega) ((hm.ad kB).ad hk) m1 m2 ((hb.ad kB).ad hk) DZ b2 (Ix hz sm sl).1.pos));change Fn A.C 60 _ H _ (fun u _ _=>u=.int .i64 (Ed m l b))at key;refine av key ?_;rintro _ H2 n2 k2 rfl;have me:=k2.le;have c0:=(k2.get N (by omega)).trans g0;have kC:=kB.trans k2;have d1:N<n2:=by omega
 have IG:aR (bC m) (ba m):=hM.qb.1;have qM:bz (bC m) 100:=fun r hr=>(hM.rat r hr).2;simp(disch:=first|(simp;done)|omega|rfl) [-getElem?_pos,hE,bh,c0,d1];refine av (CW (k0:=100) ((hm.ad kC).rat fun r hr=>(hM.row r hr).2) (by simp[bC];omega) (fun r hr=>by obtain⟨a1,a2⟩:=hM.rat r hr;exact⟨by omega,a2⟩) (by decide)) ?_;rintro x3 H3 n3 k3 DW;have wc:=k3.le;have c1:=(k3.get (N+1) (by omega)).trans ((k2.get (N+1) (by omega)).trans g1);have d2:N+1<n3:=by omega
 simp(disch:=first|(simp;done)|omega|rfl) [-getElem?_pos,c1,d2];refine av (IE (l:=cv l) (k0:=100) (nF.sl ((hl.ad kC).ad k3) hL) (by simp[cv];omega) hL.qb (by decide)) ?_;rintro x4 H4 n4 k4 AT;have CP:=k4.le;have c2:=(k4.get (N+1+1) (by omega)).trans ((k3.get (N+1+1) (by omega)).trans ((k2.get (N+1+1) (by omega)).trans g2));have d3:N+1+1<n4:=by omega
 have kD:=(kC.trans k3).trans k4;simp(disch:=first|(simp;done)|omega|rfl) [-getElem?_pos,c2,d3];refine av (CW (k0:=1800) (NX.ad kD) (by omega) (fun r hr=>⟨by rw[kr r hr];omega,qk r hr⟩) (by decide)) ?_;rintro x5 H5 n5 k5 DX;have IF:=k5.le;have lM:(bC m).length=m.length:=vu;have lL:(cv l).length=(bC m).length:=by simp[cv,bC,zl]
 have yx:(bC m).length<=6:=by omega
 have na:0<(bC m).length:=by have:=hM.pos;omega
 have qM4:bz M 4864:=qk.mono (by decide);have mw:=@Zo (ba m) (bC m).length M.length n6 yx M6;have CY:=Zp (J:=4864) (K:=100) (L:=100) kr lL qM qM4 hL.qb na (by decide) (by decide) (by decide);obtain⟨s1,s2,s3⟩:=Tb lL CY (fun i hi=>j_ (K9 hi) mw) fP;simp(disch:=first|(simp;done)|omega|rfl) [-getElem?_pos,];refine av (YW (B:=qZ (Ee (ba m) (bC m).length M.length 4864 100 100)) (n:=ba m) (J:=4864) (K:=100) (L:=100) ((DW.ad k4).ad k5) (AT.ad k5) DX IG kr lL hM.n1 (by omega) na (by omega) M1 (by omega) qM qM4 hL.qb (by decide) (by decide) (by decide) (Yn1 n6 yx) (fun _=>YI) CY (fun i hi=>by have:=j_ (K9 (R:=Ee (ba m) (bC m).length M.length 4864 100 100) (Nat.le_of_lt hi)) mw;omega)) ?_;rintro x6 H6 S8 k6 A9;have kE:=(kD.trans k5).trans k6;rcases A9 with⟨a1,rfl⟩|⟨H1,z,a1,rfl,a2⟩
 ·rw[fP]at a1;cases a1
 rw[fP]at a1;obtain rfl:=mC a1;simp(disch:=first|(simp;done)|omega|rfl) [-getElem?_pos,cQ.cU];refine av (Tc (k:=1800) a2 (hP.ad kE) (by omega) (fun r hr=>by rw[s3 r hr];omega) hH (by decide)) ?_;rintro x7 H7 n7 k7 A8;have kF:=kE.trans k7;rcases A8 with⟨t1,rfl⟩|⟨t1,v2,rfl,t2⟩
 ·rw[Yit hH]at t1;cases t1
 simp(disch:=first|(simp;done)|omega|rfl) [-getElem?_pos,ax];exact⟨kF,t2⟩
def Yae{y:V}{m:List (List aD)}{l:List aD}(hm:dq h N u m)(hl:Sl h N v (strs l))(NX:mX h N y M)(sm:nE 6 6 m=true)(sl:dJ 6 l=true)(hE:zr m l=0)(hMl:M.length=ba m)(kr:aR M m.length)(qk:bz M 1800):Fn A.C 14 [u,v,y] h N (fun x _ _=>x=.int .i64 (if IH m l=M then 0 else 21)):=by
 intro W;obtain⟨m1,m2⟩:=Ls sm;obtain⟨l1,l2⟩:=Gg sl;obtain⟨hM,zl,hL⟩:=Ix hE sm sl;have mF:=Zb (uD hE (ra l m.length 1) (by simp));have n6:=hM.n6;have n1:=hM.n1;have S9:=hM.le;have m0:0<m.length:=hM.pos;have Ec:(0:Int)<(m.length:Int):=by omega
 have b2:=Zm (by omega) S9 kr qk;have CV:=Ge qk kr;obtain⟨b,eb⟩:∃b,b=M.map fun r=>r.map aP:=⟨_,rfl⟩;have lbM:b.length=M.length:=by rw[eb,cG]
 have hb:dq h N y b:=by rw[eb];exact NX.Gd
 have rb:∀r∈b,r.length=m.length:=fun r hr=>by rw[eb]at hr;obtain⟨s,hs,rfl⟩:=bF.1 hr;rw[cG,kr s hs]
 rw[<-eb]at b2 CV;have DZ:b.length<100000:=by omega
 have zb:b.length=ba m:=by omega
 have hZ:Yzi m b=0:=D6 fun e he=>by
  simp only[iW,List.not_mem_nil,or_false]at he;rcases he with rfl|rfl
  ·rw[ar zb]
  exact CV
 rw[aN,A.k14 (by simp)];simp(disch:=first|(simp;done)|omega|rfl) [-getElem?_pos,A.b14];refine av (Y0 hm hl m1 m2 l1 l2) ?_;rintro _ H2 n2 k2 rfl;have qM:bz (bC m) 100:=fun r hr=>(hM.rat r hr).2;have lM:(bC m).length=m.length:=vu;have lL:(cv l).length=(bC m).length:=by simp[cv,bC,zl]
 obtain⟨l0,cH⟩:=bj m0;obtain⟨i1,o1,c1,e1,w1,x,q1,q2,q3,q4,q5⟩:=(hm.ad k2).at cH;rw[gE]at q4;have lx:=q5.len;rw[m7]at lx;have en:l0.length=ba m:=by simp[ba,cH]
 rw[en]at lx;have lm:=(hm.ad k2).len;have lb:=(hb.ad k2).len;have eN:((b.length:Int)=(ba m:Int))=(b.length=ba m):=by apply propext;omega
 simp(disch:=first|(simp;done)|omega|rfl) [-getElem?_pos,hE,bh,lm,lb,m0,Ec,q1,q2,q3,q4,lx,CQ,eN];refine av (YZ (n:=m.length) (hb.ad k2) DZ b2) ?_;rintro _ H3 n3 k3 rfl;have j3:=k2.trans k3;have pf:=fun w=>Li (h:=H3) (N:=n3+1) (i:=n3) (w:=w) (a0:=if b.length=ba m then 0 else 2) (a1:=bp (b.map fun x=>dj x m.length)) (by omega);have hz:bp [(if b.length=ba m then (0:Int) else 2),bp (b.map fun x=>dj x m.length)]=Yzi m b:=rfl;rw[hz]at pf;have kD:∀e,ab H3 n3 (H3.set n3 (.cells [.int .i64 (if b.length=ba m then 0 else 2),.int .i64 (bp (b.map fun x=>dj x m.length))] e true)) (n3+1):=fun e=>ab.refl.new _;simp(disch:=first|(simp;done)|omega|rfl) [-getElem?_pos,ag,pf];have kD:=kD 33;generalize H3.set n3 (.cells [.int .i64 (if b.length=ba m then 0 else 2),.int .i64 (bp (b.map fun x=>dj x m.length))] 33 true)=G at*;have j4:=j3.trans kD;simp(disch:=first|(simp;done)|omega|rfl) [-getElem?_pos,hZ,bh];refine av (CW (k0:=100) ((hm.ad j4).rat fun r hr=>(hM.row r hr).2) (by omega) (fun r hr=>by obtain⟨a1,a2⟩:=hM.rat r hr;exact⟨by omega,a2⟩) (by decide)) ?_;rintro x5 H5 n5 k5 DX;simp(disch:=first|(simp;done)|omega|rfl) [-getElem?_pos,];refine av (IE (l:=cv l) (k0:=100) (nF.sl (hl.ad (j4.trans k5)) hL) (by omega) hL.qb (by decide)) ?_;rintro x6 H6 S8 k6 A9;simp(disch:=first|(simp;done)|omega|rfl) [-getElem?_pos,];refine av (Zyx (DX.ad k6) A9 hM.qb.1 lL n1 n6 (by omega) (by omega) qM hL.qb mF) ?_;rintro x7 H7 n7 k7 ⟨A8,g1,g2,g3⟩;have j7:=((j4.trans k5).trans k6).trans k7;have lx7:=A8.len;rw[g2]at lx7;obtain⟨row,az⟩:=bj (l:=fe (bC m) (cv l) (ba m)) (k:=0) (by omega);obtain⟨i8,o8,c8,e8,w8,x8,y1,y2,y3,y4,y5⟩:=DO A8 az;rw[gE]at y4;have l8:=y5.1.len;rw[g3 row (cF az),lM]at l8;obtain⟨b0,ki⟩:=bj (l:=b) (k:=0) (by omega);obtain⟨i9,o9,c9,e9,w9,x9,v1,v2,v3,v4,v5⟩:=(hb.ad j7).at ki;rw[gE]at v4;have l9:=v5.len;rw[m7,rb b0 (cF ki)]at l9;have lb7:=(hb.ad j7).len;rw[zb]at lb7;have kp:(0:Int)<(ba m:Int):=by omega
 simp(disch:=first|(simp;done)|omega|rfl) [-getElem?_pos,lx7,n1,kp,y1,y2,y3,y4,l8,lb7,v1,v2,v3,v4,l9,ag,wI,Lt,aQ,bh,Yhp];refine av (CW (k0:=1800) (NX.ad j7) (by omega) (fun r hr=>⟨by rw[kr r hr];omega,qk r hr⟩) (by decide)) ?_;rintro x8' H8 n8 k8 hx8;have le8:=k8.le;simp(disch:=first|(simp;done)|omega|rfl) [-getElem?_pos,];refine av (Yp8 (A8.ad k8) hx8 (g1.mono (by decide)) (qk.mono (by decide)) (aO 400000000) (by rw[g2];omega) (by omega) (fun r hr=>by rw[g3 r hr];omega) (fun r hr=>by rw[kr r hr];omega)) ?_;rintro _ H9 n9 k9 rfl;have le9:=k9.le;simp(disch:=first|(simp;done)|omega|rfl) [-getElem?_pos,];by_cases hq:fe (bC m) (cv l) (ba m)=M
 ·have uw:IH m l=M:=hq;simp(disch:=first|(simp;done)|omega|rfl) [-getElem?_pos,hq,uw,CQ,ax];exact(j7.trans k8).trans k9
 have uw:¬IH m l=M:=hq;simp(disch:=first|(simp;done)|omega|rfl) [-getElem?_pos,hq,uw,CQ,ax];exact(j7.trans k8).trans k9
def CU{h:T O}{N:Nat}{w:List Nat}(hP:ik h N):A.C.call (.func 10 [] []) [] ⟨h,N,w⟩=some (.bool true,⟨h,N,w⟩):=by exact A.known hP.2
def SY{x:List Rat}(h:∀q∈x,Qb 1800 q):∀s∈x.map aP,s.length<=100000:=fun s hs=>by
 obtain⟨q,hq,rfl⟩:=bF.1 hs
 have:=(Iw (h q hq) (aO _)).2
 omega
def NR.got{e:Int}{l:List Rat}{x:V}{h:T O}{n:Nat}(s:NR e l x h n)(he:e=0)(hq:∀q∈l,Qb 1800 q):∃v,x=.aV [v,.int .i64 0]/\Tx h n v l:=by
 rcases s with⟨t1,_⟩|⟨_,⟨t1,_⟩|⟨_,v,rfl,t⟩⟩
 ·exact absurd he t1
 ·rw[Yo2 hq]at t1;cases t1
 exact⟨v,rfl,t⟩
def Yfe{D:List (List Rat)}{w s:List Rat}{n:Nat}(hD:aR D n)(km:0<n)(hw:w.length=D.length)(hp:∀q∈w,0<q)(hs:s.length=D.length):∃x y:Nat->Rat,(∀j,j<n->((fe D w n).map fun r=>e_ r s)[j]?.getD 0=x j)/\(∀j,j<n->x j=sN (fun a=>al (bb D n) a j*y a) (bb D n).length)/\∀k,k<n->uC D w s x n k=0:=by
 by_cases h0:0<(bb D n).length
 ·exact Zyy hD km hw hp hs h0
 have h1:(bb D n).length=0:=by omega
 refine⟨fun _=>0,fun _=>0,fun j hj=>?_,fun j _=>by rw[h1];rfl,fun k hk=>?_⟩
 ·unfold fe;rw[ar h1];unfold zt;rw[List.map_map,eG,AK hj];exact Yso
 unfold uC;apply pj;intro i hi;have h2:=Ye3 hD hi hk;rw[p9 hD]at h1;rw[h1]at h2;rw[h2];show w[i]?.getD 0*(0*_)=0;rw[Rat.zero_mul,Rat.mul_zero]
def FV.II{h:T O}{n:Nat}{c:Int}{M:List (List Rat)}{v:V}(s:FV 0 M v c h n)(hM:bz M 1800):c=0/\mX h n v M:=by
 rcases s with⟨h0,_⟩|⟨_,⟨h0,_⟩|⟨_,rfl,h1⟩⟩
 ·exact absurd rfl h0
 ·rw[Yit hM]at h0;cases h0
 exact⟨rfl,h1⟩
def S6{M:List (List Rat)}{n:Nat}(h:bz M 1800)(hc:aR M n)(hn:n<=6):∀x∈M.map fun r=>r.map aP,x.length<100000/\∀s∈x,s.length<=100000:=fun x hx=>by
 obtain⟨r,hr,rfl⟩:=bF.1 hx
 exact⟨by rw[cG,hc r hr];omega,SY (h r hr)⟩
def Yel{G X H:List (List Rat)}{n c:Nat}(hG:aR G n)(hl:G.length=n)(hX:aR X c)(hx:X.length=n)(h0:0<n)(hs:uA G X n c=some H){v:Nat->Rat}(hv:ew G n v):∀i,i<n->v i=0:=by
 have hW:=zi hG hX (by omega);have I:=mE hW (n:=n+c);have hle:=(nR hW (n:=n+c)).2;rw[yh,hl]at hle;unfold uA at hs;split at hs
 ·cases hs
 rename_i hn;have hd:(aF (dp G X) (n+c)).2.1=n:=by omega
 have AN:(aF (dp G X) (n+c)).2.2[n-1]?.getD 0=n-1:=by omega
 have hr:=p9 (n:=n+c) hW;rw[hd]at hr;obtain rfl:=mC hs;have I2:ym (aF (dp G X) (n+c)).1 n (aF (dp G X) (n+c)).2.2 n:=by
  rw[hd]at I;refine⟨I.len,I.le,fun i hi=>?_,I.uy,I.one,I.lead,fun i k h1 h2 h3=>I.rest i k h1 h2 (by omega)⟩;by_cases e:i=n-1
  ·rw[e,AN];omega
  have:=I.uy i (n-1) (by omega) (by omega);omega
 have hp:∀i,i<n->(aF (dp G X) (n+c)).2.2[i]?.getD 0=i:=fun i hi=>Nn I2 hi;have qE:∀l,l∈(aF (dp G X) (n+c)).2.2↔l<n:=fun l=>by
  constructor
  ·intro hm;obtain⟨i,hi⟩:=nw hm;have vz:i<n:=by rw[<-I2.len];exact(wj.1 hi).1
   have:=hp i vz;rw[hi]at this;simp at this;omega
  intro aC;have:=hp l aC;rw[bV (by rw[I2.len];exact aC)]at this;simp only[g_]at this;rw[<-this];exact List.getElem_mem _
 intro i hi;obtain⟨V,hV⟩:∃V:Nat->Rat,∀l,V l=if l<n then v l else 0:=⟨_,fun _=>rfl⟩
 have hk:ew (dp G X) (n+c) V:=by intro a ha;rw[yh]at ha;rw[Ih,bg (n:=n) (g:=fun l=>al G a l*v l) fun l jj=>by rw[Yz hG ha,ar jj,hV,ar jj],hv a ha,pj (n:=c) fun l _=>by rw[hV,ak (by omega),Rat.mul_zero]];exact Rat.add_zero 0
 have h1:=(zY hW).2 hk i (by rw[hr];exact hi);rw[Nl hW (by rw[hd];exact hi),hp i hi,hV,ar hi,pj]at h1
 ·rw[Rat.add_zero]at h1;exact h1
 intro l _;split
 ·rfl
 rename_i hm;rw[hV,ak (fun h=>hm ((qE l).2 h)),Rat.mul_zero]
def Ylf{D M H:List (List Rat)}{w c:List Rat}{n:Nat}(hD:aR D n)(hM:aR M n)(hw:w.length=D.length)(h0:0<M.length)(hc:c.length=M.length)(hs:nZ D M w=some H):(H.map fun r=>e_ r (D.map fun r=>e_ r ((cn M n).map fun r=>e_ r c)))=c:=by
 unfold nZ at hs;have AW:(cn (du D M) M.length).length=M.length:=kh;have CS:(iz D M w).length=M.length:=by unfold iz;rw[cG,AW]
 have NK:aR (cn (du D M) M.length) D.length:=by have:=@AL (du D M) M.length;rwa [show (du D M).length=D.length from cG ..]at this
 have Is:aR (iz D M w) D.length:=fun r hr=>by unfold iz at hr;obtain⟨t,ht,rfl⟩:=bF.1 hr;rw[show (yk t w).length=w.length by simp[yk],hw]
 have Ga:(gH D M w).length=M.length:=by unfold gH du;rw[cG,CS]
 have It:aR (gH D M w) M.length:=fun r hr=>by unfold gH at hr;rw[<-AW];exact SM r hr
 obtain⟨m1,m2,m3⟩:=Sv It Ga Is CS h0 hs;have fT:∀a i,a<M.length->i<D.length->al (cn (du D M) M.length) a i=sN (fun l=>al M a l*al D i l) n:=fun a i ha hi=>by rw[yi ha (by unfold du;rw[cG];exact hi),AJ hi ha hM]
 have fR:∀a i,a<M.length->i<D.length->al (iz D M w) a i=al (cn (du D M) M.length) a i*w[i]?.getD 0:=fun a i ha hi=>Sq (by rw[AW];exact ha) (by omega);have fG:∀a b,a<M.length->b<M.length->al (gH D M w) a b=sN (fun i=>al (cn (du D M) M.length) b i*(al (cn (du D M) M.length) a i*w[i]?.getD 0)) D.length:=fun a b ha hb=>by unfold gH;rw[AJ (by omega) (by omega) NK];exact bg fun i hi=>by rw[fR a i ha hi]
 obtain⟨T,hT⟩:∃T:Nat->Nat->Rat,∀a i,T a i=al (cn (du D M) M.length) a i:=⟨_,fun _ _=>rfl⟩;obtain⟨S,hS⟩:∃S,(D.map fun r=>e_ r ((cn M n).map fun r=>e_ r c))=S:=⟨_,rfl⟩;have fS:∀i,i<D.length->S[i]?.getD 0=sN (fun a=>T a i*c[a]?.getD 0) M.length:=fun i hi=>by rw[<-hS,F3 hD hi,bg (g:=fun l=>al D i l*sN (fun a=>al M a l*c[a]?.getD 0) M.length) fun l hl=>by rw[Zyn hl],AV];apply bg;intro a ha;rw[hT,fT a i ha hi,<-CR];exact bg fun l _=>by grind
 rw[hS];have hk:ew (gH D M w) M.length fun b=>sN (fun i=>al H b i*S[i]?.getD 0) D.length-c[b]?.getD 0:=by
  intro a ha;rw[Ga]at ha;have e1:sN (fun b=>al (gH D M w) a b*sN (fun i=>al H b i*S[i]?.getD 0) D.length) M.length=sN (fun i=>T a i*w[i]?.getD 0*S[i]?.getD 0) D.length:=by rw[AV];apply bg;intro i hi;rw[hT,<-fR a i ha hi,<-m3 a i ha hi,<-CR];exact bg fun b _=>by grind
  have e2:sN (fun b=>al (gH D M w) a b*c[b]?.getD 0) M.length=sN (fun i=>T a i*w[i]?.getD 0*S[i]?.getD 0) D.length:=by rw[bg (g:=fun b=>c[b]?.getD 0*sN (fun i=>T b i*(T a i*w[i]?.getD 0)) D.length) fun b hb=>by rw[fG a b ha hb,Rat.mul_comm];congr 1;exact bg fun i _=>by rw[hT,hT],AV];apply bg;intro i hi;rw[fS i hi,<-fM];exact bg fun b _=>by grind
  rw[bg (g:=fun b=>al (gH D M w) a b*sN (fun i=>al H b i*S[i]?.getD 0) D.length-al (gH D M w) a b*c[b]?.getD 0) fun b _=>by grind,K6,e1,e2];grind
 have hz:=Yel It Ga Is CS h0 hs hk;refine K3 (by rw[cG,m1,hc]) fun b hb=>?_;rw[cG,m1]at hb;have h1:=hz b hb;rw[F3 m2 (by omega)];grind
def Yrk{D H:List (List Rat)}{w s:List Rat}{n:Nat}(hD:aR D n)(hw:w.length=D.length)(hp:∀q∈w,0<q)(h0:0<(bb D n).length)(hs:nZ D (bb D n) w=some H)(hl:H.length=(bb D n).length)(hc:aR H D.length):((cn (bb D n) n).map fun r=>e_ r (H.map fun r=>e_ r s))=(fe D w n).map fun r=>e_ r s:=by
 have NM:(cn (bb D n) n).length=n:=kh;have NL:(cn H D.length).length=D.length:=kh;have yr:aR (cn H D.length) (bb D n).length:=by have:=@AL H D.length;rwa [hl]at this
 refine K3 (by rw[cG,cG,NM,Gb]) fun j hj=>?_;rw[cG,NM]at hj;rw[Zyn hj,F3 NO (by rw[Gb];exact hj),bg (g:=fun a=>al (bb D n) a j*sN (fun i=>al H a i*s[i]?.getD 0) D.length) fun a ha=>by rw[F3 hc (by omega)],AV];apply bg;intro i hi;unfold fe;rw[ak (by omega),hs,g_,AJ (by omega) (by omega) yr,<-CR];apply bg;intro b hb;rw[yi hi (by omega),yi hj hb];grind
end Go.Mx
