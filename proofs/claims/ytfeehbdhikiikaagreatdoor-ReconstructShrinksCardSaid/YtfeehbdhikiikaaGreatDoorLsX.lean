/-Noise, Apply-/
import Derived.Test.YtfeehbdhikiikaaGreatDoorLsV
set_option linter.all false
set_option maxHeartbeats 16000000
namespace Go.Mx
open Go Go.Proofs
variable{M:List (List Rat)}{O1 X l0 o r:List Rat}{N' i j k k0 z:Nat}{H h':T O}{v' x:V}
variable {A' B' C' l:List Rat} {N n:Nat} {a b u v:V} {h:T O}
set_option maxRecDepth 1000000
def YL(N:Nat)(l:List Rat)(x:V)(h:T O)(n:Nat):Prop:=uE l=true\/∃v,x=.aU [v,.int .i64 0]/\Tx h n v l/\∀i∈bI v,N<=i
def YL.got(s:YL N l x h n)(hq:∀q∈l,Qb 1800 q):∃v,x=.aU [v,.int .i64 0]/\Tx h n v l/\∀i∈bI v,N<=i:=by
 rcases s with t1|t
 ·rw[YM hq]at t1;cases t1
 exact t
def Ye5(hs:iM h N v l)(hP:iT h N)(hl:l.length<1000000000)(hq:∀q∈l,Qb k0 q)(pG:k0<=400000000):Fn A.C 153 [v] h N (fun u h' n'=>Sl h' n' u (tx l)/\∀i∈bI u,N<=i/\∃z w,h'.get i=some (.cells z 26 w)):=by
 intro w;have hlen:=hs.len;have c1:(16:Int)*(l.length:Int)<=140737488355328:=by omega
 have c2:(l.length:Int)<4611686018427387904:=by omega
 have kB:ab h N (h.set N (.cells (du [.str []] l.length) 26 true)) (N+1):=ab.refl.new _;rw[aP,A.k153 (by simp)];simp(disch:=first|(simp;done)|omega|rfl) [-getElem?_pos,A.b153,hlen,c1,c2];refine cB [(4,5),(11,21)] (fun e r st=>e=.exit 0/\S5 h N l 0 r st) (S5 h N l) l.length ?_ ?_ ?_
 ·exact⟨by simp,kB,0,by omega,by simp,by simp,by show N<N+1;omega,by rw[T.ag,av rfl,S6];simp[tx,strs]⟩
 ·rintro m r ⟨H,n1,W⟩ hr hf ⟨hW,hK,k,hk,fl,h3,lE,hM⟩;simp only at hW hK hM lE;rw[bG];cases m with
  |zero=>
   obtain rfl:k=l.length:=by omega
   simp(disch:=first|(simp;done)|omega|rfl) [-getElem?_pos,A.lF,hr,hf,fl];exact⟨hW,hK,l.length,by omega,by simp[fl],by simp[h3],lE,hM⟩
  |succ m=>
   have aD:k<l.length:=by omega
   have bV:(k:Int)<(l.length:Int):=by omega
   obtain⟨q,Bh⟩:=bs aD;have j_:=hq q (cP Bh);obtain⟨i,o,x,e,rw,c,q1,q2,q3,q4,q5⟩:=(hs.ad hK).at Bh;obtain⟨jl,u1,jS,u2,rfl,s1,s2⟩:=q5;have o1:=eh s1;have o2:=eh s2;unfold V.one at o1 o2;have la:=D5 j_.1;have Lq:=D5 j_.2;have iy:=hK.le;have e4:ae [.int .i64 0,.aa,.int .i64 0,.aa] 0 [.int .i64 jl,u1,.int .i64 jS,u2]=[.int .i64 jl,u1,.int .i64 jS,u2]:=rfl;have e5:aO [.int .i64 jl,u1,.int .i64 jS,u2] 0 4=some [.int .i64 jl,u1,.int .i64 jS,u2]:=rfl;have kA:ab H n1 ((H.set n1 (.cells [.int .i64 0,.aa,.int .i64 0,.aa] 101 true)).set n1 (.cells [.int .i64 jl,u1,.int .i64 jS,u2] 101 true)) (n1+1):=(ab.refl.new _).set (aN _);simp(disch:=first|(simp;done)|omega|rfl) [-getElem?_pos,A.lF,hr,hf,fl,h3,aD,bV,hlen,q1,q3,q4,aS,bM,o1,o2,e4,e5];refine au (YN (q:=q) (Fc.ad ⟨jl,u1,jS,u2,rfl,s1,s2⟩ kA) ((hP.ad hK).ad kA) (by omega) (by omega)) ?_;rintro _ H2 n2 k2 rfl;have lf:=k2.le;have rz:=(k2.get N (by omega)).trans ((kA.get N lE).trans hM);have hb:k+1<=(tx (l.take k)++List.replicate (m+1) (V.str [])).length:=by rw[iU,CY,List.length_replicate,iV];omega
   have iw:ae (tx (l.take k)++List.replicate (m+1) (V.str [])) k [.str (aI q)]=tx (l.take (k+1))++List.replicate m (V.str []):=by
    have e1:(tx (l.take k)++List.replicate (m+1) (V.str []))=tx (l.take k)++([V.str []]++List.replicate m (V.str [])):=by rw[NM];rfl
    rw[e1,NN (n:=1) (by rw[CY,iV];omega) rfl rfl,Bi,Bh];simp[tx,strs]
   generalize tx (l.take k)++List.replicate (m+1) (V.str [])=X at*;obtain⟨Y,hY⟩:∃Y,tx (l.take (k+1))++List.replicate m (V.str [])=Y:=⟨_,rfl⟩;rw[hY]at iw;simp(disch:=first|(simp;done)|omega|rfl) [-getElem?_pos,hr,hf,fl,h3,aD,bV,rz,bM,hb,iw];refine⟨m,by omega,⟨by simp[az,hW];omega,((hK.trans kA).trans k2).set (aN N),k+1,by omega,by simp,by simp[h3],by show N<n2;omega,by show T.get _ N=_;rw[T.ag,av rfl,hY]⟩⟩
 rintro _ r ⟨H,n1,W⟩ hr ⟨rfl,hW,hK,k,hk,fl,h3,lE,hM⟩;simp only at hW hK hM lE;obtain rfl:k=l.length:=by omega
 rw[Ay]at hM;simp only[List.replicate_zero,zO]at hM;simp(disch:=first|(simp;done)|omega|rfl) [-getElem?_pos,hr,h3,ay,hW,hK];exact⟨Sl.row lE hM (CY l) (fun k hk=>by simp at hk;omega),fun i hi=>by simp[bI]at hi;subst hi;exact⟨aN _,_,.inr hM⟩⟩
def Yj8(hu:iM h N u l)(hP:iT h N)(hl:l.length<1000000000)(hq:∀q∈l,Qb k q)(hk:k<=400000000):Fn A.C 71 [u] h N (fun x h' n'=>(uE l=true/\x=.aU [.aa,.int .i64 4])\/(uE l=false/\∃v,x=.aU [v,.int .i64 0]/\(Tx h' n' v l/\∀i∈bI v,N<=i))):=by
 intro w;obtain⟨cs,s1,s2,s3⟩:=id hu;have key:=Yba (f:=.func 80 [] []) cs (fun j=>vV (l[j]?.getD 0)) s1 (by omega) (fun j x hx h' n' gW=>by
  obtain⟨q,Iv⟩:=bs (l:=l) (k:=j) (by have:=fv hx;omega)
  obtain⟨c,g1,g2⟩:=s3 j q Iv
  rw[hx]at g1
  obtain rfl:x=c:=by simpa using g1
  simp only[Iv,iL]
  exact YO (g2.ad gW).fc (hP.ad gW) (hq q (cP Iv)) (by omega));rw[s2,Zrx]at key;rw[aP,A.k71 (by simp)];simp(disch:=first|(simp;done)|omega|rfl) [-getElem?_pos,A.b71];refine au key ?_;rintro _ h2 n2 k2 rfl;cases hb:uE l with
 |true=> simp(disch:=first|(simp;done)|omega|rfl) [-getElem?_pos,ay];exact k2
 |false=> simp(disch:=first|(simp;done)|omega|rfl) [-getElem?_pos];refine au (Ye5 (k0:=k) (hu.ad k2) (hP.ad k2) hl hq hk) ?_;rintro v h3 n3 k3 t1;simp(disch:=first|(simp;done)|omega|rfl) [-getElem?_pos,ay];exact⟨k2.trans k3,t1.1,fun i hi=>by have:=(t1.2 i hi).1;have:=k2.le;omega⟩
def Yeh{x0:List Rat}{c:Nat}(NO:uF h N u M)(dk:Tx h N v x0)(hP:iT h N)(M1:0<M.length)(M6:M.length<=6)(c1:0<c)(c6:c<=6)(vW:aW M c)(yF:bR M 1800)(jP:∀q∈x0,Qb 1800 q)(Iw:x0.length=c):Fn A.C 16 [u,v] h N (fun x h' n'=>YL N (M.map fun r=>ed r x0) x h' n'):=by
 intro w;obtain⟨l,el⟩:∃l,l=x0.map aI:=⟨_,rfl⟩;have YP:bj l=x0:=by rw[el];exact S7
 have hl:Sl h N v (strs l):=by rw[el];exact dk
 have l1:l.length<100000:=by rw[el,dL];omega
 have l2:∀s∈l,s.length<=100000:=fun s hs=>by rw[el]at hs;obtain⟨q,hq,rfl⟩:=bO.1 hs;have:=(wO (jP q hq) (aN _)).2;omega
 have j_:∀q∈bj l,Qb 1800 q:=by rw[YP];exact jP
 have hlen:(bj l).length=l.length:=by simp[bj]
 obtain⟨m,em⟩:∃m,m=M.map fun r=>r.map aI:=⟨_,rfl⟩;have hm:fE h N u m:=by rw[em];exact NO.YQ
 have lm:m.length=M.length:=by rw[em,dL]
 have m1:m.length<100000:=by omega
 have m2:∀x∈m,x.length<100000/\∀s∈x,s.length<=100000:=fun x hx=>by rw[em]at hx;obtain⟨r,hr,rfl⟩:=bO.1 hx;refine⟨by rw[dL,vW r hr];omega,fun s hs=>?_⟩;obtain⟨q,hq,rfl⟩:=bO.1 hs;have:=(wO (yF r hr q hq) (aN _)).2;omega
 have Lr:bg m=c:=by obtain⟨r0,gI⟩:=bs M1;unfold bg;rw[em,eH,gI];show (r0.map aI).length=c;rw[dL,vW r0 (cP gI)]
 have NP:gX m 64 64=0:=by unfold gX;rw[ak (by omega),ak (by omega),Lr,em];exact YR yF vW
 have cy:dM l (bg m)=0:=by rw[Lr,el,<-Iw];exact S8 jP
 have hE:YT m l=0:=by
  unfold YT;apply CZ;intro e he;simp only[iP,List.not_mem_nil,or_false]at he;rcases he with rfl|rfl
  ·exact NP
  exact cy
 have mp:0<m.length:=by omega
 have o1:V.one u=true/\V.cells u=[u]:=by obtain⟨us,⟨_,rfl|rfl⟩|⟨i,o,cp,c,e,rw,rfl,_⟩,_⟩:=hm<;>exact⟨rfl,rfl⟩
 have o2:=hl.form.one;have o3:=hl.form.cells;obtain⟨o4,o5⟩:=o1;rw[aP,A.k16 (by simp)];unfold V.one at o2 o4;unfold V.cells at o3 o5;simp(disch:=first|(simp;done)|omega|rfl) [-getElem?_pos,A.b16,o2,o3,o4,o5,ae];generalize hH:((h.set N (.cells [u] 22 true)).set (N+1) (.cells [v] 23 true)).set (N+1+1) (.cells [.func 67 [] [.ptr N 0],.func 69 [] [.ptr (N+1) 0,.ptr N 0]] 93 true)=H;have kB:ab h N H (N+1+1+1):=by rw[<-hH];exact((ab.refl.new _).new _).new _
 have g0:H.get N=some (.cells [u] 22 true):=by rw[<-hH];simp
 have g1:H.get (N+1)=some (.cells [v] 23 true):=by rw[<-hH];simp
 have g2:H.get (N+1+1)=some (.cells [.func 67 [] [.ptr N 0],.func 69 [] [.ptr (N+1) 0,.ptr N 0]] 93 true):=by rw[<-hH];simp
 clear hH;have hs:Sl H (N+1+1+1) (.slice (N+1+1) 0 2 (some 2) 1) [.func 67 [] [.ptr N 0],.func 69 [] [.ptr (N+1) 0,.ptr N 0]]:=Sl.row (by omega) g2 rfl (fun k hk=>by simp at hk;omega);have key:=NQ (l:=[gX m 64 64,dM l (bg m)]) hs rfl (by simp) (YU (P:=fun f e _=>∀h' n',ab H (N+1+1+1) h' n'->fW A.C f [] h' n' (fun u _ _=>u=.int .i64 e)) (fun h' n' hk=>Yuq (l:=l) ((hk.get N (by omega)).trans g0) (by have:=hk.le;omega) ((hm.ad kB).ad hk) m1 m2) (fun hz h' n' hk=>Yup ((hk.get (N+1) (by omega)).trans g1) (by have:=hk.le;omega) ((hk.get N (by omega)).trans g0) (by have:=hk.le;omega) ((hm.ad kB).ad hk) m1 m2 ((hl.ad kB).ad hk) l1 l2 mp));change Fn A.C 58 _ H _ (fun u _ _=>u=.int .i64 (YT m l))at key;refine au key ?_;rintro _ H2 n2 k2 rfl;have lf:=k2.le;rw[hE];have z3:=NR cy;rw[Lr]at z3;have g3:=(k2.get N (by omega)).trans g0;have kC:=kB.trans k2;have d1:N<n2:=by omega
 have d2:N+1<n2:=by omega
 simp(disch:=first|(simp;done)|omega|rfl) [-getElem?_pos,hE,bz,g3];refine au (NS (m:=M) (k0:=1800) (NO.ad kC) (by omega) (fun r hr=>⟨by rw[vW r hr];omega,yF r hr⟩) (by decide)) ?_;rintro y H3 n3 k3 hy;have yG:=k3.le;have g4:=(k3.get (N+1) (by omega)).trans ((k2.get (N+1) (by omega)).trans g1);have d3:N+1<n3:=by omega
 simp(disch:=first|(simp;done)|omega|rfl) [-getElem?_pos,g4];refine au (F4 (l:=bj l) (k0:=1800) (by rw[YP];exact((Tx.ad dk kC).ad k3)) (by omega) j_ (by decide)) ?_;rintro z H4 n4 k4 hz;have Bj:=k4.le;simp(disch:=first|(simp;done)|omega|rfl) [-getElem?_pos];refine au (YV (n:=c) (j:=1800) (k:=1800) (hy.ad k4) hz.1 (fun r hr=>⟨vW r hr,yF r hr⟩) (by omega) j_ (by decide) (by decide) (by omega) (by omega)) ?_;rintro x H5 n5 k5 hx;have Ix:=k5.le;simp(disch:=first|(simp;done)|omega|rfl) [-getElem?_pos];have kD:=((kC.trans k3).trans k4).trans k5;rw[YP]at hx;have hq:∀q∈M.map (fun r=>ed r x0),Qb 21607 q:=fun q hq=>by obtain⟨r,hr,rfl⟩:=bO.1 hq;exact D6 (n:=6) (yF r hr) jP (by decide) (by decide) (by rw[vW r hr];exact c6)
 refine au (Yj8 (l:=M.map fun r=>ed r x0) (k:=21607) hx.1 (hP.ad kD) (by rw[dL];omega) hq (by decide)) ?_;rintro a H6 NT k6 ha;have kE:=kD.trans k6;rcases ha with⟨t1,rfl⟩|⟨t1,v2,rfl,t2⟩
 ·simp(disch:=first|(simp;done)|omega|rfl) [-getElem?_pos,ay];refine(wP (by simp[-az,d1,d3,Ybr,Zu3]<;>omega)).2 ?_;simp(disch:=first|(simp;done)|omega|rfl) [-getElem?_pos,ay];exact⟨kE,.inl t1⟩
 simp(disch:=first|(simp;done)|omega|rfl) [-getElem?_pos,ay];refine(wP (by simp[-az,d1,d3,Ybr,Zu3]<;>omega)).2 ?_;simp(disch:=first|(simp;done)|omega|rfl) [-getElem?_pos,ay];exact⟨kE,.inr ⟨v2,rfl,t2.1,fun i hi=>by have:=t2.2 i hi;have:=kD.le;omega⟩⟩
def Ynn{q:Rat}(hq:Qb 1800 q)(h0:0<=q):jm 0 (aI q)=0:=by
 unfold jm;have e:aR (aI q)=0:=by rw[NU,(wO hq (aN _)).1];rfl
 have h1:0<=q.num:=Rat.num_nonneg.2 h0;rw[av e,S9,ak];unfold dB;split
 ·omega
 split<;>omega
def Zz7{c:Nat}(NO:uF h N u M)(dk:Tx h N v l0)(hP:iT h N)(M1:0<M.length)(M6:M.length<=6)(c1:0<c)(c6:c<=6)(vW:aW M c)(yF:bR M 1800)(ql:∀q∈l0,Qb 100 q)(pl:∀q∈l0,0<=q)(ll:l0.length=c):Fn A.C 18 [u,v] h N (fun x h' n'=>YW 0 (M.map fun r=>ed (iG r l0) r) x h' n'):=by
 intro w;have ql8:∀q∈l0,Qb 1800 q:=fun q hq=>(ql q hq).mono (by decide);have m2:=Yug M6 c6 vW yF;have Lr:=Yx3 M1 vW;have Ta:=YR yF vW;obtain⟨m,em⟩:∃m,m=M.map fun r=>r.map aI:=⟨_,rfl⟩;obtain⟨l,el⟩:∃l,l=l0.map aI:=⟨_,rfl⟩;have l2:=Yuh ql8;have lm:m.length=M.length:=by rw[em,dL]
 have lle:l.length=l0.length:=by rw[el,dL]
 have hm:fE h N u m:=by rw[em];exact NO.YQ
 have hl:Sl h N v (strs l):=by rw[el];exact dk
 rw[<-em]at m2 Lr Ta;rw[<-el]at l2;have m1:m.length<100000:=by omega
 have l1:l.length<100000:=by omega
 have hE:Xas m l=0:=CZ fun e he=>by
  simp only[iP,List.not_mem_nil,or_false]at he;rcases he with rfl|rfl|rfl
  ·unfold gX;rw[ak (by omega),ak (by omega),Lr];exact Ta
  ·rw[av (by omega)]
  refine CZ fun e he=>?_;rw[el,List.map_map]at he;obtain⟨q,hq,rfl⟩:=bO.1 he;exact Ynn (ql8 q hq) (pl q hq)
 have o1:V.one u=true/\V.cells u=[u]:=by obtain⟨us,⟨_,rfl|rfl⟩|⟨i,o,cp,c,e,rw,rfl,_⟩,_⟩:=hm<;>exact⟨rfl,rfl⟩
 have o2:=hl.form.one;have o3:=hl.form.cells;obtain⟨o4,o5⟩:=o1;rw[aP,A.k18 (by simp)];unfold V.one at o2 o4;unfold V.cells at o3 o5;simp(disch:=first|(simp;done)|omega|rfl) [-getElem?_pos,A.b18,o2,o3,o4,o5,ae];generalize hH:((h.set N (.cells [u] 22 true)).set (N+1) (.cells [v] 23 true)).set (N+1+1) (.cells [.func 82 [] [.ptr N 0],.func 83 [] [.ptr (N+1) 0,.ptr N 0],.func 85 [] [.ptr (N+1) 0]] 93 true)=H;have kB:ab h N H (N+1+1+1):=by rw[<-hH];exact((ab.refl.new _).new _).new _
 have g0:H.get N=some (.cells [u] 22 true):=by rw[<-hH];simp
 have g1:H.get (N+1)=some (.cells [v] 23 true):=by rw[<-hH];simp
 have g2:H.get (N+1+1)=some (.cells [.func 82 [] [.ptr N 0],.func 83 [] [.ptr (N+1) 0,.ptr N 0],.func 85 [] [.ptr (N+1) 0]] 93 true):=by rw[<-hH];simp
 clear hH;have hs:Sl H (N+1+1+1) (.slice (N+1+1) 0 3 (some 3) 1) [.func 82 [] [.ptr N 0],.func 83 [] [.ptr (N+1) 0,.ptr N 0],.func 85 [] [.ptr (N+1) 0]]:=Sl.row (by omega) g2 rfl (fun k hk=>by simp at hk;omega);have key:=NQ (l:=[gX m 64 64,if l.length=bg m then 0 else 2,cM (l.map (jm 0))]) hs rfl (by simp) (Zz3 (P:=fun f e=>∀h' n',ab H (N+1+1+1) h' n'->fW A.C f [] h' n' (fun u _ _=>u=.int .i64 e)) (fun h' n' hk=>Yrt (l:=l) ((hk.get N (by omega)).trans g0) (by have:=hk.le;omega) ((hm.ad kB).ad hk) m1 m2) (fun hz h' n' hk=>Yrs ((hk.get (N+1) (by omega)).trans g1) (by have:=hk.le;omega) ((hk.get N (by omega)).trans g0) (by have:=hk.le;omega) ((hm.ad kB).ad hk) m1 m2 ((hl.ad kB).ad hk) l1 l2 (by omega)) (fun _ _ h' n' hk=>Yrr (m:=m) ((hk.get (N+1) (by omega)).trans g1) (by have:=hk.le;omega) ((hl.ad kB).ad hk) l1 l2));change Fn A.C 58 _ H _ (fun u _ _=>u=.int .i64 (Xas m l))at key;refine au key ?_;rintro _ H2 n2 k2 rfl;have lf:=k2.le;have g3:=(k2.get (N+1) (by omega)).trans g1;have kC:=kB.trans k2;simp(disch:=first|(simp;done)|omega|rfl) [-getElem?_pos,hE,bz,g3];refine au (F4 (l:=l0) (k0:=100) (dk.ad kC) (by omega) ql (by decide)) ?_;rintro z H3 n3 k3 hz;have yG:=k3.le;obtain⟨y1,y2,_⟩:=hz.1.form;have y3:=y1;have y4:=y2;unfold V.one at y3;unfold V.cells at y4;have g4:=(k3.get N (by omega)).trans ((k2.get N (by omega)).trans g0);have d1:¬N=n3:=by omega
 have e4:ae [V.aa] 0 [z]=[z]:=rfl;simp(disch:=first|(simp;done)|omega|rfl) [-getElem?_pos,bM,y3,y4,e4,g4,d1];generalize hG:(H3.set n3 (.cells [.aa] 90 true)).set n3 (.cells [z] 90 true)=G;have kG:ab H3 n3 G (n3+1):=by rw[<-hG];exact(ab.refl.new _).set (aN _)
 have gz:G.get n3=some (.cells [z] 90 true):=by rw[<-hG];simp
 clear hG;have kD:=(kC.trans k3).trans kG;refine au (NS (k0:=1800) (NO.ad kD) (by omega) (fun r hr=>⟨by rw[vW r hr];omega,yF r hr⟩) (by decide)) ?_;rintro y H4 n4 k4 hy;have Bj:=k4.le;simp(disch:=first|(simp;done)|omega|rfl) [-getElem?_pos];have zP:=(k4.get n3 (by omega)).trans gz;refine au (YX (fun r=>ed (iG r l0) r) hy (by omega) fun r hr x h' n' hk hx=>?_) ?_
 ·have wL:=vW r hr;exact Yrq (j:=1800) (k:=100) ((hk.get n3 (by omega)).trans zP) (by have:=hk.le;omega) hx.1 (((hz.1.ad kG).ad k4).ad hk) (by omega) (yF r hr) ql (by decide) (by decide) (by rw[wL];have:=kg (2*1800+100+1) c6;omega)
 rintro x H5 n5 k5 hx;have Ix:=k5.le;simp(disch:=first|(simp;done)|omega|rfl) [-getElem?_pos];have kE:=(kD.trans k4).trans k5;have hq:∀q∈M.map (fun r=>ed (iG r l0) r),Qb 22207 q:=fun q hq=>by
  obtain⟨r,hr,rfl⟩:=bO.1 hq;have ew:(iG r l0).length=c:=by simp[iG,ll]
  exact D6 (n:=6) (j:=1900) (k:=1800) (Lj (n:=l0.length) (yF r hr) ql (by decide) (by decide)) (yF r hr) (by decide) (by decide) (by omega)
 refine au (Yp6 (l:=M.map fun r=>ed (iG r l0) r) (k:=22207) hx.1 (hP.ad kE) (by rw[dL];omega) hq (by decide)) ?_;rintro a H6 NT k6 ha;have kF:=kE.trans k6;rcases ha with⟨t1,rfl⟩|⟨t1,v2,rfl,t2⟩
 ·simp(disch:=first|(simp;done)|omega|rfl) [-getElem?_pos,ay];exact⟨by omega,kF,.inr ⟨rfl,.inl ⟨t1,rfl⟩⟩⟩
 simp(disch:=first|(simp;done)|omega|rfl) [-getElem?_pos,ay];exact⟨by omega,kF,.inr ⟨rfl,.inr ⟨t1,v2,rfl,t2⟩⟩⟩
def Yri{N0:Nat}{l:List (List V)}{x:List V}{w:List Nat}{aB:St}(s:Own 1 26 N0 h n v l)(hu:fO ⟨h,n,w⟩ 1 u=some (1,x))(hf:mR ⟨h,n,w⟩ 1 16 26 v u=some (v',aB)):bI v'=[n]:=by
 obtain⟨hl,⟨rfl,rfl⟩|⟨i,rfl,h1,h2,h3⟩⟩:=s
 ·simp only[mR,hu]at hf;rw[ak (by decide)]at hf;split at hf
  ·simp only[ar,bB]at hf;rw[<-hf.1];rfl
  cases hf
 have lG:=wQ hl;simp only[mR,hu,St.row,h3]at hf;rw[ak (by decide)]at hf;split at hf
 ·cases hf
 rw[av trivial,ak (by omega)]at hf;split at hf
 ·simp only[ar,bB]at hf;rw[<-hf.1];rfl
 cases hf
def Own.lt{e:TypeId}{N0:Nat}{l:List (List V)}(s:Own z e N0 h N v l):∀i∈bI v,N0<=i/\i<N:=fun i hi=>by
 obtain⟨_,⟨_,rfl⟩|⟨j,rfl,h1,h2,_⟩⟩:=s
 ·simp[bI]at hi
 ·simp[bI]at hi
  subst hi
  exact⟨h1,h2⟩
def Own.upd{e:TypeId}{N0:Nat}{l:List (List V)}{D:Nat->Prop}(s:Own z e N0 h N v l)(k:ec D h N h' N')(hd:∀i∈bI v,¬D i):Own z e N0 h' N' v l:=by
 obtain⟨hl,s|⟨i,rfl,h2,h3,h4⟩⟩:=s
 ·exact⟨hl,.inl s⟩
 exact⟨hl,.inr ⟨i,rfl,h2,fH h3 k.le,(k.get i h3 (hd i (by simp[bI]))).trans h4⟩⟩
def ow(l:List Rat):List (List V):=(tx l).map fun y=>[y]
def Ywd{q:Rat}:ow l++[[.str (aI q)]]=ow (l++[q]):=by simp[ow,tx,strs]
def Yom:(ow l).length=l.length:=by simp[ow,CY]
structure uG (N0:Nat) (h:T O) (n:Nat) (a b c:V) (A' B' C':List Rat):Prop where
 s1:Own 1 26 N0 h n a (ow A')
 s2:Own 1 26 N0 h n b (ow B')
 s3:Own 1 26 N0 h n c (ow C')
 d1:∀i∈bI a,i∉bI b
 d2:∀i∈bI a,i∉bI c
 d3:∀i∈bI b,i∉bI c
def uG.YY{N0:Nat}{c:V}(s:uG N0 h n a b c A' B' C'):uG N0 h n b c a B' C' A':=⟨s.s2,s.s3,s.s1,s.d3,fun i hi hj=>s.d1 i hj hi,fun i hi hj=>s.d2 i hj hi⟩
def uG.ad{N0:Nat}{h':T O}{n':Nat}{c:V}(s:uG N0 h n a b c A' B' C')(k:ab h n h' n'):uG N0 h' n' a b c A' B' C':=⟨s.s1.ad k,s.s2.ad k,s.s3.ad k,s.d1,s.d2,s.d3⟩
def uG.app{N0:Nat}{c:V}{q:Rat}{w:List Nat}(s:uG N0 h n a b c A' B' C')(hN:N0<=n)(hl:A'.length<1000)(hu:fO ⟨h,n,w⟩ 1 u=some (1,[.str (aI q)])):∃a' h' w',mR ⟨h,n,w⟩ 1 16 26 a u=some (a',⟨h',n+1,w'⟩)/\az N0 w'=az N0 w/\ab h N0 h' (n+1)/\ec (fun i=>i∈bI a) h n h' (n+1)/\uG N0 h' (n+1) a' b c (A'++[q]) B' C':=by
 obtain⟨a',h',w',f1,f2,f3,f4,f5⟩:=Az s.s1 hN (by decide) rfl hu (bytes:=16) (by rw[Yom];omega);have hr:=Yri s.s1 hu f1;have hU:ec (fun i=>i∈bI a) h n h' (n+1):=⟨vY _,fun j hj hd=>by
  rcases f4 j with h1|h1|⟨o,n',c,q,h1⟩
  ·exact h1
  ·omega
  ·exact absurd (by rw[h1];simp[bI]) hd⟩;rw[Ywd]at f5;refine⟨a',h',w',f1,f2,f3,hU,f5,s.s2.upd hU fun i hi hj=>s.d1 i hj hi,s.s3.upd hU fun i hi hj=>s.d2 i hj hi,fun i hi hj=>?_,fun i hi hj=>?_,s.d3⟩
 ·rw[hr,og]at hi;have:=(s.s2.lt i hj).2;omega
 rw[hr,og]at hi;have:=(s.s3.lt i hj).2;omega
def Ls.NV{c:Int}(s:Ls 0 M v c h n)(hM:bR M 1800):c=0/\uF h n v M:=by
 rcases s with⟨h0,_⟩|⟨_,⟨h0,_⟩|⟨_,rfl,h1⟩⟩
 ·exact absurd rfl h0
 ·rw[Yui hM]at h0;cases h0
 exact⟨rfl,h1⟩
def YZ.got{e:Int}{q:Rat}(s:YZ e q x)(he:e=0)(hq:Qb 1800 q):x=.aU [.str (aI q),.int .i64 0]:=by
 rcases s with⟨t1,_⟩|⟨_,⟨t1,_⟩|⟨_,h⟩⟩
 ·exact absurd he t1
 ·rw[(wO hq (aN _)).1]at t1;cases t1
 exact h
def Ysf(h:bR M 1800)(hc:aW M n)(hn:n<=6):∀x∈M.map fun r=>r.map aI,x.length<100000/\∀s∈x,s.length<=100000:=fun x hx=>by
 obtain⟨r,hr,rfl⟩:=bO.1 hx
 exact⟨by rw[dL,hc r hr];omega,Y0 (h r hr)⟩
def Ycq{l:List Nat}:j∈xh i l↔j=i\/j∈l:=by
 unfold xh;split
 ·rename_i h;constructor
  ·exact .inr
  rintro(rfl|h2)
  ·simpa using h
  exact h2
 exact iP
def LX{n i:Nat}:∀{w:List Nat},i∈az n w↔i∈w/\i<n
 |[]=>by simp[az]
 |j::w=>by
  unfold az
  split
  ·rw[Ycq,LX (w:=w),iP]
   constructor
   ·rintro(rfl|⟨a,b⟩)
    ·exact⟨.inl rfl,by assumption⟩
    ·exact⟨.inr a,b⟩
   ·rintro⟨rfl|a,b⟩
    ·exact .inl rfl
    ·exact .inr ⟨a,b⟩
  ·rw[LX (w:=w),iP]
   constructor
   ·rintro⟨a,b⟩
    exact⟨.inr a,b⟩
   ·rintro⟨rfl|a,b⟩
    ·exact absurd b (by assumption)
    ·exact⟨a,b⟩
def Zxk(hn:n<=N){w u:List Nat}(h:az N w=az N u)(hu:az n u=[]):az n w=[]:=by apply List.eq_nil_iff_forall_not_mem.2;intro i hi;obtain⟨h1,h2⟩:=LX.1 hi;have h3:i∈az N w:=LX.2 ⟨h1,by omega⟩;rw[h]at h3;have h4:=LX.2 ⟨(LX.1 h3).1,h2⟩;rw[hu]at h4;exact List.not_mem_nil h4
def A.BE:ct:=.seq (sr [mv 115 13,ni 116 115 0,mv 117 116,mh 118 12 117,gz 119 117 (.len 1 (tq 118)),mh 120 0 117,gz 121 117 (.bF 1 (tq 120) (kq 0)),gz 122 117 (.load none (tq 121)),gz 123 117 (.len 1 (tq 122)),gz 124 117 (.bin .neq (.dJ .int) false (tq 119) (tq 123)),pt 125 117 124,mv 126 125,mh 127 12 126,mh 128 0 126,gz 129 126 (.len 1 (tq 128)),gz 130 126 (.call (fq 15) [tq 127,tq 129]),gz 131 126 (.bin .neq (.dJ .int) true (tq 130) (kq 0)),pt 132 126 131] (cd 132 (sr [ge 6 (.pP (.const (.bool false)))] (.ret)) (.skip))) (sr [mv 134 12,fa 135 1 4,ld 136 135,c2 137 16 134 136,mv 133 137,xt 138 133 0,xt 139 133 1,mv 14 138,mv 15 139] (.seq (sr [mv 140 15,ni 141 140 0,mv 142 141,mh 143 14 142,mh 144 0 142,gz 145 142 (.bF 1 (tq 144) (kq 0)),gz 146 142 (.load none (tq 145)),gz 147 142 (.len 1 (tq 146)),gz 148 142 (.call (fq 7) [tq 143,tq 147]),gz 149 142 (.bin .neq (.dJ .int) true (tq 148) (kq 0)),pt 150 142 149] (cd 150 (sr [ge 6 (.pP (.const (.bool false)))] (.ret)) (.skip))) (sr [mv 152 0,fa 153 0 4,ld 154 153,fa 155 1 4,ld 156 155,mv 157 14,ge 158 (.call (fq 17) [tq 152,tq 154,tq 156,tq 157]),mv 151 158,xt 159 151 0,xt 160 151 1,mv 16 159,mv 17 160] (sr [mv 162 12,fa 163 0 4,ld 164 163,c2 165 18 162 164,mv 161 165,xt 166 161 0,xt 167 161 1,mv 18 166,mv 19 167] (sr [mv 169 12,fa 170 0 4,ld 171 170,ge 172 (.call (fq 19) [tq 171,(.const (.str [51]))]),c2 173 18 169 172,mv 168 173,xt 174 168 0,xt 175 168 1,mv 20 174,mv 21 175] (.seq (sr [mv 176 17,mv 177 19,bi 178 .add 176 177,mv 179 21,bi 180 .add 178 179,ni 181 180 0,mv 182 181,mh 183 16 182,gz 184 182 (.call (fq 20) [tq 183]),gz 185 182 (.bin .neq (.dJ .int) true (tq 184) (kq 0)),pt 186 182 185,mv 187 186,mh 188 18 187,mh 189 0 187,gz 190 187 (.bF 1 (tq 189) (kq 0)),gz 191 187 (.load none (tq 190)),gz 192 187 (.len 1 (tq 191)),gz 193 187 (.call (fq 7) [tq 188,tq 192]),gz 194 187 (.bin .neq (.dJ .int) true (tq 193) (kq 0)),pt 195 187 194,mv 196 195,mh 197 20 196,mh 198 18 196,gz 199 196 (.call (fq 19) [tq 198,(.const (.str [51]))]),gz 200 196 (.call (fq 21) [tq 197,tq 199]),gz 201 196 (.un .not (tq 200)),pt 202 196 201] (cd 202 (sr [ge 6 (.pP (.const (.bool false)))] (.ret)) (.skip))) (sr [mv 203 7,mv 204 14,mv 205 14,c2 206 22 204 205,ge 207 (.gg 26 1 1 [(.str [])] [(0,1,(tq 206))]),ge 208 (.append 1 16 26 [(.str [])] (tq 203) (tq 207)),mv 209 8,mv 210 16,ge 211 (.gg 26 1 1 [(.str [])] [(0,1,(tq 210))]),ge 212 (.append 1 16 26 [(.str [])] (tq 209) (tq 211)),mv 7 208,mv 8 212] (.fV [mv 213 9,mv 214 16,mv 215 11,mv 216 14,mv 217 14,c2 218 22 216 217,c2 219 12 215 218,c2 220 23 214 219,ge 221 (.gg 26 1 1 [(.str [])] [(0,1,(tq 220))]),ge 222 (.append 1 16 26 [(.str [])] (tq 213) (tq 221)),mv 9 222]))))))))
def A.yI:ct:=sr [bi 94 .lss 93 92] (.seq (cd 94 (.skip) (.exit 0)) (.seq (.block 1 (sr [mv 95 93,ia 96 1 91 93,ld 97 96,mv 10 95,mv 11 97] (sr [mv 99 0,fa 100 0 4,ld 101 100,c2 102 13 99 101,mv 98 102,xt 103 98 0,xt 104 98 1,mv 12 103,mv 13 104] (.seq (sr [mv 105 10,bc 106 .gtr 105 0] (cd 106 (.fV [mv 108 0,fa 109 0 4,ld 110 109,mv 111 11,ge 112 (.call (fq 14) [tq 108,tq 110,tq 111]),mv 107 112,xt 113 107 0,xt 114 107 1,mv 12 113,mv 13 114]) (.skip)))
 A.BE)))) (.fV [bc 223 .add 93 1,mv 93 223])))
def A.Bm:ct:=sr [mv 225 0,fa 226 0 4,ld 227 226,fa 228 1 4,ld 229 228,fa 230 2 4,ld 231 230,ge 232 (.call (fq 17) [tq 225,tq 227,tq 229,tq 231]),mv 224 232,xt 233 224 0,xt 234 224 1,mv 22 233,mv 23 234] (.seq (sr [mv 235 23,ni 236 235 0,mv 237 236,mh 238 22 237,gz 239 237 (.call (fq 20) [tq 238]),gz 240 237 (.bin .neq (.dJ .int) true (tq 239) (kq 0)),pt 241 237 240] (cd 241 (sr [ge 6 (.pP (.const (.bool false)))] (.ret)) (.skip))) (sr [fa 242 2 4,ld 243 242,fa 244 2 4,ld 245 244,c2 246 22 243 245,mv 24 246] (.seq (.f_ [mv 247 7,ge 248 (.bF 1 (tq 247) (kq 1)),ld 249 248,mv 250 7,ge 251 (.bF 1 (tq 250) (kq 0)),ld 252 251,c2 253 24 249 252,bc 254 .leq 253 0,mv 255 254,mg 256 7 255,gy 257 255 (.bF 1 (tq 256) (kq 2)),gy 258 255 (.load none (tq 257)),mg 259 7 255,gy 260 255 (.bF 1 (tq 259) (kq 1)),gy 261 255 (.load none (tq 260)),gy 262 255 (.call (fq 24) [tq 258,tq 261]),gy 263 255 (.bin .leq (.node []) false (tq 262) (kq 0)),pf 264 255 263,mv 265 264,mg 266 8 265,gy 267 265 (.bF 1 (tq 266) (kq 0)),gy 268 265 (.load none (tq 267)),mg 269 8 265,gy 270 265 (.bF 1 (tq 269) (kq 1)),gy 271 265 (.load none (tq 270)),gy 272 265 (.call (fq 24) [tq 268,tq 271]),gy 273 265 (.bin .leq (.node []) false (tq 272) (kq 0)),pf 274 265 273,mv 275 274,mg 276 8 275,gy 277 275 (.bF 1 (tq 276) (kq 1)),gy 278 275 (.load none (tq 277)),mg 279 8 275,gy 280 275 (.bF 1 (tq 279) (kq 2)),gy 281 275 (.load none (tq 280)),gy 282 275 (.call (fq 24) [tq 278,tq 281]),gy 283 275 (.bin .leq (.node []) false (tq 282) (kq 0)),pf 284 275 283,mv 285 284,mg 286 9 285,gy 287 285 (.bF 1 (tq 286) (kq 0)),gy 288 285 (.load none (tq 287)),mg 289 22 285,gy 290 285 (.call (fq 24) [tq 288,tq 289]),gy 291 285 (.bin .leq (.node []) false (tq 290) (kq 0)),pf 292 285 291,mv 293 292,mg 294 9 293,gy 295 293 (.bF 1 (tq 294) (kq 1)),gy 296 293 (.load none (tq 295)),mg 297 22 293,mg 298 2 293,mg 299 24 293,gy 300 293 (.call (fq 12) [tq 298,tq 299]),gy 301 293 (.call (fq 23) [tq 297,tq 300]),gy 302 293 (.call (fq 24) [tq 296,tq 301]),gy 303 293 (.bin .leq (.node []) false (tq 302) (kq 0)),pf 304 293 303,mv 305 304,mg 306 9 305,gy 307 305 (.bF 1 (tq 306) (kq 2)),gy 308 305 (.load none (tq 307)),mg 309 22 305,mg 310 2 305,gy 311 305 (.call (fq 12) [(.const (.str [50])),tq 310]),mg 312 24 305,gy 313 305 (.call (fq 12) [tq 311,tq 312]),gy 314 305 (.call (fq 23) [tq 309,tq 313]),gy 315 305 (.call (fq 24) [tq 308,tq 314]),gy 316 305 (.bin .leq (.node []) false (tq 315) (kq 0)),pf 317 305 316,mv 318 317,gy 319 318 (.call (fq 11) []),pf 320 318 319,mv 6 320] [0,1,3,0,8,24,63,127,255,511,1023,2047,511,4607,12799,32767,65535,131071,262143,524287,1048575,2097151,524287,4718591,13107199,33554431,67108863,134217727,268435455,536870911,1073741823,2147483647,536870911,4831838207,13421772799,34359738367,68719476735,137438953471,274877906943,549755813887,1099511627775,2199023255551,549755813887,8796093022207,17592186044415,35184372088831,70368744177663,140737488355327,281474976710655,562949953421311,140737488355327,140737488355327,140737488355327,6896136929411071,17029236090994687,36028797018963967,72057594037927935,144115188075855871,288230376151711743,576460752303423487,1152921504606846975,2305843009213693951,576460752303423487,576460752303423487,9799832789158199295,576460752303423487,65140065010286854143,143538727323552448511,295147905179352825855,590295810358705651711,1180591620717411303423,2361183241434822606847,4722366482869645213695,9444732965739290427391,18889465931478580854783]) (.ret))))
def A.Ga:ct:=sr [mN 7,mN 8,mN 9] (.seq (sr [mv 88 2,mv 89 2,ge 90 (.call (fq 12) [(.const (.str [50])),tq 89]),ge 91 (.gg 26 1 3 [(.str []),(.str []),(.str [])] [(0,1,(.const (.str [48]))),(1,1,(tq 88)),(2,1,(tq 90))]),ln 92 91,mc 93 0] (.block 0 (.loop A.yI)))
 A.Bm)
def A.b3:ct:=sr [bx 4 25 1,ge 6 (.pP (.const (.bool false)))] (.seq (.seq (.f_ [mv 25 0,ge 26 (.call (fq 4) [tq 25,.const (.int .i64 5),.const (.int .i64 4),.const (.int .i64 2)]),ge 27 (.un .not (tq 26)),mv 28 27,gz 29 28 (.load (some 3) (tq 4)),gz 30 28 (.call (fq 5) [tq 29]),gz 31 28 (.un .not (tq 30)),pt 32 28 31,mv 33 32,gz 34 33 (.iZ 0 (tq 4)),gz 35 33 (.load none (tq 34)),mh 36 0 33,gz 37 33 (.len 1 (tq 36)),gz 38 33 (.call (fq 6) [tq 35,tq 37,.const (.int .i64 1)]),gz 39 33 (.bin .neq (.dJ .int) true (tq 38) (kq 0)),pt 40 33 39,mv 41 40,gz 42 41 (.iZ 1 (tq 4)),gz 43 41 (.load none (tq 42)),mh 44 0 41,gz 45 41 (.len 1 (tq 44)),gz 46 41 (.call (fq 7) [tq 43,tq 45]),gz 47 41 (.bin .neq (.dJ .int) true (tq 46) (kq 0)),pt 48 41 47,mv 49 48,gz 50 49 (.iZ 2 (tq 4)),gz 51 49 (.load none (tq 50)),mh 52 0 49,gz 53 49 (.bF 1 (tq 52) (kq 0)),gz 54 49 (.load none (tq 53)),gz 55 49 (.len 1 (tq 54)),gz 56 49 (.call (fq 7) [tq 51,tq 55]),gz 57 49 (.bin .neq (.dJ .int) true (tq 56) (kq 0)),pt 58 49 57,mv 59 58,gz 60 59 (.iZ 0 (tq 4)),gz 61 59 (.load none (tq 60)),gz 62 59 (.call (fq 8) [tq 61,.const (.int .i64 5),.const (.int .i64 2)]),gz 63 59 (.un .not (tq 62)),pt 64 59 63,mv 65 64,gz 66 65 (.iZ 1 (tq 4)),gz 67 65 (.load none (tq 66)),gz 68 65 (.call (fq 8) [tq 67,.const (.int .i64 5),.const (.int .i64 2)]),gz 69 65 (.un .not (tq 68)),pt 70 65 69,mv 71 70,gz 72 71 (.iZ 2 (tq 4)),gz 73 71 (.load none (tq 72)),gz 74 71 (.call (fq 8) [tq 73,.const (.int .i64 4),.const (.int .i64 2)]),gz 75 71 (.un .not (tq 74)),pt 76 71 75,mv 77 76,mh 78 2 77,gz 79 77 (.call (fq 9) [tq 78,.const (.int .i64 2)]),gz 80 77 (.un .not (tq 79)),pt 81 77 80,mv 82 81,mh 83 2 82,gz 84 82 (.call (fq 10) [tq 83]),gz 85 82 (.bin .leq (.node []) false (tq 84) (kq 0)),pt 86 82 85] [0,1,3,7,15,31,63,127,255,511,1023,511,2559,8191,16383,32767,65535,131071,262143,131071,655359,2097151,4194303,8388607,16777215,33554431,67108863,33554431,167772159,436207615,973078527,2147483647,4294967295,8589934591,17179869183,34359738367,68719476735,137438953471,274877906943,549755813887,1099511627775,2199023255551,4398046511103,8796093022207,17592186044415,35184372088831,70368744177663,140737488355327,281474976710655,562949953421311,1125899906842623,2251799813685247,4503599627370495,9007199254740991,18014398509481983,36028797018963967,72057594037927935,144115188075855871,288230376151711743,576460752303423487,1152921504606846975,2305843009213693951]) (cd 86 (sr [ge 87 (.call (fq 11) []),mv 6 87] (.ret)) (.skip)))
 A.Ga)
def A.c3:A.F 3=some ⟨321,[.tmp 6],A.b3⟩:=by kernel_rfl
def A.k3:=@A.kk 3 _ _ _ A.c3 rfl
def Yvl:aI 3=[51]:=by decide+kernel
def Yy5{w:List Rat}(hw:w.length=r.length):ed (iG r (w.map fun q=>q*3)) r=ed (iG r w) r*3:=by
 rw[El (show (iG r (w.map fun q=>q*3)).length=r.length by simp[iG,hw]),El (show (iG r w).length=r.length by simp[iG,hw]),<-D3];refine bf fun i hi=>?_;have e:∀v:List Rat,v.length=r.length->(iG r v)[i]?.getD 0=r[i]?.getD 0*v[i]?.getD 0:=fun v hv=>by simp[iG,hv,hi]
 obtain⟨q,hq⟩:=bs (l:=w) (k:=i) (by omega);rw[e _ (by rw[dL];exact hw),e _ hw,eH,hq];show r[i]?.getD 0*(q*3)*r[i]?.getD 0=r[i]?.getD 0*q*r[i]?.getD 0*3;grind
def Yfi{nB n0 n1 B0:Nat}{B:T O}{W:List Nat}{vd vM wv sv xv v0 c:V}{m:List (List aH)}{ws ss xs os:List aH}{C Z d:Rat}{zL cL tL:Nat->List Rat}{r0 r:T V}(hI:F7 m ws ss xs os)(N6:nB<=n0)(hd:fE B n0 vd m)(hw:Sl B n0 wv (strs ws))(cv:Sl B n0 sv (strs ss))(hP:iT B n0)(hB:B.get B0=some (.cells [wv,sv,xv] 25 true))(qQ:B0<n0)(a0:r0.get 0=some vd)(a4:r0.get 4=some (.ptr B0 0))(hf:Fx [(6,21),(93,223)] r0 321 ⟨r,321,[]⟩)(hW:az nB W=[])(hK:ab B n0 H n1)(hk:k+(j+1)=3)(pJ:r.get 93=some (.int .i64 (k:Nat)))(h7:r.get 7=some a)(h8:r.get 8=some b)(h9:r.get 9=some c)(fl:r.get 11=some (.str (aI d)))(rT:r.get 12=some vM)(xj:r.get 13=some (.int .i64 0))(hT:uG n0 H n1 a b c (zL k) (cL k) (tL k))(zl:(zL k).length=k)(cl:(cL k).length=k)(tl:(tL k).length=k)(zS:zL (k+1)=zL k++[Z])(cS:cL (k+1)=cL k++[C])(tS:tL (k+1)=tL k++[C+d*Z])(hM:uF H n1 vM M)(lM:M.length=bg m)(rM:aW M m.length)(qM:bR M 826)(eX:M.map (fun r=>ed r (bj ss))=X)(qX:∀q∈X,Qb 826 q)(eC:F8 m ws ss (X.map aI)=C)(qC:Qb 1691 C)(eO:M.map (fun r=>ed (iG r (bj ws)) r)=O1)(qO:∀q∈O1,Qb 1691 q)(eZ:ed X X=Z)(qd:Qb 8 d):
  bD A.C [Kf.block 1,Kf.seq none (.fV [⟨some 223,.bin .add (.node []) false (.tmp 93) (.const (.int .i64 1)),none⟩,⟨some 93,.pP (.tmp 223),none⟩])] (fy (A.C.code none A.BE ⟨r,321,[]⟩ ⟨H,n1,W⟩)) (TI (Rd [(6,21),(93,223)] r0 321 (fun j r st=>az nB st.w=[]/\ab B n0 st.h st.n/\∃k,k+j=3/\r.get 93=some (.int .i64 (k:Nat))/\∃a,r.get 7=some a/\∃b,r.get 8=some b/\∃c,r.get 9=some c/\uG n0 st.h st.n a b c (zL k) (cL k) (tL k)) (j+1) (fun e r st=>e=.exit 0/\az nB st.w=[]/\ab B n0 st.h st.n/\∃a,r.get 7=some a/\∃b,r.get 8=some b/\∃c,r.get 9=some c/\uG n0 st.h st.n a b c (zL 3) (cL 3) (tL 3)))):=by
 have hr:=hf.fV;have Y5:=hK.le;have jl:=hI.n1;have n4:=hI.n4;have s1:=hI.s1;have s5:=hI.s5;have ld:=hd.len;have LB:(0:Int)<(m.length:Int):=by omega
 have lD:(cF m).length=m.length:=NY;have lw:(bj ws).length=m.length:=by simp[bj,hI.wl]
 have lss:(bj ss).length=m.length:=by simp[bj,hI.sl]
 have lX:X.length=bg m:=by rw[<-eX,dL,lM]
 have lO:O1.length=bg m:=by rw[<-eO,dL,lM]
 have TJ:∀q∈X,Qb 1800 q:=fun q hq=>(qX q hq).mono (by decide);have qO8:∀q∈O1,Qb 1800 q:=fun q hq=>(qO q hq).mono (by decide);have bX:=AE.mk2 TJ (by omega);obtain⟨l0,dk,h0⟩:∃l0,m[0]?=some l0/\bg m=l0.length:=by obtain⟨l0,dk⟩:=bs (l:=m) (k:=0) (by omega);exact⟨l0,dk,by unfold bg;rw[dk];rfl⟩
 have lM1:=hM.len;rw[lM]at lM1;obtain⟨i1,o1,OA,e1,rw1,u1,p1,p2,p3,p4,p5⟩:=(hd.ad hK).at dk;have p6:=p5.len;rw[pK,<-h0]at p6;rw[iX]at p4;simp(disch:=first|(simp;done)|omega|rfl) [-getElem?_pos,A.BE,hr,pJ,h7,h8,h9,fl,rT,xj,a0,a4,bz,ld,lM1,s1,LB,p1,p3,p4,p6];refine au (Yqz (n:=m.length) hM.YQ (by rw[dL];omega) (Ysf (qM.mono (by decide)) rM (by omega))) ?_;rintro _ H2 n2 k2 rfl;rw[YR (qM.mono (by decide)) rM];have j2:=hK.trans k2;have lf:=j2.le;have CU:=(j2.get B0 qQ).trans hB;have IC:B0<n2:=by omega
 simp(disch:=first|(simp;done)|omega|rfl) [-getElem?_pos,hr,pJ,h7,h8,h9,fl,rT,xj,a0,a4,bz,CU,IC];refine au (Yeh (c:=m.length) (hM.ad k2) (kh.sl (cv.ad j2) hI.so) (hP.ad j2) (by omega) (by omega) s1 (by omega) rM (qM.mono (by decide)) (fun q hq=>(hI.sq q hq).mono (by decide)) lss) ?_;rintro _ H3 n3 k3 hT3;rw[eX]at hT3;obtain⟨vX,rfl,tX,fX⟩:=hT3.got TJ;have j3:=j2.trans k3;have yG:=j3.le;obtain⟨i2,o2,cc2,e2,Tz,u2,q1,q2,q3,q4,q5⟩:=(hd.ad j3).at dk;have q6:=q5.len;rw[pK,<-h0]at q6;rw[iX]at q4;simp(disch:=first|(simp;done)|omega|rfl) [-getElem?_pos,hr,pJ,h7,h8,h9,fl,rT,xj,a0,a4,bz,ld,s1,LB,q1,q3,q4,q6];refine au (LC (n:=bg m) (l:=X.map aI) tX (by rw[dL];omega) (Y0 TJ)) ?_;rintro _ H4 n4' k4 rfl;have NP:dM (X.map aI) (bg m)=0:=by rw[<-lX];exact S8 TJ
 rw[NP];have j4:=j3.trans k4;have Bj:=j4.le;have Gm:=(j4.get B0 qQ).trans hB;have zac:B0<n4':=by omega
 simp(disch:=first|(simp;done)|omega|rfl) [-getElem?_pos,hr,pJ,h7,h8,h9,fl,rT,xj,a0,a4,bz,Gm,zac];refine au (Ya9 (x:=X.map aI) (hd.ad j4) (hw.ad j4) (cv.ad j4) (tX.ad k4) (hP.ad j4) hI.sh hI.Ti hI.shs bX) ?_;rintro _ H5 n5 k5 hT5;rw[eC]at hT5;obtain rfl:=hT5.got (hI.res NP).2 (qC.mono (by decide));have j5:=j4.trans k5;have Ix:=j5.le;have gB5:=(j5.get B0 qQ).trans hB;have zad:B0<n5:=by omega
 have kM5:=((k2.trans k3).trans k4).trans k5;have wp0:∀q∈bj ws,0<=q:=fun q hq=>Rat.le_of_lt (hI.wp q hq);simp(disch:=first|(simp;done)|omega|rfl) [-getElem?_pos,hr,pJ,h7,h8,h9,fl,rT,xj,a0,a4,gB5,zad];refine au (Zz7 (c:=m.length) (hM.ad kM5) (kh.sl (hw.ad j5) hI.wo) (hP.ad j5) (by omega) (by omega) s1 (by omega) rM (qM.mono (by decide)) (fun q hq=>(hI.wq q hq).mono (by decide)) wp0 lw) ?_;rintro _ H6 n6 k6 hT6;rw[eO]at hT6;obtain⟨vO,rfl,tO⟩:=hT6.got rfl qO8;have j6:=j5.trans k6;have Y3:=j6.le;have gB6:=(j6.get B0 qQ).trans hB;have zae:B0<n6:=by omega
 have t3:=Yvl;simp(disch:=first|(simp;done)|omega|rfl) [-getElem?_pos,hr,pJ,h7,h8,h9,fl,rT,xj,a0,a4,gB6,zae];rw[<-Yvl];refine au (Zud (c:=3) (j:=7) (k:=2) (kh.sl (hw.ad j6) hI.wo) hI.wq ⟨by decide+kernel,by decide+kernel⟩ (by decide) (by decide) (by omega)) ?_;rintro v7 H7 n7 k7 ho7;have t7:=(Yol ho7).1;have j7:=j6.trans k7;have le7:=j7.le;have w3:∀q∈(bj ws).map (fun q=>q*3),Qb 9 q/\0<=q:=fun q hq=>by obtain⟨p,hp,rfl⟩:=bO.1 hq;exact⟨(hI.wq p hp).mul (show Qb 2 (3:Rat) from ⟨by decide+kernel,by decide+kernel⟩),Rat.mul_nonneg (wp0 p hp) (by decide)⟩
 have eO3:M.map (fun r=>ed (iG r ((bj ws).map fun q=>q*3)) r)=O1.map fun q=>q*3:=by rw[<-eO,List.map_map];apply Ax;intro r hr;exact Yy5 (by rw[lw,rM r hr])
 have qO3:∀q∈O1.map (fun q=>q*3),Qb 1800 q:=fun q hq=>by obtain⟨p,hp,rfl⟩:=bO.1 hq;exact((qO p hp).mul (show Qb 2 (3:Rat) from ⟨by decide+kernel,by decide+kernel⟩)).mono (by decide)
 simp(disch:=first|(simp;done)|omega|rfl) [-getElem?_pos,hr,pJ,h7,h8,h9,fl,rT,xj,a0,a4];refine au (Zz7 (c:=m.length) ((hM.ad kM5).ad (k6.trans k7)) t7 (hP.ad j7) (by omega) (by omega) s1 (by omega) rM (qM.mono (by decide)) (fun q hq=>(w3 q hq).1.mono (by decide)) (fun q hq=>(w3 q hq).2) (by rw[dL,lw])) ?_;rintro _ H8 n8 k8 hT8;rw[eO3]at hT8;obtain⟨v8,rfl,t8⟩:=hT8.got rfl qO3;have j8:=j7.trans k8;have le8:=j8.le;have jT:aR (aI C)=0:=by rw[NU,(wO (qC.mono (show 1691<=1800 by decide)) (aN _)).1];rfl
 simp(disch:=first|(simp;done)|omega|rfl) [-getElem?_pos,hr,pJ,h7,h8,h9,fl,rT,xj,a0,a4,bz];refine au (Tj (by have:=(wO (qC.mono (show 1691<=1800 by decide)) (aN _)).2;omega)) ?_;rintro _ H9 n9 k9 rfl;rw[jT];have j9:=j8.trans k9;obtain⟨i3,o3,cc3,e3,rw3,u3,x1,x2,x3,x4,x5⟩:=(hd.ad j9).at dk;have x6:=x5.len;rw[pK,<-h0]at x6;rw[iX]at x4;have kO9:=(k7.trans k8).trans k9;simp(disch:=first|(simp;done)|omega|rfl) [-getElem?_pos,hr,pJ,h7,h8,h9,fl,rT,xj,a0,a4,bz,ld,s1,LB,x1,x3,x4,x6];refine au (LC (n:=bg m) (l:=O1.map aI) (tO.ad kO9) (by rw[dL];omega) (Y0 qO8)) ?_;rintro _ Ha na ka rfl;have hcO:dM (O1.map aI) (bg m)=0:=by rw[<-lO];exact S8 qO8
 rw[hcO];have ja:=j9.trans ka;simp(disch:=first|(simp;done)|omega|rfl) [-getElem?_pos,hr,pJ,h7,h8,h9,fl,rT,xj,a0,a4,bz];refine au (Zud (c:=3) (j:=1691) (k:=2) ((tO.ad kO9).ad ka) qO ⟨by decide+kernel,by decide+kernel⟩ (by decide) (by decide) (by omega)) ?_;rintro vb Hb nb kb hob;have tb:=(Yol hob).1;have jb:=ja.trans kb;have leb:=jb.le;have hsr:=fun w=>Yqg (w:=w) (l:=(O1.map fun q=>q*3).map aI) ((t8.ad (k9.trans ka)).ad kb) tb (by rw[dL,dL];omega);have kX:=(((((k4.trans k5).trans k6).trans kO9).trans ka).trans kb);have tXb:=tX.ad kX;have hz:Fn A.C 22 [vX,vX] Hb nb (fun x _ _=>x=.str (aI Z)):=by have:=Zj (j:=826) (k:=826) tXb tXb (aN _) qX qX (by decide) (by decide) (by have:=kg (826+826+1) (show X.length<=4 by omega);omega);rw[eZ]at this;exact this
 simp(disch:=first|(simp;done)|omega|rfl) [-getElem?_pos,hr,pJ,h7,h8,h9,fl,rT,xj,a0,a4,bz,hsr,c9.c_];refine au hz ?_;rintro _ Hc nc kc rfl;have jc:=jb.trans kc;have lec:=jc.le;have zaf:=(((k2.trans k3).trans kX).trans kc);have OI:=hT.ad zaf;have tXc:=tXb.ad kc;have n01:n1<=n2:=k2.le;have fX1:∀i∈bI vX,n1<=i:=fun i hi=>by have:=fX i hi;omega
 have ra:=fun i hi=>(hT.s1.lt i hi).2;have rb:=fun i hi=>(hT.s2.lt i hi).2;obtain⟨sZ,esZ⟩:∃s,aI Z=s:=⟨_,rfl⟩;obtain⟨sC,esC⟩:∃s,aI C=s:=⟨_,rfl⟩;obtain⟨a',h1,w1,f1,f2,f3,f4,f5⟩:=(OI.ad (ab.refl.new (.cells [.str (aI Z)] 26 true))).app (q:=Z) (w:=W) (u:=.slice nc 0 1 (some 1) 1) (by omega) (by omega) (by simp[fO,St.row,aO]);obtain⟨b',h2,w2,g1,g2,g3,g4,g5⟩:=(f5.ad (ab.refl.new (.cells [.str (aI C)] 26 true))).YY.app (q:=C) (w:=w1) (u:=.slice (nc+1+1) 0 1 (some 1) 1) (by omega) (by omega) (by simp[fO,St.row,aO]);rw[esZ]at f1 f3;rw[esC]at g1 g3;simp(disch:=first|(simp;done)|omega|rfl) [-getElem?_pos,hr,pJ,h7,h8,h9,fl,rT,xj,a0,a4,ae,esZ,esC,f1,g1];have m1:=Sl.bE (Tx.ad tXc (ab.refl.new (.cells [.str (aI Z)] 26 true))) f4 fun i hi hj=>by have:=fX1 i hi;have:=ra i hj;omega
 have m2:=Sl.bE (Sl.ad m1 (ab.refl.new (.cells [.str (aI C)] 26 true))) g4 fun i hi hj=>by have:=fX1 i hi;have:=rb i hj;omega
 have m2:Tx h2 (nc+1+1+1+1) vX X:=m2;have qZ:Qb 6613 Z:=by rw[<-eZ];exact D6 (n:=4) qX qX (by decide) (by decide) (by omega)
 have er:Fn A.C 22 [vX,vX] h2 (nc+1+1+1+1) (fun x _ _=>x=.str (aI Z)):=by have:=Zj (j:=826) (k:=826) m2 m2 (aN _) qX qX (by decide) (by decide) (by have:=kg (826+826+1) (show X.length<=4 by omega);omega);rw[eZ]at this;exact this
 refine au er ?_;rintro _ Hd nd kd rfl;have led:=kd.le;simp(disch:=first|(simp;done)|omega|rfl) [-getElem?_pos,hr,pJ,h7,h8,h9,fl,rT,xj,a0,a4];refine au (IF qd qZ (by decide) (by decide)) ?_;rintro _ He ne ke rfl;have lee:=ke.le;simp(disch:=first|(simp;done)|omega|rfl) [-getElem?_pos,hr,pJ,h7,h8,h9,fl,rT,xj,a0,a4];rw[<-esC];refine au (NL qC (qd.mul qZ) (by decide) (by decide)) ?_;rintro _ Hf nf kf rfl;have lef:=kf.le;obtain⟨sT,esT⟩:∃s,aI (C+d*Z)=s:=⟨_,rfl⟩;have zag:=(((g5.ad kd).ad ke).ad kf);obtain⟨c',h3,w3,e1,e2,e3,e4,e5⟩:=(zag.ad (ab.refl.new (.cells [.str (aI (C+d*Z))] 26 true))).YY.app (q:=C+d*Z) (w:=w2) (u:=.slice nf 0 1 (some 1) 1) (by omega) (by omega) (by simp[fO,St.row,aO]);rw[esT]at e1 e3;rw[esT];have hTf:=e5.YY;rw[<-zS,<-cS,<-tS]at hTf;have kF:ab B n0 h3 (nf+1+1):=((((((jc.trans (ab.refl.new _)).then f3).trans (ab.refl.new _)).then g3).trans ((kd.trans ke).trans kf)).trans (ab.refl.new _)).then e3;have hw3:az nB w3=[]:=Zxk N6 (e2.trans (g2.trans f2)) hW;simp(disch:=first|(simp;done)|omega|rfl) [-getElem?_pos,hr,pJ,h7,h8,h9,fl,rT,xj,a0,a4,ae,e1];exact⟨hf,j,by omega,hw3,kF,k+1,by omega,by simp,hTf⟩
variable {D:List (List Rat)} {n:Nat} {s w:List Rat} {δ:Rat}
def gh(δ:Rat)(k:Nat):Rat:=if k=0 then 0 else if k=1 then δ else 2*δ
def vZ(D:List (List Rat))(w:List Rat)(n:Nat)(δ:Rat)(k:Nat):List (List Rat):=if k=0 then lA D w n else NJ D w n (gh δ k)
def F9(D:List (List Rat))(w s:List Rat)(n:Nat)(δ:Rat)(k:Nat):List Rat:=(vZ D w n δ k).map fun r=>ed r s
def OQ(D:List (List Rat))(w s:List Rat)(n:Nat)(δ:Rat)(k j:Nat):Rat:=sN (fun i=>al (vZ D w n δ k) j i*s[i]?.getD 0) D.length
def AD(D:List (List Rat))(w s:List Rat)(n:Nat)(δ:Rat)(k:Nat):Rat:=ed (F9 D w s n δ k) (F9 D w s n δ k)
def Bl(D:List (List Rat))(w s:List Rat)(n:Nat)(δ:Rat)(k:Nat):Rat:=qP D w s (OQ D w s n δ k) n
def Od(h:0<δ):0<=gh δ k/\(k≠0->0<gh δ k):=by
 unfold gh;split
 ·exact⟨by decide,fun h=>absurd (by assumption) h⟩
 split
 ·exact⟨Rat.le_of_lt h,fun _=>h⟩
 exact⟨by grind,fun _=>by grind⟩
def Lz(h:Qb 7 δ):Qb 8 (gh δ k):=by
 unfold gh;split
 ·exact⟨by decide,by decide⟩
 split
 ·exact h.mono (by decide)
 have hd:((δ.den:Nat):Int)≠0:=by have:=δ.den_nz;omega
 have h1:=h.1;have h2:=h.2;have e8:2^8=2*2^7:=by decide
 rw[<-A9 δ,show (2:Rat)=Rat.divInt 2 1 from rfl,Rat.divInt_mul_divInt];refine Nu (by omega) ?_ ?_
 ·rw[e8,wg,show Int.natAbs 2=2 from rfl];omega
 rw[e8,Int.one_mul,dT];omega
def Tg(hD:aW D n)(fP:0<n)(hw:w.length=D.length)(hp:∀q∈w,0<q)(hS:0<D.length)(hδ:0<δ)(k:Nat):(vZ D w n δ k).length=n/\aW (vZ D w n δ k) D.length/\SY D w (gh δ k) n (vZ D w n δ k):=by
 unfold vZ;by_cases h:k=0
 ·rw[av h,show gh δ k=0 by unfold gh;rw[av h]];exact⟨YJ,YI,Yq7 hD fP hw hp hS⟩
 rw[ak h];obtain⟨H,hH⟩:=Ymy (δ:=gh δ k) hw hp ((Od hδ).2 h) fP;unfold NJ;rw[hH,iL];exact Ytj hw ((Od hδ).2 h) fP hH
def Th(hD:aW D n)(fP:0<n)(hw:w.length=D.length)(hp:∀q∈w,0<q)(hS:0<D.length)(hδ:0<δ)(k:Nat):(F9 D w s n δ k).length=n/\∀j,j<n->(F9 D w s n δ k)[j]?.getD 0=OQ D w s n δ k j:=by obtain⟨h1,h2,_⟩:=Tg hD fP hw hp hS hδ k;refine⟨by unfold F9;rw[dL,h1],fun j hj=>?_⟩;unfold F9 OQ;rw[SZ h2 (by omega)]
def Yyq(hD:aW D n)(fP:0<n)(hw:w.length=D.length)(hp:∀q∈w,0<q)(hS:0<D.length)(hδ:0<δ)(k:Nat):AD D w s n δ k=nq (OQ D w s n δ k) n:=by obtain⟨h1,h2⟩:=Th (s:=s) hD fP hw hp hS hδ k;unfold AD nq;rw[El h1];exact bf fun j hj=>by rw[h2 j hj]
structure ShK (D:List (List Rat)) (w s:List Rat) (n:Nat) (δ:Rat) (k:Nat):Prop where
 qM:bR (vZ D w n δ k) 826
 qX:∀q∈F9 D w s n δ k,Qb 826 q
 qC:Qb 1691 (Bl D w s n δ k)
 qO:∀q∈(vZ D w n δ k).map (fun r=>ed (iG r w) r),Qb 1691 q
def Zb(hD:aW D n)(fP:0<n)(hw:w.length=D.length)(hp:∀q∈w,0<q)(hS:0<D.length)(hδ:0<δ)(qD:bR D 7)(qw:∀q∈w,Qb 7 q)(qs:∀q∈s,Qb 7 q)(qδ:Qb 7 δ)(hn:n<=4)(hS5:D.length<=5)(k:Nat):ShK D w s n δ k:=by
 obtain⟨m1,m2,m3⟩:=Tg hD fP hw hp hS hδ k;obtain⟨c1,c2⟩:=Th (s:=s) hD fP hw hp hS hδ k;obtain⟨d,d1,d2,d3,d4,d5⟩:=Yq8 (s:=s) m3 hw hp qD qw qs (Od hδ).1 (Lz qδ) hn hS5;have aA:∀r∈vZ D w n δ k,∃j,j<n/\∀i,r[i]?.getD 0=al (vZ D w n δ k) j i:=fun r hr=>by obtain⟨j,hj⟩:=nP hr;exact⟨j,by have:=fv hj;omega,fun i=>(Yx7 hj).symm⟩
 refine⟨fun r hr q hq=>?_,Yq2 (n:=n) (fun j hj=>?_) c1,?_,fun q hq=>?_⟩
 ·obtain⟨j,hj,he⟩:=aA r hr;obtain⟨i,hi⟩:=nP hq;have IY:i<D.length:=by rw[<-m2 r hr];exact fv hi
  have h1:=bL.qb d1 d2 (d3 j i hj IY);rw[<-he i,hi]at h1;exact h1
 ·rw[c2 j hj];exact bL.qb d1 d2 (d4 j hj)
 ·exact Yqm hw hp qw hS5 d1 d2 d5
 obtain⟨r,hr,rfl⟩:=bO.1 hq;obtain⟨j,hj,he⟩:=aA r hr;exact Yqj (m2 r hr) hw qw hS5 d1 d2 fun i hi=>by rw[he i];exact d3 j i hj hi
def Yvv(hD:aW D n)(fP:0<n)(hw:w.length=D.length)(hp:∀q∈w,0<q)(hS:0<D.length)(hδ:0<δ)(ho:o.length=n):AD D w s n δ 1<=AD D w s n δ 0/\AD D w s n δ 2<=AD D w s n δ 1/\Bl D w s n δ 0<=Bl D w s n δ 1/\Bl D w s n δ 1<=Bl D w s n δ 2/\∀k,Bl D w s n δ k+gh δ k*AD D w s n δ k<=qP D w s (fun j=>o[j]?.getD 0) n+gh δ k*ed o o:=by have hs:∀k,Lo D w (gh δ k) n (fun i=>s[i]?.getD 0) (OQ D w s n δ k):=fun k=>(Tg hD fP hw hp hS hδ k).2.2 fun i=>s[i]?.getD 0;have e0:gh δ 0=0:=rfl;have e1:gh δ 1=δ:=rfl;have e2:gh δ 2=2*δ:=rfl;have hz:=Yyq (s:=s) hD fP hw hp hS hδ;obtain⟨a1,a2⟩:=Ya5 (a:=gh δ 0) (b:=gh δ 1) hw hp (by rw[e0];exact Rat.le_refl) (by rw[e0,e1];exact hδ) (hs 0) (hs 1);obtain⟨b1,b2⟩:=Ya5 (a:=gh δ 1) (b:=gh δ 2) hw hp (by rw[e1];exact Rat.le_of_lt hδ) (by rw[e1,e2];grind) (hs 1) (hs 2);refine⟨by rw[hz,hz];exact a1,by rw[hz,hz];exact b1,a2,b2,fun k=>?_⟩;have:=YK (fun j=>o[j]?.getD 0) hw hp (Od hδ).1 (hs k);rw[hz,El ho];exact this
def Ywg{s:aH}(hc:aR s=0)(hl:s.length<=24):Fn A.C 65 [.str s] h N (fun x h' n'=>Fc h' n' x (e_ s)):=by
 obtain⟨t1,t2,t3⟩:=Gd hc;have l1:(aM (e_ s).num).length<=100000:=by
  have:(aM (e_ s).num).length<=(aq (e_ s).num.natAbs).length+1:=by unfold aM;split<;>simp
  omega
 have uK:=Zyb (q:=e_ s) (h:=h) (N:=N) l1 (by omega);rw[t1]at uK;exact uK
end Go.Mx
