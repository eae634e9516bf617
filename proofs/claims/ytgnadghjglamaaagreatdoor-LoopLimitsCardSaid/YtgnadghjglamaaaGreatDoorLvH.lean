/-lensletref06-/
import Derived.Test.YtgnadghjglamaaaGreatDoorLvD
set_option linter.all false
namespace Go.Mx
noncomputable section
open Go Go.Proofs
variable {N:Nat} {h:T O} {v:V}
set_option maxRecDepth 1000000
def A.w34:=A.q Tryz.f34
def A.zf4:=A.ql A.w34 2 []
def A.zf5:=(fun x0=>A.ql A.w34 1 [x0]) A.zf4
def A.zf6:=A.ql A.w34 0 []
def A.b34:=(fun x0 x1=>A.qb A.w34 [x0,x1]) A.zf6 A.zf5
def A.k34:=@A.kk 34 82 [.tmp 4] A.b34 (by kernel_rfl) rfl
def Zvl{z:Nat}{x:List V}(hx:x.length=z):∀{l:List (List V)},(∀y∈l,y.length=z)->∀{k:Nat},k<l.length->ag l.flatten (k*z) x=(l.set k x).flatten
 |[],_,k,h=>by simp at h
 |y::l,h,0,_=>by
  have hy:=h y oM
  rw[List.flatten_cons,List.set_cons_zero,List.flatten_cons,Nat.zero_mul]
  unfold ag
  rw[List.take_zero,List.nil_append,vW,hx,<-hy,List.drop_left]
 |y::l,h,k+1,hk=>by
  have hy:=h y oM
  have ih:=Zvl hx (l:=l) (fun y hy=>h y (mD _ hy)) (k:=k) (by simpa using hk)
  rw[List.flatten_cons,List.set_cons_succ,List.flatten_cons,<-ih]
  unfold ag
  have e1:(k+1)*z=y.length+k*z:=by rw[hy,jg];omega
  rw[e1,List.take_length_add_append,qS,List.drop_length_add_append]
  simp only[sQ]
def pgI(p:List (Rat×Rat))(i:Nat):Rat×Rat:=(p[i]?).getD (0,0)
def Zdt{p:List (Rat×Rat)}{i:Nat}(h:i<p.length):p[i]?=some (pgI p i):=by unfold pgI;rw[eA h];rfl
def Ywt(x y:Rat×Rat):Rat×Rat:=(Ywo x.1 x.2 y.1 y.2,Yws x.1 x.2 y.1 y.2)
def Yx0(x y:Rat×Rat):Rat×Rat:=(x.1-y.2,x.2-y.1)
def Yxz(p:List (Rat×Rat))(k:Nat):Rat×Rat:=Yx0 (Ywt (pgI p (p.length-1)) (pgI p (k+1))) (Ywt (pgI p 0) (pgI p (p.length-1-1-k)))
def Zd8(p:List (Rat×Rat)):List (Rat×Rat):=(List.range (p.length-1)).map (Yxz p)
def Zs8:Nat->List (Rat×Rat)->Bool
 |0,_=>true
 |n+1,p=>if p.length<=1 then true else if Za5 (pgI p (p.length-1)).1 (pgI p (p.length-1)).2<=Zjp (pgI p 0).1 (pgI p 0).2 then false else Zs8 n (Zd8 p)
def Ztk(l:List Rat):List (Rat×Rat):=l.map fun q=>(q,q)
def zgs(l p:Rat)(D:Nat)(lo hi:Rat):List (Rat×Rat):=(Ztk (zgn 0 l p D)).set 1 (pg (zgn 0 l p D) 1+lo,pg (zgn 0 l p D) 1+hi)
def QbI(K:Nat)(x:Rat×Rat):Prop:=Qb K x.1/\Qb K x.2
def Zjh{K:Nat}{x y:Rat×Rat}(hx:QbI K x)(hy:QbI K y):QbI (K+K) (Ywt x y):=by
 have hq:∀z∈[x.1*y.1,x.1*y.2,x.2*y.1,x.2*y.2],Qb (K+K) z:=fun z hz=>by
  simp at hz;rcases hz with rfl|rfl|rfl|rfl
  ·exact hx.1.mul hy.1
  ·exact hx.1.mul hy.2
  ·exact hx.2.mul hy.1
  exact hx.2.mul hy.2
 exact⟨ND hq (by simp),NG hq (by simp)⟩
def Zwp{p:List (Rat×Rat)}:(Zd8 p).length=p.length-1:=by simp[Zd8]
def Zw5{p:List (Rat×Rat)}{k:Nat}(h:k<p.length-1):pgI (Zd8 p) k=Yxz p k:=by unfold pgI Zd8;simp[h]
def Yar{p:List (Rat×Rat)}{K:Nat}(hK:1<=K)(hq:∀x∈p,QbI K x):∀x∈Zd8 p,QbI (5*K) x:=fun x hx=>by
 obtain⟨k,hk,rfl⟩:=AG.1 hx
 rw[Sa]at hk
 have q0:=hq _ (eZ (Zdt (p:=p) (i:=0) (by omega)))
 have q1:=hq _ (eZ (Zdt (p:=p) (i:=p.length-1) (by omega)))
 have q2:=hq _ (eZ (Zdt (p:=p) (i:=k+1) (by omega)))
 have q3:=hq _ (eZ (Zdt (p:=p) (i:=p.length-1-1-k) (by omega)))
 have a:=Zjh q1 q2
 have b:=Zjh q0 q3
 exact⟨(a.1.sub b.2).mono (by omega),(a.2.sub b.1).mono (by omega)⟩
def Yx2{p:List (Rat×Rat)}{n:Nat}(h:p.length<=1):Zs8 n p=true:=by
 cases n with
 |zero=>rfl
 |succ n=>unfold Zs8;rw[aQ h]
def Zlu{l:List Rat}:(Ztk l).length=l.length:=by simp[Ztk]
def Ypp{l p lo hi:Rat}{D:Nat}:(zgs l p D lo hi).length=D+3:=by unfold zgs;rw[Dm,Zlu];exact(@Zi1 0 l p D).1
def Yv9{l p lo hi:Rat}{D k:Nat}(ql:Qb k l)(qp:Qb k p)(q1:Qb k lo)(q2:Qb k hi)(hk:1<=k):∀x∈zgs l p D lo hi,QbI (4*k+3) x:=fun x hx=>by
 have qc:=Dv (d:=D) (g:=0) (k:=k) ((Qb.int (z:=0) (k:=1) (by decide) (by decide)).mono hk) ql qp hk
 rcases Dh hx with h|rfl
 ·obtain⟨q,hq,rfl⟩:=AG.1 h
  exact⟨(qc q hq).mono (by omega),(qc q hq).mono (by omega)⟩
 ·have qa:=qc _ (eZ (eL (p:=zgn 0 l p D) (i:=1) (by rw[(@Zi1 0 l p D).1];omega)))
  exact⟨(qa.add q1).mono (by omega),(qa.add q2).mono (by omega)⟩
def TpS(h:T O)(N:Nat)(v:V)(l:List (Rat×Rat)):Prop:=Sn 2 h N v (l.map fun p=>[V.str (ax (p).1),V.str (ax (p).2)])
def TpS.ah{h':T O}{N':Nat}{l:List (Rat×Rat)}(s:TpS h N v l)(k:ae h N h' N'):TpS h' N' v l:=Sn.ah s k
def TpS.len{l:List (Rat×Rat)}(s:TpS h N v l):r_ v=some l.length:=by have:=Sn.len s;rw[Yxu]at this;exact this
def TpS.at{l:List (Rat×Rat)}(s:TpS h N v l){j:Nat}(hj:j<l.length):∃i o c e rw,AF v=some (i,o)/\i<N/\h.get i=some (.cells c e rw)/\aE c (o+j*2) 2=some [V.str (ax (pgI l j).1),V.str (ax (pgI l j).2)]:=
 Sn.at s (by rw[mL,Zdt hj];rfl)
def Xbe{N0:Nat}{l:List (Rat×Rat)}(s:Own 2 52 N0 h N v (l.map fun p=>[V.str (ax (p).1),V.str (ax (p).2)])):TpS h N v l:=s.sn
def Xbd{N0:Nat}{l:List (Rat×Rat)}{x:Rat×Rat}(s:Own 2 52 N0 h N v (l.map fun p=>[V.str (ax (p).1),V.str (ax (p).2)]))(h1:1<l.length):∃i FL,AF v=some (i,0)/\N0<=i/\i<N/\h.get i=some (.cells FL 52 true)/\aE FL 2 2=some [V.str (ax (pgI l 1).1),V.str (ax (pgI l 1).2)]/\4<=FL.length/\∀h' N',ae h N h' N'->TpS (h'.set i (.cells (ag FL 2 [V.str (ax (x).1),V.str (ax (x).2)]) 52 true)) N' v (l.set 1 x):=by
 obtain⟨hl,⟨h0,_⟩|⟨i,rfl,a1,a2,a3⟩⟩:=s
 ·have:l.length=0:=by simpa using congrArg List.length h0
  omega
 have fl:=vX hl;rw[Yxu]at fl;have e1:ag (l.map fun p=>[V.str (ax (p).1),V.str (ax (p).2)]).flatten 2 [V.str (ax (x).1),V.str (ax (x).2)]=((l.set 1 x).map fun p=>[V.str (ax (p).1),V.str (ax (p).2)]).flatten:=by have:=Zvl (z:=2) (x:=[V.str (ax (x).1),V.str (ax (x).2)]) rfl hl (k:=1) (by simpa using h1);rw[Nat.one_mul]at this;rw[this,List.map_set]
 refine⟨i,_,rfl,a1,a2,a3,?_,by omega,fun h' N' k=>?_⟩
 ·have:=KV hl (j:=1) (x:=[V.str (ax (pgI l 1).1),V.str (ax (pgI l 1).2)]) (by rw[mL,Zdt h1];rfl);rw[Nat.one_mul]at this;exact this
 rw[e1];have oO:∀y∈(l.set 1 x).map fun p=>[V.str (ax (p).1),V.str (ax (p).2)],y.length=2:=fun y hy=>by obtain⟨z,_,rfl⟩:=AG.1 hy;rfl
 have:Own 2 52 N0 (h'.set i (.cells ((l.set 1 x).map fun p=>[V.str (ax (p).1),V.str (ax (p).2)]).flatten 52 true)) N' (.slice i 0 (l.map fun p=>[V.str (ax (p).1),V.str (ax (p).2)]).length none 2) ((l.set 1 x).map fun p=>[V.str (ax (p).1),V.str (ax (p).2)]):=⟨oO,.inr ⟨i,by simp,a1,h_ a2 k.le,by rw[T.aj,aQ rfl]⟩⟩;exact Xbe this
set_option maxHeartbeats 8000000
def Xbo{a b:V}:aE [a,b] 0 2=some [a,b]:=rfl
def Ya2{K:Nat}{a b:Rat}(qa:Qb K a)(qb:Qb K b):Qb K (Zjp a b):=NG (fun y hy=>by
 simp at hy
 rcases hy with rfl|rfl
 ·exact tJ qa
 ·exact tJ qb) (by simp)
def Zyn{K:Nat}{a b:Rat}(hK:1<=K)(qa:Qb K a)(qb:Qb K b):Qb K (Za5 a b):=by
 unfold Za5;split
 ·exact(Qb.int (z:=0) (k:=1) (by decide) (by decide)).mono hK
 exact ND (fun y hy=>by
  simp at hy
  rcases hy with rfl|rfl
  ·exact tJ qa
  ·exact tJ qb) (by simp)
structure CrI (h:T O) (N:Nat) (l:List (Rat×Rat)) (k m:Nat) (r:T V) (st:St):Prop where
 w:aD N st.w=[]
 ah:ae h N st.h st.n
 ex:∃(v:V) (p:List (Rat×Rat)),r.get 5=some v/\TpS st.h st.n v p/\p.length=m+1/\m+1<=l.length/\(∀x∈p,QbI (k*5^(l.length-1-m)) x)/\Zs8 (m+1) p=Zs8 l.length l
def Xbb{h:T O}{N D k:Nat}{g:aU}{l p lo hi:Rat}(ql:Qb k l)(qp:Qb k p)(q1:Qb k lo)(q2:Qb k hi)(hk:1<=k)(ew:k<=1000)(hD:D<=6)(gO:(4*k+3)*5^(D+2)<=40000000):Fn A.C 34 [.agg [.str g,.str (ax l),.str (ax p),.int .i64 D],.agg [.str (ax (lo)),.str (ax (hi))]] h N (fun x _ _=>x=.bool (Zs8 (D+3) (zgs l p D lo hi))):=by
 intro w;have q0:Qb k 0:=(Qb.int (z:=0) (k:=1) (by decide) (by decide)).mono hk;have kB:ae h N ((h.set N (.cells [.str g,.str (ax l),.str (ax p),.int .i64 D] 26 true)).set (N+1) (.cells [.str (ax lo),.str (ax hi)] 52 true)) (N+1+1):=(ae.refl.new _).new _;have b0:((h.set N (.cells [.str g,.str (ax l),.str (ax p),.int .i64 D] 26 true)).set (N+1) (.cells [.str (ax lo),.str (ax hi)] 52 true)).get N=some (.cells [.str g,.str (ax l),.str (ax p),.int .i64 D] 26 true):=by simp
 have b1:((h.set N (.cells [.str g,.str (ax l),.str (ax p),.int .i64 D] 26 true)).set (N+1) (.cells [.str (ax lo),.str (ax hi)] 52 true)).get (N+1)=some (.cells [.str (ax lo),.str (ax hi)] 52 true):=by simp
 rw[aV,A.k34 (by simp)];simp(disch:=first|(simp;done)|omega|rfl) [-getElem?_pos,A.b34,aJ,aE];generalize (h.set N (.cells [.str g,.str (ax l),.str (ax p),.int .i64 D] 26 true)).set (N+1) (.cells [.str (ax lo),.str (ax hi)] 52 true)=HB at*;refine az (Ywy (g:=g) (l:=ax l) (p:=ax p) (D:=(D:Int)) (x:=[48])) ?_;rintro _ h1 n1 k1 rfl;simp(disch:=first|(simp;done)|omega|rfl) [-getElem?_pos,];rw[<-Ij];refine az (Ywu (g:=0) q0 ql qp hk ew hD) ?_;rintro v2 h2 n2 k2 t2;have K2:=(kB.trans k1).trans k2;have l12:=(k1.trans k2).le;have b12:=((k1.trans k2).get (N+1) (by omega)).trans b1;have lv:=t2.1.len;try rw[rS]at lv
 have cl:=(@Zi1 0 l p D).1;have qB:=Yv9 (D:=D) ql qp q1 q2 hk;have bl:=@Ypp l p lo hi D;have eB:zgs l p D lo hi=(Ztk (zgn 0 l p D)).set 1 (pg (zgn 0 l p D) 1+lo,pg (zgn 0 l p D) 1+hi):=rfl;have qc:=Dv (d:=D) q0 ql qp hk;rw[cl]at lv;generalize hbc:zgn 0 l p D=base at*;simp(disch:=first|(simp;done)|omega|rfl) [-getElem?_pos,];refine c_ [(5,5),(7,7),(16,29)] (fun e r st=>e=.exit 0/\aD N st.w=[]/\ae h2 n2 st.h st.n/\∃u,r.get 5=some u/\Own 2 52 n2 st.h st.n u ((Ztk base).map fun p=>[V.str (ax (p).1),V.str (ax (p).2)])) (fun m r st=>aD N st.w=[]/\ae h2 n2 st.h st.n/\∃t,t+m=D+3/\r.get 7=some (.int .i64 t)/\∃u,r.get 5=some u/\Own 2 52 n2 st.h st.n u (((Ztk base).take t).map fun p=>[V.str (ax (p).1),V.str (ax (p).2)])) (D+3) ?_ ?_ ?_
 ·exact⟨by simp,ae.refl,0,by omega,by simp,.aa,by simp,by simpa using Own.nil⟩
 ·rintro m r ⟨H,n,W⟩ hr hf ⟨hW,hK,t,ht,h7,u,h5,ou⟩;simp only at hW hK ou;rw[dk];have Nj:=hK.le;cases m with
  |zero=>
   obtain rfl:t=D+3:=by omega
   rw[iP (by rw[Zlu,cl];omega)]at ou;simp(disch:=first|(simp;done)|omega|rfl) [-getElem?_pos,A.zf6,hr,hf,h7,h5,lv,hW,hK];exact ou
  |succ m=>
   have aP:t<D+3:=by omega
   have dE:(t:Int)<(D:Int)+3:=by omega
   have fm:(t:Int)<((D+3:Nat):Int):=by omega
   obtain⟨i1,o1,c1,y1,w1,a1,a2,a3,a4⟩:=(t2.1.ah hK).at (vV (eL (p:=base) (i:=t) (by omega)));simp(disch:=first|(simp;done)|omega|rfl) [-getElem?_pos,A.zf6,hr,hf,h7,h5,aP,dE,fm,lv,a1,a2,a3,a4];refine az Xa2 ?_;rintro _ h9 n9 k9 rfl;have le9:=k9.le;have lt8:((Ztk base).take t).length=t:=by rw[lW,Zlu,cl];omega
   obtain⟨u',h',w',j1',j2',uL,_,RY⟩:=xh (x:=[.str (ax (pg base t)),.str (ax (pg base t))]) (u:=.slice n9 0 1 (some 1) 2) (bytes:=32) (w:=W) ((ou.ah k9).ah (ae.refl.new (.cells [.str (ax (pg base t)),.str (ax (pg base t))] 52 true))) (by omega) (by decide) rfl (by simp[gp,St.row,aE]) (by rw[Yxu,lt8];omega);have e7:(((Ztk base).take t).map fun p=>[V.str (ax (p).1),V.str (ax (p).2)])++[[.str (ax (pg base t)),.str (ax (pg base t))]]=((Ztk base).take (t+1)).map fun p=>[V.str (ax (p).1),V.str (ax (p).2)]:=by
    have:(Ztk base)[t]?=some (pg base t,pg base t):=by unfold Ztk;rw[mL,eL (by omega)];rfl
    rw[HY,this];simp
   rw[e7]at RY;have ow:aD N w'=[]:=Ir j2' (by have:=K2.le;omega) hW;simp(disch:=first|(simp;done)|omega|rfl) [-getElem?_pos, -aD,hr,hf,h7,h5,ag,j1'];exact⟨m,by omega,ow,((hK.trans k9).trans (ae.refl.new (.cells [.str (ax (pg base t)),.str (ax (pg base t))] 52 true))).then uL,t+1,by omega,by simp,by simpa using RY⟩
 rintro _ r ⟨H,n,W⟩ hr ⟨rfl,hW,hK,u,h5,ou⟩;simp only at hW hK ou;have Nj:=hK.le;obtain⟨i,FL,e1,e2,e3,e4,e5,e6,e7⟩:=Xbd (x:=(pg base 1+lo,pg base 1+hi)) ou (by rw[Zlu,cl];omega);have lu:=ou.len;rw[Yxu,Zlu,cl]at lu;have e8:pgI (Ztk base) 1=(pg base 1,pg base 1):=by unfold pgI Ztk;rw[mL,eL (by omega)];rfl
 rw[e8]at e5;have Sd:=qc _ (eZ (eL (p:=base) (i:=1) (by omega)));have b13:=(hK.get (N+1) (by omega)).trans b12;have l13:N+1<n:=by omega
 have c1:(1:Int)<((D+3:Nat):Int):=by omega
 have c2:(1:Int)<(D:Int)+3:=by omega
 have c3:1<D+3:=by omega
 have sGG:aE [V.str (ax lo),V.str (ax hi)] 0 2=some [V.str (ax lo),V.str (ax hi)]:=rfl;simp(disch:=first|(simp;done)|omega|rfl) [-getElem?_pos,hr,h5,lu,e1,e3,e4,e5,e6,b13,l13,c1,c2,c3,sGG,aJ];refine az (Xa8 Sd Sd (q1.mono (by omega)) (q2.mono (by omega)) (by omega)) ?_;rintro _ h6 n6 k6 rfl;have le6:=k6.le;have e46:=(k6.get i e3).trans e4;have e36:i<n6:=by omega
 have e76:=e7 h6 n6 k6;have K6:ae h N (h6.set i (.cells (ag FL 2 [.str (ax (pg base 1+lo)),.str (ax (pg base 1+hi))]) 52 true)) n6:=((K2.trans hK).trans k6).set (by have:=K2.le;omega);have iN:¬i<N:=by have:=K2.le;omega
 simp(disch:=first|(simp;done)|omega|rfl) [-getElem?_pos,hr,h5,lu,e1,e36,e46,e6,c1,c2,c3,bE];generalize h6.set i (.cells (ag FL 2 [.str (ax (pg base 1+lo)),.str (ax (pg base 1+hi))]) 52 true)=H8 at*;rw[<-eB]at e76;generalize zgs l p D lo hi=P0 at*;refine c_ [(4,5),(8,12),(37,81)] (fun e r st=>aD N st.w=[]/\ae h N st.h st.n/\((e=.exit 2/\Zs8 (D+3) P0=true)\/(e=.ret/\r.get 4=some (.bool false)/\Zs8 (D+3) P0=false))) (CrI h N P0 (4*k+3)) (D+2) ?_ ?_ ?_
 ·refine⟨by simp[iN,hW],K6,u,P0,by simp[h5],e76,by rw[bl],by rw[bl];omega,fun x hx=>?_,by rw[bl]⟩;rw[bl,show D+3-1-(D+2)=0 by omega,AH,tE];exact qB x hx
 ·rintro m r' ⟨H,n1,W⟩ rQ yV ⟨CY,hK',v,p,r5,hp,pl,Lg,pq,ps⟩;simp only at CY hK' hp;have lp:=hp.len;rw[pl]at lp;rw[bl]at Lg pq ps;rw[dk];cases m with
  |zero=> rw[Yx2 (by omega)]at ps;simp(disch:=first|(simp;done)|omega|rfl) [-getElem?_pos,A.zf5,rQ,yV,r5,lp,CY,hK',<-ps]
  |succ m=>
   obtain⟨i0,o0,x0,y0,w0,a1,a2,a3,a4⟩:=hp.at (j:=0) (by omega);obtain⟨i1,o1,x1,y1,w1,d1,d2,d3,d4⟩:=hp.at (j:=m+1) (by omega);rw[a1]at d1;obtain⟨rfl,rfl⟩:i0=i1/\o0=o1:=by simpa using d1
   rw[a3]at d3;obtain⟨rfl,rfl,rfl⟩:x0=x1/\y0=y1/\w0=w1:=by simpa using d3
   rw[Nat.zero_mul,tF]at a4;have uz:(4*k+3)*5^(D+3-1-(m+1))*5=(4*k+3)*5^(D+3-1-m):=by rw[uA,<-fO];congr 2;omega
   have Lh:(4*k+3)*5^(D+3-1-m)<=40000000:=sF (je _ (pc (by omega) (by omega))) gO;have hBk:1<=(4*k+3)*5^(D+3-1-(m+1)):=tH (by omega) (vU (by omega));generalize (4*k+3)*5^(D+3-1-(m+1))=KB at*;have qs:=pq _ (eZ (Zdt (p:=p) (i:=0) (by omega)));have qt:=pq _ (eZ (Zdt (p:=p) (i:=m+1) (by omega)));have qn:=Yar hBk pq;have g1:(1:Int)<((m+1+1:Nat):Int):=by omega
   have g2:(1:Int)<(m:Int)+1+1:=by omega
   have g3:((m:Int)+1+1-1).toNat=m+1:=by omega
   have g4:(0:Int)<(m:Int)+1+1:=by omega
   have g5:(0:Int)<=(m:Int)+1+1-1:=by omega
   have g6:(m:Int)+1+1-1<(m:Int)+1+1:=by omega
   have zdD:=hK'.le;have kS:ae H n1 ((((H.set n1 (.cells [.str [],.str []] 52 true)).set (n1+1) (.cells [.str [],.str []] 52 true)).set n1 (.cells [V.str (ax (pgI p 0).1),V.str (ax (pgI p 0).2)] 52 true)).set (n1+1) (.cells [V.str (ax (pgI p (m+1)).1),V.str (ax (pgI p (m+1)).2)] 52 true)) (n1+1+1):=(((ae.refl.new _).new _).set (by omega)).set (by omega);have s0:((((H.set n1 (.cells [.str [],.str []] 52 true)).set (n1+1) (.cells [.str [],.str []] 52 true)).set n1 (.cells [V.str (ax (pgI p 0).1),V.str (ax (pgI p 0).2)] 52 true)).set (n1+1) (.cells [V.str (ax (pgI p (m+1)).1),V.str (ax (pgI p (m+1)).2)] 52 true)).get n1=some (.cells [V.str (ax (pgI p 0).1),V.str (ax (pgI p 0).2)] 52 true):=by simp
   have s1:((((H.set n1 (.cells [.str [],.str []] 52 true)).set (n1+1) (.cells [.str [],.str []] 52 true)).set n1 (.cells [V.str (ax (pgI p 0).1),V.str (ax (pgI p 0).2)] 52 true)).set (n1+1) (.cells [V.str (ax (pgI p (m+1)).1),V.str (ax (pgI p (m+1)).2)] 52 true)).get (n1+1)=some (.cells [V.str (ax (pgI p (m+1)).1),V.str (ax (pgI p (m+1)).2)] 52 true):=by simp
   have NH:¬i0=n1:=by omega
   have Sf:¬i0=n1+1:=by omega
   have Sh:¬n1=i0:=by omega
   have NM:¬n1+1=i0:=by omega
   simp(disch:=first|(simp;done)|omega|rfl) [-getElem?_pos,A.zf5,rQ,yV,r5,lp,a1,a2,a3,a4,d4,g1,g2,g3,g4,g5,g6,ag,bE,aJ,Xbo,NH,Sf,Sh,NM,bU.bZ];refine(NA (by simp[iG,bU,bU.go,bU.bZ,FP.free,Nat.testBit,NH,Sf,Sh,NM])).2 ?_;simp(disch:=first|(simp;done)|omega|rfl) [-getElem?_pos,Xbo];generalize ((((H.set n1 (.cells [.str [],.str []] 52 true)).set (n1+1) (.cells [.str [],.str []] 52 true)).set n1 (.cells [V.str (ax (pgI p 0).1),V.str (ax (pgI p 0).2)] 52 true)).set (n1+1) (.cells [V.str (ax (pgI p (m+1)).1),V.str (ax (pgI p (m+1)).2)] 52 true))=HS at*;refine az (Xa9 qs.1 qs.2 (by omega)) ?_;rintro _ h7 n7 k7 rfl;have s17:=(k7.get (n1+1) (by omega)).trans s1;have l17:n1+1<n7:=by have:=k7.le;omega
   simp(disch:=first|(simp;done)|omega|rfl) [-getElem?_pos,s17,l17,aJ,Xbo];refine az (Xa5 qt.1 qt.2 (by omega)) ?_;rintro _ h8 n8 k8 rfl;have qm:=Ya2 qs.1 qs.2;have qn':=Zyn hBk qt.1 qt.2;have tl:=jt qn';simp(disch:=first|(simp;done)|omega|rfl) [-getElem?_pos,];refine az (zg qm qn' (by omega) (by omega) (by omega)) ?_;rintro _ h9 n9 k9 rfl;have k79:=(k7.trans k8).trans k9;have l79:=k79.le;have s09:=(k79.get n1 (by omega)).trans s0;have s19:=(k79.get (n1+1) (by omega)).trans s1;have K9:=(hK'.trans kS).trans k79;have NN:=(hp.ah kS).ah k79;have ec:0<=df (Zjp (pgI p 0).1 (pgI p 0).2-Za5 (pgI p (m+1)).1 (pgI p (m+1)).2).num↔Za5 (pgI p (m+1)).1 (pgI p (m+1)).2<=Zjp (pgI p 0).1 (pgI p 0).2:=by rw[Ye0];constructor<;>intro h<;>grind
   have ps2:Zs8 (m+1+1) p=if Za5 (pgI p (m+1)).1 (pgI p (m+1)).2<=Zjp (pgI p 0).1 (pgI p 0).2 then false else Zs8 (m+1) (Zd8 p):=by
    conv=>lhs;unfold Zs8
    rw[aA (by omega),pl,show m+1+1-1=m+1 from rfl]
   rw[ps2]at ps;have Sp:¬n1<N:=by omega
   have nN2:¬n1+1<N:=by omega
   by_cases cc:Za5 (pgI p (m+1)).1 (pgI p (m+1)).2<=Zjp (pgI p 0).1 (pgI p 0).2
   ·have c1':=ec.2 cc;rw[aQ cc]at ps;simp(disch:=first|(simp;done)|omega|rfl) [-getElem?_pos,rQ,yV,c1',Sp,nN2,CY,<-ps];exact K9
   have c1':=mt ec.1 cc;rw[aA cc]at ps;have nl:(Zd8 p).length=m+1:=by rw[Zwp,pl];rfl
   simp(disch:=first|(simp;done)|omega|rfl) [-getElem?_pos,rQ,yV,c1'];refine c_ [(11,12),(56,80)] (fun e r st=>e=.exit 4/\aD N st.w=[]/\ae h9 n9 st.h st.n/\∃u,r.get 11=some u/\TpS st.h st.n u (Zd8 p)) (fun i r st=>aD N st.w=[]/\ae h9 n9 st.h st.n/\∃t u,t+i=m+1/\r.get 12=some (.int .i64 t)/\r.get 11=some u/\Own 2 52 n9 st.h st.n u (((Zd8 p).take t).map fun p=>[V.str (ax (p).1),V.str (ax (p).2)])) (m+1) ?_ ?_ ?_
   ·exact⟨by simp[aD,Sp,nN2,CY],ae.refl,0,.aa,by omega,by simp,by simp,by simpa using Own.nil⟩
   ·rintro i r2 ⟨HI,nI,WI⟩ bK jv ⟨hWI,hKI,t,u2,hti,eK,fA,ouI⟩;simp only at hWI hKI ouI;rw[dk];have leI:=hKI.le;cases i with
    |zero=>
     obtain rfl:t=m+1:=by omega
     rw[iP (by omega)]at ouI;simp(disch:=first|(simp;done)|omega|rfl) [-getElem?_pos,A.zf4,bK,jv,rQ,yV,eK,fA,hWI,hKI];exact Xbe ouI
    |succ i=>
     have aP:t<m+1:=by omega
     have dE:(t:Int)<(m:Int)+1:=by omega
     have hpI:=NN.ah hKI;have Ik:=hpI.len;rw[pl]at Ik;obtain⟨j0,u0,y0',z0,w0',b1',b2',b3',b4'⟩:=hpI.at (j:=t+1) (by omega);obtain⟨j1,u1,NJ,z1,w1',NI,La,AK,MM⟩:=hpI.at (j:=m-t) (by omega);rw[b1']at NI;obtain⟨rfl,rfl⟩:j0=j1/\u0=u1:=by simpa using NI
     rw[b3']at AK;obtain⟨rfl,rfl,rfl⟩:y0'=NJ/\z0=z1/\w0'=w1':=by simpa using AK
     have NT:(0:Int)<=(t:Int)+1:=by omega
     have Se:(t:Int)+1<(m:Int)+1+1:=by omega
     have Sv:((t:Int)+1).toNat=t+1:=by omega
     have i4':(0:Int)<=(m:Int)-t:=by omega
     have i5':(m:Int)-t<(m:Int)+1+1:=by omega
     have i6':((m:Int)-t).toNat=m-t:=by omega
     have i7':(t:Int)<=(m:Int):=by omega
     have sI0:=(hKI.get n1 (by omega)).trans s09;have sI1:=(hKI.get (n1+1) (by omega)).trans s19;have lI1:n1+1<nI:=by omega
     have lI0:n1<nI:=by omega
     have qx:=pq _ (eZ (Zdt (p:=p) (i:=t+1) (by omega)));have qy:=pq _ (eZ (Zdt (p:=p) (i:=m-t) (by omega)));have qX:=Zjh qt qx;have qY:=Zjh qs qy;simp(disch:=first|(simp;done)|omega|rfl) [-getElem?_pos,A.zf4,bK,jv,rQ,yV,r5,eK,fA,dE,Ik,b1',b2',b3',b4',MM,sI0,sI1,lI0,lI1,NT,Se,Sv,i4',i5',i6',i7',aJ,Xbo];refine az (Xax qt.1 qt.2 qx.1 qx.2 (by omega)) ?_;rintro _ hA nA kA rfl;have b3A:=(kA.get j0 b2').trans b3';have lA:=kA.le;have b2A:j0<nA:=by omega
     have sA0:=(kA.get n1 lI0).trans sI0;have lA0:n1<nA:=by omega
     simp(disch:=first|(simp;done)|omega|rfl) [-getElem?_pos,bK,jv,rQ,yV,r5,eK,fA,dE,Ik,b1',b2A,b3A,b4',MM,sA0,lA0,NT,Se,Sv,i4',i5',i6',i7',aJ,Xbo];refine az (Xax qs.1 qs.2 qy.1 qy.2 (by omega)) ?_;rintro _ hC nC kC rfl;simp(disch:=first|(simp;done)|omega|rfl) [-getElem?_pos,];refine az (Xa4 qX.1 qX.2 qY.1 qY.2 (by omega)) ?_;rintro _ hE nE kE rfl;have Il:=(kA.trans kC).trans kE;have lE:=Il.le;have en:((pgI (Zd8 p) t).1=Ywo (pgI p (m+1)).1 (pgI p (m+1)).2 (pgI p (t+1)).1 (pgI p (t+1)).2-Yws (pgI p (0)).1 (pgI p (0)).2 (pgI p (m-t)).1 (pgI p (m-t)).2)/\((pgI (Zd8 p) t).2=Yws (pgI p (m+1)).1 (pgI p (m+1)).2 (pgI p (t+1)).1 (pgI p (t+1)).2-Ywo (pgI p (0)).1 (pgI p (0)).2 (pgI p (m-t)).1 (pgI p (m-t)).2):=by rw[Zw5 (by omega),Yxz,pl,show m+1+1-1=m+1 from rfl,show m+1-1-t=m-t by omega];exact⟨rfl,rfl⟩
     have lt8:((Zd8 p).take t).length=t:=by rw[lW,nl];omega
     obtain⟨u',h',w',j1',j2',uL,_,RY⟩:=xh (x:=[V.str (ax (pgI (Zd8 p) t).1),V.str (ax (pgI (Zd8 p) t).2)]) (u:=.slice nE 0 1 (some 1) 2) (bytes:=32) (w:=[]) ((ouI.ah Il).ah (ae.refl.new (.cells [V.str (ax (pgI (Zd8 p) t).1),V.str (ax (pgI (Zd8 p) t).2)] 52 true))) (by omega) (by decide) rfl (by simp[gp,St.row,aE]) (by rw[Yxu,lt8];omega);have e7':(((Zd8 p).take t).map fun p=>[V.str (ax (p).1),V.str (ax (p).2)])++[[V.str (ax (pgI (Zd8 p) t).1),V.str (ax (pgI (Zd8 p) t).2)]]=((Zd8 p).take (t+1)).map fun p=>[V.str (ax (p).1),V.str (ax (p).2)]:=by rw[HY,Zdt (by omega)];simp
     rw[e7']at RY;rw[en.1,en.2]at j1';have ow:aD N w'=[]:=Ir j2' (by omega) rfl;have kk:=(hKI.trans Il).trans (ae.refl.new (.cells [V.str (ax (pgI (Zd8 p) t).1),V.str (ax (pgI (Zd8 p) t).2)] 52 true));rw[en.1,en.2]at uL kk;simp(disch:=first|(simp;done)|omega|rfl) [-getElem?_pos, -aD,bK,jv,rQ,yV,eK,fA,ag,j1'];exact⟨i,by omega,Yjn ow hWI,kk.then uL,t+1,by omega,by simp,by simpa using RY⟩
   rintro _ r2 ⟨HI,nI,WI⟩ bK ⟨rfl,hWI,hKI,u2,fA,fD⟩;simp only at hWI hKI fD;have BI:=yV.inner (D':=[(11,12),(56,80)]) rfl (fun hh=>by simpa using hh) bK;rw[gk KB 5]at uz;simp(disch:=first|(simp;done)|omega|rfl) [-getElem?_pos,bK,fA,rQ,yV];exact⟨by simpa using BI,m,by omega,hWI,K9.trans hKI,u2,Zd8 p,by simp,fD,nl,by rw[bl];omega,by rw[bl,<-uz];exact qn,by rw[bl];exact ps⟩
 rintro _ r' ⟨H,n1,W⟩ rQ ⟨CY,hK',⟨rfl,hc⟩|⟨rfl,h4,hc⟩⟩
 ·simp only at CY hK';rw[hc];simp(disch:=first|(simp;done)|omega|rfl) [-getElem?_pos,rQ,aF,CY,hK']
 simp only at CY hK';rw[hc];simp(disch:=first|(simp;done)|omega|rfl) [-getElem?_pos,rQ,h4,aF,CY,hK']
variable {N N':Nat} {h h':T O} {v:V}
def A.w32:=A.q Tryz.f32
def A.zf7:=A.ql A.w32 2 []
def A.zgA:=(fun x0=>A.ql A.w32 1 [x0]) A.zf7
def A.qC:=A.ql A.w32 0 []
def A.b32:=(fun x0 x1=>A.qb A.w32 [x0,x1]) A.qC A.zgA
def A.k32:=@A.kk 32 96 [.tmp 4,.tmp 5] A.b32 (by kernel_rfl) rfl
def BcC(h:T O)(N:Nat)(c:List V)(x:Rat×Rat):Prop:=Bc h N (.agg c) x.1 x.2
def Bc.c{x:V}{a b:Rat}(s:Bc h N x a b):∃c,x=.agg c/\BcC h N c (a,b):=by have s0:=s;obtain⟨n1,u1,n2,u2,n3,u3,n4,u4,rfl,_⟩:=s;exact⟨_,rfl,s0⟩
def BcC.ah{c:List V}{x:Rat×Rat}(s:BcC h N c x)(k:ae h N h' N'):BcC h' N' c x:=Bc.ah s k
def BcC.len{c:List V}{x:Rat×Rat}(s:BcC h N c x):c.length=8/\c.all V.one=true/\∀y∈c,NW y:=by
 obtain⟨n1,u1,n2,u2,n3,u3,n4,u4,e,s1,s2,s3,s4⟩:=s;simp only[V.agg.injEq]at e;subst e;have o1:=de s1;have o2:=de s2;have o3:=de s3;have o4:=de s4;refine⟨rfl,by simp only[List.all_cons,List.all_nil,o1,o2,o3,o4,Bool.and_true];rfl,fun y hy m=>?_⟩;simp at hy;rcases hy with rfl|rfl|rfl|rfl|rfl|rfl|rfl|rfl
 ·simp
 ·exact Iw s1 m
 ·simp
 ·exact Iw s2 m
 ·simp
 ·exact Iw s3 m
 ·simp
 exact Iw s4 m
def BcC.aG{i:Nat}{c c0 c1:List V}{x:Rat×Rat}{e0 e1:TypeId}{w0 w1:Bool}(s:BcC h N c x)(g:h.get i=some (.cells c0 e0 w0))(hn:sD c0)(hc:c1.length=c0.length):BcC (h.set i (.cells c1 e1 w1)) N c x:=by obtain⟨n1,u1,n2,u2,n3,u3,n4,u4,e,s1,s2,s3,s4⟩:=s;exact⟨n1,u1,n2,u2,n3,u3,n4,u4,e,s1.aG g hn hc,s2.aG g hn hc,s3.aG g hn hc,s4.aG g hn hc⟩
def BcC.eY{n n':Nat}{c:List V}{x:Rat×Rat}{e:TypeId}(s:BcC h n c x)(k:sE (fun i=>i∈dR v) h n h' n')(hd:Nh e NW h v):BcC h' n' c x:=by obtain⟨n1,u1,n2,u2,n3,u3,n4,u4,ee,s1,s2,s3,s4⟩:=s;exact⟨n1,u1,n2,u2,n3,u3,n4,u4,ee,s1.eY k hd,s2.eY k hd,s3.eY k hd,s4.eY k hd⟩
def Yx1{c:List V}(h:c.length=8):aE c 0 8=some c:=by unfold aE;rw[h];simp;exact iP (by omega)
def Yxy{c d:List V}(h:c.length=8)(hd:d.length=8):ag d 0 c=c:=by unfold ag;rw[h];simp[h,hd]
def BpS(h:T O)(N:Nat)(v:V)(l:List (Rat×Rat)):Prop:=∃cs:List (List V),Sn 8 h N v cs/\cs.length=l.length/\∀j,j<l.length->∃c,cs[j]?=some c/\BcC h N c (pgI l j)
def BpS.ah{l:List (Rat×Rat)}(s:BpS h N v l)(k:ae h N h' N'):BpS h' N' v l:=by obtain⟨cs,s1,s2,s3⟩:=s;exact⟨cs,s1.ah k,s2,fun j hj=>by obtain⟨c,c1,c2⟩:=s3 j hj;exact⟨c,c1,c2.ah k⟩⟩
def BpS.len{l:List (Rat×Rat)}(s:BpS h N v l):r_ v=some l.length:=by obtain⟨cs,s1,s2,_⟩:=s;rw[s1.len,s2]
def BpS.at{l:List (Rat×Rat)}(s:BpS h N v l){j:Nat}(hj:j<l.length):∃i o x e rw c,AF v=some (i,o)/\i<N/\h.get i=some (.cells x e rw)/\aE x (o+j*8) 8=some c/\BcC h N c (pgI l j):=by obtain⟨cs,s1,s2,s3⟩:=s;obtain⟨c,c1,c2⟩:=s3 j hj;obtain⟨i,o,x,e,rw,q1,q2,q3,q4⟩:=s1.at c1;exact⟨i,o,x,e,rw,c,q1,q2,q3,q4,c2⟩
structure BpO (N0:Nat) (h:T O) (N:Nat) (v:V) (f:Nat->Rat×Rat) (t:Nat) (out:List (List V)):Prop where
 own:Own 8 128 N0 h N v out
 len:out.length=t
 nil:out=[]->v=.aa
 nw:∀c∈out,∀y∈c,NW y
 bc:∀j,j<t->∃c,out[j]?=some c/\BcC h N c (f j)
def BpO.zero{N0:Nat}{f:Nat->Rat×Rat}:BpO N0 h N .aa f 0 []:=⟨Own.nil,rfl,fun _=>rfl,by simp,fun j hj=>by omega⟩
def BpO.fin{N0:Nat}{l:List (Rat×Rat)}{out:List (List V)}(s:BpO N0 h N v (pgI l) l.length out):BpS h N v l:=⟨out,s.own.sn,s.len,s.bc⟩
def BpO.push{N0:Nat}{t:Nat}{f:Nat->Rat×Rat}{out:List (List V)}{c:List V}{w:List Nat}(s:BpO N0 h N v f t out)(hN:N0<=N)(ht:t<1000)(hc:BcC h N c (f t)):
  ∃v' h' w',l8 ⟨h.set N (.cells c 128 true),N+1,w⟩ 8 128 128 v (.slice N 0 1 (some 1) 8)=some (v',⟨h',N+1+1,w'⟩)/\aD N0 w'=aD N0 w/\ae h N0 h' (N+1+1)/\BpO N0 h' (N+1+1) v' f (t+1) (out++[c]):=by
 obtain⟨f1,f2,f3⟩:=hc.len;have kk:ae h N (h.set N (.cells c 128 true)) (N+1):=ae.refl.new _;obtain⟨u',h',w',j1,j2,j3,j4,jD,j5⟩:=Zgo (Y:=NW) (x:=c) (u:=.slice N 0 1 (some 1) 8) (bytes:=128) (w:=w) (s.own.ah kk) s.nil s.nw (by omega) (by decide) f1 (by simp only[gp,St.row,T.aj,if_true];unfold aE;simp[f1];exact iP (by omega)) (by have:=s.len;omega);refine⟨u',h',w',j1,j2,⟨by have:=j3.le;omega,fun i hi=>(j3.get i hi).trans (kk.get i (by omega))⟩,j5,by simp[s.len],by simp,fun x hx y hy=>?_,fun j hj=>?_⟩
 ·rcases l7.1 hx with hx|hx
  ·exact s.nw x hx y hy
  simp only[xZ]at hx;subst hx;exact f3 y hy
 by_cases hjt:j<t
 ·obtain⟨x,e1,e2⟩:=s.bc j hjt;exact⟨x,by rw[rR (by have:=s.len;omega)];exact e1,(e2.ah kk).eY j4 jD⟩
 obtain rfl:j=t:=by omega
 exact⟨c,by rw[xg (by have:=s.len;omega),s.len];simp,(hc.ah kk).eY j4 jD⟩
def BpO.ah{N0:Nat}{t:Nat}{f:Nat->Rat×Rat}{out:List (List V)}(s:BpO N0 h N v f t out)(k:ae h N h' N'):BpO N0 h' N' v f t out:=⟨s.own.ah k,s.len,s.nil,s.nw,fun j hj=>by
 obtain⟨c,e1,e2⟩:=s.bc j hj
 exact⟨c,e1,e2.ah k⟩⟩
def BpO.zdG{N0:Nat}{l:List (Rat×Rat)}{out:List (List V)}(s0:BpO N0 h N v (pgI l) l.length out)(h1:1<l.length):∃i FL c1,AF v=some (i,0)/\N0<=i/\i<N/\h.get i=some (.cells FL 128 true)/\aE FL 8 8=some c1/\BcC h N c1 (pgI l 1)/\16<=FL.length/\∀h' N' c x,ae h N h' N'->BcC h' N' c x->BpS (h'.set i (.cells (ag FL 8 c) 128 true)) N' v (l.set 1 x):=by
 have s:=s0;obtain⟨⟨hl,⟨h0,_⟩|⟨i,rfl,a1,a2,a3⟩⟩,ol,zeW,onw,obc⟩:=s
 ·rw[h0]at ol;simp at ol;omega
 have fl:=vX hl;obtain⟨c1,d1,d2⟩:=obc 1 h1;have sc:=KV hl d1;rw[Nat.one_mul]at sc;refine⟨i,_,c1,rfl,a1,a2,a3,sc,d2,by omega,fun h' N' c x k hc=>?_⟩;have Si:=(k.get i a2).trans a3;obtain⟨f1,f2,f3⟩:=hc.len;have e1:ag out.flatten 8 c=(out.set 1 c).flatten:=by have:=Zvl (z:=8) (x:=c) f1 hl (k:=1) (by omega);rw[Nat.one_mul]at this;exact this
 have oO:∀y∈out.set 1 c,y.length=8:=fun y hy=>by
  rcases Dh hy with h|rfl
  ·exact hl y h
  exact f1
 have nu:sD out.flatten:=fun y hy=>by obtain⟨z,hz,hyz⟩:=List.mem_flatten.1 hy;exact onw z hz y hyz
 have fl2:=vX oO;rw[Dm]at fl2;rw[e1];have ow:Own 8 128 N0 (h'.set i (.cells (out.set 1 c).flatten 128 true)) N' (.slice i 0 out.length none 8) (out.set 1 c):=⟨oO,.inr ⟨i,by simp,a1,h_ a2 k.le,by rw[T.aj,aQ rfl]⟩⟩;refine⟨out.set 1 c,ow.sn,by rw[Dm,Dm,ol],fun j hj=>?_⟩;rw[Dm]at hj;by_cases e:j=1
 ·subst e;have ep:pgI (l.set 1 x) 1=x:=by unfold pgI;rw[sI (by omega)];rfl
  rw[ep];exact⟨c,by rw[sI (by omega)],hc.aG Si nu (by omega)⟩
 obtain⟨y,y1,y2⟩:=obc j hj;have ep:pgI (l.set 1 x) j=pgI l j:=by unfold pgI;rw[eR (Ne.symm e)]
 rw[ep];exact⟨y,by rw[eR (Ne.symm e)];exact y1,(y2.ah k).aG Si nu (by omega)⟩
end
end Go.Mx
