/-lensletlaw06-/
import Derived.Test.YtgnadghjglamaaaGreatDoorLrD
set_option linter.all false
set_option maxHeartbeats 8000000
namespace Go.Mx
noncomputable section
open Go Go.Proofs
set_option maxRecDepth 1000000
variable {N:Nat} {h:T O}
def A.w79:=A.q Tryz.f79
def A.zg0:=A.ql A.w79 0 []
def A.b79:=(fun x0=>A.qb A.w79 [x0]) A.zg0
def A.k79:=@A.kk 79 32 [.tmp 2] A.b79 (by kernel_rfl) rfl
def A.w22:=A.q Tryz.f22
def A.zg1:=A.ql A.w22 0 []
def A.b22:=(fun x0=>A.qb A.w22 [x0]) A.zg1
def A.k22:=@A.kk 22 25 [.tmp 2] A.b22 (by kernel_rfl) rfl
def A.b44:=A.q Tryz.f44
def A.k44:=@A.kk 44 13 [.cell 4 (some 4)] A.b44 (by kernel_rfl) rfl
def esK(ks:List (Int×V)):List (V×V):=ks.map fun p=>(.int .i64 p.1,p.2)
def Yrk(k:Int):List (Int×V)->Nat->Option (Nat×V)
 |[],_=>none
 |(a,v)::t,i=>if k=a then some (i,v) else Yrk k t (i+1)
def Xac{k:Int}:∀{ks:List (Int×V)} {i:Nat},eM (.int .i64) (.int .i64 k) (esK ks) i=some (Yrk k ks i)
 |[],i=>rfl
 |(a,v)::t,i=>by
  have ih:=Xac (k:=k) (ks:=t) (i:=i+1)
  unfold esK at ih ⊢
  rw[lF]
  unfold eM
  have he:Ll (.int .i64) (.int .i64 k) (.int .i64 a)=some (k==a):=by simp[Ll]
  simp only[he]
  unfold Yrk
  by_cases e:k=a
  ·subst e;simp
  ·have:(k==a)=false:=by simpa using e
   rw[this,aA e]
   exact ih
def Yhl(l:List aU):Int:=if l.length=0 then 12 else if 32<l.length then 5 else cY (l.map fF)
def Xai{v:V}{l:List aU}(hs:Sl h N v (strs l))(hl:l.length<100000)(qA:∀s∈l,s.length<=20000):Fn A.C 79 [v] h N (fun u _ _=>u=.int .i64 (Yhl l)):=by
 intro w
 have hlen:=hs.len
 rw[BL]at hlen
 have hi:N<N+1:=by omega
 rw[aV,A.k79 (by simp)]
 by_cases c0:l.length=0
 ·have c0':(l.length:Int)=0:=by omega
  have c1':¬32<(l.length:Int):=by omega
  have e1:Yhl l=12:=by simp[Yhl,c0]
  simp(disch:=first|(simp;done)|omega|rfl) [-getElem?_pos,A.b79,hlen,c0',zd,aL,ag,bU.bZ,Lk,cY,aF,e1]
  exact aI ae.refl _
 have c0':¬(l.length:Int)=0:=by omega
 have ne:¬l=[]:=fun h=>c0 (by rw[h];rfl)
 by_cases c1:32<l.length
 ·have c1':32<(l.length:Int):=by omega
  have e1:Yhl l=5:=by simp[Yhl,c0,c1]
  simp(disch:=first|(simp;done)|omega|rfl) [-getElem?_pos,A.b79,hlen,c0',ne,c1',zd,aL,ag,bU.bZ,Lk,cY,aF,e1]
  exact aI ae.refl _
 have c1':¬32<(l.length:Int):=by omega
 have e1:Yhl l=cY (l.map fF):=by simp[Yhl,c0,c1]
 have kD:ae h N (h.set N (.cells [.int .i64 0,.int .i64 0] 31 true)) (N+1):=aI ae.refl _
 rw[e1]
 simp(disch:=first|(simp;done)|omega|rfl) [-getElem?_pos,A.b79,hlen,c0',ne,c1',zd,aL,ag,bU.bZ,Lk,cY]
 refine c_ [(2,2),(5,6),(22,31)] (fun e r st=>aD N st.w=[]/\ae h N st.h st.n/\((e=.exit 0/\cY (l.map fF)=0)\/(e=.ret/\r.get 2=some (.int .i64 (cY (l.map fF)))))) (fun m r st=>aD N st.w=[]/\ae h N st.h st.n/\∃k,k+m=l.length/\r.get 22=some (.int .i64 k)/\cY (l.map fF)=cY ((l.drop k).map fF)) l.length ?_ ?_ ?_
 ·exact⟨by simp,kD,0,by omega,by simp,by simp⟩
 ·rintro m r ⟨H,n1,W⟩ hr jv ⟨hW,hK,k,hk,h7,hz⟩
  simp only at hW hK
  rw[dk]
  cases m with
  |zero=>
   obtain rfl:k=l.length:=by omega
   rw[vR,uH,cY]at hz
   simp(disch:=first|(simp;done)|omega|rfl) [-getElem?_pos,A.zg0,hr,jv,h7,hz,hW,hK]
  |succ m=>
   have aP:k<l.length:=by omega
   obtain⟨s,hc⟩:=fz aP
   obtain⟨i,o,cc,e,rw,q1,q2,q3,q4⟩:=(hs.ah hK).at (Lc hc)
   rw[qk hc,lF,cY]at hz
   have ew:(k:Int)<(l.length:Int):=by omega
   simp(disch:=first|(simp;done)|omega|rfl) [-getElem?_pos,A.zg0,hr,jv,h7,ew,aP,hlen,q1,q2,q3,q4]
   refine az (NQ (qA s (eZ hc)) (by decide)) ?_
   rintro _ h3 n3 k3 rfl
   have kk:=hK.trans k3
   by_cases h0:fF s=0
   ·rw[aQ h0]at hz
    simp(disch:=first|(simp;done)|omega|rfl) [-getElem?_pos,hr,jv,h7,h0,hW,aL]
    exact⟨m,by omega,kk,k+1,by omega,by simp,by simpa using hz⟩
   ·rw[aA h0]at hz
    simp(disch:=first|(simp;done)|omega|rfl) [-getElem?_pos,hr,jv,h7,h0,hW,aL,hz]
    exact kk
 ·rintro _ r ⟨H,n1,W⟩ hr ⟨hW,hK,⟨rfl,hz⟩|⟨rfl,h2⟩⟩
  ·simp only at hW hK
   simp(disch:=first|(simp;done)|omega|rfl) [-getElem?_pos,hr,hz,aF,hW,hK]
  ·simp only at hW hK
   simp(disch:=first|(simp;done)|omega|rfl) [-getElem?_pos,hr,h2,aF,hW,hK]
def Xag{v:V}{l:List aU}(hs:Sl h N v (strs l))(hl:l.length<100000)(qA:∀s∈l,s.length<9223372036854775808):Fn A.C 22 [v] h N (fun u _ _=>u=.int .i64 (Yhl l)):=by
 intro w
 have hlen:=hs.len
 rw[BL]at hlen
 rw[aV,A.k22 (by simp)]
 by_cases c0:l.length=0
 ·have c0':(l.length:Int)=0:=by omega
  have e1:Yhl l=12:=by simp[Yhl,c0]
  simp(disch:=first|(simp;done)|omega|rfl) [-getElem?_pos,A.b22,hlen,c0',aL,aF,e1]
  exact ae.refl
 have c0':¬(l.length:Int)=0:=by omega
 have ne:¬l=[]:=fun h=>c0 (by rw[h];rfl)
 by_cases c1:32<l.length
 ·have c1':32<(l.length:Int):=by omega
  have e1:Yhl l=5:=by simp[Yhl,c0,c1]
  simp(disch:=first|(simp;done)|omega|rfl) [-getElem?_pos,A.b22,hlen,c0',ne,c1',aL,aF,e1]
  exact ae.refl
 have c1':¬32<(l.length:Int):=by omega
 have e1:Yhl l=cY (l.map fF):=by simp[Yhl,c0,c1]
 rw[e1]
 simp(disch:=first|(simp;done)|omega|rfl) [-getElem?_pos,A.b22,hlen,c0',ne,c1',aL]
 refine c_ [(2,4),(11,24)] (fun e r st=>aD N st.w=[]/\ae h N st.h st.n/\((e=.exit 0/\cY (l.map fF)=0)\/(e=.ret/\r.get 2=some (.int .i64 (cY (l.map fF)))))) (fun m r st=>aD N st.w=[]/\ae h N st.h st.n/\∃k,k+m=l.length/\r.get 3=some (.int .i64 k)/\cY (l.map fF)=cY ((l.drop k).map fF)) l.length ?_ ?_ ?_
 ·exact⟨by simp,ae.refl,0,by omega,by simp,by simp⟩
 ·rintro m r ⟨H,n1,W⟩ hr jv ⟨hW,hK,k,hk,h7,hz⟩
  simp only at hW hK
  rw[dk]
  cases m with
  |zero=>
   obtain rfl:k=l.length:=by omega
   rw[vR,uH,cY]at hz
   simp(disch:=first|(simp;done)|omega|rfl) [-getElem?_pos,A.zg1,hr,jv,h7,hlen,hz,hW,hK]
  |succ m=>
   have aP:k<l.length:=by omega
   obtain⟨s,hc⟩:=fz aP
   obtain⟨i,o,cc,e,rw,q1,q2,q3,q4⟩:=(hs.ah hK).at (Lc hc)
   rw[qk hc,lF,cY]at hz
   have ew:(k:Int)<(l.length:Int):=by omega
   simp(disch:=first|(simp;done)|omega|rfl) [-getElem?_pos,A.zg1,hr,jv,h7,ew,aP,hlen,q1,q2,q3,q4]
   refine az (Sq (qA s (eZ hc))) ?_
   rintro _ h3 n3 k3 rfl
   have kk:=hK.trans k3
   by_cases h0:fF s=0
   ·rw[aQ h0]at hz
    simp(disch:=first|(simp;done)|omega|rfl) [-getElem?_pos,hr,jv,h7,h0,hW,aL]
    exact⟨m,by omega,kk,k+1,by omega,by simp,by simpa using hz⟩
   ·rw[aA h0]at hz
    simp(disch:=first|(simp;done)|omega|rfl) [-getElem?_pos,hr,jv,h7,h0,hW,aL,hz]
    exact kk
 ·rintro _ r ⟨H,n1,W⟩ hr ⟨hW,hK,⟨rfl,hz⟩|⟨rfl,h2⟩⟩
  ·simp only at hW hK
   simp(disch:=first|(simp;done)|omega|rfl) [-getElem?_pos,hr,hz,aF,hW,hK]
  ·simp only at hW hK
   simp(disch:=first|(simp;done)|omega|rfl) [-getElem?_pos,hr,h2,aF,hW,hK]
def Ywy{g l p:aU}{D:Int}{x:aU}:Fn A.C 44 [.agg [.str g,.str l,.str p,.int .i64 D],.str x] h N (fun u _ _=>u=.agg [.str x,.str l,.str p,.int .i64 D]):=by
 intro w
 rw[aV,A.k44 (by simp)]
 simp(disch:=first|(simp;done)|omega|rfl) [-getElem?_pos,A.b44,aJ,aE,ag,bE,aF]
 exact((aI ae.refl _).trans (aI ae.refl _)).set (by omega)
variable {D:Nat} {d gs:List Rat} {l:Rat}
def A.w25:=A.q Tryz.f25
def A.zg2:=A.ql A.w25 0 []
def A.b25:=(fun x0=>A.qb A.w25 [x0]) A.zg2
def A.k25:=@A.kk 25 47 [.tmp 6,.tmp 7,.tmp 8] A.b25 (by kernel_rfl) rfl
def zgS(f:Nat->Option Rat):Nat->Option (Nat×Rat)
 |0=>none
 |k+1=>match f k with
  |none=>zgS f k
  |some c=>match zgS f k with
   |none=>some (k,c)
   |some (b,m)=>if c<m then some (k,c) else some (b,m)
def Zys(l p:Rat)(D:Nat)(gs d:List Rat)(i:Nat):Option Rat:=if Dj (pg gs i) l p D=true then some (sqQ (Ygt (pg gs i) l p D d)) else none
def bI:Option (Nat×Rat)->V
 |none=>.int .i64 0
 |some (b,_)=>.int .i64 (b:Nat)
def bS:Option (Nat×Rat)->V
 |none=>.str []
 |some (_,m)=>.str (ax m)
def bB:Option (Nat×Rat)->V
 |none=>.bool false
 |some _=>.bool true
def Yz4{a b:Rat}:df (a-b).num<0↔a<b:=by
 rw[AE]
 constructor<;>intro h<;>grind
structure BsH (l p:Rat) (D:Nat) (gs d:List Rat):Prop where
 ql:Qb 30 l
 qp:Qb 30 p
 qg:∀y∈gs,Qb 30 y
 qd:∀y∈d,Qb 30 y
 lg:gs.length<=6
 ld:d.length<=8
 hD:D<=6
def BsH.cost{p:Rat}{i:Nat}(B:BsH l p D gs d)(hi:i<gs.length):Qb 200000 (sqQ (Ygt (pg gs i) l p D d)):=by
 have hg:=B.qg _ (eZ (eL hi))
 have rl:=@Yan (pg gs i) l p D d d.length
 have rq:=Yqa (D:=D) hg B.ql B.qp B.qd (k:=d.length) (aZ _)
 have ld:=B.ld
 have hK:(3*30+3)*d.length+30*(d.length+1)+2<=1100:=by omega
 have bs:=Yv8 (K:=1100) (l:=Ygt (pg gs i) l p D d) (fun y hy=>(rq.2 y hy).mono hK) (aZ _)
 have rl1:(Ygt (pg gs i) l p D d).length=d.length:=rl.1
 exact bs.mono (by rw[rl1];have:=ky (1100+1100+1) ld;omega)
def BsH.bst{l p:Rat}{D:Nat}{gs d:List Rat}(B:BsH l p D gs d):∀{k:Nat},k<=gs.length->∀b m,zgS (Zys l p D gs d) k=some (b,m)->b<k/\Zys l p D gs d b=some m/\Qb 200000 m
 |0,_,b,m,h=>by cases h
 |k+1,hk,b,m,h=>by
  have ih:=B.bst (k:=k) (by omega)
  have hc:∀c,Zys l p D gs d k=some c->Qb 200000 c:=fun c hc=>by
   unfold Zys at hc
   split at hc
   ·simp only[au]at hc
    rw[<-hc]
    exact B.cost (by omega)
   ·cases hc
  unfold zgS at h
  split at h
  ·have:=ih b m h
   exact⟨by omega,this.2⟩
  ·rename_i c e
   split at h
   ·simp only[au,bj]at h
    obtain⟨rfl,rfl⟩:=h
    exact⟨by omega,e,hc _ e⟩
   ·rename_i b0 m0 e0
    split at h
    ·simp only[au,bj]at h
     obtain⟨rfl,rfl⟩:=h
     exact⟨by omega,e,hc _ e⟩
    ·simp only[au,bj]at h
     obtain⟨rfl,rfl⟩:=h
     have:=ih _ _ e0
     exact⟨by omega,this.2⟩
def Yzx{h:T O}{N:Nat}{v u:V}{g:aU}{p:Rat}(hv:Tx h N v gs)(hu:Tx h N u d)(B:BsH l p D gs d):Fn A.C 25 [.agg [.str g,.str (ax l),.str (ax p),.int .i64 D],v,u] h N (fun x _ _=>x=.aS [bI (zgS (Zys l p D gs d) gs.length),bS (zgS (Zys l p D gs d) gs.length),bB (zgS (Zys l p D gs d) gs.length)]):=by
 intro w
 have lv:=hv.len
 try rw[rS]at lv
 have kB:ae h N (h.set N (.cells [.str g,.str (ax l),.str (ax p),.int .i64 D] 26 true)) (N+1):=ae.refl.new _
 have b0:(h.set N (.cells [.str g,.str (ax l),.str (ax p),.int .i64 D] 26 true)).get N=some (.cells [.str g,.str (ax l),.str (ax p),.int .i64 D] 26 true):=by simp
 have lg:=B.lg
 have hD:=B.hD
 rw[aV,A.k25 (by simp)]
 simp(disch:=first|(simp;done)|omega|rfl) [-getElem?_pos,A.b25]
 generalize h.set N (.cells [.str g,.str (ax l),.str (ax p),.int .i64 D] 26 true)=HB at*
 refine c_ [(9,43)] (fun e r st=>e=.exit 0/\aD N st.w=[]/\ae h N st.h st.n/\r.get 9=some (bI (zgS (Zys l p D gs d) gs.length))/\r.get 10=some (bS (zgS (Zys l p D gs d) gs.length))/\r.get 11=some (bB (zgS (Zys l p D gs d) gs.length))) (fun m r st=>aD N st.w=[]/\ae h N st.h st.n/\N<st.n/\st.h.get N=some (.cells [.str g,.str (ax l),.str (ax p),.int .i64 D] 26 true)/\∃t,t+m=gs.length/\r.get 12=some (.int .i64 t)/\r.get 9=some (bI (zgS (Zys l p D gs d) t))/\r.get 10=some (bS (zgS (Zys l p D gs d) t))/\r.get 11=some (bB (zgS (Zys l p D gs d) t))) gs.length ?_ ?_ ?_
 ·exact⟨by simp,kB,by show N<N+1;omega,b0,0,by omega,by simp,by simp[zgS,bI],by simp[zgS,bS],by simp[zgS,bB]⟩
 ·rintro m r ⟨H,n1,W⟩ hr hf ⟨hW,hK,mF,m0,t,ht,eK,h9,jw,fA⟩
  simp only at hW hK mF m0
  rw[dk]
  have Nj:=hK.le
  cases m with
  |zero=>
   obtain rfl:t=gs.length:=by omega
   simp(disch:=first|(simp;done)|omega|rfl) [-getElem?_pos,A.zg2,hr,hf,eK,h9,jw,fA,lv,hW,hK]
  |succ m=>
   have aP:t<gs.length:=by omega
   have dE:(t:Int)<(gs.length:Int):=by omega
   obtain⟨i1,o1,c1,y1,w1,a1,a2,a3,a4⟩:=(hv.ah hK).at (vV (eL (p:=gs) (i:=t) aP))
   have qg:=B.qg _ (eZ (eL (p:=gs) (i:=t) aP))
   simp(disch:=first|(simp;done)|omega|rfl) [-getElem?_pos,A.zg2,hr,hf,eK,h9,jw,fA,lv,aP,dE,m0,mF,a1,a2,a3,a4,aJ,aE]
   refine az (Ywy (g:=g) (l:=ax l) (p:=ax p) (D:=(D:Int)) (x:=ax (pg gs t))) ?_
   rintro _ h2 n2 k2 rfl
   have kC:ae h2 n2 ((h2.set n2 (.cells [.str [],.str [],.str [],.int .i64 0] 26 true)).set n2 (.cells [.str (ax (pg gs t)),.str (ax l),.str (ax p),.int .i64 D] 26 true)) (n2+1):=(ae.refl.new _).set (by omega)
   have c0:((h2.set n2 (.cells [.str [],.str [],.str [],.int .i64 0] 26 true)).set n2 (.cells [.str (ax (pg gs t)),.str (ax l),.str (ax p),.int .i64 D] 26 true)).get n2=some (.cells [.str (ax (pg gs t)),.str (ax l),.str (ax p),.int .i64 D] 26 true):=by simp
   have oP:=k2.le
   simp(disch:=first|(simp;done)|omega|rfl) [-getElem?_pos,ag,bE,aJ,aE]
   generalize (h2.set n2 (.cells [.str [],.str [],.str [],.int .i64 0] 26 true)).set n2 (.cells [.str (ax (pg gs t)),.str (ax l),.str (ax p),.int .i64 D] 26 true)=HC at*
   have KC:=(hK.trans k2).trans kC
   have xn:=@Zi1 (pg gs t) l p D
   have qc:=Dv (d:=D) qg B.ql B.qp (by decide)
   refine az (Ywu qg B.ql B.qp (by decide) (by decide) hD) ?_
   rintro v6 h6 n6 k6 t6
   have le6:=k6.le
   have c6:=(k6.get n2 (by omega)).trans c0
   have e6:n2<n6:=by omega
   simp(disch:=first|(simp;done)|omega|rfl) [-getElem?_pos,]
   refine az (Ywr (k:=3*30+2) t6.1 (by rw[xn.1];omega) (by rw[xn.1];omega) (by rw[xn.1];show pg _ (D+2)≠0;rw[xn.2];decide) qc (by omega) (by rw[xn.1];exact Xap (by omega) hD)) ?_
   rintro _ h8 n8 k8 rfl
   have RW:=k8.le
   have c8:=(k8.get n2 (by omega)).trans c6
   have e8:n2<n8:=by omega
   have K8:=(KC.trans k6).trans k8
   have m8:=((((k2.trans kC).trans k6).trans k8).get N mF).trans m0
   have fk:Zqb (Zl3 (pg gs t) l p D).length (Zl3 (pg gs t) l p D)=Dj (pg gs t) l p D:=by rw[xn.1];rfl
   have nN:¬n2<N:=by omega
   rw[fk]
   by_cases cs:Dj (pg gs t) l p D=true
   ·have ec:Zys l p D gs d t=some (sqQ (Ygt (pg gs t) l p D d)):=by simp[Zys,cs]
    have hb:zgS (Zys l p D gs d) (t+1)=match zgS (Zys l p D gs d) t with
     |none=>some (t,sqQ (Ygt (pg gs t) l p D d))
     |some (b,m)=>if sqQ (Ygt (pg gs t) l p D d)<m then some (t,sqQ (Ygt (pg gs t) l p D d)) else some (b,m):=by rw[zgS,ec]
    have bs:=B.bst (k:=t) (by omega)
    have bc:=B.cost aP
    have hKr:(3*30+3)*d.length+30*(d.length+1)+2<=1100:=by have:=B.ld;omega
    rw[cs]
    simp(disch:=first|(simp;done)|omega|rfl) [-getElem?_pos,hr,hf,c8,e8,aJ,aE]
    refine az (Yzw (K:=1100) (hu.ah K8) qg B.ql B.qp B.qd (by decide) hD (by have:=B.ld;omega) hKr (by decide) (by decide)) ?_
    rintro _ Dt n9 k9 rfl
    have K9:=K8.trans k9
    have le9:=k9.le
    generalize sqQ (Ygt (pg gs t) l p D d)=c at*
    cases hbo:zgS (Zys l p D gs d) t with
    |none=>
     rw[hbo]at h9 jw fA hb
     simp only[bI,bS,bB]at h9 jw fA
     simp only at hb
     simp(disch:=first|(simp;done)|omega|rfl) [-getElem?_pos,hr,hf,h9,jw,fA,eK,nN,hW]
     refine⟨m,by omega,K9,by omega,(k9.get N (by omega)).trans m8,t+1,by omega,by simp,?_⟩
     rw[hb]
     exact⟨rfl,rfl,rfl⟩
    |some bm=>
     obtain⟨b,q⟩:=bm
     rw[hbo]at h9 jw fA hb
     simp only[bI,bS,bB]at h9 jw fA
     simp only at hb
     have bq:=(bs b q hbo).2.2
     simp(disch:=first|(simp;done)|omega|rfl) [-getElem?_pos,hr,hf,h9,jw,fA,eK]
     refine az (zg bc bq (by decide) (by decide) (by have:=jt bq;omega)) ?_
     rintro _ zf2 n10 k10 rfl
     have zeZ:=k10.le
     have K10:=K9.trans k10
     have m10:=((k9.trans k10).get N (by omega)).trans m8
     by_cases hc:c<q
     ·rw[aQ hc]at hb
      have s1:=Yz4.2 hc
      simp(disch:=first|(simp;done)|omega|rfl) [-getElem?_pos,hr,hf,s1,eK,nN,hW]
      refine⟨m,by omega,K10,by omega,m10,t+1,by omega,by simp,?_⟩
      rw[hb]
      exact⟨rfl,rfl,rfl⟩
     ·rw[aA hc]at hb
      have s1:¬df (c-q).num<0:=fun h=>hc (Yz4.1 h)
      simp(disch:=first|(simp;done)|omega|rfl) [-getElem?_pos,hr,hf,s1,h9,jw,fA,eK,nN,hW]
      refine⟨m,by omega,K10,by omega,m10,t+1,by omega,by simp,?_⟩
      rw[hb]
      exact⟨rfl,rfl,rfl⟩
   ·have xo:Dj (pg gs t) l p D=false:=by simpa using cs
    have ec:Zys l p D gs d t=none:=by simp[Zys,xo]
    have hb:zgS (Zys l p D gs d) (t+1)=zgS (Zys l p D gs d) t:=by rw[zgS,ec]
    rw[xo]
    simp(disch:=first|(simp;done)|omega|rfl) [-getElem?_pos,hr,hf,h9,jw,fA,eK,nN,hW]
    refine⟨m,by omega,K8,by omega,m8,t+1,by omega,by simp,?_⟩
    rw[hb]
    exact⟨rfl,rfl,rfl⟩
 ·rintro _ r ⟨H,n6,W⟩ hr ⟨rfl,hW,hK,h9,jw,fA⟩
  simp only at hW hK
  simp(disch:=first|(simp;done)|omega|rfl) [-getElem?_pos,hr,h9,jw,fA,hW,hK,aF]
variable {N:Nat} {h:T O} {v:V}
def A.w24:=A.q Tryz.f24
def A.zg3:=A.ql A.w24 0 []
def A.b24:=(fun x0=>A.qb A.w24 [x0]) A.zg3
def A.k24:=@A.kk 24 91 [.tmp 6,.tmp 7,.tmp 8] A.b24 (by kernel_rfl) rfl
def Sl.zfz{i:Nat}{l:List V}{es:List (V×V)}{o:O}(s:Sl h N v l)(g:h.get i=some (.map es)):Sl (h.set i o) N v l:=by
 rcases s with s|⟨i',o',cp,c,e,rw,rfl,q1,q2,q3,q4,q5⟩
 ·exact .inl s
 ·refine .inr ⟨i',o',cp,c,e,rw,rfl,q1,?_,q3,q4,q5⟩
  rw[T.aj,aA (fun hc=>?_)]
  ·exact q2
  ·rw[<-hc,q2]at g
   cases g
def dB.zfz{i:Nat}{c:List V}{q:Rat}{es:List (V×V)}{o:O}(s:dB h N c q)(g:h.get i=some (.map es)):dB (h.set i o) N c q:=by
 have hI:∀{x:V} {z:Int},In h N x z->In (h.set i o) N x z:=fun s=>by
  rcases s with s|⟨i,o,l,c,s1,s2,s3⟩
  ·exact .inl s
  ·exact .inr ⟨i,o,l,c,s1,Sl.zfz s2 g,s3⟩
 obtain⟨n1,u1,n2,u2,rfl,s1,s2⟩:=s
 exact⟨n1,u1,n2,u2,rfl,hI s1,hI s2⟩
def Yzo{k:Int}{r:List (Int×V)}:∀{ks:List (Int×V)} {i:Nat} {x:Nat×V},Yrk k ks i=some x->Yrk k (ks++r) i=some x
 |[],i,x,h=>by cases h
 |(a,v)::t,i,x,h=>by
  rw[zf]
  unfold Yrk at h ⊢
  by_cases e:k=a
  ·rw[aQ e]at h ⊢;exact h
  ·rw[aA e]at h ⊢;exact Yzo h
def Ywj{k:Int}:∀{ks:List (Int×V)} {i:Nat},(∀p∈ks,p.1≠k)->Yrk k ks i=none
 |[],i,h=>rfl
 |(a,v)::t,i,h=>by
  unfold Yrk
  rw[aA (fun e=>h (a,v) oM e.symm)]
  exact Ywj fun p hp=>h p (mD _ hp)
def Yzn{k:Int}{v:V}:∀{ks:List (Int×V)} {i:Nat},(∀p∈ks,p.1≠k)->Yrk k (ks++[(k,v)]) i=some (i+ks.length,v)
 |[],i,h=>by simp[Yrk]
 |(a,x)::t,i,h=>by
  rw[zf]
  unfold Yrk
  rw[aA (fun e=>h (a,x) oM e.symm),Yzn fun p hp=>h p (mD _ hp)]
  simp;omega
def Xab{n M j:Nat}{w:List Nat}{ks:List (Int×V)}{a:Int}{z x:V}(g:h.get M=some (.map (esK ks)))(f:Yrk a ks 0=some (j,x)):Sr ⟨h,n,w⟩ (.int .i64) z false (some (.map M)) (some (.int .i64 a))=some (x,⟨h,n,w⟩):=by
 have hf:(jh.int IntKind.i64).fits (V.int IntKind.i64 a)=true:=rfl
 show (if (jh.int IntKind.i64).fits (V.int IntKind.i64 a)=true then NS ⟨h,n,w⟩ (.int .i64) z false (.int .i64 a) (h.get M) else none)=_
 rw[aQ hf,g,Ztz,Xac,f]
 rfl
def Xaq{n M:Nat}{w:List Nat}{ks:List (Int×V)}{a:Int}{x:V}(g:h.get M=some (.map (esK ks)))(f:Yrk a ks 0=none):v_ ⟨h,n,w⟩ (.int .i64) (some (.map M)) (some (.int .i64 a)) (some x)=some (.aS [],⟨h.set M (.map (esK (ks++[(a,x)]))),n,M::w⟩):=by
 have hf:(jh.int IntKind.i64).fits (V.int IntKind.i64 a)=true:=rfl
 show (if (jh.int IntKind.i64).fits (V.int IntKind.i64 a)=true then Lm ⟨h,n,w⟩ (.int .i64) M (.int .i64 a) x (h.get M) else none)=_
 rw[aQ hf]
 unfold Lm
 simp only[g,Xac,f]
 simp[Ss,esK,St.write]
def Yc9(E:Int)(o:Option (Nat×Rat)):V:=if E≠0 then .aS [.int .i64 0,.str [],.int .i64 E] else match o with
 |none=>.aS [.int .i64 0,.str [],.int .i64 7]
 |some (b,m)=>if BJ m=true then .aS [.int .i64 0,.str [],.int .i64 4] else .aS [.int .i64 (b:Nat),.str (ax m),.int .i64 0]
def bP:Option (Nat×Rat)->V
 |none=>.int .i64 (-1)
 |some (b,_)=>.int .i64 (b:Nat)
def Xao(l p:Rat)(D:Nat)(gs d:List Rat)(t:Nat)(s:aU):Prop:=s=[]\/∃q c b m,s=ax q/\Dj q l p D=true/\c=sqQ (Ygt q l p D d)/\zgS (Zys l p D gs d) t=some (b,m)/\¬c<m
def MpB(h:T O)(n M:Nat)(ks:List (Int×V))(t:Nat)(o:Option (Nat×Rat)):Prop:=h.get M=some (.map (esK ks))/\(∀p∈ks,p.1<(t:Int))/\∀b m,o=some (b,m)->∃j c,Yrk (b:Int) ks 0=some (j,.agg c)/\dB h n c m
def Xak{a b:Rat}:df (a.num*(b.den:Nat)-b.num*(a.den:Nat))<0↔a<b:=by
 rw[Rat.lt_iff]
 unfold df
 split
 ·constructor<;>intro h<;>omega
 ·split<;>constructor<;>intro h<;>omega
def Yz6{q:Rat}:ax q≠[]:=fun hc=>by
 have hp:=Yin q
 rw[hc]at hp
 simp at hp
def Xaj{a1 a2 a3 b1 b2 b3:aU}{x y:Int}:oR false (.node [(0,none,.dm .str),(1,none,.dm .str),(2,none,.dm .str),(3,none,.dm .int)]) (.agg [.str a1,.str a2,.str a3,.int .i64 x]) (.agg [.str b1,.str b2,.str b3,.int .i64 y])=some (decide (a1=b1/\a2=b2/\a3=b3/\x=y)):=by
 by_cases c1:a1=b1
 ·by_cases c2:a2=b2
  ·by_cases c3:a3=b3
   ·by_cases c4:x=y
    ·simp[oR,AQ,aJ,aL,c1,c2,c3,c4]
    ·simp[oR,AQ,aJ,aL,c1,c2,c3,c4]
   ·have e1:(a3==b3)=false:=by simpa using c3
    simp[oR,AQ,aJ,aL,e1,c1,c2,c3]
  ·have e1:(a2==b2)=false:=by simpa using c2
   simp[oR,AQ,aJ,aL,e1,c1,c2]
 ·have e1:(a1==b1)=false:=by simpa using c1
  simp[oR,AQ,aJ,aL,e1,c1]
def Yz0{u:V}{g l' p':aU}{D':Int}{al dl:List aU}(hv:Sl h N v (strs al))(hu:Sl h N u (strs dl))(hP:mC h N)(lg:g.length<=40)(ll:l'.length<=40)(lp:p'.length<=40)(la:al.length<100000)(ld:dl.length<100000)(fa:∀s∈al,s.length<=20000)(fd:∀s∈dl,s.length<=100000)(hB:cY [ki g l' p' D',Yhl al,sJ dl]=0->BsH (bJ l') (bJ p') D'.toNat (zgj al) (zgj dl)/\D'=(D'.toNat:Int)/\l'=ax (bJ l')/\p'=ax (bJ p')/\strs al=tx (zgj al)/\strs dl=tx (zgj dl)):Fn A.C 24 [.agg [.str g,.str l',.str p',.int .i64 D'],v,u] h N (fun x _ _=>x=Yc9 (cY [ki g l' p' D',Yhl al,sJ dl]) (zgS (Zys (bJ l') (bJ p') D'.toNat (zgj al) (zgj dl)) al.length)):=by
 intro w
 have kB:ae h N (h.set N (.cells [.str g,.str l',.str p',.int .i64 D'] 24 true)) (N+1):=ae.refl.new _
 have b0:(h.set N (.cells [.str g,.str l',.str p',.int .i64 D'] 24 true)).get N=some (.cells [.str g,.str l',.str p',.int .i64 D'] 24 true):=by simp
 rw[aV,A.k24 (by simp)]
 simp(disch:=first|(simp;done)|omega|rfl) [-getElem?_pos,A.b24,aJ,aE]
 generalize h.set N (.cells [.str g,.str l',.str p',.int .i64 D'] 24 true)=HB at*
 refine az (Ydh lg ll lp (by omega)) ?_
 rintro _ h1 n1 k1 rfl
 simp(disch:=first|(simp;done)|omega|rfl) [-getElem?_pos,]
 refine az (Xai ((hv.ah kB).ah k1) la fa) ?_
 rintro _ h2 n2 k2 rfl
 have k12:=k1.trans k2
 simp(disch:=first|(simp;done)|omega|rfl) [-getElem?_pos,]
 refine az (Xah ((hu.ah kB).ah k12) ld fd) ?_
 rintro _ h3 n3 k3 rfl
 have hi:n3<n3+1:=by omega
 have k13:=k12.trans k3
 have kS:=k13.trans (aI (ae.refl (h:=h3) (n:=n3)) (.cells [.int .i64 (ki g l' p' D'),.int .i64 (Yhl al),.int .i64 (sJ dl)] 31 true))
 have kD:=kB.trans kS
 have zfS:=k13.le
 have b1:=(kS.get N (by omega)).trans b0
 have lN:N<n3+1:=by omega
 simp(disch:=first|(simp;done)|omega|rfl) [-getElem?_pos,ag,bU.bZ,Yap hi]
 generalize h3.set n3 (.cells [.int .i64 (ki g l' p' D'),.int .i64 (Yhl al),.int .i64 (sJ dl)] 31 true)=H3 at*
 by_cases c:cY [ki g l' p' D',Yhl al,sJ dl]=0
 ·obtain⟨B,eD,el,ep,ea,ed⟩:=hB c
  rw[c]
  have BS:Tx H3 (n3+1) v (zgj al):=by have:=hv.ah kD;rw[ea]at this;exact this
  have Du:Tx H3 (n3+1) u (zgj dl):=by have:=hu.ah kD;rw[ed]at this;exact this
  have lal:(zgj al).length=al.length:=Yym
  rw[<-lal]
  clear hB ea ed hu hv
  generalize bJ l'=l at*
  generalize bJ p'=p at*
  generalize D'.toNat=D at*
  generalize zgj al=gs at*
  generalize zgj dl=d at*
  subst eD el ep
  have lv:=BS.len
  try rw[rS]at lv
  have hD:=B.hD
  have lgs:=B.lg
  simp(disch:=first|(simp;done)|omega|rfl) [-getElem?_pos,c,aL]
  refine az (Yw2 (k0:=30) Du (by have:=B.ld;omega) B.qd (by decide)) ?_
  rintro vd h4 n4 k4 td
  have Nb:=k4.le
  have K4:=kD.trans k4
  have b4:=(k4.get N lN).trans b1
  have kM:ae h4 n4 (h4.set n4 (.map [])) (n4+1):=ae.refl.new _
  have kL:ae (h4.set n4 (.map [])) (n4+1) ((h4.set n4 (.map [])).set (n4+1) (.cells [.str [],.str [],.str [],.int .i64 0] 24 true)) (n4+1+1):=ae.refl.new _
  have gM:((h4.set n4 (.map [])).set (n4+1) (.cells [.str [],.str [],.str [],.int .i64 0] 24 true)).get n4=some (.map []):=by simp
  have gL:((h4.set n4 (.map [])).set (n4+1) (.cells [.str [],.str [],.str [],.int .i64 0] 24 true)).get (n4+1)=some (.cells [.str [],.str [],.str [],.int .i64 0] 24 true):=by simp
  have kML:=kM.trans kL
  simp(disch:=first|(simp;done)|omega|rfl) [-getElem?_pos,lv]
  generalize (h4.set n4 (.map [])).set (n4+1) (.cells [.str [],.str [],.str [],.int .i64 0] 24 true)=HL at*
  refine c_ [(12,12),(14,16),(35,76)] (fun e r st=>e=.exit 0/\aD N st.w=[]/\ae h4 n4 st.h st.n/\n4<st.n/\r.get 12=some (bP (zgS (Zys l p D gs d) gs.length))/\∃ks,MpB st.h st.n n4 ks gs.length (zgS (Zys l p D gs d) gs.length)) (fun m r st=>aD N st.w=[]/\ae h4 n4 st.h st.n/\n4+1<st.n/\∃t ks s s2 s3 z,t+m=gs.length/\r.get 35=some (.int .i64 t)/\r.get 12=some (bP (zgS (Zys l p D gs d) t))/\st.h.get (n4+1)=some (.cells [.str s,.str s2,.str s3,.int .i64 z] 24 true)/\Xao l p D gs d t s/\MpB st.h st.n n4 ks t (zgS (Zys l p D gs d) t)) gs.length ?_ ?_ ?_
  ·exact⟨by simp,kML,by show n4+1<n4+1+1;omega,0,[],[],[],[],0,by omega,by simp,by simp[zgS,bP],gL,.inl rfl,gM,by simp,by simp[zgS]⟩
  ·rintro m r ⟨H,n,W⟩ hr hf ⟨hW,hK,mF,t,ks,s,s2,s3,z,ht,h35,eK,gLs,hL,gMs,hks,AR⟩
   simp only at hW hK mF gLs gMs AR
   rw[dk]
   have Nj:=hK.le
   cases m with
   |zero=>
    obtain rfl:t=gs.length:=by omega
    simp(disch:=first|(simp;done)|omega|rfl) [-getElem?_pos,A.zg3,hr,hf,h35,eK,lv,hW,hK]
    exact⟨by omega,ks,gMs,hks,AR⟩
   |succ m=>
    have aP:t<gs.length:=by omega
    have dE:(t:Int)<(gs.length:Int):=by omega
    obtain⟨i1,o1,c1,y1,w1,a1,a2,a3,a4⟩:=((BS.ah k4).ah hK).at (vV (eL (p:=gs) (i:=t) aP))
    have qg:=B.qg _ (eZ (eL (p:=gs) (i:=t) aP))
    have bN:=(hK.get N (by omega)).trans b4
    have lNn:N<n:=by omega
    have kO:ae H n ((H.set n (.cells [.str [],.str [],.str [],.int .i64 0] 24 true)).set n (.cells [.str (ax (pg gs t)),.str (ax l),.str (ax p),.int .i64 D] 24 true)) (n+1):=(ae.refl.new _).set (by omega)
    have c0:((H.set n (.cells [.str [],.str [],.str [],.int .i64 0] 24 true)).set n (.cells [.str (ax (pg gs t)),.str (ax l),.str (ax p),.int .i64 D] 24 true)).get n=some (.cells [.str (ax (pg gs t)),.str (ax l),.str (ax p),.int .i64 D] 24 true):=by simp
    have gLo:=(kO.get (n4+1) mF).trans gLs
    have NM:¬n4+1=n:=by omega
    simp(disch:=first|(simp;done)|omega|rfl) [-getElem?_pos,A.zg3,hr,hf,h35,lv,aP,dE,NM,gLs,a1,a2,a3,a4,bN,lNn,ag,bE,aJ,aE]
    generalize (H.set n (.cells [.str [],.str [],.str [],.int .i64 0] 24 true)).set n (.cells [.str (ax (pg gs t)),.str (ax l),.str (ax p),.int .i64 D] 24 true)=HC at*
    have fw:n4+1<n+1:=by omega
    have nN:¬n<N:=by omega
    have n4N:¬n4+1<N:=by omega
    have n4M:¬n4<N:=by omega
    have xn:=@Zi1 (pg gs t) l p D
    have qc:=Dv (d:=D) qg B.ql B.qp (by decide)
    have fk:Zqb (Zl3 (pg gs t) l p D).length (Zl3 (pg gs t) l p D)=Dj (pg gs t) l p D:=by rw[xn.1];rfl
    have bs:=B.bst (k:=t) (by omega)
    have KC:=hK.trans kO
    rw[Xaj]
    by_cases ce:ax (pg gs t)=s/\ax l=s2/\ax p=s3/\(D:Int)=z
    ·rw[decide_eq_true ce]
     have hb:zgS (Zys l p D gs d) (t+1)=zgS (Zys l p D gs d) t:=by
      rcases hL with h0|⟨q,c0',b,m',e1,e2,e3,e4,e5⟩
      ·exact absurd (ce.1.trans h0) Yz6
      ·have eq:=Yef (ce.1.trans e1)
       rw[zgS,show Zys l p D gs d t=some c0' by rw[Zys,eq,aQ e2,e3],e4]
       simp[e5]
     simp(disch:=first|(simp;done)|omega|rfl) [-getElem?_pos,hr,hf,h35,nN,hW]
     refine⟨m,by omega,KC,by omega,t+1,by omega,by simp,by rw[hb];exact eK,ks,s,⟨s2,s3,z,gLo⟩,?_,(kO.get n4 (by omega)).trans gMs,fun pp hp=>by have:=hks pp hp;omega,fun b m' e=>?_⟩
     ·rw[Xao,hb];exact hL
     ·rw[hb]at e
      obtain⟨j,cc,f1,f2⟩:=AR b m' e
      exact⟨j,cc,f1,f2.ah kO⟩
    ·rw[decide_eq_false ce]
     simp(disch:=first|(simp;done)|omega|rfl) [-getElem?_pos,hr,hf,c0,aJ,aE]
     refine az (Ymh qg B.ql B.qp (by decide) hD) ?_
     rintro v6 h6 n6 k6 t6
     have le6:=k6.le
     simp(disch:=first|(simp;done)|omega|rfl) [-getElem?_pos,]
     refine az (Ywb (k:=3*30+2) t6 (by rw[xn.1];omega) (by rw[xn.1];omega) (by rw[xn.1];show pg _ (D+2)≠0;rw[xn.2];decide) qc (by omega) (by rw[xn.1];exact Yxp (by omega) hD)) ?_
     rintro _ h8 n8 k8 rfl
     have RW:=k8.le
     have k68:=k6.trans k8
     have K8:=KC.trans k68
     have kO8:=kO.trans k68
     rw[fk]
     by_cases cs:Dj (pg gs t) l p D=true
     ·rw[cs]
      have ec:Zys l p D gs d t=some (sqQ (Ygt (pg gs t) l p D d)):=by rw[Zys,aQ cs]
      have hb:zgS (Zys l p D gs d) (t+1)=match zgS (Zys l p D gs d) t with
       |none=>some (t,sqQ (Ygt (pg gs t) l p D d))
       |some (b,m)=>if sqQ (Ygt (pg gs t) l p D d)<m then some (t,sqQ (Ygt (pg gs t) l p D d)) else some (b,m):=by rw[zgS,ec];try(cases zgS (Zys l p D gs d) t<;>rfl)
      have hLs:∀b' m',zgS (Zys l p D gs d) (t+1)=some (b',m')->¬sqQ (Ygt (pg gs t) l p D d)<m'->Xao l p D gs d (t+1) (ax (pg gs t)):=fun b' m' e1 e2=>.inr ⟨_,_,b',m',rfl,cs,rfl,e1,e2⟩
      have bc:=B.cost aP
      have hKr:(3*30+3)*d.length+30*(d.length+1)+2<=1100:=by have:=B.ld;omega
      have c8:=(k68.get n (by omega)).trans c0
      have e8:n<n8:=by omega
      have gL8:=(k68.get (n4+1) fw).trans gLo
      have eL8:n4+1<n8:=by omega
      have gM8:=(kO8.get n4 (by omega)).trans gMs
      have nu:sD [V.str s,V.str s2,V.str s3,V.int .i64 z]:=fun x hx n=>by
       simp at hx
       rcases hx with rfl|rfl|rfl|rfl<;>simp
      have fcD:∀{c q},dB h8 n8 c q->dB (h8.set (n4+1) (.cells [.str (ax (pg gs t)),.str (ax l),.str (ax p),.int .i64 D] 24 true)) n8 c q:=fun f=>f.aG gL8 nu rfl
      have gMD:(h8.set (n4+1) (.cells [.str (ax (pg gs t)),.str (ax l),.str (ax p),.int .i64 D] 24 true)).get n4=some (.map (esK ks)):=by rw[T.aj,aA (by omega)];exact gM8
      have gLD:(h8.set (n4+1) (.cells [.str (ax (pg gs t)),.str (ax l),.str (ax p),.int .i64 D] 24 true)).get (n4+1)=some (.cells [.str (ax (pg gs t)),.str (ax l),.str (ax p),.int .i64 D] 24 true):=by simp
      have gnD:(h8.set (n4+1) (.cells [.str (ax (pg gs t)),.str (ax l),.str (ax p),.int .i64 D] 24 true)).get n=some (.cells [.str (ax (pg gs t)),.str (ax l),.str (ax p),.int .i64 D] 24 true):=by rw[T.aj,aA (by omega)];exact c8
      have KD:ae h4 n4 (h8.set (n4+1) (.cells [.str (ax (pg gs t)),.str (ax l),.str (ax p),.int .i64 D] 24 true)) n8:=K8.set (by omega)
      simp(disch:=first|(simp;done)|omega|rfl) [-getElem?_pos,hr,hf,c8,e8,gL8,eL8,bE,ag,aJ,aE]
      generalize h8.set (n4+1) (.cells [.str (ax (pg gs t)),.str (ax l),.str (ax p),.int .i64 D] 24 true)=HD at*
      refine az (Yzz (K:=1100) (td.ah KD) qg B.ql B.qp B.qd (by decide) hD (by have:=B.ld;omega) hKr (by decide) (by decide)) ?_
      rintro x9 h9 n9 k9 hx9
      obtain⟨cc,rfl,fcc⟩:=hx9.c
      generalize sqQ (Ygt (pg gs t) l p D d)=c9 at*
      have le9:=k9.le
      have gM9:=(k9.get n4 (by omega)).trans gMD
      have gL9:=(k9.get (n4+1) (by omega)).trans gLD
      have K9:=KD.trans k9
      have fn9:Yrk (t:Int) ks 0=none:=Ywj fun pp hp=>by have:=hks pp hp;omega
      have ms:=fun w=>Xaq (n:=n9) (w:=w) (x:=V.agg cc) gM9 fn9
      have gME:(h9.set n4 (.map (esK (ks++[((t:Int),.agg cc)])))).get n4=some (.map (esK (ks++[((t:Int),.agg cc)]))):=by simp
      have gLE:(h9.set n4 (.map (esK (ks++[((t:Int),.agg cc)])))).get (n4+1)=some (.cells [.str (ax (pg gs t)),.str (ax l),.str (ax p),.int .i64 D] 24 true):=by rw[T.aj,aA (by omega)];exact gL9
      have KE:ae h4 n4 (h9.set n4 (.map (esK (ks++[((t:Int),.agg cc)])))) n9:=K9.set (by omega)
      have fcE:dB (h9.set n4 (.map (esK (ks++[((t:Int),.agg cc)])))) n9 cc c9:=fcc.zfz gM9
      have fbE:∀b m,zgS (Zys l p D gs d) t=some (b,m)->∃j c,Yrk (b:Int) (ks++[((t:Int),.agg cc)]) 0=some (j,.agg c)/\dB (h9.set n4 (.map (esK (ks++[((t:Int),.agg cc)])))) n9 c m:=fun b m e=>by
       obtain⟨j,c,f1,f2⟩:=AR b m e
       exact⟨j,c,Yzo f1,((fcD (f2.ah kO8)).ah k9).zfz gM9⟩
      have ftE:Yrk (t:Int) (ks++[((t:Int),.agg cc)]) 0=some (0+ks.length,.agg cc):=Yzn fun pp hp=>by have:=hks pp hp;omega
      have zfD:∀pp∈ks++[((t:Int),V.agg cc)],pp.1<((t+1:Nat):Int):=fun pp hp=>by
       rcases l7.1 hp with hp|hp
       ·have:=hks pp hp;omega
       ·simp at hp;rw[hp];simp only;omega
      cases hbo:zgS (Zys l p D gs d) t with
      |none=>
       rw[hbo]at eK hb
       simp only[bP]at eK
       simp only at hb
       simp(disch:=first|(simp;done)|omega|rfl) [-getElem?_pos,hr,hf,ms,eK]
       generalize h9.set n4 (.map (esK (ks++[((t:Int),.agg cc)])))=HE at*
       simp(disch:=first|(simp;done)|omega|rfl) [-getElem?_pos,hr,hf,h35,nN,n4N,n4M,hW]
       refine⟨m,by omega,KE,by omega,t+1,by omega,by simp,by rw[hb];first|rfl|simp[bP],ks++[((t:Int),.agg cc)],_,⟨_,_,_,gLE⟩,hLs _ _ hb (by grind),gME,zfD,fun b m' e=>?_⟩
       rw[hb]at e
       simp only[au,bj]at e
       obtain⟨rfl,rfl⟩:=e
       exact⟨_,_,ftE,fcE⟩
      |some bm=>
       obtain⟨b,q⟩:=bm
       rw[hbo]at eK hb
       simp only[bP]at eK
       simp only at hb
       have bq:=(bs b q hbo).2.2
       obtain⟨j,cb,fj,fcb⟩:=fbE b q hbo
       have lk1:=fun w z=>Xab (n:=n9) (w:=w) (z:=z) gME ftE
       have lk2:=fun w z=>Xab (n:=n9) (w:=w) (z:=z) gME fj
       have nO:¬(b:Int)<0:=by omega
       simp(disch:=first|(simp;done)|omega|rfl) [-getElem?_pos,hr,hf,ms,eK]
       generalize h9.set n4 (.map (esK (ks++[((t:Int),.agg cc)])))=HE at*
       simp(disch:=first|(simp;done)|omega|rfl) [-getElem?_pos,hr,hf,eK,nO,lk1,lk2]
       have w1:=bc.iC
       have w2:=bq.iC
       refine az (Iq fcE.fc fcb.fc (by omega) (by omega) (by omega) (by omega)) ?_
       rintro _ jw n10 k10 rfl
       have zeZ:=k10.le
       have K10:=KE.trans k10
       by_cases hc:c9<q
       ·rw[aQ hc]at hb
        have s1:=Xak.2 hc
        simp(disch:=first|(simp;done)|omega|rfl) [-getElem?_pos,hr,hf,h35,s1,nN,n4N,n4M,hW]
        refine⟨m,by omega,K10,by omega,t+1,by omega,by simp,by rw[hb];first|rfl|simp[bP],ks++[((t:Int),.agg cc)],_,⟨_,_,_,(k10.get _ (by omega)).trans gLE⟩,hLs _ _ hb (by grind),(k10.get _ (by omega)).trans gME,zfD,fun b' m' e=>?_⟩
        rw[hb]at e
        simp only[au,bj]at e
        obtain⟨rfl,rfl⟩:=e
        exact⟨_,_,ftE,fcE.ah k10⟩
       ·rw[aA hc]at hb
        have s1:¬df (c9.num*(q.den:Nat)-q.num*(c9.den:Nat))<0:=fun h=>hc (Xak.1 h)
        simp(disch:=first|(simp;done)|omega|rfl) [-getElem?_pos,hr,hf,h35,eK,s1,nN,n4N,n4M,hW]
        refine⟨m,by omega,K10,by omega,t+1,by omega,by simp,by rw[hb];first|rfl|simp[bP],ks++[((t:Int),.agg cc)],_,⟨_,_,_,(k10.get _ (by omega)).trans gLE⟩,hLs _ _ hb hc,(k10.get _ (by omega)).trans gME,zfD,fun b' m' e=>?_⟩
        rw[hb]at e
        simp only[au,bj]at e
        obtain⟨rfl,rfl⟩:=e
        exact⟨_,_,fj,fcb.ah k10⟩
     ·have xo:Dj (pg gs t) l p D=false:=by simpa using cs
      have hb:zgS (Zys l p D gs d) (t+1)=zgS (Zys l p D gs d) t:=by rw[zgS,show Zys l p D gs d t=none by rw[Zys,aA cs]]
      rw[xo]
      simp(disch:=first|(simp;done)|omega|rfl) [-getElem?_pos,hr,hf,h35,nN,hW]
      refine⟨m,by omega,K8,by omega,t+1,by omega,by simp,by rw[hb];exact eK,ks,s,⟨s2,s3,z,(k68.get _ fw).trans gLo⟩,?_,(kO8.get n4 (by omega)).trans gMs,fun pp hp=>by have:=hks pp hp;omega,fun b m' e=>?_⟩
      ·rw[Xao,hb];exact hL
      ·rw[hb]at e
       obtain⟨j,cc,f1,f2⟩:=AR b m' e
       exact⟨j,cc,f1,f2.ah kO8⟩
  ·rintro _ r ⟨H,n,W⟩ hr ⟨rfl,hW,hK,mF,eK,ks,gMs,hks,AR⟩
   simp only at hW hK mF gMs AR
   have K5:=K4.trans hK
   cases hbo:zgS (Zys l p D gs d) gs.length with
   |none=>
    rw[hbo]at eK
    simp only[bP]at eK
    simp(disch:=first|(simp;done)|omega|rfl) [-getElem?_pos,hr,eK,hW,Yc9,aF]
    exact K5
   |some bm=>
    obtain⟨b,q⟩:=bm
    rw[hbo]at eK
    simp only[bP]at eK
    obtain⟨j,cc,fj,fc⟩:=AR b q hbo
    have lk:=fun w z=>Xab (n:=n) (w:=w) (z:=z) gMs fj
    have nO:¬(b:Int)<0:=by omega
    have bq:=(B.bst (aZ _) b q hbo).2.2
    simp(disch:=first|(simp;done)|omega|rfl) [-getElem?_pos,hr,eK,nO,lk]
    refine az (Ywf fc.fc (hP.ah K5) bq (by decide)) ?_
    rintro _ h6 n6 k6 rfl
    have K6:=K5.trans k6
    by_cases cb:BJ q=true
    ·rw[aQ cb]
     simp(disch:=first|(simp;done)|omega|rfl) [-getElem?_pos,hr,eK,hW,Yc9,aF,aL,cb]
     exact K6
    ·rw[aA cb]
     simp(disch:=first|(simp;done)|omega|rfl) [-getElem?_pos,hr,eK,hW,Yc9,aF,aL,cb]
     exact K6
 ·have e1:Yc9 (cY [ki g l' p' D',Yhl al,sJ dl]) (zgS (Zys (bJ l') (bJ p') D'.toNat (zgj al) (zgj dl)) al.length)=.aS [.int .i64 0,.str [],.int .i64 (cY [ki g l' p' D',Yhl al,sJ dl])]:=by unfold Yc9;rw[aQ c]
  rw[e1]
  simp(disch:=first|(simp;done)|omega|rfl) [-getElem?_pos,c,aL,aF]
  exact kD
def Yye:∀{l:List Int},(∀x∈l,x=0)->cY l=0
 |[],_=>rfl
 |x::l,h=>by
  rw[h x (by simp)]
  exact Yye (l:=l) fun y hy=>h y (by simp[hy])
end
end Go.Mx
