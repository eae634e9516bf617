/-num-/
import Derived.Test.YtgnadghjglamaaaGreatDoorMxKnv
set_option linter.all false
namespace Go.Mx
noncomputable section
open Go Go.Proofs
variable {N b:Nat}
set_option maxHeartbeats 8000000
set_option maxRecDepth 1000000
def A.CP:=A.q Tryz.f225
def A.jS:=A.ql A.CP 2 []
def A.mX:=A.ql A.CP 1 []
def A.mY:=A.ql A.CP 0 []
def A.b225:=(fun x0 x1 x2=>A.qb A.CP [x0,x1,x2]) A.mY A.mX A.jS
def A.k225:=@A.kk 225 137 [.tmp 4,.tmp 5] A.b225 (by kernel_rfl) rfl
def Yiy{x y s:Nat}(hx:x<B)(h0:0<s)(hs:s<64):jq (ay x s) (bR y (64-s))<B/\2^s*jq (ay x s) (bR y (64-s))+x%2^s=x+B*(y%2^s):=by
 have hc:ay x s<2^(64-s):=by
  unfold ay
  apply (pK (sR s)).2
  rw[<-iF,show 64-s+s=64 by omega];exact hx
 rw[TI (by omega) hc]
 refine⟨Zoh (by omega) hc,?_⟩
 have e:bR y (64-s)=(y%2^s)*2^(64-s):=by
  unfold bR
  have:(18446744073709551616:Nat)=2^s*2^(64-s):=by rw[<-iF,show s+(64-s)=64 by omega]
  rw[this,Of]
 have e2:2^s*(y%2^s*2^(64-s))=B*(y%2^s):=by
  have:B=2^s*2^(64-s):=by rw[<-iF,show s+(64-s)=64 by omega];rfl
  rw[this]
  generalize 2^s=p
  generalize 2^(64-s)=q
  grind
 rw[e,nL,e2]
 unfold ay
 have:=tW x (2^s)
 omega
structure TJ (h:T O) (N iq:Nat) (X:List Nat) (b m:Nat) (r:T V) (st:St):Prop where
 n:st.n=N+1
 w:aD N st.w=[]
 ah:ae h N st.h (N+1)
 ex:∃(rest:Nat) (Q:List Nat),m<=X.length/\r.get 8=some (.int .i64 ((m:Int)-1))/\r.get 7=some (.int .u64 rest)/\st.h.get N=some (.cells (dg Q) 217 true)/\Q.length=X.length/\Dg Q/\val B (X.drop m)=b*val B (Q.drop m)+rest/\rest<b
def Ygg{h:T O}{N b:Nat}{va vb:V}{X:List Nat}{r0:T V}(ha:Sl h N va (dg X))(hb:Sl h N vb (dg [b]))(dA:Dg X)(hbB:b<B)(hl:X.length<1099511627776)
  (a0:r0.get 0=some va) (a1:r0.get 1=some vb) (a6:r0.get 6=some (.slice N 0 X.length (some X.length) 1)):
  ∀k r st,(∀t,jR [(7,8),(30,48)] t=false->r.get t=r0.get t)->Fx [(7,8),(30,48)] r0 137 ⟨r,137,[]⟩->TJ h N N X b k r st->Code A.C none A.mY ⟨r,137,[]⟩ st (Rd [(7,8),(30,48)] r0 137 (TJ h N N X b) k (fun e r st=>e=.exit 0/\TJ h N N X b 0 r st)):=by
 rintro m r ⟨H,n1,W⟩ hr hf ⟨hn,hW,hK,rest,Q,hm,h8,h7,aM,hQ,dQ,he,aP⟩
 simp only at hn hW hK aM
 subst hn
 have la:=ha.len
 have lb:=hb.len
 rw[Zab]at la lb
 rw[dk]
 cases m with
 |zero=>
  simp(disch:=first|(simp;done)|omega|(simp only[Zab,aq,ak];omega)|rfl) [-getElem?_pos,A.mY,hr,hf,h8]
  exact⟨rfl,hW,hK,rest,Q,by omega,by simp[h8],by simp[h7],aM,hQ,dQ,he,aP⟩
 |succ m=>
  have gx:=eA (l:=X) (i:=m) (by omega)
  generalize X[m]'(by omega)=x at*
  have hx:x<B:=dA.get gx
  obtain⟨i1,o1,c1,e1,w1,p1,p2,p3,p4⟩:=ha.at (fH gx)
  have p3:=(hK.get _ p2).trans p3
  obtain⟨i2,o2,c2,e2,w2,q1,q2,q3,q4⟩:=hb.at (fH (l:=[b]) (j:=0) rfl)
  have q3:=(hK.get _ q2).trans q3
  rw[tF]at q4
  have gq:=eA (l:=Q) (i:=m) (by omega)
  have pj:((m+1:Nat):Int)-1=(m:Int):=by omega
  have hml:m<X.length:=by omega
  have wS:i1<N+1:=by omega
  have Bu:i2<N+1:=by omega
  have zd6:¬i1=N:=by omega
  have jT:¬i2=N:=by omega
  have zd7:¬N=i1:=by omega
  have zd8:¬N=i2:=by omega
  rw[pj]at h8
  have hd:=Zv9 (h:=H) (N:=N+1) aP hbB hx
  obtain⟨q,hq⟩:∃q,(rest*18446744073709551616+x)/b=q:=⟨_,rfl⟩
  obtain⟨rr,CQ⟩:∃q,(rest*18446744073709551616+x)%b=q:=⟨_,rfl⟩
  rw[hq,CQ]at hd
  have hinv:b*q+rr=rest*B+x:=by
   have:=tW (rest*18446744073709551616+x) b
   rw[hq,CQ]at this
   exact this
  have JP:rr<b:=by rw[<-CQ];exact kW _ (by omega)
  have hqB:q<B:=by
   rw[<-hq];apply (pK (by omega)).2
   have:=ky B (show rest+1<=b by omega)
   rw[gk B b]
   rw[jg]at this
   unfold B at*;omega
  simp(disch:=first|(simp;done)|omega|(simp only[Zab,aq,ak];omega)|rfl) [-getElem?_pos,A.mY,hr,hf,h8,h7,la,lb,a0,a1,a6,p1,p3,p4,q1,q3,q4,hml,wS,Bu]
  refine az hd ?_
  rintro _ H n2 Bv ⟨rfl,rfl,rfl⟩
  simp(disch:=first|(simp;done)|omega|(simp only[Zab,aq,ak];omega)|rfl) [-getElem?_pos,hr,hf,h8,h7,la,lb,a0,a1,a6,aM,pw,hml,wS,Bu,zd6,jT,zd7,zd8,bU.bZ]
  refine⟨m,by omega,rfl,by simp[aD,hW],hK.set (aZ _),rr,Q.set m q,by omega,by simp,by simp,by simp,by simp[hQ],dQ.tm hqB,?_,JP⟩
  rw[Bw gx,Bw (sI (by omega)),List.drop_set_of_lt (by omega),he,nL,nL]
  have:B*(b*val B (Q.drop (m+1)))=b*(B*val B (Q.drop (m+1))):=by grind
  rw[gk rest]at hinv
  omega
structure TK (N n2:Nat) (h2:T O) (iu iq Nq lu k A0:Nat) (Y:List Nat) (m:Nat) (r:T V) (st:St):Prop where
 n:st.n=Nq
 w:aD n2 st.w=[]
 ah:ae h2 n2 st.h Nq
 ex:∃(U Q:List Nat),r.get 14=some (.int .i64 ((m:Int)-1))/\st.h.get iu=some (.cells (dg U) 217 true)/\st.h.get iq=some (.cells (dg Q) 217 true)/\U.length=lu/\Q.length+(k+2)=lu/\m<=Q.length/\Dg U/\Dg Q/\(∀t,m+k+2<=t->t<lu->U[t]?=some 0)/\val B (U.drop m)<val B Y/\val B U+B^m*(val B (Q.drop m)*val B Y)=A0
def Ygf{h2:T O}{N n2 iu iq Nq lu k v1 A0:Nat}{Y:List Nat}{v:V}{r0:T V}{cq:Option Nat}(hv:Sl h2 n2 v (dg Y))(hY:Y.length=k+2)(dY:Dg Y)(hlu:lu<1099511627776)(f1:Y[k+1]?=some v1)(oC:0<v1)(PE:n2<=iu)(BT:iu<iq)(hq:iq<Nq)
  (xM:k+2<lu) (JQ:r0.get 10=some v) (Bx:r0.get 11=some (.slice iu 0 lu (some lu) 1)) (By:r0.get 12=some (.int .i64 ((k:Int)+2))) (a13:r0.get 13=some (.slice iq 0 (lu-(k+2)) cq 1)):
  ∀x r st,(∀t,jR [(14,14),(80,95)] t=false->r.get t=r0.get t)->Fx [(14,14),(80,95)] r0 137 ⟨r,137,[]⟩->TK N n2 h2 iu iq Nq lu k A0 Y x r st->Code A.C none A.mX ⟨r,137,[]⟩ st (Rd [(14,14),(80,95)] r0 137 (TK N n2 h2 iu iq Nq lu k A0 Y) x (fun e r st=>e=.exit 2/\TK N n2 h2 iu iq Nq lu k A0 Y 0 r st)):=by
 rintro m r ⟨H,n1,W⟩ hr hf ⟨hn,hW,hK,U,Q,rP,hU,hQ,lU,lQ,hm,dU,dQ,hz,aP,he⟩
 simp only at hn hW hK hU hQ
 subst hn
 rw[dk]
 cases m with
 |zero=>
  simp(disch:=first|(simp;done)|omega|(simp only[Zab,aq,ak];omega)|rfl) [-getElem?_pos,A.mX,hr,hf,rP]
  exact⟨rfl,hW,hK,U,Q,by simp[rP],hU,hQ,lU,lQ,hm,dU,dQ,hz,aP,he⟩
 |succ m=>
  have pj:((m+1:Nat):Int)-1=(m:Int):=by omega
  rw[pj]at rP
  have gu:=eA (l:=U) (i:=m) (by omega)
  generalize U[m]'(by omega)=um at*
  have ze7:um<B:=dU.get gu
  have hsK:pr ⟨H,n1,W⟩ 1 (some (.slice iu 0 lu (some lu) 1)) (some (some (.int .i64 m))) (some (some (.int .i64 ((m:Int)+((k:Int)+2)+1)))) (some none)=some (.slice iu m (k+3) (some (lu-m)) 1,⟨H,n1,W⟩):=by
   have e1:(0:Int)<=(m:Int)+((k:Int)+2)+1/\(m:Int)+((k:Int)+2)+1<=(lu:Int):=by omega
   have e2:((m:Int)+((k:Int)+2)+1).toNat=m+k+3:=by omega
   have e3:¬lu=m:=by omega
   have e4:m<=m+k+3:=by omega
   have e5:m+k+3-m=k+3:=by omega
   have e6:(m:Int)<=((m+k+3:Nat):Int):=by omega
   simp only[pr,qU,aC,dK,kY,Option.map,Src.ev,e1,e2,e3,e5,e6,and_self,if_true,if_false,Int.natCast_nonneg,Int.toNat_natCast,true_and,ne_eq,not_true_eq_false,Option.isSome,Option.isNone,Bool.false_and,false_or,gV,vW,tE]
  have hmq:m<lu-(k+2):=by omega
  simp(disch:=first|(simp;done)|omega|(simp only[Zab,aq,ak];omega)|rfl) [-getElem?_pos,A.mX,hr,hf,rP,JQ,Bx,By,a13,M7,aC,hsK]
  refine Bi (Zzv (n2:=n2) (k:=k) (U:=U) (v1:=v1) (hv.ah ⟨aZ _,fun i hi=>hK.get i hi⟩) hY dY PE (by omega) (by omega) (by omega) hU dU f1 oC (fun t h1 h2=>hz t (by omega) (by omega)) ?_) ?_
  ·rw[Bw gu]
   have:=je B aP
   rw[Nat.mul_succ]at this
   omega
  rintro x ⟨H2,n3,W2⟩ ⟨s1,s2,s3,q,o,rfl,s4,s5,s6,s7,s8,s9,s10,Sg⟩
  simp only at s1 s2 s3 s5
  subst s1
  have PF:H2.get iq=some (.cells (dg Q) 217 true):=by rw[s3 iq (by omega)];exact hQ
  simp(disch:=first|(simp;done)|omega|(simp only[Zab,aq,ak];omega)|rfl) [-getElem?_pos,hr,hf,rP,JQ,Bx,By,a13,hmq,PF,pw]
  have vt:¬iq<n2:=by omega
  have hHe:∀i,i<n2->(H2.set iq (.cells (dg (Q.set m q)) 217 true)).get i=h2.get i:=fun i hi=>by
   rw[T.aj,aA (by omega),s3 i (by omega)];exact hK.get i hi
  refine⟨m,by omega,rfl,?_,⟨by omega,hHe⟩,o,Q.set m q,by simp,by simp[s5,(show ¬iu=iq by omega)],by simp,by omega,by simp;omega,by simp;omega,s7,dQ.tm s4,?_,Sg,?_⟩
  ·simp only[aD,vt,if_false]
   rw[s2];exact hW
  ·intro t h1 l_
   exact s9 t (by omega) (by omega)
  ·have eU:=Er B U m (by omega)
   have eO:=Er B o m (by omega)
   have et:o.take m=U.take m:=by
    apply qG
    intro t
    rw[lX,lX]
    split
    ·exact s8 t (by omega)
    ·rfl
   rw[Bw (sI (by omega)),List.drop_set_of_lt (by omega),eO,et]
   rw[eU,<-s10,fO]at he
   rw[<-he]
   generalize val B (U.take m)=z1
   generalize val B (o.drop m)=z2
   generalize val B Y=z3
   generalize val B (Q.drop (m+1))=z4
   generalize B^m=z5
   grind
structure TL (n2:Nat) (h2:T O) (iu iq Nq lu n s:Nat) (U Q:List Nat) (m:Nat) (r:T V) (st:St):Prop where
 hn:st.n=Nq
 w:aD n2 st.w=[]
 ah:ae h2 n2 st.h Nq
 q:st.h.get iq=some (.cells (dg Q) 217 true)
 ex:∃(i:Nat) (o:List Nat),i+m=n/\r.get 97=some (.int .i64 i)/\st.h.get iu=some (.cells (dg o) 217 true)/\o.length=lu/\Dg o/\(∀t,i<=t->o[t]?=U[t]?)/\2^s*val B (o.take i)=val B (U.take i)+B^i*(dz U i%2^s)
def Yer{h2:T O}{n2 iu iq Nq lu n s:Nat}{U Q:List Nat}{r0:T V}{cu:Option Nat}(hlu:lu<1099511627776)(lU:U.length=lu)(dU:Dg U)(hs:s<64)(PE:n2<=iu)(BT:iu<iq)(hq:iq<Nq)(hn:n<lu)
  (a9:r0.get 9=some (.int .i64 s)) (Bx:r0.get 11=some (.slice iu 0 lu cu 1)) (a96:r0.get 96=some (.int .i64 n)):
  ∀x r st,(∀t,jR [(15,15),(97,130)] t=false->r.get t=r0.get t)->Fx [(15,15),(97,130)] r0 137 ⟨r,137,[]⟩->TL n2 h2 iu iq Nq lu n s U Q x r st->Code A.C none A.jS ⟨r,137,[]⟩ st (Rd [(15,15),(97,130)] r0 137 (TL n2 h2 iu iq Nq lu n s U Q) x (fun e r st=>e=.exit 4/\TL n2 h2 iu iq Nq lu n s U Q 0 r st)):=by
 rintro m r ⟨H,n1,W⟩ hr hf ⟨mF,hW,hK,hQ,i,o,hi,PG,aM,lo,dO,eQ,he⟩
 simp only at mF hW hK hQ aM
 subst mF
 rw[dk]
 cases m with
 |zero=>
  have:i=n:=by omega
  subst this
  simp(disch:=first|(simp;done)|omega|(simp only[Zab,aq,ak];omega)|rfl) [-getElem?_pos,A.jS,hr,hf,PG,a96]
  exact⟨rfl,hW,hK,hQ,i,o,by omega,by simp[PG],aM,lo,dO,eQ,he⟩
 |succ m=>
  have aP:i<n:=by omega
  have gx:U[i]?=some (U[i]'(by omega)):=eA (by omega)
  have gy:U[i+1]?=some (U[i+1]'(by omega)):=eA (by omega)
  generalize U[i]'(by omega)=x at*
  generalize U[i+1]'(by omega)=y at*
  have hx:x<B:=dU.get gx
  have hy:y<B:=dU.get gy
  have ox:o[i]?=some x:=by rw[eQ i (aZ _)];exact gx
  have oy:o[i+1]?=some y:=by rw[eQ (i+1) (by omega)];exact gy
  have Oy:i<lu:=by omega
  have PH:i+1<lu:=by omega
  have zd9:(i:Int)+1<(lu:Int):=by omega
  have pR:dz U i=x:=by simp[dz,gx]
  have hzy:dz U (i+1)=y:=by simp[dz,gy]
  have vt:¬iu<n2:=by omega
  have hiu:iu<n1:=by omega
  have hqu:¬iq=iu:=by omega
  have hsB:ay x s<B:=Zu2 hx
  have zeM:ay x s<18446744073709551616:=hsB
  have ze8:x<18446744073709551616:=hx
  have JR:y<18446744073709551616:=hy
  have pO:(s:Int)<=64:=by omega
  have K1:=fun v1 v2=>(hK.set (o:=v1) PE).set (i:=iu) (o:=v2) PE
  by_cases h0:0<s
  ·have rf:(0:Int)<(s:Int):=by omega
   obtain⟨z1,z2⟩:=Yiy (y:=y) hx h0 hs
   have ox2:(o.set i (ay x s))[i]?=some (ay x s):=sI (by omega)
   have oy2:(o.set i (ay x s))[i+1]?=some y:=by rw[eR (by omega)];exact oy
   have tL:(o.set i (ay x s)).length=lu:=by simp[lo]
   have zd_:bn .i64 (64-(s:Int))=((64-s:Nat):Int):=by rw[cL (by omega) (by omega)];omega
   simp(disch:=first|(simp;done)|omega|(simp only[Zab,aq,ak];omega)|rfl) [-getElem?_pos,A.jS,hr,hf,PG,a96,a9,Bx,aP,Oy,PH,aM,fH ox,pw,h0,rf,zd9,zd_,fH ox2,fH oy2,tL,hiu,bU.bZ]
   refine⟨m,by omega,rfl,by simp[aD,hW,vt],K1 _ _,by simp[hqu,hQ],i+1,(o.set i (ay x s)).set i (jq (ay x s) (bR y (64-s))),by omega,by simp,by simp,by simp[lo],(dO.tm hsB).tm z1,?_,?_⟩
   ·intro t ht
    rw[eR (by omega),eR (by omega)]
    exact eQ t (by omega)
   ·rw[List.set_set,CN,CN,pR,hzy,show dz (o.set i (jq (ay x s) (bR y (64-s)))) i=jq (ay x s) (bR y (64-s)) by simp[dz,sI (show i<o.length by omega)]]
    have ht:(o.set i (jq (ay x s) (bR y (64-s)))).take i=o.take i:=by
     apply qG
     intro t
     rw[lX,lX]
     split
     ·rw[eR (by omega)]
     ·rfl
    rw[ht]
    rw[pR]at he
    have e2:B^i*(2^s*jq (ay x s) (bR y (64-s))+x%2^s)=B^i*(x+B*(y%2^s)):=by rw[z2]
    rw[fO]
    generalize jq (ay x s) (bR y (64-s))=z at*
    generalize val B (o.take i)=y1 at*
    generalize val B (U.take i)=y2 at*
    generalize x%2^s=y3 at*
    generalize y%2^s=y4 at*
    generalize (2:Nat)^s=y5 at*
    generalize B^i=y6 at*
    clear z2 ht K1
    grind
  ·have wk:s=0:=by omega
   subst wk
   have z0:ay x 0=x:=by unfold ay;simp
   have PI:o.set i x=o:=by
    apply qG
    intro t
    by_cases ht:t=i
    ·subst ht;rw[sI (by omega),ox]
    ·rw[eR (by omega)]
   simp(disch:=first|(simp;done)|omega|(simp only[Zab,aq,ak];omega)|rfl) [-getElem?_pos,A.jS,hr,hf,PG,a96,a9,Bx,aP,Oy,PH,aM,fH ox,pw,z0,PI]
   refine⟨m,by omega,rfl,by simp[aD,hW,vt],hK.set PE,by simp[hqu,hQ],i+1,o,by omega,by simp,by simp,lo,dO,fun t ht=>eQ t (by omega),?_⟩
   rw[CN,CN,pR,show dz o i=x by simp[dz,ox]]
   have:dz U i%2^0=0:=Nat.mod_one _
   rw[this]at he
   simp only[AH,Nat.one_mul,Nat.mod_one,Nat.mul_zero,tF]at he ⊢
   omega
def Yij(h:(aN b).length=1):aN b=[b]/\b<B:=by
 obtain⟨h1,h2⟩:=JS (k:=0) h
 rw[AH]at h1
 rw[vW,Nat.pow_one]at h2
 refine⟨?_,h2⟩
 rw[mW (by omega),zu h2,q_,xA h2]
def Yeg{r:Nat}(h:r<B):se [r]=aN r:=by
 rw[CO (by intro d hd;simp at hd;subst hd;exact h)]
 simp[val]
def Zrv{h:T O}{u v:V}{a:Nat}(hu:Wn h N u a)(hv:Wn h N v b)(hb:0<b)(hl:(aN a).length<1000000000000)(oO:(aN b).length<1000000000000):Fn A.C 225 [u,v] h N (fun x h' n'=>∃q r,x=.aS [q,r]/\Wn h' n' q (a/b)/\Wn h' n' r (a%b)):=by
 intro w
 have lu:=hu.len
 have lv:=hv.len
 rw[Zab]at lu lv
 rw[aV,A.k225 (by simp)]
 simp(disch:=first|(simp;done)|omega|(simp only[Zab,aq,ak];omega)|rfl) [-getElem?_pos,A.b225]
 refine az (Zhi hu hv (by omega) (by omega)) ?_
 rintro _ h1 n1 k1 rfl
 by_cases aP:a<b
 ·have c1:vE a b= -1:=by simp[vE,aP]
  simp(disch:=first|(simp;done)|omega|(simp only[Zab,aq,ak];omega)|rfl) [-getElem?_pos,c1,aF]
  refine⟨k1,_,_,⟨rfl,rfl⟩,?_,?_⟩
  ·rw[zu aP];unfold Wn;rw[q_];exact Sl.nil
  ·rw[xA aP];exact hu.ah k1
 ·have c1:¬vE a b<0:=by
   unfold vE
   rw[aA (by omega)]
   split<;>omega
  have zZ:=hu.ah k1
  have oC:=hv.ah k1
  have hle:=Es (a:=b) (b:=a) (by omega)
  by_cases h1l:(aN b).length=1
  ·obtain⟨e1,e2⟩:=Yij h1l
   have PJ:((aN b).length:Int)=1:=by omega
   have JT:Sl h1 n1 v (dg [b]):=by rw[<-e1];exact oC
   simp(disch:=first|(simp;done)|omega|(simp only[Zab,aq,ak];omega)|rfl) [-getElem?_pos,c1,lv,h1l,lu,aL]
   refine c_ [(7,8),(30,48)] _ (TJ h1 n1 n1 (aN a) b) (aN a).length ?_ (Ygg zZ JT (rb a) e2 (by omega) (by simp) (by simp) (by simp)) ?_
   ·refine⟨rfl,by simp,ae.refl.new _,0,List.replicate (aN a).length 0,aZ _,by simp,by simp,by simp[JO],by simp,?_,?_,hb⟩
    ·intro d hd
     rw[LH]at hd
     rw[hd.2];decide
    ·simp[val]
   rintro e r ⟨H,n2,W⟩ hr ⟨rfl,hn,hW,hK,rest,Q,hm,h8,h7,aM,hQ,dQ,he,JP⟩
   simp only at hn hW hK aM
   subst hn
   simp(disch:=first|(simp;done)|omega|(simp only[Zab,aq,ak];omega)|rfl) [-getElem?_pos,hr,h7]
   refine az (CR (l:=Q) (Sl.row (e:=217) (rw:=true) (by omega) aM (by rw[Zab];exact hQ) (by simp)) (by omega)) ?_
   rintro q2 h3 n3 k3 hq
   simp(disch:=first|(simp;done)|omega|(simp only[Zab,aq,ak];omega)|rfl) [-getElem?_pos,hr,h7,ag]
   have k4:ae h3 n3 (h3.set n3 (.cells [.int .u64 rest] 217 true)) (n3+1):=ae.refl.new _
   have hs5:Sl (h3.set n3 (.cells [.int .u64 rest] 217 true)) (n3+1) (.slice n3 0 1 (some 1) 1) (dg [rest]):=Sl.row (e:=217) (rw:=true) (L:=1) (tO n3) (by simp[dg]) (by simp) (by simp)
   refine az (CR hs5 (by simp)) ?_
   rintro r2 h5 n5 k5 bK
   simp only[AA,mB]at he
   have JU:val B Q=a/b:=by
    rw[he,Nat.mul_add_div hb,zu JP];omega
   have JV:rest=a%b:=by
    rw[he,Nat.mul_add_mod,xA JP]
   rw[CO dQ,JU]at hq
   rw[Yeg (by omega),JV]at bK
   simp(disch:=first|(simp;done)|omega|(simp only[Zab,aq,ak];omega)|rfl) [-getElem?_pos,hr,aF]
   exact⟨Mw k1.le hW,((k1.trans hK).trans k3).trans (k4.trans k5),_,_,⟨rfl,rfl⟩,(hq.ah k4).ah k5,bK⟩
  ·have hbl:(aN b).length≠0:=by
    rw[mW (by omega)];simp
   obtain⟨k,hk⟩:∃k,(aN b).length=k+2:=⟨(aN b).length-2,by omega⟩
   have PJ:¬(k:Int)+2=1:=by omega
   have gt:=eA (l:=aN b) (i:=k+1) (by omega)
   generalize (aN b)[k+1]'(by omega)=bt at*
   have PL:bt<B:=(rb b).get gt
   have zea:¬bt=0:=by
    obtain⟨w1,w2⟩:=JS (k:=k+1) hk
    have:=(PM w1 w2).2
    rw[gt]at this
    have e:=rY this
    have hp:0<B^(k+1):=vU (by decide)
    have:=(LI hp).2 (by rw[Nat.one_mul];exact w1)
    omega
   obtain⟨m1,m2,m3⟩:=Yho zea PL
   have R7:=fun (h:T O) (N:Nat)=>Ybv (h:=h) (N:=N) (x:=bt) PL
   generalize hs:64-bf bt=s at*
   obtain⟨i1,o1,cc1,e1,w1,p1,p2,p3,p4⟩:=oC.at (fH gt)
   have t1:((k:Int)+2-1)=(k:Int)+1:=by omega
   rw[hk]at lv
   simp(disch:=first|(simp;done)|omega|(simp only[Zab,aq,ak];omega)|rfl) [-getElem?_pos,c1,lv,aL,p1,p3,p4,t1,PJ]
   refine az (R7 _ _) ?_
   rintro _ h1 n1 k2 ⟨rfl,rfl,rfl⟩
   simp(disch:=first|(simp;done)|omega|(simp only[Zab,aq,ak];omega)|rfl) [-getElem?_pos,lv]
   refine az (Zoj oC (rb b) m3 (by omega)) ?_
   rintro vv h2 n2 k3 ⟨iv,ov,g1,g2,rfl,g3,g4,g5,g6⟩
   simp(disch:=first|(simp;done)|omega|(simp only[Zab,aq,ak];omega)|rfl) [-getElem?_pos,lv]
   refine az (CR (l:=ov) (Sl.row (e:=217) (rw:=true) g2 g3 (by rw[Zab];exact g4) (by simp)) (by omega)) ?_
   rintro vy h3 n3 k4 hy
   rw[CO g5,g6,mB]at hy
   obtain⟨y1,v1,y2,y3⟩:=Yd9 hk gt m1 m2 (by omega)
   have ly:=Sl.len hy
   rw[Zab,y1]at ly
   have ly:r_ vy=some (k+2):=ly
   obtain⟨L,hL⟩:∃L,L+(k+2)=(aN a).length+1:=⟨(aN a).length+1-(k+2),by omega⟩
   have hLi:((aN a).length:Int)-((k:Int)+2)=(L:Int)-1:=by omega
   simp(disch:=first|(simp;done)|omega|(simp only[Zab,aq,ak];omega)|rfl) [-getElem?_pos,]
   refine az (Zoj ((zZ.ah k3).ah k4) (rb a) m3 (by omega)) ?_
   rintro uu h4 n4 k5 ⟨iu,ou,j1,j2,rfl,j3,j4,j5,j6⟩
   simp(disch:=first|(simp;done)|omega|(simp only[Zab,aq,ak];omega)|rfl) [-getElem?_pos,ly,lu,hLi,JO]
   have Bz:0<v1:=by omega
   have k6:ae h4 n4 (h4.set n4 (.cells (dg (List.replicate L 0)) 217 true)) (n4+1):=ae.refl.new _
   have hyv:v1*B^(k+1)<=val B (aN (b*2^s)):=by
    obtain⟨w1,w2⟩:=JS (k:=k+1) y1
    have:=(PM w1 w2).2
    rw[y2]at this
    have e:=rY this
    rw[mB,e]
    exact Nat.div_mul_le_self _ _
   refine c_ [(14,14),(80,95)] _ (TK N n3 h3 iu n4 (n4+1) ((aN a).length+1) k (a*2^s) (aN (b*2^s))) L ?_ (Ygf (cq:=some L) (v1:=v1) hy (by omega) (rb _) (by omega) (by rw[y2]) Bz j1 j2 (tO n4) (by omega) (by simp) (by simp) (by simp) ?_) ?_
   ·have bF:¬iu=n4:=by omega
    refine⟨rfl,rfl,(k5.trans k6),ou,List.replicate L 0,by simp,by simp[bF,j3],by simp,j4,by simp;omega,by simp,j5,?_,fun t NO yz=>by omega,?_,?_⟩
    ·intro d hd
     rw[LH]at hd
     rw[hd.2];decide
    ·have ha0:a≠0:=by omega
     have hla:(aN a).length≠0:=by rw[mW ha0];simp
     obtain⟨la1,PN⟩:∃x,(aN a).length=x+1:=⟨(aN a).length-1,by omega⟩
     have ml:=(JS PN).2
     rw[<-PN]at ml
     rw[mB]at j6
     exact Zzq (k:=k+1) j6 j4 (by omega) (by omega) ml m3 y3 hyv
    ·simp[val,j6,mB]
   ·have:(aN a).length+1-(k+2)=L:=by omega
    simp[this]
   rintro e r ⟨H,n5,W⟩ hr ⟨rfl,hn,hW,hK,U,Q,rP,hU,hQ,lU,lQ,hm,dU,dQ,hz,fm,he⟩
   simp only at hn hW hK hU hQ
   subst hn
   simp only[AA,AH,Nat.one_mul]at he fm
   simp(disch:=first|(simp;done)|omega|(simp only[Zab,aq,ak];omega)|rfl) [-getElem?_pos,hr]
   refine c_ [(15,15),(97,130)] _ (TL n3 h3 iu n4 (n4+1) ((aN a).length+1) (k+2) s U Q) (k+2) ?_ (Yer (cu:=some ((aN a).length+1)) (by omega) lU dU m3 j1 j2 (tO n4) (by omega) (by simp[hr]) (by simp[hr]) (by simp[hr])) ?_
   ·refine⟨rfl,hW,hK,hQ,0,U,by omega,by simp,hU,lU,dU,fun _ _=>rfl,?_⟩
    obtain⟨x,hx⟩:∃x,val B U=2^s*x:=by
     refine⟨a-val B Q*b,?_⟩
     rw[mB]at he
     rw[Nat.mul_sub,gk _ a,<-he]
     have:val B Q*(b*2^s)=2^s*(val B Q*b):=by grind
     omega
    have pd:dz U 0%2^s=0:=by
     have h1:=CN (b:=B) (l:=U) (k:=0)
     have h2:=Er B U 1 (by omega)
     simp only[List.take_zero,val,AH,Nat.one_mul,vW,Nat.pow_one]at h1 h2
     rw[h1,hx]at h2
     have h3:B=2^s*2^(64-s):=by rw[<-iF,show s+(64-s)=64 by omega];rfl
     rw[h3,uA]at h2
     have h4:dz U 0=2^s*(x-2^(64-s)*val (2^s*2^(64-s)) (U.drop 1)):=by rw[Nat.mul_sub];omega
     rw[h4,Nat.mul_mod_right]
    rw[pd];simp[val]
   rintro e r2 ⟨H2,n5,W2⟩ bK ⟨rfl,fw,f_,jC,hQ2,i,o,hi,PG,aM,lo,dO,eQ,xu⟩
   simp only at fw f_ jC hQ2 aM
   subst fw
   have:i=k+2:=by omega
   subst this
   simp(disch:=first|(simp;done)|omega|(simp only[Zab,aq,ak];omega)|rfl) [-getElem?_pos,bK,hr]
   refine az (CR (l:=Q) (Sl.row (e:=217) (rw:=true) (tO n4) hQ2 (by rw[Zab];omega) (by simp)) (by omega)) ?_
   rintro q2 h6 n6 k6 hq
   have hsU:Sl h6 n6 (.slice iu 0 ((aN a).length+1) (some ((aN a).length+1)) 1) (dg o):=(Sl.row (h:=H2) (N:=n4+1) (by omega) aM (by rw[Zab];exact lo) (by simp)).ah k6
   obtain⟨v',e1,e2⟩:=RS (w:=[]) hsU (lo:=0) (hi:=k+2) (xW _) (by rw[Zab];omega) none (some (.int .i64 ((k+2:Nat):Int))) (.inr ⟨rfl,rfl⟩) (.inl rfl)
   rw[show ((k+2:Nat):Int)=(k:Int)+2 by omega]at e1
   simp(disch:=first|(simp;done)|omega|(simp only[Zab,aq,ak];omega)|rfl) [-getElem?_pos,bK,hr,M7,aC,e1]
   rw[AA,show (dg o).take (k+2)=dg (o.take (k+2)) by simp[dg]]at e2
   refine az (CR (l:=o.take (k+2)) e2 (by rw[lW];omega)) ?_
   rintro r3 h7 n7 k7 PO
   rw[CO dQ]at hq
   rw[CO (fun d hd=>dO d (B0 hd))]at PO
   rw[mB]at he fm
   have hbs:0<b*2^s:=tH hb (sR s)
   have JW:dz U (k+2)=0:=by simp[dz,hz (k+2) (by omega) (by omega)]
   have hUt:val B (U.take (k+2))=val B U:=by
    have h1:=Er B U (k+2) (by omega)
    rw[Zfw (fun t t1 t2=>hz t (by omega) (by omega))]at h1
    omega
   have JU:val B Q=a/b:=by
    have h1:a*2^s/(b*2^s)=val B Q:=by
     rw[<-he,Nat.add_mul_div_right _ _ hbs,zu fm];omega
    rw[SM _ _ (sR s)]at h1
    exact h1.symm
   have JV:val B (o.take (k+2))=a%b:=by
    have h1:a*2^s%(b*2^s)=val B U:=by
     rw[<-he,Nat.add_mul_mod_self_right,xA fm]
    rw[Of,gk]at h1
    rw[JW,Nat.zero_mod,Nat.mul_zero,tF,hUt,<-h1]at xu
    exact Nat.eq_of_mul_eq_mul_left (sR s) xu
   rw[JU]at hq
   rw[JV]at PO
   simp(disch:=first|(simp;done)|omega|(simp only[Zab,aq,ak];omega)|rfl) [-getElem?_pos,bK,hr,bU.bZ,aF]
   have kk:=(k1.trans k3).trans k4
   exact⟨Mw kk.le f_,((kk.trans jC).trans k6).trans k7,q2,r3,⟨rfl,rfl⟩,Sl.ah hq k7,PO⟩
variable {N n:Nat} {h:T O} {x:V} {z:Int}
def A.b136:=A.q Tryz.f136
def A.k136:=@A.kk 136 5 [.cell 2 (some 2)] A.b136 (by kernel_rfl) rfl
def A.b192:=A.q Tryz.f192
def A.k192:=@A.kk 192 7 [.tmp 2] A.b192 (by kernel_rfl) rfl
def A.b228:=A.q Tryz.f228
def A.k228:=@A.kk 228 9 [.cell 2 (some 2)] A.b228 (by kernel_rfl) rfl
def A.b211:=A.q Tryz.f211
def A.k211:=@A.kk 211 10 [.tmp 2] A.b211 (by kernel_rfl) rfl
def A.b200:=A.q Tryz.f200
def A.k200:=@A.kk 200 26 [.cell 2 (some 2)] A.b200 (by kernel_rfl) rfl
def A.b212:=A.q Tryz.f212
def A.k212:=@A.kk 212 24 [.tmp 2,.tmp 3] A.b212 (by kernel_rfl) rfl
def A.b213:=A.q Tryz.f213
def A.k213:=@A.kk 213 50 [.cell 4 (some 2)] A.b213 (by kernel_rfl) rfl
def xO(z:Int):Int:=if z<0 then -1 else 1
def In(h:T O)(N:Nat)(x:V)(z:Int):Prop:=
 (x=.agg [.int .i64 z,.aa]/\ -9223372036854775808<=z/\z<9223372036854775808)\/
 ∃i o l c,x=.agg [.int .i64 (xO z),.slice i o l c 1]/\Wn h N (.slice i o l c 1) z.natAbs/\9223372036854775808<=z.natAbs
def In.ah{h':T O}{N':Nat}(s:In h N x z)(k:ae h N h' N'):In h' N' x z:=by
 rcases s with s|⟨i,o,l,c,s1,s2,s3⟩
 ·exact .inl s
 ·exact .inr ⟨i,o,l,c,s1,s2.ah k,s3⟩
def In.small(h1: -9223372036854775808<=z)(h2:z<9223372036854775808):In h N (.agg [.int .i64 z,.aa]) z:=.inl ⟨rfl,h1,h2⟩
def In.cells(s:In h N x z):∃n u,x=.agg [.int .i64 n,u]/\V.one u=true:=by
 rcases s with⟨rfl,_⟩|⟨i,o,l,c,rfl,_⟩
 ·exact⟨_,_,rfl,rfl⟩
 ·exact⟨_,_,rfl,rfl⟩
def In.nu{n:Int}{u:V}(s:In h N (.agg [.int .i64 n,u]) z):∀x∈[V.int .i64 n,u],∀m,x≠.int .u64 m:=by
 intro x hx m hc
 simp only[ku,List.not_mem_nil,or_false]at hx
 rcases hx with rfl|rfl
 ·cases hc
 ·subst hc
  rcases s with⟨e,_⟩|⟨_,_,_,_,e,_⟩
  ·simp at e
  ·simp at e
def aI{h1:T O}{n1:Nat}(k:ae h n h1 n1)(o:O):ae h n (h1.set n1 o) (n1+1):=(k.set k.le).up (Ar _)
def wl(z:Int):Nat:=(aN z.natAbs).length
def JX:Fn A.C 136 [.int .i64 z] h N (fun v _ _=>v=.agg [.int .i64 z,.aa]):=by
 intro w
 rw[aV,A.k136 (by simp)]
 simp(disch:=first|(simp;done)|omega|(simp only[Zab,aq,ak];omega)|rfl) [-getElem?_pos,A.b136,aJ,aE,ag,aF]
 exact(((ae.refl.set (aZ N)).set (aZ N)).up (Ar N))
def df(z:Int):Int:=if z<0 then -1 else if z=0 then 0 else 1
def JY(hx:In h N x z):Fn A.C 192 [x] h N (fun v _ _=>v=.int .i64 (df z)):=by
 intro w
 rw[aV,A.k192 (by simp)]
 rcases hx with⟨rfl,_⟩|⟨i,o,l,c,rfl,_,hz⟩
 ·obtain h1|h1|h1:z<0\/z=0\/0<z:=by omega
  ·have e1:z<1:=by omega
   have e2:¬ -1<z:=by omega
   simp(disch:=first|(simp;done)|omega|(simp only[Zab,aq,ak];omega)|rfl) [-getElem?_pos,A.b192,aJ,aE,ag,aF,yr,qV,B8,xD,Ba,yp,h1,e1,e2,df]
   exact aI ae.refl _
  ·subst h1
   simp(disch:=first|(simp;done)|omega|(simp only[Zab,aq,ak];omega)|rfl) [-getElem?_pos,A.b192,aJ,aE,ag,aF,yr,qV,B8,xD,Ba,yp,df]
   exact aI ae.refl _
  ·have e1:¬z<1:=by omega
   have e2:¬z<0:=by omega
   have e3:¬z=0:=by omega
   simp(disch:=first|(simp;done)|omega|(simp only[Zab,aq,ak];omega)|rfl) [-getElem?_pos,A.b192,aJ,aE,ag,aF,yr,qV,B8,xD,Ba,yp,e1,e2,e3,df]
   exact aI ae.refl _
 ·by_cases h1:z<0
  ·simp(disch:=first|(simp;done)|omega|(simp only[Zab,aq,ak];omega)|rfl) [-getElem?_pos,A.b192,aJ,aE,ag,aF,yr,qV,B8,xD,Ba,yp,xO,df,h1]
   exact aI ae.refl _
  ·have e3:¬z=0:=by omega
   simp(disch:=first|(simp;done)|omega|(simp only[Zab,aq,ak];omega)|rfl) [-getElem?_pos,A.b192,aJ,aE,ag,aF,yr,qV,B8,xD,Ba,yp,xO,df,h1,e3]
   exact aI ae.refl _
def Zsx(hz: -9223372036854775808<=z)(hm:z<9223372036854775808){st:St}:A.C.call (.func 211 [] []) [.int .i64 z] st=some (.int .u64 (z.natAbs:Nat),st):=by
 apply Call.eq
 rw[aV,A.k211 (by simp)]
 by_cases e1:z<0
 ·have e2:bn .u64 (IntKind.wrap .i64 (0-z))=(z.natAbs:Nat):=by
   rw[Mv]
   by_cases e3:z= -9223372036854775808
   ·subst e3;decide
   ·rw[Pz (by omega) (by omega)];omega
  rw[Int.zero_sub]at e2
  simp(disch:=first|(simp;done)|omega|(simp only[Zab,aq,ak];omega)|rfl) [-getElem?_pos,A.b211,e1,e2]
 ·have e2:bn .u64 z=(z.natAbs:Nat):=by rw[BP (by omega) (by omega)];omega
  simp(disch:=first|(simp;done)|omega|(simp only[Zab,aq,ak];omega)|rfl) [-getElem?_pos,A.b211,e1,e2]
def JZ(h:n<B)(h0:n≠0):aN n=[n]:=by
 rw[mW h0,zu h,q_,xA h]
def CS(hx:In h N x z):Fn A.C 212 [x] h N (fun v h' n'=>∃u,v=.aS [.bool (decide (z<0)),u]/\Wn h' n' u z.natAbs):=by
 intro w
 rw[aV,A.k212 (by simp)]
 rcases hx with⟨rfl,h1,h2⟩|⟨i,o,l,c,rfl,hw,hz⟩
 ·by_cases h0:z=0
  ·subst h0
   simp(disch:=first|(simp;done)|omega|(simp only[Zab,aq,ak];omega)|rfl) [-getElem?_pos,A.b212,aJ,aE,ag,aL,aF]
   refine⟨aI ae.refl _,?_⟩
   unfold Wn;rw[q_];exact Sl.nil
  ·have hs:=fun st=>Zsx h1 h2 (st:=st)
   have d1:¬N=N+1:=by omega
   simp(disch:=first|(simp;done)|omega|(simp only[Zab,aq,ak];omega)|rfl) [-getElem?_pos,A.b212,aJ,aE,ag,aL,h0,hs,aF,bU.bZ]
   refine⟨aI (aI ae.refl _) _,?_⟩
   unfold Wn
   rw[JZ (by unfold B;omega) (by omega)]
   exact Sl.row (e:=217) (rw:=true) (L:=1) (by omega) (by simp[dg]) (by simp) (by simp)
 ·have e1:(xO z<0)=(z<0):=by unfold xO;split<;>simp_all
  simp(disch:=first|(simp;done)|omega|(simp only[Zab,aq,ak];omega)|rfl) [-getElem?_pos,A.b212,aJ,aE,ag,aL,aF,e1,bU.bZ]
  refine⟨aI ae.refl _,hw.ah (aI ae.refl _)⟩
def Et{u:V}{b:Bool}(hu:Wn h N u n)(hl:(aN n).length<1099511627776):Fn A.C 213 [.bool b,u] h N (fun v h' n'=>In h' n' v (if b=true then -(n:Int) else n)):=by
 intro w
 have lu:=hu.len
 rw[Zab]at lu
 rw[aV,A.k213 (by simp)]
 have kk:∀o1 o2:O,ae h N ((h.set N o1).set N o2) (N+1):=fun o1 o2=>(aI ae.refl o1).set (aZ N)
 by_cases h0:n=0
 ·subst h0
  rw[q_]at lu
  simp(disch:=first|(simp;done)|omega|(simp only[Zab,aq,ak];omega)|rfl) [-getElem?_pos,A.b213,lu,aL,aJ,aE,ag,aF]
  refine⟨kk _ _,?_⟩
  have:(if b=true then -((0:Nat):Int) else ((0:Nat):Int))=0:=by split<;>rfl
  exact In.small (by omega) (by omega)
 ·by_cases h1:n<18446744073709551616
  ·rw[JZ h1 h0]at lu
   obtain⟨i,o,c,e,rw,p1,p2,p3,p4⟩:=hu.at (fH (l:=aN n) (j:=0) (n:=n) (by rw[JZ h1 h0];rfl))
   rw[tF]at p4
   have lu:r_ u=some 1:=lu
   have bF:¬i=N:=by omega
   by_cases h2:n<=9223372036854775807
   ·have l_:(n:Int)<=9223372036854775807:=by omega
    have w1:bn .i64 (n:Int)=n:=cL (by omega) (by omega)
    have w2:IntKind.wrap .i64 (-(n:Int))= -(n:Int):=Pz (by omega) (by omega)
    cases b
    ·simp(disch:=first|(simp;done)|omega|(simp only[Zab,aq,ak];omega)|rfl) [-getElem?_pos,A.b213,lu,aL,p1,p3,p4,bF,l_,w1,aJ,aE,ag,aF]
     exact⟨kk _ _,In.small (by omega) (by omega)⟩
    ·simp(disch:=first|(simp;done)|omega|(simp only[Zab,aq,ak];omega)|rfl) [-getElem?_pos,A.b213,lu,aL,p1,p3,p4,bF,l_,w1,w2,aJ,aE,ag,aF]
     exact⟨kk _ _,In.small (by omega) (by omega)⟩
   ·have l_:¬(n:Int)<=9223372036854775807:=by omega
    obtain⟨i2,o2,l2,c2,rfl⟩:∃i o l c,u=.slice i o l c 1:=by
     rcases hu with⟨hu,_⟩|⟨i,o,cp,c,e,rw,hu,_⟩
     ·rw[JZ h1 h0]at hu;simp[dg]at hu
     ·exact⟨_,_,_,_,hu⟩
    cases b
    ·simp(disch:=first|(simp;done)|omega|(simp only[Zab,aq,ak];omega)|rfl) [-getElem?_pos,A.b213,lu,aL,p1,p3,p4,bF,l_,aJ,aE,ag,aF]
     refine⟨kk _ _,.inr ⟨i2,o2,l2,c2,?_,hu.ah (kk _ _),?_⟩⟩
     ·simp[xO]
     ·omega
    ·simp(disch:=first|(simp;done)|omega|(simp only[Zab,aq,ak];omega)|rfl) [-getElem?_pos,A.b213,lu,aL,p1,p3,p4,bF,l_,aJ,aE,ag,aF]
     refine⟨kk _ _,.inr ⟨i2,o2,l2,c2,?_,?_,?_⟩⟩
     ·simp[xO];omega
     ·simpa using hu.ah (kk _ _)
     ·omega
  ·have xe:2<=(aN n).length:=by
    rw[mW h0,mW (by unfold B;omega)];simp
   have c0:¬((aN n).length:Int)=0:=by omega
   have c1:¬((aN n).length:Int)=1:=by omega
   have c2:¬(aN n).length=1:=by omega
   have c3:¬aN n=[]:=by intro h;rw[h]at xe;simp at xe
   rcases hu with⟨hu,_⟩|⟨i,o,cp,c,e,rw,rfl,hu⟩
   ·exfalso
    have:=congrArg List.length hu
    rw[Zab]at this
    simp at this
    exact c3 this
   have hw:Wn h N (.slice i o (dg (aN n)).length cp 1) n:=.inr ⟨i,o,cp,c,e,rw,rfl,hu⟩
   rw[Zab]at hw
   cases b
   ·simp(disch:=first|(simp;done)|omega|(simp only[Zab,aq,ak];omega)|rfl) [-getElem?_pos,A.b213,aL,c0,c1,c2,c3,aJ,aE,ag,aF]
    refine⟨kk _ _,.inr ⟨i,o,(aN n).length,cp,?_,hw.ah (kk _ _),?_⟩⟩
    ·simp[xO]
    ·omega
   ·simp(disch:=first|(simp;done)|omega|(simp only[Zab,aq,ak];omega)|rfl) [-getElem?_pos,A.b213,aL,c0,c1,c2,c3,aJ,aE,ag,aF]
    refine⟨kk _ _,.inr ⟨i,o,(aN n).length,cp,?_,?_,?_⟩⟩
    ·simp[xO];omega
    ·simpa using hw.ah (kk _ _)
    ·omega
def Sl.aG{v:V}{l:List Nat}{i:Nat}{c0 c1:List V}{e0 e1:TypeId}{w0 w1:Bool}(s:Sl h N v (dg l))(hr:h.get i=some (.cells c0 e0 w0))(hn:∀x∈c0,∀n,x≠.int .u64 n)(hc:c1.length=c0.length):Sl (h.set i (.cells c1 e1 w1)) N v (dg l):=by
 rcases s with s|⟨i',o,cp,c,e,rw,rfl,q1,q2,q3,q4,q5⟩
 ·exact .inl s
 ·by_cases hi:i'=i
  ·subst hi
   rw[hr]at q2
   simp only[au,O.cells.injEq]at q2
   obtain⟨rfl,rfl,rfl⟩:=q2
   cases l with
   |nil=>
    refine .inr ⟨i',o,cp,c1,e1,w1,rfl,q1,by rw[T.aj,aQ rfl],?_,by simpa[hc]using q4,q5⟩
    intro j hj
    simp[dg]at hj
   |cons d l=>
    exfalso
    have:=q3 0 (by simp[dg])
    have hm:=eZ (l:=c0) (i:=o+0) (a:=.int .u64 d) (by rw[this];simp[dg])
    exact hn _ hm _ rfl
  ·exact .inr ⟨i',o,cp,c,e,rw,rfl,q1,by rw[T.aj,aA hi];exact q2,q3,q4,q5⟩
def In.aG{i:Nat}{c0 c1:List V}{e0 e1:TypeId}{w0 w1:Bool}(s:In h N x z)(hr:h.get i=some (.cells c0 e0 w0))(hn:∀x∈c0,∀n,x≠.int .u64 n)(hc:c1.length=c0.length):In (h.set i (.cells c1 e1 w1)) N x z:=by
 rcases s with s|⟨i',o,l,c,s1,s2,s3⟩
 ·exact .inl s
 ·exact .inr ⟨i',o,l,c,s1,Sl.aG s2 hr hn hc,s3⟩
def My(hx:In h N x z)(hl:wl z<500000000000):Fn A.C 200 [x] h N (fun v h' n'=>In h' n' v (-z)):=by
 intro w
 rw[aV,A.k200 (by simp)]
 have rest:∀{x:V},In h N x z->∀(h1:T O) (N1:Nat),ae h N h1 N1->Fn A.C 212 [x] h1 N1 (fun v h' n'=>∃u,v=.aS [.bool (decide (z<0)),u]/\Wn h' n' u z.natAbs):=fun hx h1 N1 k=>CS (hx.ah k)
 have fin:∀{v h' n'},In h' n' v (if (!decide (z<0))=true then -(z.natAbs:Int) else z.natAbs)->In h' n' v (-z):=fun {v h' n'} q=>by
  have e:(if (!decide (z<0))=true then -(z.natAbs:Int) else (z.natAbs:Int))= -z:=by
   by_cases h:z<0<;>simp[h]<;>omega
  rw[e]at q;exact q
 by_cases hz:x=.agg [.int .i64 z,.aa]/\z≠ -9223372036854775808/\ -9223372036854775808<=z/\z<9223372036854775808
 ·obtain⟨rfl,h0,h1,h2⟩:=hz
  have w2:IntKind.wrap .i64 (-z)= -z:=Pz (by omega) (by omega)
  simp(disch:=first|(simp;done)|omega|(simp only[Zab,aq,ak];omega)|rfl) [-getElem?_pos,A.b200,aJ,aE,ag,aL,h0,w2,aF]
  exact⟨(aI (aI ae.refl _) _).set (by omega),In.small (by omega) (by omega)⟩
 ·rcases id hx with⟨rfl,h1,h2⟩|⟨i,o,l,c,rfl,_⟩
  ·have h0:z= -9223372036854775808:=by
    apply Decidable.byContradiction
    intro hc
    exact hz ⟨rfl,hc,h1,h2⟩
   have hp:=rest hx _ _ (aI (aI ae.refl (.cells [.int .i64 z,.aa] 108 true)) (.cells [.int .i64 0,.aa] 108 true))
   subst h0
   simp(disch:=first|(simp;done)|omega|(simp only[Zab,aq,ak];omega)|rfl) [-getElem?_pos,A.b200,aJ,aE,ag,aL]
   refine az hp ?_
   rintro _ h3 n3 k3 ⟨u,rfl,hu⟩
   have vT:=k3.le
   have g0:=k3.get (N+1) (by omega)
   simp at g0
   simp(disch:=first|(simp;done)|omega|(simp only[Zab,aq,ak];omega)|rfl) [-getElem?_pos,]
   refine az (Et hu (by unfold wl at hl;omega)) ?_
   rintro v h4 n4 k4 hv
   have tr:=k4.le
   have g1:=(k4.get (N+1) (by omega)).trans g0
   obtain⟨n5,u5,rfl,jy⟩:=hv.cells
   unfold V.one at jy
   simp(disch:=first|(simp;done)|omega|(simp only[Zab,aq,ak];omega)|rfl) [-getElem?_pos,g1,aJ,aE,ag,bE,aF,jy]
   have kk:=(((aI (aI ae.refl _) _).trans k3).trans k4).set (h:=h) (n:=N) (i:=N+1) (o:=.cells [.int .i64 n5,u5] 108 true) (by omega)
   exact⟨kk,(fin hv).aG g1 (by simp) rfl⟩
  ·have hp:=rest hx _ _ (aI (aI ae.refl (.cells [.int .i64 (xO z),.slice i o l c 1] 108 true)) (.cells [.int .i64 0,.aa] 108 true))
   simp(disch:=first|(simp;done)|omega|(simp only[Zab,aq,ak];omega)|rfl) [-getElem?_pos,A.b200,aJ,aE,ag,aL]
   refine az hp ?_
   rintro _ h3 n3 k3 ⟨u,rfl,hu⟩
   have vT:=k3.le
   have g0:=k3.get (N+1) (by omega)
   simp at g0
   simp(disch:=first|(simp;done)|omega|(simp only[Zab,aq,ak];omega)|rfl) [-getElem?_pos,]
   refine az (Et hu (by unfold wl at hl;omega)) ?_
   rintro v h4 n4 k4 hv
   have tr:=k4.le
   have g1:=(k4.get (N+1) (by omega)).trans g0
   obtain⟨n5,u5,rfl,jy⟩:=hv.cells
   unfold V.one at jy
   simp(disch:=first|(simp;done)|omega|(simp only[Zab,aq,ak];omega)|rfl) [-getElem?_pos,g1,aJ,aE,ag,bE,aF,jy]
   have kk:=(((aI (aI ae.refl _) _).trans k3).trans k4).set (h:=h) (n:=N) (i:=N+1) (o:=.cells [.int .i64 n5,u5] 108 true) (by omega)
   exact⟨kk,(fin hv).aG g1 (by simp) rfl⟩
end
end Go.Mx
