/-num-/
import Derived.Test.YtlfdeoomaccciaaGreatDoorNaG
set_option linter.all false
namespace Go.Mx
noncomputable section
open Go Go.Proofs
variable {N b:Nat}
set_option maxHeartbeats 8000000
set_option maxRecDepth 1000000
def A.C7:=A.q Tryz.f222
def A.jT:=A.ql A.C7 2 []
def A.mZ:=A.ql A.C7 1 []
def A.m7:=A.ql A.C7 0 []
def A.b222:=(fun x0 x1 x2=>A.qb A.C7 [x0,x1,x2]) A.m7 A.mZ A.jT
def A.k222:=@A.kk 222 137 [.tmp 4,.tmp 5] A.b222 (by kernel_rfl) rfl
def Ymi{x y s:Nat}(hx:x<B)(h0:0<s)(hs:s<64):jq (au x s) (bK y (64-s))<B/\2^s*jq (au x s) (bK y (64-s))+x%2^s=x+B*(y%2^s):=by
 have hc:au x s<2^(64-s):=by
  unfold au
  apply (qc (qy s)).2
  rw[<-kf,show 64-s+s=64 by omega];exact hx
 rw[Q9 (by omega) hc]
 refine⟨Zpl (by omega) hc,?_⟩
 have e:bK y (64-s)=(y%2^s)*2^(64-s):=by
  unfold bK
  have:(18446744073709551616:Nat)=2^s*2^(64-s):=by rw[<-kf,show s+(64-s)=64 by omega]
  rw[this,K3]
 have e2:2^s*(y%2^s*2^(64-s))=B*(y%2^s):=by
  have:B=2^s*2^(64-s):=by rw[<-kf,show s+(64-s)=64 by omega];rfl
  rw[this]
  generalize 2^s=p
  generalize 2^(64-s)=q
  grind
 rw[e,tA,e2]
 unfold au
 have:=uD x (2^s)
 omega
structure Ra (h:T O) (N iq:Nat) (X:List Nat) (b m:Nat) (r:T V) (st:St):Prop where
 n:st.n=N+1
 w:av N st.w=[]
 ae:ab h N st.h (N+1)
 ex:∃(rest:Nat) (Q:List Nat),m<=X.length/\r.get 8=some (.int .i64 ((m:Int)-1))/\r.get 7=some (.int .u64 rest)/\st.h.get N=some (.cells (dg Q) 191 true)/\Q.length=X.length/\Dg Q/\val B (X.drop m)=b*val B (Q.drop m)+rest/\rest<b
def Yi9{h:T O}{N b:Nat}{va vb:V}{X:List Nat}{r0:T V}(ha:Sl h N va (dg X))(hb:Sl h N vb (dg [b]))(dA:Dg X)(FH:b<B)(hl:X.length<1099511627776)
  (a0:r0.get 0=some va) (a1:r0.get 1=some vb) (a6:r0.get 6=some (.slice N 0 X.length (some X.length) 1)):
  ∀k r st,(∀t,jS [(7,8),(30,48)] t=false->r.get t=r0.get t)->Fx [(7,8),(30,48)] r0 137 ⟨r,137,[]⟩->Ra h N N X b k r st->Code A.C none A.m7 ⟨r,137,[]⟩ st (Rd [(7,8),(30,48)] r0 137 (Ra h N N X b) k (fun e r st=>e=.exit 0/\Ra h N N X b 0 r st)):=by
 rintro m r ⟨H,n1,W⟩ hr hf ⟨hn,hW,hK,rest,Q,hm,h8,h7,al,hQ,dQ,he,ax⟩
 simp only at hn hW hK al
 subst hn
 have la:=ha.len
 have lb:=hb.len
 rw[bC]at la lb
 rw[bk]
 cases m with
 |zero=>
  simp[A.m7,hr,hf,h8]
  exact⟨rfl,hW,hK,rest,Q,by omega,by simp[h8],by simp[h7],al,hQ,dQ,he,ax⟩
 |succ m=>
  have gx:=c9 (l:=X) (i:=m) (by omega)
  generalize X[m]'(by omega)=x at*
  have hx:x<B:=dA.get gx
  obtain⟨i1,o1,c1,e1,w1,p1,p2,p3,p4⟩:=ha.at (fu gx)
  have p3:=(hK.get _ p2).trans p3
  obtain⟨i2,o2,c2,e2,w2,q1,q2,q3,q4⟩:=hb.at (fu (l:=[b]) (j:=0) rfl)
  have q3:=(hK.get _ q2).trans q3
  rw[mP]at q4
  have gq:=c9 (l:=Q) (i:=m) (by omega)
  have mO:((m+1:Nat):Int)-1=(m:Int):=by omega
  have kg:m<X.length:=by omega
  have xF:i1<N+1:=by omega
  have zi:i2<N+1:=by omega
  have Yf:¬i1=N:=by omega
  have iS:¬i2=N:=by omega
  have Yg:¬N=i1:=by omega
  have Yh:¬N=i2:=by omega
  rw[mO]at h8
  have hd:=Zxz (h:=H) (N:=N+1) ax FH hx
  obtain⟨q,hq⟩:∃q,(rest*18446744073709551616+x)/b=q:=⟨_,rfl⟩
  obtain⟨rr,C8⟩:∃q,(rest*18446744073709551616+x)%b=q:=⟨_,rfl⟩
  rw[hq,C8]at hd
  have hinv:b*q+rr=rest*B+x:=by
   have:=uD (rest*18446744073709551616+x) b
   rw[hq,C8]at this
   exact this
  have qJ:rr<b:=by rw[<-C8];exact kZ _ (by omega)
  have zK:q<B:=by
   rw[<-hq];apply (qc (by omega)).2
   have:=mr B (show rest+1<=b by omega)
   rw[jk B b]
   rw[iU]at this
   unfold B at*;omega
  simp[A.m7,hr,hf,h8,h7,la,lb,a0,a1,a6,p1,p3,p4,q1,q3,q4,kg,xF,zi]
  refine aB hd ?_
  rintro _ H n2 BM ⟨rfl,rfl,rfl⟩
  simp(disch:=first|(simp;done)|omega|(simp only[bC,cB,bp];omega)|rfl) [hr,hf,h8,h7,la,lb,a0,a1,a6,al,pL,kg,xF,zi,Yf,iS,Yg,Yh,ct.cv]
  refine⟨m,by omega,rfl,by simp[av,hW],hK.set (aQ _),rr,Q.set m q,by omega,by simp,by simp,by simp,by simp[hQ],dQ.tW zK,?_,qJ⟩
  rw[BN gx,BN (gK (by omega)),List.drop_set_of_lt (by omega),he,tA,tA]
  have:B*(b*val B (Q.drop (m+1)))=b*(B*val B (Q.drop (m+1))):=by grind
  rw[jk rest]at hinv
  omega
structure Rb (N n2:Nat) (h2:T O) (iu iq Nq lu k A0:Nat) (Y:List Nat) (m:Nat) (r:T V) (st:St):Prop where
 n:st.n=Nq
 w:av n2 st.w=[]
 ae:ab h2 n2 st.h Nq
 ex:∃(U Q:List Nat),r.get 14=some (.int .i64 ((m:Int)-1))/\st.h.get iu=some (.cells (dg U) 191 true)/\st.h.get iq=some (.cells (dg Q) 191 true)/\U.length=lu/\Q.length+(k+2)=lu/\m<=Q.length/\Dg U/\Dg Q/\(∀t,m+k+2<=t->t<lu->U[t]?=some 0)/\val B (U.drop m)<val B Y/\val B U+B^m*(val B (Q.drop m)*val B Y)=A0
def Yi8{h2:T O}{N n2 iu iq Nq lu k v1 A0:Nat}{Y:List Nat}{v:V}{r0:T V}{cq:Option Nat}(hv:Sl h2 n2 v (dg Y))(hY:Y.length=k+2)(dY:Dg Y)(uY:lu<1099511627776)(f1:Y[k+1]?=some v1)(oC:0<v1)(MH:n2<=iu)(EV:iu<iq)(hq:iq<Nq)
  (yv:k+2<lu) (Hv:r0.get 10=some v) (BO:r0.get 11=some (.slice iu 0 lu (some lu) 1)) (BP:r0.get 12=some (.int .i64 ((k:Int)+2))) (a13:r0.get 13=some (.slice iq 0 (lu-(k+2)) cq 1)):
  ∀x r st,(∀t,jS [(14,14),(80,95)] t=false->r.get t=r0.get t)->Fx [(14,14),(80,95)] r0 137 ⟨r,137,[]⟩->Rb N n2 h2 iu iq Nq lu k A0 Y x r st->Code A.C none A.mZ ⟨r,137,[]⟩ st (Rd [(14,14),(80,95)] r0 137 (Rb N n2 h2 iu iq Nq lu k A0 Y) x (fun e r st=>e=.exit 2/\Rb N n2 h2 iu iq Nq lu k A0 Y 0 r st)):=by
 rintro m r ⟨H,n1,W⟩ hr hf ⟨hn,hW,hK,U,Q,oQ,hU,hQ,lU,lQ,hm,dU,dQ,hz,ax,he⟩
 simp only at hn hW hK hU hQ
 subst hn
 rw[bk]
 cases m with
 |zero=>
  simp[A.mZ,hr,hf,oQ]
  exact⟨rfl,hW,hK,U,Q,by simp[oQ],hU,hQ,lU,lQ,hm,dU,dQ,hz,ax,he⟩
 |succ m=>
  have mO:((m+1:Nat):Int)-1=(m:Int):=by omega
  rw[mO]at oQ
  have gu:=c9 (l:=U) (i:=m) (by omega)
  generalize U[m]'(by omega)=um at*
  have zav:um<B:=dU.get gu
  have hsK:mS ⟨H,n1,W⟩ 1 (some (.slice iu 0 lu (some lu) 1)) (some (some (.int .i64 m))) (some (some (.int .i64 ((m:Int)+((k:Int)+2)+1)))) (some none)=some (.slice iu m (k+3) (some (lu-m)) 1,⟨H,n1,W⟩):=by
   have e1:(0:Int)<=(m:Int)+((k:Int)+2)+1/\(m:Int)+((k:Int)+2)+1<=(lu:Int):=by omega
   have e2:((m:Int)+((k:Int)+2)+1).toNat=m+k+3:=by omega
   have e3:¬lu=m:=by omega
   have e4:m<=m+k+3:=by omega
   have e5:m+k+3-m=k+3:=by omega
   have e6:(m:Int)<=((m+k+3:Nat):Int):=by omega
   simp only[mS,qe,aC,dv,k_,Option.map,Src.ev,e1,e2,e3,e5,e6,and_self,if_true,if_false,Int.natCast_nonneg,Int.toNat_natCast,true_and,ne_eq,not_true_eq_false,Option.isSome,Option.isNone,B4,false_or,fI,wX,yZ]
  have hmq:m<lu-(k+2):=by omega
  simp(disch:=first|(simp;done)|omega|(simp only[bC,cB,bp];omega)|rfl) [A.mZ,hr,hf,oQ,Hv,BO,BP,a13,Bh,aC,hsK]
  refine Ag (Ybx (n2:=n2) (k:=k) (U:=U) (v1:=v1) (hv.ae ⟨aQ _,fun i hi=>hK.get i hi⟩) hY dY MH (by omega) (by omega) (by omega) hU dU f1 oC (fun t h1 h2=>hz t (by omega) (by omega)) ?_) ?_
  ·rw[BN gu]
   have:=kY B ax
   rw[Nat.mul_succ]at this
   omega
  rintro x ⟨H2,n3,W2⟩ ⟨s1,s2,s3,q,o,rfl,s4,s5,s6,s7,s8,s9,s10,s11⟩
  simp only at s1 s2 s3 s5
  subst s1
  have MI:H2.get iq=some (.cells (dg Q) 191 true):=by rw[s3 iq (by omega)];exact hQ
  simp(disch:=first|(simp;done)|omega|(simp only[bC,cB,bp];omega)|rfl) [hr,hf,oQ,Hv,BO,BP,a13,hmq,MI,pL]
  have vU:¬iq<n2:=by omega
  have hHe:∀i,i<n2->(H2.set iq (.cells (dg (Q.set m q)) 191 true)).get i=h2.get i:=fun i hi=>by
   rw[T.ag,ak (by omega),s3 i (by omega)];exact hK.get i hi
  refine⟨m,by omega,rfl,?_,⟨by omega,hHe⟩,o,Q.set m q,by simp,by simp[s5,(show ¬iu=iq by omega)],by simp,by omega,by simp;omega,by simp;omega,s7,dQ.tW s4,?_,s11,?_⟩
  ·simp only[av,vU,if_false]
   rw[s2];exact hW
  ·intro t h1 mq
   exact s9 t (by omega) (by omega)
  ·have eU:=EW B U m (by omega)
   have eO:=EW B o m (by omega)
   have et:o.take m=U.take m:=by
    apply oe
    intro t
    rw[iM,iM]
    split
    ·exact s8 t (by omega)
    ·rfl
   rw[BN (gK (by omega)),List.drop_set_of_lt (by omega),eO,et]
   rw[eU,<-s10,fZ]at he
   rw[<-he]
   generalize val B (U.take m)=z1
   generalize val B (o.drop m)=z2
   generalize val B Y=z3
   generalize val B (Q.drop (m+1))=z4
   generalize B^m=z5
   grind
structure Rc (n2:Nat) (h2:T O) (iu iq Nq lu n s:Nat) (U Q:List Nat) (m:Nat) (r:T V) (st:St):Prop where
 hn:st.n=Nq
 w:av n2 st.w=[]
 ae:ab h2 n2 st.h Nq
 q:st.h.get iq=some (.cells (dg Q) 191 true)
 ex:∃(i:Nat) (o:List Nat),i+m=n/\r.get 97=some (.int .i64 i)/\st.h.get iu=some (.cells (dg o) 191 true)/\o.length=lu/\Dg o/\(∀t,i<=t->o[t]?=U[t]?)/\2^s*val B (o.take i)=val B (U.take i)+B^i*(dz U i%2^s)
def Ygx{h2:T O}{n2 iu iq Nq lu n s:Nat}{U Q:List Nat}{r0:T V}{cu:Option Nat}(uY:lu<1099511627776)(lU:U.length=lu)(dU:Dg U)(hs:s<64)(MH:n2<=iu)(EV:iu<iq)(hq:iq<Nq)(hn:n<lu)
  (a9:r0.get 9=some (.int .i64 s)) (BO:r0.get 11=some (.slice iu 0 lu cu 1)) (Yi:r0.get 96=some (.int .i64 n)):
  ∀x r st,(∀t,jS [(15,15),(97,130)] t=false->r.get t=r0.get t)->Fx [(15,15),(97,130)] r0 137 ⟨r,137,[]⟩->Rc n2 h2 iu iq Nq lu n s U Q x r st->Code A.C none A.jT ⟨r,137,[]⟩ st (Rd [(15,15),(97,130)] r0 137 (Rc n2 h2 iu iq Nq lu n s U Q) x (fun e r st=>e=.exit 4/\Rc n2 h2 iu iq Nq lu n s U Q 0 r st)):=by
 rintro m r ⟨H,n1,W⟩ hr hf ⟨xy,hW,hK,hQ,i,o,hi,MJ,al,lo,dO,eD,he⟩
 simp only at xy hW hK hQ al
 subst xy
 rw[bk]
 cases m with
 |zero=>
  have:i=n:=by omega
  subst this
  simp[A.jT,hr,hf,MJ,Yi]
  exact⟨rfl,hW,hK,hQ,i,o,by omega,by simp[MJ],al,lo,dO,eD,he⟩
 |succ m=>
  have ax:i<n:=by omega
  have gx:U[i]?=some (U[i]'(by omega)):=c9 (by omega)
  have gy:U[i+1]?=some (U[i+1]'(by omega)):=c9 (by omega)
  generalize U[i]'(by omega)=x at*
  generalize U[i+1]'(by omega)=y at*
  have hx:x<B:=dU.get gx
  have hy:y<B:=dU.get gy
  have ox:o[i]?=some x:=by rw[eD i (aQ _)];exact gx
  have oy:o[i+1]?=some y:=by rw[eD (i+1) (by omega)];exact gy
  have xX:i<lu:=by omega
  have MK:i+1<lu:=by omega
  have Yj:(i:Int)+1<(lu:Int):=by omega
  have qk:dz U i=x:=by simp[dz,gx]
  have hzy:dz U (i+1)=y:=by simp[dz,gy]
  have vU:¬iu<n2:=by omega
  have hiu:iu<n1:=by omega
  have hqu:¬iq=iu:=by omega
  have hsB:au x s<B:=Zws hx
  have zah:au x s<18446744073709551616:=hsB
  have zaw:x<18446744073709551616:=hx
  have Hw:y<18446744073709551616:=hy
  have qi:(s:Int)<=64:=by omega
  have K1:=fun v1 v2=>(hK.set (o:=v1) MH).set (i:=iu) (o:=v2) MH
  by_cases h0:0<s
  ·have jU:(0:Int)<(s:Int):=by omega
   obtain⟨z1,z2⟩:=Ymi (y:=y) hx h0 hs
   have ox2:(o.set i (au x s))[i]?=some (au x s):=gK (by omega)
   have oy2:(o.set i (au x s))[i+1]?=some y:=by rw[dW (by omega)];exact oy
   have tX:(o.set i (au x s)).length=lu:=by simp[lo]
   have Yk:bl .i64 (64-(s:Int))=((64-s:Nat):Int):=by rw[cA (by omega) (by omega)];omega
   simp(disch:=first|(simp;done)|omega|(simp only[bC,cB,bp];omega)|rfl) [-getElem?_pos,A.jT,hr,hf,MJ,Yi,a9,BO,ax,xX,MK,al,fu ox,pL,h0,jU,Yj,Yk,fu ox2,fu oy2,tX,hiu,ct.cv]
   refine⟨m,by omega,rfl,by simp[av,hW,vU],K1 _ _,by simp[hqu,hQ],i+1,(o.set i (au x s)).set i (jq (au x s) (bK y (64-s))),by omega,by simp,by simp,by simp[lo],(dO.tW hsB).tW z1,?_,?_⟩
   ·intro t ht
    rw[dW (by omega),dW (by omega)]
    exact eD t (by omega)
   ·rw[List.set_set,C5,C5,qk,hzy,show dz (o.set i (jq (au x s) (bK y (64-s)))) i=jq (au x s) (bK y (64-s)) by simp[dz,gK (show i<o.length by omega)]]
    have ht:(o.set i (jq (au x s) (bK y (64-s)))).take i=o.take i:=by
     apply oe
     intro t
     rw[iM,iM]
     split
     ·rw[dW (by omega)]
     ·rfl
    rw[ht]
    rw[qk]at he
    have e2:B^i*(2^s*jq (au x s) (bK y (64-s))+x%2^s)=B^i*(x+B*(y%2^s)):=by rw[z2]
    rw[fZ]
    generalize jq (au x s) (bK y (64-s))=z at*
    generalize val B (o.take i)=y1 at*
    generalize val B (U.take i)=y2 at*
    generalize x%2^s=y3 at*
    generalize y%2^s=y4 at*
    generalize (2:Nat)^s=y5 at*
    generalize B^i=y6 at*
    clear z2 ht K1
    grind
  ·have tl:s=0:=by omega
   subst tl
   have z0:au x 0=x:=by unfold au;simp
   have ML:o.set i x=o:=by
    apply oe
    intro t
    by_cases ht:t=i
    ·subst ht;rw[gK (by omega),ox]
    ·rw[dW (by omega)]
   simp(disch:=first|(simp;done)|omega|(simp only[bC,cB,bp];omega)|rfl) [-getElem?_pos,A.jT,hr,hf,MJ,Yi,a9,BO,ax,xX,MK,al,fu ox,pL,z0,ML]
   refine⟨m,by omega,rfl,by simp[av,hW,vU],hK.set MH,by simp[hqu,hQ],i+1,o,by omega,by simp,by simp,lo,dO,fun t ht=>eD t (by omega),?_⟩
   rw[C5,C5,qk,show dz o i=x by simp[dz,ox]]
   have:dz U i%2^0=0:=Nat.mod_one _
   rw[this]at he
   simp only[DY,Nat.one_mul,Nat.mod_one,Nat.mul_zero,mP]at he ⊢
   omega
def Ylv(h:(aH b).length=1):aH b=[b]/\b<B:=by
 obtain⟨h1,h2⟩:=Hx (k:=0) h
 rw[DY]at h1
 rw[wX,Nat.pow_one]at h2
 refine⟨?_,h2⟩
 rw[mX (by omega),zU h2,rE,yk h2]
def Ygi{r:Nat}(h:r<B):th [r]=aH r:=by
 rw[C6 (by intro d hd;simp at hd;subst hd;exact h)]
 simp[val]
def Zts{h:T O}{u v:V}{a:Nat}(hu:Wn h N u a)(hv:Wn h N v b)(hb:0<b)(hl:(aH a).length<1000000000000)(iV:(aH b).length<1000000000000):Fn A.C 222 [u,v] h N (fun x h' n'=>∃q r,x=.aV [q,r]/\Wn h' n' q (a/b)/\Wn h' n' r (a%b)):=by
 intro w
 have lu:=hu.len
 have lv:=hv.len
 rw[bC]at lu lv
 rw[aN,A.k222 (by simp)]
 simp[A.b222]
 refine aB (Zh6 hu hv (by omega) (by omega)) ?_
 rintro _ h1 n1 k1 rfl
 by_cases ax:a<b
 ·have c1:vW a b= -1:=by simp[vW,ax]
  simp[c1,aA]
  refine⟨k1,_,_,⟨rfl,rfl⟩,?_,?_⟩
  ·rw[zU ax];unfold Wn;rw[rE];exact Sl.nil
  ·rw[yk ax];exact hu.ae k1
 ·have c1:¬vW a b<0:=by
   unfold vW
   rw[ak (by omega)]
   split<;>omega
  have yo:=hu.ae k1
  have oC:=hv.ae k1
  have hle:=EX (a:=b) (b:=a) (by omega)
  by_cases h1l:(aH b).length=1
  ·obtain⟨e1,e2⟩:=Ylv h1l
   have MM:((aH b).length:Int)=1:=by omega
   have Hy:Sl h1 n1 v (dg [b]):=by rw[<-e1];exact oC
   simp(disch:=first|(simp;done)|omega|(simp only[bC,cB,bp];omega)|rfl) [c1,lv,h1l,lu,aE]
   refine bG [(7,8),(30,48)] _ (Ra h1 n1 n1 (aH a) b) (aH a).length ?_ (Yi9 yo Hy (rF a) e2 (by omega) (by simp) (by simp) (by simp)) ?_
   ·refine⟨rfl,by simp,ab.refl.new _,0,List.replicate (aH a).length 0,aQ _,by simp,by simp,by simp[Hq],by simp,?_,?_,hb⟩
    ·intro d hd
     rw[Jh]at hd
     rw[hd.2];decide
    ·simp[val]
   rintro e r ⟨H,n2,W⟩ hr ⟨rfl,hn,hW,hK,rest,Q,hm,h8,h7,al,hQ,dQ,he,qJ⟩
   simp only at hn hW hK al
   subst hn
   simp[hr,h7]
   refine aB (C9 (l:=Q) (Sl.row (e:=191) (rw:=true) (by omega) al (by rw[bC];exact hQ) (by simp)) (by omega)) ?_
   rintro q2 h3 n3 k3 hq
   simp[hr,h7,ad]
   have k4:ab h3 n3 (h3.set n3 (.cells [.int .u64 rest] 191 true)) (n3+1):=ab.refl.new _
   have hs5:Sl (h3.set n3 (.cells [.int .u64 rest] 191 true)) (n3+1) (.slice n3 0 1 (some 1) 1) (dg [rest]):=Sl.row (e:=191) (rw:=true) (L:=1) (vt n3) (by simp[dg]) (by simp) (by simp)
   refine aB (C9 hs5 (by simp)) ?_
   rintro r2 h5 n5 k5 dt
   simp only[yU,mY]at he
   have Hz:val B Q=a/b:=by
    rw[he,Nat.mul_add_div hb,zU qJ];omega
   have Da:rest=a%b:=by
    rw[he,Nat.mul_add_mod,yk qJ]
   rw[C6 dQ,Hz]at hq
   rw[Ygi (by omega),Da]at dt
   simp[hr,aA]
   exact⟨JY k1.le hW,((k1.trans hK).trans k3).trans (k4.trans k5),_,_,⟨rfl,rfl⟩,(hq.ae k4).ae k5,dt⟩
  ·have hbl:(aH b).length≠0:=by
    rw[mX (by omega)];simp
   obtain⟨k,hk⟩:∃k,(aH b).length=k+2:=⟨(aH b).length-2,by omega⟩
   have MM:¬(k:Int)+2=1:=by omega
   have gt:=c9 (l:=aH b) (i:=k+1) (by omega)
   generalize (aH b)[k+1]'(by omega)=bt at*
   have MN:bt<B:=(rF b).get gt
   have Yl:¬bt=0:=by
    obtain⟨w1,w2⟩:=Hx (k:=k+1) hk
    have:=(MO w1 w2).2
    rw[gt]at this
    have e:=pc this
    have hp:0<B^(k+1):=zX (by decide)
    have:=(Jj hp).2 (by rw[Nat.one_mul];exact w1)
    omega
   obtain⟨m1,m2,m3⟩:=Ykv Yl MN
   have hlz:=fun (h:T O) (N:Nat)=>Ydo (h:=h) (N:=N) (x:=bt) MN
   generalize hs:64-aX bt=s at*
   obtain⟨i1,o1,PX,e1,w1,p1,p2,p3,p4⟩:=oC.at (fu gt)
   have t1:((k:Int)+2-1)=(k:Int)+1:=by omega
   rw[hk]at lv
   simp(disch:=omega) [c1,lv,aE,p1,p3,p4,t1,MM]
   refine aB (hlz _ _) ?_
   rintro _ h1 n1 k2 ⟨rfl,rfl,rfl⟩
   simp[lv]
   refine aB (Zpn oC (rF b) m3 (by omega)) ?_
   rintro vv h2 n2 k3 ⟨iv,ov,g1,g2,rfl,g3,g4,g5,g6⟩
   simp[lv]
   refine aB (C9 (l:=ov) (Sl.row (e:=191) (rw:=true) g2 g3 (by rw[bC];exact g4) (by simp)) (by omega)) ?_
   rintro vy h3 n3 k4 hy
   rw[C6 g5,g6,mY]at hy
   obtain⟨y1,v1,y2,y3⟩:=Yga hk gt m1 m2 (by omega)
   have ly:=Sl.len hy
   rw[bC,y1]at ly
   have ly:pw vy=some (k+2):=ly
   obtain⟨L,hL⟩:∃L,L+(k+2)=(aH a).length+1:=⟨(aH a).length+1-(k+2),by omega⟩
   have hLi:((aH a).length:Int)-((k:Int)+2)=(L:Int)-1:=by omega
   simp[]
   refine aB (Zpn ((yo.ae k3).ae k4) (rF a) m3 (by omega)) ?_
   rintro uu h4 n4 k5 ⟨iu,ou,j1,j2,rfl,j3,j4,j5,j6⟩
   simp(disch:=first|(simp;done)|omega|(simp only[bC,cB,bp];omega)|rfl) [ly,lu,hLi,Hq]
   have BQ:0<v1:=by omega
   have k6:ab h4 n4 (h4.set n4 (.cells (dg (List.replicate L 0)) 191 true)) (n4+1):=ab.refl.new _
   have hyv:v1*B^(k+1)<=val B (aH (b*2^s)):=by
    obtain⟨w1,w2⟩:=Hx (k:=k+1) y1
    have:=(MO w1 w2).2
    rw[y2]at this
    have e:=pc this
    rw[mY,e]
    exact Nat.div_mul_le_self _ _
   refine bG [(14,14),(80,95)] _ (Rb N n3 h3 iu n4 (n4+1) ((aH a).length+1) k (a*2^s) (aH (b*2^s))) L ?_ (Yi8 (cq:=some L) (v1:=v1) hy (by omega) (rF _) (by omega) (by rw[y2]) BQ j1 j2 (vt n4) (by omega) (by simp) (by simp) (by simp) ?_) ?_
   ·have aW:¬iu=n4:=by omega
    refine⟨rfl,rfl,(k5.trans k6),ou,List.replicate L 0,by simp,by simp[aW,j3],by simp,j4,by simp;omega,by simp,j5,?_,fun t IN xb=>by omega,?_,?_⟩
    ·intro d hd
     rw[Jh]at hd
     rw[hd.2];decide
    ·have Vl:a≠0:=by omega
     have hla:(aH a).length≠0:=by rw[mX Vl];simp
     obtain⟨la1,MP⟩:∃x,(aH a).length=x+1:=⟨(aH a).length-1,by omega⟩
     have fU:=(Hx MP).2
     rw[<-MP]at fU
     rw[mY]at j6
     exact Ybq (k:=k+1) j6 j4 (by omega) (by omega) fU m3 y3 hyv
    ·simp[val,j6,mY]
   ·have:(aH a).length+1-(k+2)=L:=by omega
    simp[this]
   rintro e r ⟨H,n5,W⟩ hr ⟨rfl,hn,hW,hK,U,Q,oQ,hU,hQ,lU,lQ,hm,dU,dQ,hz,cX,he⟩
   simp only at hn hW hK hU hQ
   subst hn
   simp only[yU,DY,Nat.one_mul]at he cX
   simp[hr]
   refine bG [(15,15),(97,130)] _ (Rc n3 h3 iu n4 (n4+1) ((aH a).length+1) (k+2) s U Q) (k+2) ?_ (Ygx (cu:=some ((aH a).length+1)) (by omega) lU dU m3 j1 j2 (vt n4) (by omega) (by simp[hr]) (by simp[hr]) (by simp[hr])) ?_
   ·refine⟨rfl,hW,hK,hQ,0,U,by omega,by simp,hU,lU,dU,fun _ _=>rfl,?_⟩
    obtain⟨x,hx⟩:∃x,val B U=2^s*x:=by
     refine⟨a-val B Q*b,?_⟩
     rw[mY]at he
     rw[Nat.mul_sub,jk _ a,<-he]
     have:val B Q*(b*2^s)=2^s*(val B Q*b):=by grind
     omega
    have tg:dz U 0%2^s=0:=by
     have h1:=C5 (b:=B) (l:=U) (k:=0)
     have h2:=EW B U 1 (by omega)
     simp only[List.take_zero,val,DY,Nat.one_mul,wX,Nat.pow_one]at h1 h2
     rw[h1,hx]at h2
     have h3:B=2^s*2^(64-s):=by rw[<-kf,show s+(64-s)=64 by omega];rfl
     rw[h3,D7]at h2
     have h4:dz U 0=2^s*(x-2^(64-s)*val (2^s*2^(64-s)) (U.drop 1)):=by rw[Nat.mul_sub];omega
     rw[h4,Nat.mul_mod_right]
    rw[tg];simp[val]
   rintro e r2 ⟨H2,n5,W2⟩ dt ⟨rfl,ff,dZ,eN,hQ2,i,o,hi,MJ,al,lo,dO,eD,vf⟩
   simp only at ff dZ eN hQ2 al
   subst ff
   have:i=k+2:=by omega
   subst this
   simp[dt,hr]
   refine aB (C9 (l:=Q) (Sl.row (e:=191) (rw:=true) (vt n4) hQ2 (by rw[bC];omega) (by simp)) (by omega)) ?_
   rintro q2 h6 n6 k6 hq
   have Ym:Sl h6 n6 (.slice iu 0 ((aH a).length+1) (some ((aH a).length+1)) 1) (dg o):=(Sl.row (h:=H2) (N:=n4+1) (by omega) al (by rw[bC];exact lo) (by simp)).ae k6
   obtain⟨v',e1,e2⟩:=DS (w:=[]) Ym (lo:=0) (hi:=k+2) (uw _) (by rw[bC];omega) none (some (.int .i64 ((k+2:Nat):Int))) (.inr ⟨rfl,rfl⟩) (.inl rfl)
   rw[show ((k+2:Nat):Int)=(k:Int)+2 by omega]at e1
   simp[dt,hr,Bh,aC,e1]
   rw[yU,show (dg o).take (k+2)=dg (o.take (k+2)) by simp[dg]]at e2
   refine aB (C9 (l:=o.take (k+2)) e2 (by rw[gG];omega)) ?_
   rintro r3 h7 n7 k7 MQ
   rw[C6 dQ]at hq
   rw[C6 (fun d hd=>dO d (yL hd))]at MQ
   rw[mY]at he cX
   have hbs:0<b*2^s:=yF hb (qy s)
   have HC:dz U (k+2)=0:=by simp[dz,hz (k+2) (by omega) (by omega)]
   have hUt:val B (U.take (k+2))=val B U:=by
    have h1:=EW B U (k+2) (by omega)
    rw[Yn (fun t t1 t2=>hz t (by omega) (by omega))]at h1
    omega
   have Hz:val B Q=a/b:=by
    have h1:a*2^s/(b*2^s)=val B Q:=by
     rw[<-he,Nat.add_mul_div_right _ _ hbs,zU cX];omega
    rw[Qa _ _ (qy s)]at h1
    exact h1.symm
   have Da:val B (o.take (k+2))=a%b:=by
    have h1:a*2^s%(b*2^s)=val B U:=by
     rw[<-he,Nat.add_mul_mod_self_right,yk cX]
    rw[K3,jk]at h1
    rw[HC,Nat.zero_mod,Nat.mul_zero,mP,hUt,<-h1]at vf
    exact Nat.eq_of_mul_eq_mul_left (qy s) vf
   rw[Hz]at hq
   rw[Da]at MQ
   simp[dt,hr,ct.cv,aA]
   have kk:=(k1.trans k3).trans k4
   exact⟨JY kk.le dZ,((kk.trans eN).trans k6).trans k7,q2,r3,⟨rfl,rfl⟩,Sl.ae hq k7,MQ⟩
variable {N n:Nat} {h:T O} {x:V} {z:Int}
def A.b166:=A.q Tryz.f166
def A.k166:=@A.kk 166 5 [.cell 2 (some 2)] A.b166 (by kernel_rfl) rfl
def A.b170:=A.q Tryz.f170
def A.k170:=@A.kk 170 7 [.tmp 2] A.b170 (by kernel_rfl) rfl
def A.b231:=A.q Tryz.f231
def A.k231:=@A.kk 231 9 [.cell 2 (some 2)] A.b231 (by kernel_rfl) rfl
def A.b189:=A.q Tryz.f189
def A.k189:=@A.kk 189 10 [.tmp 2] A.b189 (by kernel_rfl) rfl
def A.b186:=A.q Tryz.f186
def A.k186:=@A.kk 186 26 [.cell 2 (some 2)] A.b186 (by kernel_rfl) rfl
def A.b181:=A.q Tryz.f181
def A.k181:=@A.kk 181 24 [.tmp 2,.tmp 3] A.b181 (by kernel_rfl) rfl
def A.b182:=A.q Tryz.f182
def A.k182:=@A.kk 182 50 [.cell 4 (some 2)] A.b182 (by kernel_rfl) rfl
def yx(z:Int):Int:=if z<0 then -1 else 1
def In(h:T O)(N:Nat)(x:V)(z:Int):Prop:=
 (x=.agg [.int .i64 z,.aa]/\ -9223372036854775808<=z/\z<9223372036854775808)\/
 ∃i o l c,x=.agg [.int .i64 (yx z),.slice i o l c 1]/\Wn h N (.slice i o l c 1) z.natAbs/\9223372036854775808<=z.natAbs
def In.ae{h':T O}{N':Nat}(s:In h N x z)(k:ab h N h' N'):In h' N' x z:=by
 rcases s with s|⟨i,o,l,c,s1,s2,s3⟩
 ·exact .inl s
 ·exact .inr ⟨i,o,l,c,s1,s2.ae k,s3⟩
def In.small(h1: -9223372036854775808<=z)(h2:z<9223372036854775808):In h N (.agg [.int .i64 z,.aa]) z:=.inl ⟨rfl,h1,h2⟩
def In.cells(s:In h N x z):∃n u,x=.agg [.int .i64 n,u]/\V.one u=true:=by
 rcases s with⟨rfl,_⟩|⟨i,o,l,c,rfl,_⟩
 ·exact⟨_,_,rfl,rfl⟩
 ·exact⟨_,_,rfl,rfl⟩
def In.nu{n:Int}{u:V}(s:In h N (.agg [.int .i64 n,u]) z):∀x∈[V.int .i64 n,u],∀m,x≠.int .u64 m:=by
 intro x hx m hc
 simp only[kv,List.not_mem_nil,or_false]at hx
 rcases hx with rfl|rfl
 ·cases hc
 ·subst hc
  rcases s with⟨e,_⟩|⟨_,_,_,_,e,_⟩
  ·simp at e
  ·simp at e
def aL{h1:T O}{n1:Nat}(k:ab h n h1 n1)(o:O):ab h n (h1.set n1 o) (n1+1):=(k.set k.le).up (vw _)
def wl(z:Int):Nat:=(aH z.natAbs).length
def HD:Fn A.C 166 [.int .i64 z] h N (fun v _ _=>v=.agg [.int .i64 z,.aa]):=by
 intro w
 rw[aN,A.k166 (by simp)]
 simp[A.b166,aO,aD,ad,aA]
 exact(((ab.refl.set (aQ N)).set (aQ N)).up (vw N))
def dX(z:Int):Int:=if z<0 then -1 else if z=0 then 0 else 1
def HE(hx:In h N x z):Fn A.C 170 [x] h N (fun v _ _=>v=.int .i64 (dX z)):=by
 intro w
 rw[aN,A.k170 (by simp)]
 rcases hx with⟨rfl,_⟩|⟨i,o,l,c,rfl,_,hz⟩
 ·obtain h1|h1|h1:z<0\/z=0\/0<z:=by omega
  ·have e1:z<1:=by omega
   have e2:¬ -1<z:=by omega
   simp[A.b170,aO,aD,ad,aA,zb,rb,Cs,yl,Bp,y_,h1,e1,e2,dX]
   exact aL ab.refl _
  ·subst h1
   simp[A.b170,aO,aD,ad,aA,zb,rb,Cs,yl,Bp,y_,dX]
   exact aL ab.refl _
  ·have e1:¬z<1:=by omega
   have e2:¬z<0:=by omega
   have e3:¬z=0:=by omega
   simp[A.b170,aO,aD,ad,aA,zb,rb,Cs,yl,Bp,y_,e1,e2,e3,dX]
   exact aL ab.refl _
 ·by_cases h1:z<0
  ·simp[A.b170,aO,aD,ad,aA,zb,rb,Cs,yl,Bp,y_,yx,dX,h1]
   exact aL ab.refl _
  ·have e3:¬z=0:=by omega
   simp[A.b170,aO,aD,ad,aA,zb,rb,Cs,yl,Bp,y_,yx,dX,h1,e3]
   exact aL ab.refl _
def Yo(hz: -9223372036854775808<=z)(hm:z<9223372036854775808){st:St}:A.C.call (.func 189 [] []) [.int .i64 z] st=some (.int .u64 (z.natAbs:Nat),st):=by
 apply Call.eq
 rw[aN,A.k189 (by simp)]
 by_cases e1:z<0
 ·have e2:bl .u64 (IntKind.wrap .i64 (0-z))=(z.natAbs:Nat):=by
   rw[JX]
   by_cases e3:z= -9223372036854775808
   ·subst e3;decide
   ·rw[K9 (by omega) (by omega)];omega
  rw[Int.zero_sub]at e2
  simp[A.b189,e1,e2]
 ·have e2:bl .u64 z=(z.natAbs:Nat):=by rw[EP (by omega) (by omega)];omega
  simp[A.b189,e1,e2]
def HF(h:n<B)(h0:n≠0):aH n=[n]:=by
 rw[mX h0,zU h,rE,yk h]
def Db(hx:In h N x z):Fn A.C 181 [x] h N (fun v h' n'=>∃u,v=.aV [.bool (decide (z<0)),u]/\Wn h' n' u z.natAbs):=by
 intro w
 rw[aN,A.k181 (by simp)]
 rcases hx with⟨rfl,h1,h2⟩|⟨i,o,l,c,rfl,hw,hz⟩
 ·by_cases h0:z=0
  ·subst h0
   simp[A.b181,aO,aD,ad,aE,aA]
   refine⟨aL ab.refl _,?_⟩
   unfold Wn;rw[rE];exact Sl.nil
  ·have hs:=fun st=>Yo h1 h2 (st:=st)
   have d1:¬N=N+1:=by omega
   simp[A.b181,aO,aD,ad,aE,h0,hs,aA,ct.cv]
   refine⟨aL (aL ab.refl _) _,?_⟩
   unfold Wn
   rw[HF (by unfold B;omega) (by omega)]
   exact Sl.row (e:=191) (rw:=true) (L:=1) (by omega) (by simp[dg]) (by simp) (by simp)
 ·have e1:(yx z<0)=(z<0):=by unfold yx;split<;>simp_all
  simp[A.b181,aO,aD,ad,aE,aA,e1,ct.cv]
  refine⟨aL ab.refl _,hw.ae (aL ab.refl _)⟩
def EY{u:V}{b:Bool}(hu:Wn h N u n)(hl:(aH n).length<1099511627776):Fn A.C 182 [.bool b,u] h N (fun v h' n'=>In h' n' v (if b=true then -(n:Int) else n)):=by
 intro w
 have lu:=hu.len
 rw[bC]at lu
 rw[aN,A.k182 (by simp)]
 have kk:∀o1 o2:O,ab h N ((h.set N o1).set N o2) (N+1):=fun o1 o2=>(aL ab.refl o1).set (aQ N)
 by_cases h0:n=0
 ·subst h0
  rw[rE]at lu
  simp[A.b182,lu,aE,aO,aD,ad,aA]
  refine⟨kk _ _,?_⟩
  have:(if b=true then -((0:Nat):Int) else ((0:Nat):Int))=0:=by split<;>rfl
  exact In.small (by omega) (by omega)
 ·by_cases h1:n<18446744073709551616
  ·rw[HF h1 h0]at lu
   obtain⟨i,o,c,e,rw,p1,p2,p3,p4⟩:=hu.at (fu (l:=aH n) (j:=0) (n:=n) (by rw[HF h1 h0];rfl))
   rw[mP]at p4
   have lu:pw u=some 1:=lu
   have aW:¬i=N:=by omega
   by_cases h2:n<=9223372036854775807
   ·have mq:(n:Int)<=9223372036854775807:=by omega
    have w1:bl .i64 (n:Int)=n:=cA (by omega) (by omega)
    have w2:IntKind.wrap .i64 (-(n:Int))= -(n:Int):=K9 (by omega) (by omega)
    cases b
    ·simp[A.b182,lu,aE,p1,p3,p4,aW,mq,w1,aO,aD,ad,aA]
     exact⟨kk _ _,In.small (by omega) (by omega)⟩
    ·simp[A.b182,lu,aE,p1,p3,p4,aW,mq,w1,w2,aO,aD,ad,aA]
     exact⟨kk _ _,In.small (by omega) (by omega)⟩
   ·have mq:¬(n:Int)<=9223372036854775807:=by omega
    obtain⟨i2,o2,l2,c2,rfl⟩:∃i o l c,u=.slice i o l c 1:=by
     rcases hu with⟨hu,_⟩|⟨i,o,cp,c,e,rw,hu,_⟩
     ·rw[HF h1 h0]at hu;simp[dg]at hu
     ·exact⟨_,_,_,_,hu⟩
    cases b
    ·simp[A.b182,lu,aE,p1,p3,p4,aW,mq,aO,aD,ad,aA]
     refine⟨kk _ _,.inr ⟨i2,o2,l2,c2,?_,hu.ae (kk _ _),?_⟩⟩
     ·simp[yx]
     ·omega
    ·simp[A.b182,lu,aE,p1,p3,p4,aW,mq,aO,aD,ad,aA]
     refine⟨kk _ _,.inr ⟨i2,o2,l2,c2,?_,?_,?_⟩⟩
     ·simp[yx];omega
     ·simpa using hu.ae (kk _ _)
     ·omega
  ·have EB:2<=(aH n).length:=by
    rw[mX h0,mX (by unfold B;omega)];simp
   have c0:¬((aH n).length:Int)=0:=by omega
   have c1:¬((aH n).length:Int)=1:=by omega
   have c2:¬(aH n).length=1:=by omega
   have c3:¬aH n=[]:=by intro h;rw[h]at EB;simp at EB
   rcases hu with⟨hu,_⟩|⟨i,o,cp,c,e,rw,rfl,hu⟩
   ·exfalso
    have:=congrArg List.length hu
    rw[bC]at this
    simp at this
    exact c3 this
   have hw:Wn h N (.slice i o (dg (aH n)).length cp 1) n:=.inr ⟨i,o,cp,c,e,rw,rfl,hu⟩
   rw[bC]at hw
   cases b
   ·simp[A.b182,aE,c0,c1,c2,c3,aO,aD,ad,aA]
    refine⟨kk _ _,.inr ⟨i,o,(aH n).length,cp,?_,hw.ae (kk _ _),?_⟩⟩
    ·simp[yx]
    ·omega
   ·simp[A.b182,aE,c0,c1,c2,c3,aO,aD,ad,aA]
    refine⟨kk _ _,.inr ⟨i,o,(aH n).length,cp,?_,?_,?_⟩⟩
    ·simp[yx];omega
    ·simpa using hw.ae (kk _ _)
    ·omega
def Sl.aI{v:V}{l:List Nat}{i:Nat}{c0 c1:List V}{e0 e1:TypeId}{w0 w1:Bool}(s:Sl h N v (dg l))(hr:h.get i=some (.cells c0 e0 w0))(hn:∀x∈c0,∀n,x≠.int .u64 n)(hc:c1.length=c0.length):Sl (h.set i (.cells c1 e1 w1)) N v (dg l):=by
 rcases s with s|⟨i',o,cp,c,e,rw,rfl,q1,q2,q3,q4,q5⟩
 ·exact .inl s
 ·by_cases hi:i'=i
  ·subst hi
   rw[hr]at q2
   simp only[aq,O.cells.injEq]at q2
   obtain⟨rfl,rfl,rfl⟩:=q2
   cases l with
   |nil=>
    refine .inr ⟨i',o,cp,c1,e1,w1,rfl,q1,by rw[T.ag,ay rfl],?_,by simpa[hc]using q4,q5⟩
    intro j hj
    simp[dg]at hj
   |cons d l=>
    exfalso
    have:=q3 0 (by simp[dg])
    have hm:=bU (l:=c0) (i:=o+0) (a:=.int .u64 d) (by rw[this];simp[dg])
    exact hn _ hm _ rfl
  ·exact .inr ⟨i',o,cp,c,e,rw,rfl,q1,by rw[T.ag,ak hi];exact q2,q3,q4,q5⟩
def In.aI{i:Nat}{c0 c1:List V}{e0 e1:TypeId}{w0 w1:Bool}(s:In h N x z)(hr:h.get i=some (.cells c0 e0 w0))(hn:∀x∈c0,∀n,x≠.int .u64 n)(hc:c1.length=c0.length):In (h.set i (.cells c1 e1 w1)) N x z:=by
 rcases s with s|⟨i',o,l,c,s1,s2,s3⟩
 ·exact .inl s
 ·exact .inr ⟨i',o,l,c,s1,Sl.aI s2 hr hn hc,s3⟩
def JZ(hx:In h N x z)(hl:wl z<500000000000):Fn A.C 186 [x] h N (fun v h' n'=>In h' n' v (-z)):=by
 intro w
 rw[aN,A.k186 (by simp)]
 have rest:∀{x:V},In h N x z->∀(h1:T O) (N1:Nat),ab h N h1 N1->Fn A.C 181 [x] h1 N1 (fun v h' n'=>∃u,v=.aV [.bool (decide (z<0)),u]/\Wn h' n' u z.natAbs):=fun hx h1 N1 k=>Db (hx.ae k)
 have fin:∀{v h' n'},In h' n' v (if (!decide (z<0))=true then -(z.natAbs:Int) else z.natAbs)->In h' n' v (-z):=fun {v h' n'} q=>by
  have e:(if (!decide (z<0))=true then -(z.natAbs:Int) else (z.natAbs:Int))= -z:=by
   by_cases h:z<0<;>simp[h]<;>omega
  rw[e]at q;exact q
 by_cases hz:x=.agg [.int .i64 z,.aa]/\z≠ -9223372036854775808/\ -9223372036854775808<=z/\z<9223372036854775808
 ·obtain⟨rfl,h0,h1,h2⟩:=hz
  have w2:IntKind.wrap .i64 (-z)= -z:=K9 (by omega) (by omega)
  simp[A.b186,aO,aD,ad,aE,h0,w2,aA]
  exact⟨(aL (aL ab.refl _) _).set (by omega),In.small (by omega) (by omega)⟩
 ·rcases id hx with⟨rfl,h1,h2⟩|⟨i,o,l,c,rfl,_⟩
  ·have h0:z= -9223372036854775808:=by
    apply Decidable.byContradiction
    intro hc
    exact hz ⟨rfl,hc,h1,h2⟩
   have hp:=rest hx _ _ (aL (aL ab.refl (.cells [.int .i64 z,.aa] 78 true)) (.cells [.int .i64 0,.aa] 78 true))
   subst h0
   simp[A.b186,aO,aD,ad,aE]
   refine aB hp ?_
   rintro _ h3 n3 k3 ⟨u,rfl,hu⟩
   have xD:=k3.le
   have g0:=k3.get (N+1) (by omega)
   simp at g0
   simp[]
   refine aB (EY hu (by unfold wl at hl;omega)) ?_
   rintro v h4 n4 k4 hv
   have tY:=k4.le
   have g1:=(k4.get (N+1) (by omega)).trans g0
   obtain⟨n5,u5,rfl,jA⟩:=hv.cells
   unfold V.one at jA
   simp[g1,aO,aD,ad,bD,aA,jA]
   have kk:=(((aL (aL ab.refl _) _).trans k3).trans k4).set (h:=h) (n:=N) (i:=N+1) (o:=.cells [.int .i64 n5,u5] 78 true) (by omega)
   exact⟨kk,(fin hv).aI g1 (by simp) rfl⟩
  ·have hp:=rest hx _ _ (aL (aL ab.refl (.cells [.int .i64 (yx z),.slice i o l c 1] 78 true)) (.cells [.int .i64 0,.aa] 78 true))
   simp[A.b186,aO,aD,ad,aE]
   refine aB hp ?_
   rintro _ h3 n3 k3 ⟨u,rfl,hu⟩
   have xD:=k3.le
   have g0:=k3.get (N+1) (by omega)
   simp at g0
   simp[]
   refine aB (EY hu (by unfold wl at hl;omega)) ?_
   rintro v h4 n4 k4 hv
   have tY:=k4.le
   have g1:=(k4.get (N+1) (by omega)).trans g0
   obtain⟨n5,u5,rfl,jA⟩:=hv.cells
   unfold V.one at jA
   simp[g1,aO,aD,ad,bD,aA,jA]
   have kk:=(((aL (aL ab.refl _) _).trans k3).trans k4).set (h:=h) (n:=N) (i:=N+1) (o:=.cells [.int .i64 n5,u5] 78 true) (by omega)
   exact⟨kk,(fin hv).aI g1 (by simp) rfl⟩
end
end Go.Mx
