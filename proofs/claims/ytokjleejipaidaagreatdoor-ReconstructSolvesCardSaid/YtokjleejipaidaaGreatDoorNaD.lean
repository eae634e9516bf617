/-num-/
import Derived.Test.YtokjleejipaidaaGreatDoorNaG
set_option linter.all false
namespace Go.Mx
noncomputable section
open Go Go.Proofs
variable {N b:Nat}
set_option maxHeartbeats 8000000
set_option maxRecDepth 1000000
def A.DH:=A.q Tryz.f212
def A.jU:=A.ql A.DH 2 []
def A.m8:=A.ql A.DH 1 []
def A.m_:=A.ql A.DH 0 []
def A.b212:=(fun x0 x1 x2=>A.qb A.DH [x0,x1,x2]) A.m_ A.m8 A.jU
def A.k212:=@A.kk 212 137 [.tmp 4,.tmp 5] A.b212 (by kernel_rfl) rfl
def Yny{x y s:Nat}(hx:x<B)(h0:0<s)(hs:s<64):jm (av x s) (bL y (64-s))<B/\2^s*jm (av x s) (bL y (64-s))+x%2^s=x+B*(y%2^s):=by
 have hc:av x s<2^(64-s):=by
  unfold av
  apply (qs (rL s)).2
  rw[<-kj,show 64-s+s=64 by omega];exact hx
 rw[RZ (by omega) hc]
 refine⟨Zqb (by omega) hc,?_⟩
 have e:bL y (64-s)=(y%2^s)*2^(64-s):=by
  unfold bL
  have:(18446744073709551616:Nat)=2^s*2^(64-s):=by rw[<-kj,show s+(64-s)=64 by omega]
  rw[this,LQ]
 have e2:2^s*(y%2^s*2^(64-s))=B*(y%2^s):=by
  have:B=2^s*2^(64-s):=by rw[<-kj,show s+(64-s)=64 by omega];rfl
  rw[this]
  generalize 2^s=p
  generalize 2^(64-s)=q
  grind
 rw[e,tV,e2]
 unfold av
 have:=uZ x (2^s)
 omega
structure R4 (h:T O) (N iq:Nat) (X:List Nat) (b m:Nat) (r:T V) (st:St):Prop where
 n:st.n=N+1
 w:ar N st.w=[]
 ad:ab h N st.h (N+1)
 ex:∃(rest:Nat) (Q:List Nat),m<=X.length/\r.get 8=some (.int .i64 ((m:Int)-1))/\r.get 7=some (.int .u64 rest)/\st.h.get N=some (.cells (dg Q) 200 true)/\Q.length=X.length/\Dg Q/\val B (X.drop m)=b*val B (Q.drop m)+rest/\rest<b
def Yko{h:T O}{N b:Nat}{va vb:V}{X:List Nat}{r0:T V}(ha:Sl h N va (dg X))(hb:Sl h N vb (dg [b]))(dA:Dg X)(Ic:b<B)(hl:X.length<1099511627776)
  (a0:r0.get 0=some va) (a1:r0.get 1=some vb) (a6:r0.get 6=some (.slice N 0 X.length (some X.length) 1)):
  ∀k r st,(∀t,jT [(7,8),(30,48)] t=false->r.get t=r0.get t)->Fx [(7,8),(30,48)] r0 137 ⟨r,137,[]⟩->R4 h N N X b k r st->Code A.C none A.m_ ⟨r,137,[]⟩ st (Rd [(7,8),(30,48)] r0 137 (R4 h N N X b) k (fun e r st=>e=.exit 0/\R4 h N N X b 0 r st)):=by
 rintro m r ⟨H,n1,W⟩ hr hf ⟨hn,hW,hK,rest,Q,hm,h8,h7,al,hQ,dQ,he,au⟩
 simp only at hn hW hK al
 subst hn
 have la:=ha.len
 have lb:=hb.len
 rw[bB]at la lb
 rw[bb]
 cases m with
 |zero=>
  simp[A.m_,hf,h8]
  exact⟨rfl,hW,hK,rest,Q,by omega,by simp[h8],by simp[h7],al,hQ,dQ,he,au⟩
 |succ m=>
  have gx:=cF (l:=X) (i:=m) (by omega)
  generalize X[m]'(by omega)=x at*
  have hx:x<B:=dA.get gx
  obtain⟨i1,o1,c1,e1,w1,p1,p2,p3,p4⟩:=ha.at (fz gx)
  have p3:=(hK.get _ p2).trans p3
  obtain⟨i2,o2,c2,e2,w2,q1,q2,q3,q4⟩:=hb.at (fz (l:=[b]) (j:=0) rfl)
  have q3:=(hK.get _ q2).trans q3
  rw[iX]at q4
  have gq:=cF (l:=Q) (i:=m) (by omega)
  have mL:((m+1:Nat):Int)-1=(m:Int):=by omega
  have mj:m<X.length:=by omega
  have y_:i1<N+1:=by omega
  have DI:i2<N+1:=by omega
  have zaP:¬i1=N:=by omega
  have jV:¬i2=N:=by omega
  have zaQ:¬N=i1:=by omega
  have zaR:¬N=i2:=by omega
  rw[mL]at h8
  have hd:=Zyv (h:=H) (N:=N+1) au Ic hx
  obtain⟨q,hq⟩:∃q,(rest*18446744073709551616+x)/b=q:=⟨_,rfl⟩
  obtain⟨rr,DJ⟩:∃q,(rest*18446744073709551616+x)%b=q:=⟨_,rfl⟩
  rw[hq,DJ]at hd
  have hinv:b*q+rr=rest*B+x:=by
   have:=uZ (rest*18446744073709551616+x) b
   rw[hq,DJ]at this
   exact this
  have xu:rr<b:=by rw[<-DJ];exact kQ _ (by omega)
  have Aa:q<B:=by
   rw[<-hq];apply (qs (by omega)).2
   have:=ki B (show rest+1<=b by omega)
   rw[jg B b]
   rw[iY]at this
   unfold B at*;omega
  simp[A.m_,hr,h8,h7,la,lb,a0,a1,a6,p1,p3,p4,q1,q3,q4,mj,y_,DI]
  refine ay hd ?_
  rintro _ H n2 Ci ⟨rfl,rfl,rfl⟩
  simp(disch:=first|(simp;done)|omega|(simp only[bB,cC,bo];omega)|rfl) [hf,h8,al,qe]
  refine⟨m,by omega,rfl,by simp[ar,hW],hK.set (aO _),rr,Q.set m q,by omega,by simp,by simp,by simp,by simp[hQ],dQ.uD Aa,?_,xu⟩
  rw[Cj gx,Cj (jB (by omega)),List.drop_set_of_lt (by omega),he,tV,tV]
  have:B*(b*val B (Q.drop (m+1)))=b*(B*val B (Q.drop (m+1))):=by grind
  rw[jg rest]at hinv
  omega
structure R5 (N n2:Nat) (h2:T O) (iu iq Nq lu k A0:Nat) (Y:List Nat) (m:Nat) (r:T V) (st:St):Prop where
 n:st.n=Nq
 w:ar n2 st.w=[]
 ad:ab h2 n2 st.h Nq
 ex:∃(U Q:List Nat),r.get 14=some (.int .i64 ((m:Int)-1))/\st.h.get iu=some (.cells (dg U) 200 true)/\st.h.get iq=some (.cells (dg Q) 200 true)/\U.length=lu/\Q.length+(k+2)=lu/\m<=Q.length/\Dg U/\Dg Q/\(∀t,m+k+2<=t->t<lu->U[t]?=some 0)/\val B (U.drop m)<val B Y/\val B U+B^m*(val B (Q.drop m)*val B Y)=A0
def Ykn{h2:T O}{N n2 iu iq Nq lu k v1 A0:Nat}{Y:List Nat}{v:V}{r0:T V}{cq:Option Nat}(hv:Sl h2 n2 v (dg Y))(hY:Y.length=k+2)(dY:Dg Y)(vn:lu<1099511627776)(f1:Y[k+1]?=some v1)(oP:0<v1)(Nl:n2<=iu)(FO:iu<iq)(hq:iq<Nq)
  (zP:k+2<lu) (Ie:r0.get 10=some v) (Ck:r0.get 11=some (.slice iu 0 lu (some lu) 1)) (Cl:r0.get 12=some (.int .i64 ((k:Int)+2))) (a13:r0.get 13=some (.slice iq 0 (lu-(k+2)) cq 1)):
  ∀x r st,(∀t,jT [(14,14),(80,95)] t=false->r.get t=r0.get t)->Fx [(14,14),(80,95)] r0 137 ⟨r,137,[]⟩->R5 N n2 h2 iu iq Nq lu k A0 Y x r st->Code A.C none A.m8 ⟨r,137,[]⟩ st (Rd [(14,14),(80,95)] r0 137 (R5 N n2 h2 iu iq Nq lu k A0 Y) x (fun e r st=>e=.exit 2/\R5 N n2 h2 iu iq Nq lu k A0 Y 0 r st)):=by
 rintro m r ⟨H,n1,W⟩ hr hf ⟨hn,hW,hK,U,Q,oG,hU,hQ,lU,lQ,hm,dU,dQ,hz,au,he⟩
 simp only at hn hW hK hU hQ
 subst hn
 rw[bb]
 cases m with
 |zero=>
  simp[A.m8,hr,hf,oG]
  exact⟨rfl,hW,hK,U,Q,by simp[oG],hU,hQ,lU,lQ,hm,dU,dQ,hz,au,he⟩
 |succ m=>
  have mL:((m+1:Nat):Int)-1=(m:Int):=by omega
  rw[mL]at oG
  have gu:=cF (l:=U) (i:=m) (by omega)
  generalize U[m]'(by omega)=um at*
  have zaS:um<B:=dU.get gu
  have hsK:mR ⟨H,n1,W⟩ 1 (some (.slice iu 0 lu (some lu) 1)) (some (some (.int .i64 m))) (some (some (.int .i64 ((m:Int)+((k:Int)+2)+1)))) (some none)=some (.slice iu m (k+3) (some (lu-m)) 1,⟨H,n1,W⟩):=by
   have e1:(0:Int)<=(m:Int)+((k:Int)+2)+1/\(m:Int)+((k:Int)+2)+1<=(lu:Int):=by omega
   have e2:((m:Int)+((k:Int)+2)+1).toNat=m+k+3:=by omega
   have e3:¬lu=m:=by omega
   have e4:m<=m+k+3:=by omega
   have e5:m+k+3-m=k+3:=by omega
   have e6:(m:Int)<=((m+k+3:Nat):Int):=by omega
   simp only[mR,qp,aB,dB,kR,Option.map,Src.ev,e1,e2,e3,e5,e6,and_self,if_true,if_false,Int.natCast_nonneg,Int.toNat_natCast,true_and,ne_eq,not_true_eq_false,Option.isSome,Option.isNone,CW,false_or,fL,xP,zp]
  have hmq:m<lu-(k+2):=by omega
  simp(disch:=first|(simp;done)|omega|(simp only[bB,cC,bo];omega)|rfl) [A.m8,hr,hf,oG,Ie,Ck,Cl,a13,BH,aB,hsK]
  refine An (Ycw (n2:=n2) (k:=k) (U:=U) (v1:=v1) (hv.ad ⟨aO _,fun i hi=>hK.get i hi⟩) hY dY Nl (by omega) (by omega) (by omega) hU dU f1 oP (fun t h1 h2=>hz t (by omega) (by omega)) ?_) ?_
  ·rw[Cj gu]
   have:=kO B au
   rw[Nat.mul_succ]at this
   omega
  rintro x ⟨H2,n3,W2⟩ ⟨s1,s2,s3,q,o,rfl,s4,s5,s6,s7,s8,s9,s10,s11⟩
  simp only at s1 s2 s3 s5
  subst s1
  have Nm:H2.get iq=some (.cells (dg Q) 200 true):=by rw[s3 iq (by omega)];exact hQ
  simp(disch:=first|(simp;done)|omega|(simp only[bB,cC,bo];omega)|rfl) [hr,hf,oG,Ie,Ck,Cl,a13,hmq,Nm,qe]
  have wB:¬iq<n2:=by omega
  have hHe:∀i,i<n2->(H2.set iq (.cells (dg (Q.set m q)) 200 true)).get i=h2.get i:=fun i hi=>by
   rw[T.ag,ak (by omega),s3 i (by omega)];exact hK.get i hi
  refine⟨m,by omega,rfl,?_,⟨by omega,hHe⟩,o,Q.set m q,by simp,by simp[s5,(show ¬iu=iq by omega)],by simp,by omega,by simp;omega,by simp;omega,s7,dQ.uD s4,?_,s11,?_⟩
  ·simp only[ar,wB,if_false]
   rw[s2];exact hW
  ·intro t h1 mB
   exact s9 t (by omega) (by omega)
  ·have eU:=FQ B U m (by omega)
   have eO:=FQ B o m (by omega)
   have et:o.take m=U.take m:=by
    apply og
    intro t
    rw[iI,iI]
    split
    ·exact s8 t (by omega)
    ·rfl
   rw[Cj (jB (by omega)),List.drop_set_of_lt (by omega),eO,et]
   rw[eU,<-s10,gw]at he
   rw[<-he]
   generalize val B (U.take m)=z1
   generalize val B (o.drop m)=z2
   generalize val B Y=z3
   generalize val B (Q.drop (m+1))=z4
   generalize B^m=z5
   grind
structure R6 (n2:Nat) (h2:T O) (iu iq Nq lu n s:Nat) (U Q:List Nat) (m:Nat) (r:T V) (st:St):Prop where
 hn:st.n=Nq
 w:ar n2 st.w=[]
 ad:ab h2 n2 st.h Nq
 q:st.h.get iq=some (.cells (dg Q) 200 true)
 ex:∃(i:Nat) (o:List Nat),i+m=n/\r.get 97=some (.int .i64 i)/\st.h.get iu=some (.cells (dg o) 200 true)/\o.length=lu/\Dg o/\(∀t,i<=t->o[t]?=U[t]?)/\2^s*val B (o.take i)=val B (U.take i)+B^i*(dz U i%2^s)
def Yib{h2:T O}{n2 iu iq Nq lu n s:Nat}{U Q:List Nat}{r0:T V}{cu:Option Nat}(vn:lu<1099511627776)(lU:U.length=lu)(dU:Dg U)(hs:s<64)(Nl:n2<=iu)(FO:iu<iq)(hq:iq<Nq)(hn:n<lu)
  (a9:r0.get 9=some (.int .i64 s)) (Ck:r0.get 11=some (.slice iu 0 lu cu 1)) (YN:r0.get 96=some (.int .i64 n)):
  ∀x r st,(∀t,jT [(15,15),(97,130)] t=false->r.get t=r0.get t)->Fx [(15,15),(97,130)] r0 137 ⟨r,137,[]⟩->R6 n2 h2 iu iq Nq lu n s U Q x r st->Code A.C none A.jU ⟨r,137,[]⟩ st (Rd [(15,15),(97,130)] r0 137 (R6 n2 h2 iu iq Nq lu n s U Q) x (fun e r st=>e=.exit 4/\R6 n2 h2 iu iq Nq lu n s U Q 0 r st)):=by
 rintro m r ⟨H,n1,W⟩ hr hf ⟨xG,hW,hK,hQ,i,o,hi,Nn,al,lo,dO,eE,he⟩
 simp only at xG hW hK hQ al
 subst xG
 rw[bb]
 cases m with
 |zero=>
  have:i=n:=by omega
  subst this
  simp[A.jU,hr,hf,Nn,YN]
  exact⟨rfl,hW,hK,hQ,i,o,by omega,by simp[Nn],al,lo,dO,eE,he⟩
 |succ m=>
  have au:i<n:=by omega
  have gx:U[i]?=some (U[i]'(by omega)):=cF (by omega)
  have gy:U[i+1]?=some (U[i+1]'(by omega)):=cF (by omega)
  generalize U[i]'(by omega)=x at*
  generalize U[i+1]'(by omega)=y at*
  have hx:x<B:=dU.get gx
  have hy:y<B:=dU.get gy
  have ox:o[i]?=some x:=by rw[eE i (aO _)];exact gx
  have oy:o[i+1]?=some y:=by rw[eE (i+1) (by omega)];exact gy
  have zt:i<lu:=by omega
  have zaT:i+1<lu:=by omega
  have YO:(i:Int)+1<(lu:Int):=by omega
  have qF:dz U i=x:=by simp[dz,gx]
  have hzy:dz U (i+1)=y:=by simp[dz,gy]
  have wB:¬iu<n2:=by omega
  have hiu:iu<n1:=by omega
  have hqu:¬iq=iu:=by omega
  have hsB:av x s<B:=Zxo hx
  have zaA:av x s<18446744073709551616:=hsB
  have zaU:x<18446744073709551616:=hx
  have Ig:y<18446744073709551616:=hy
  have qq:(s:Int)<=64:=by omega
  have K1:=fun v1 v2=>(hK.set (o:=v1) Nl).set (i:=iu) (o:=v2) Nl
  by_cases h0:0<s
  ·have fZ:(0:Int)<(s:Int):=by omega
   obtain⟨z1,z2⟩:=Yny (y:=y) hx h0 hs
   have ox2:(o.set i (av x s))[i]?=some (av x s):=jB (by omega)
   have oy2:(o.set i (av x s))[i+1]?=some y:=by rw[eH (by omega)];exact oy
   have wE:(o.set i (av x s)).length=lu:=by simp[lo]
   have YP:bh .i64 (64-(s:Int))=((64-s:Nat):Int):=by rw[cE (by omega) (by omega)];omega
   simp(disch:=first|(simp;done)|omega|(simp only[bB,cC,bo];omega)|rfl) [-getElem?_pos,A.jU,hr,hf,Nn,YN,a9,Ck,au,al,fz ox,qe,h0,YO,YP,fz ox2,fz oy2,hiu]
   refine⟨m,by omega,rfl,by simp[ar,hW,wB],K1 _ _,by simp[hqu,hQ],i+1,(o.set i (av x s)).set i (jm (av x s) (bL y (64-s))),by omega,by simp,by simp,by simp[lo],(dO.uD hsB).uD z1,?_,?_⟩
   ·intro t ht
    rw[eH (by omega),eH (by omega)]
    exact eE t (by omega)
   ·rw[List.set_set,DF,DF,qF,hzy,show dz (o.set i (jm (av x s) (bL y (64-s)))) i=jm (av x s) (bL y (64-s)) by simp[dz,jB (show i<o.length by omega)]]
    have ht:(o.set i (jm (av x s) (bL y (64-s)))).take i=o.take i:=by
     apply og
     intro t
     rw[iI,iI]
     split
     ·rw[eH (by omega)]
     ·rfl
    rw[ht]
    rw[qF]at he
    have e2:B^i*(2^s*jm (av x s) (bL y (64-s))+x%2^s)=B^i*(x+B*(y%2^s)):=by rw[z2]
    rw[gw]
    generalize jm (av x s) (bL y (64-s))=z at*
    generalize val B (o.take i)=y1 at*
    generalize val B (U.take i)=y2 at*
    generalize x%2^s=y3 at*
    generalize y%2^s=y4 at*
    generalize (2:Nat)^s=y5 at*
    generalize B^i=y6 at*
    clear z2 ht K1
    grind
  ·have fh:s=0:=by omega
   subst fh
   have z0:av x 0=x:=by unfold av;simp
   have Np:o.set i x=o:=by
    apply og
    intro t
    by_cases ht:t=i
    ·subst ht;rw[jB (by omega),ox]
    ·rw[eH (by omega)]
   simp(disch:=first|(simp;done)|omega|(simp only[bB,cC,bo];omega)|rfl) [-getElem?_pos,A.jU,hr,hf,Nn,YN,a9,Ck,au,al,fz ox,qe,z0,Np]
   refine⟨m,by omega,rfl,by simp[ar,hW,wB],hK.set Nl,by simp[hqu,hQ],i+1,o,by omega,by simp,by simp,lo,dO,fun t ht=>eE t (by omega),?_⟩
   rw[DF,DF,qF,show dz o i=x by simp[dz,ox]]
   have:dz U i%2^0=0:=Nat.mod_one _
   rw[this]at he
   simp only[EP,Nat.one_mul,Nat.mod_one,Nat.mul_zero,iX]at he ⊢
   omega
def Ynb(h:(aG b).length=1):aG b=[b]/\b<B:=by
 obtain⟨h1,h2⟩:=Ih (k:=0) h
 rw[EP]at h1
 rw[xP,Nat.pow_one]at h2
 refine⟨?_,h2⟩
 rw[mZ (by omega),Ax h2,rV,yQ h2]
def Yhv{r:Nat}(h:r<B):tF [r]=aG r:=by
 rw[DG (by intro d hd;simp at hd;subst hd;exact h)]
 simp[val]
def Zul{h:T O}{u v:V}{a:Nat}(hu:Wn h N u a)(hv:Wn h N v b)(hb:0<b)(hl:(aG a).length<1000000000000)(gj:(aG b).length<1000000000000):Fn A.C 212 [u,v] h N (fun x h' n'=>∃q r,x=.aV [q,r]/\Wn h' n' q (a/b)/\Wn h' n' r (a%b)):=by
 intro w
 have lu:=hu.len
 have lv:=hv.len
 rw[bB]at lu lv
 rw[aM,A.k212 (by simp)]
 simp[A.b212]
 refine ay (Zih hu hv (by omega) (by omega)) ?_
 rintro _ h1 n1 k1 rfl
 by_cases au:a<b
 ·have c1:wF a b= -1:=by simp[wF,au]
  simp[c1,az]
  refine⟨k1,_,_,⟨rfl,rfl⟩,?_,?_⟩
  ·rw[Ax au];unfold Wn;rw[rV];exact Sl.nil
  ·rw[yQ au];exact hu.ad k1
 ·have c1:¬wF a b<0:=by
   unfold wF
   rw[ak (by omega)]
   split<;>omega
  have yL:=hu.ad k1
  have oP:=hv.ad k1
  have hle:=FR (a:=b) (b:=a) (by omega)
  by_cases h1l:(aG b).length=1
  ·obtain⟨e1,e2⟩:=Ynb h1l
   have Nr:((aG b).length:Int)=1:=by omega
   have Ii:Sl h1 n1 v (dg [b]):=by rw[<-e1];exact oP
   simp(disch:=first|(simp;done)|omega|(simp only[bB,cC,bo];omega)|rfl) [c1,lv,h1l,lu,aJ]
   refine bA [(7,8),(30,48)] _ (R4 h1 n1 n1 (aG a) b) (aG a).length ?_ (Yko yL Ii (rW a) e2 (by omega) (by simp) (by simp) (by simp)) ?_
   ·refine⟨rfl,by simp,ab.refl.new _,0,List.replicate (aG a).length 0,aO _,by simp,by simp,by simp[HY],by simp,?_,?_,hb⟩
    ·intro d hd
     rw[GK]at hd
     rw[hd.2];decide
    ·simp[val]
   rintro e r ⟨H,n2,W⟩ hr ⟨rfl,hn,hW,hK,rest,Q,hm,h8,h7,al,hQ,dQ,he,xu⟩
   simp only at hn hW hK al
   subst hn
   simp[hr,h7]
   refine ay (DK (l:=Q) (Sl.row (e:=200) (rw:=true) (by omega) al (by rw[bB];exact hQ) (by simp)) (by omega)) ?_
   rintro q2 h3 n3 k3 hq
   simp[hr,h7,ae]
   have k4:ab h3 n3 (h3.set n3 (.cells [.int .u64 rest] 200 true)) (n3+1):=ab.refl.new _
   have hs5:Sl (h3.set n3 (.cells [.int .u64 rest] 200 true)) (n3+1) (.slice n3 0 1 (some 1) 1) (dg [rest]):=Sl.row (e:=200) (rw:=true) (L:=1) (vS n3) (by simp[dg]) (by simp) (by simp)
   refine ay (DK hs5 (by simp)) ?_
   rintro r2 h5 n5 k5 dt
   simp only[zq,m7]at he
   have Ij:val B Q=a/b:=by
    rw[he,Nat.mul_add_div hb,Ax xu];omega
   have tR:rest=a%b:=by
    rw[he,Nat.mul_add_mod,yQ xu]
   rw[DG dQ,Ij]at hq
   rw[Yhv (by omega),tR]at dt
   simp[hr,az]
   exact⟨Ky k1.le hW,((k1.trans hK).trans k3).trans (k4.trans k5),_,_,⟨rfl,rfl⟩,(hq.ad k4).ad k5,dt⟩
  ·have FT:(aG b).length≠0:=by
    rw[mZ (by omega)];simp
   obtain⟨k,hk⟩:∃k,(aG b).length=k+2:=⟨(aG b).length-2,by omega⟩
   have Nr:¬(k:Int)+2=1:=by omega
   have gt:=cF (l:=aG b) (i:=k+1) (by omega)
   generalize (aG b)[k+1]'(by omega)=bt at*
   have Ns:bt<B:=(rW b).get gt
   have YQ:¬bt=0:=by
    obtain⟨w1,w2⟩:=Ih (k:=k+1) hk
    have:=(Nt w1 w2).2
    rw[gt]at this
    have e:=mJ this
    have hp:0<B^(k+1):=Ay (by decide)
    have:=(JO hp).2 (by rw[Nat.one_mul];exact w1)
    omega
   obtain⟨m1,m2,m3⟩:=Ymb YQ Ns
   have hlz:=fun (h:T O) (N:Nat)=>Ye0 (h:=h) (N:=N) (x:=bt) Ns
   generalize hs:64-aX bt=s at*
   obtain⟨i1,o1,Qy,e1,w1,p1,p2,p3,p4⟩:=oP.at (fz gt)
   have t1:((k:Int)+2-1)=(k:Int)+1:=by omega
   rw[hk]at lv
   simp(disch:=omega) [c1,lv,aJ,p1,p3,p4,t1,Nr]
   refine ay (hlz _ _) ?_
   rintro _ h1 n1 k2 ⟨rfl,rfl,rfl⟩
   simp[lv]
   refine ay (Zqd oP (rW b) m3 (by omega)) ?_
   rintro vv h2 n2 k3 ⟨iv,ov,g1,g2,rfl,g3,g4,g5,g6⟩
   simp[lv]
   refine ay (DK (l:=ov) (Sl.row (e:=200) (rw:=true) g2 g3 (by rw[bB];exact g4) (by simp)) (by omega)) ?_
   rintro vy h3 n3 k4 hy
   rw[DG g5,g6,m7]at hy
   obtain⟨y1,v1,y2,y3⟩:=Yhm hk gt m1 m2 (by omega)
   have ly:=Sl.len hy
   rw[bB,y1]at ly
   have ly:pA vy=some (k+2):=ly
   obtain⟨L,hL⟩:∃L,L+(k+2)=(aG a).length+1:=⟨(aG a).length+1-(k+2),by omega⟩
   have hLi:((aG a).length:Int)-((k:Int)+2)=(L:Int)-1:=by omega
   simp[]
   refine ay (Zqd ((yL.ad k3).ad k4) (rW a) m3 (by omega)) ?_
   rintro uu h4 n4 k5 ⟨iu,ou,j1,j2,rfl,j3,j4,j5,j6⟩
   simp(disch:=first|(simp;done)|omega|(simp only[bB,cC,bo];omega)|rfl) [ly,lu,hLi,HY]
   have Cm:0<v1:=by omega
   have k6:ab h4 n4 (h4.set n4 (.cells (dg (List.replicate L 0)) 200 true)) (n4+1):=ab.refl.new _
   have hyv:v1*B^(k+1)<=val B (aG (b*2^s)):=by
    obtain⟨w1,w2⟩:=Ih (k:=k+1) y1
    have:=(Nt w1 w2).2
    rw[y2]at this
    have e:=mJ this
    rw[m7,e]
    exact Nat.div_mul_le_self _ _
   refine bA [(14,14),(80,95)] _ (R5 N n3 h3 iu n4 (n4+1) ((aG a).length+1) k (a*2^s) (aG (b*2^s))) L ?_ (Ykn (cq:=some L) (v1:=v1) hy (by omega) (rW _) (by omega) (by rw[y2]) Cm j1 j2 (vS n4) (by omega) (by simp) (by simp) (by simp) ?_) ?_
   ·have aW:¬iu=n4:=by omega
    refine⟨rfl,rfl,(k5.trans k6),ou,List.replicate L 0,by simp,by simp[aW,j3],by simp,j4,by simp;omega,by simp,j5,?_,fun t Kz yg=>by omega,?_,?_⟩
    ·intro d hd
     rw[GK]at hd
     rw[hd.2];decide
    ·have YR:a≠0:=by omega
     have yh:(aG a).length≠0:=by rw[mZ YR];simp
     obtain⟨la1,Nu⟩:∃x,(aG a).length=x+1:=⟨(aG a).length-1,by omega⟩
     have ec:=(Ih Nu).2
     rw[<-Nu]at ec
     rw[m7]at j6
     exact Ycp (k:=k+1) j6 j4 (by omega) (by omega) ec m3 y3 hyv
    ·simp[val,j6,m7]
   ·have:(aG a).length+1-(k+2)=L:=by omega
    simp[this]
   rintro e r ⟨H,n5,W⟩ hr ⟨rfl,hn,hW,hK,U,Q,oG,hU,hQ,lU,lQ,hm,dU,dQ,hz,cX,he⟩
   simp only at hn hW hK hU hQ
   subst hn
   simp only[zq,EP,Nat.one_mul]at he cX
   simp[hr]
   refine bA [(15,15),(97,130)] _ (R6 n3 h3 iu n4 (n4+1) ((aG a).length+1) (k+2) s U Q) (k+2) ?_ (Yib (cu:=some ((aG a).length+1)) (by omega) lU dU m3 j1 j2 (vS n4) (by omega) (by simp[hr]) (by simp[hr]) (by simp[hr])) ?_
   ·refine⟨rfl,hW,hK,hQ,0,U,by omega,by simp,hU,lU,dU,fun _ _=>rfl,?_⟩
    obtain⟨x,hx⟩:∃x,val B U=2^s*x:=by
     refine⟨a-val B Q*b,?_⟩
     rw[m7]at he
     rw[Nat.mul_sub,jg _ a,<-he]
     have:val B Q*(b*2^s)=2^s*(val B Q*b):=by grind
     omega
    have tr:dz U 0%2^s=0:=by
     have h1:=DF (b:=B) (l:=U) (k:=0)
     have h2:=FQ B U 1 (by omega)
     simp only[List.take_zero,val,EP,Nat.one_mul,xP,Nat.pow_one]at h1 h2
     rw[h1,hx]at h2
     have h3:B=2^s*2^(64-s):=by rw[<-kj,show s+(64-s)=64 by omega];rfl
     rw[h3,EO]at h2
     have h4:dz U 0=2^s*(x-2^(64-s)*val (2^s*2^(64-s)) (U.drop 1)):=by rw[Nat.mul_sub];omega
     rw[h4,Nat.mul_mod_right]
    rw[tr];simp[val]
   rintro e r2 ⟨H2,n5,W2⟩ dt ⟨rfl,fg,dZ,eQ,hQ2,i,o,hi,Nn,al,lo,dO,eE,vD⟩
   simp only at fg dZ eQ hQ2 al
   subst fg
   have:i=k+2:=by omega
   subst this
   simp[dt,hr]
   refine ay (DK (l:=Q) (Sl.row (e:=200) (rw:=true) (vS n4) hQ2 (by rw[bB];omega) (by simp)) (by omega)) ?_
   rintro q2 h6 n6 k6 hq
   have YT:Sl h6 n6 (.slice iu 0 ((aG a).length+1) (some ((aG a).length+1)) 1) (dg o):=(Sl.row (h:=H2) (N:=n4+1) (by omega) al (by rw[bB];exact lo) (by simp)).ad k6
   obtain⟨v',e1,e2⟩:=Es (w:=[]) YT (lo:=0) (hi:=k+2) (uN _) (by rw[bB];omega) none (some (.int .i64 ((k+2:Nat):Int))) (.inr ⟨rfl,rfl⟩) (.inl rfl)
   rw[show ((k+2:Nat):Int)=(k:Int)+2 by omega]at e1
   simp[dt,hr,BH,aB,e1]
   rw[zq,show (dg o).take (k+2)=dg (o.take (k+2)) by simp[dg]]at e2
   refine ay (DK (l:=o.take (k+2)) e2 (by rw[gO];omega)) ?_
   rintro r3 h7 n7 k7 Nv
   rw[DG dQ]at hq
   rw[DG (fun d hd=>dO d (yJ hd))]at Nv
   rw[m7]at he cX
   have hbs:0<b*2^s:=zr hb (rL s)
   have Ik:dz U (k+2)=0:=by simp[dz,hz (k+2) (by omega) (by omega)]
   have hUt:val B (U.take (k+2))=val B U:=by
    have h1:=FQ B U (k+2) (by omega)
    rw[YU (fun t t1 t2=>hz t (by omega) (by omega))]at h1
    omega
   have Ij:val B Q=a/b:=by
    have h1:a*2^s/(b*2^s)=val B Q:=by
     rw[<-he,Nat.add_mul_div_right _ _ hbs,Ax cX];omega
    rw[QY _ _ (rL s)]at h1
    exact h1.symm
   have tR:val B (o.take (k+2))=a%b:=by
    have h1:a*2^s%(b*2^s)=val B U:=by
     rw[<-he,Nat.add_mul_mod_self_right,yQ cX]
    rw[LQ,jg]at h1
    rw[Ik,Nat.zero_mod,Nat.mul_zero,iX,hUt,<-h1]at vD
    exact Nat.eq_of_mul_eq_mul_left (rL s) vD
   rw[Ij]at hq
   rw[tR]at Nv
   simp[dt,hr,cn.cr,az]
   have kk:=(k1.trans k3).trans k4
   exact⟨Ky kk.le dZ,((kk.trans eQ).trans k6).trans k7,q2,r3,⟨rfl,rfl⟩,Sl.ad hq k7,Nv⟩
variable {N n:Nat} {h:T O} {x:V} {z:Int}
def A.b171:=A.q Tryz.f171
def A.k171:=@A.kk 171 5 [.cell 2 (some 2)] A.b171 (by kernel_rfl) rfl
def A.b175:=A.q Tryz.f175
def A.k175:=@A.kk 175 7 [.tmp 2] A.b175 (by kernel_rfl) rfl
def A.b236:=A.q Tryz.f236
def A.k236:=@A.kk 236 9 [.cell 2 (some 2)] A.b236 (by kernel_rfl) rfl
def A.b203:=A.q Tryz.f203
def A.k203:=@A.kk 203 10 [.tmp 2] A.b203 (by kernel_rfl) rfl
def A.b189:=A.q Tryz.f189
def A.k189:=@A.kk 189 26 [.cell 2 (some 2)] A.b189 (by kernel_rfl) rfl
def A.b196:=A.q Tryz.f196
def A.k196:=@A.kk 196 24 [.tmp 2,.tmp 3] A.b196 (by kernel_rfl) rfl
def A.b197:=A.q Tryz.f197
def A.k197:=@A.kk 197 50 [.cell 4 (some 2)] A.b197 (by kernel_rfl) rfl
def za(z:Int):Int:=if z<0 then -1 else 1
def In(h:T O)(N:Nat)(x:V)(z:Int):Prop:=
 (x=.agg [.int .i64 z,.aa]/\ -9223372036854775808<=z/\z<9223372036854775808)\/
 ∃i o l c,x=.agg [.int .i64 (za z),.slice i o l c 1]/\Wn h N (.slice i o l c 1) z.natAbs/\9223372036854775808<=z.natAbs
def In.ad{h':T O}{N':Nat}(s:In h N x z)(k:ab h N h' N'):In h' N' x z:=by
 rcases s with s|⟨i,o,l,c,s1,s2,s3⟩
 ·exact .inl s
 ·exact .inr ⟨i,o,l,c,s1,s2.ad k,s3⟩
def In.small(h1: -9223372036854775808<=z)(h2:z<9223372036854775808):In h N (.agg [.int .i64 z,.aa]) z:=.inl ⟨rfl,h1,h2⟩
def In.cells(s:In h N x z):∃n u,x=.agg [.int .i64 n,u]/\V.one u=true:=by
 rcases s with⟨rfl,_⟩|⟨i,o,l,c,rfl,_⟩
 ·exact⟨_,_,rfl,rfl⟩
 ·exact⟨_,_,rfl,rfl⟩
def In.nu{n:Int}{u:V}(s:In h N (.agg [.int .i64 n,u]) z):∀x∈[V.int .i64 n,u],∀m,x≠.int .u64 m:=by
 intro x hx m hc
 simp only[ku,List.not_mem_nil,or_false]at hx
 rcases hx with rfl|rfl
 ·cases hc
 ·subst hc
  rcases s with⟨e,_⟩|⟨_,_,_,_,e,_⟩
  ·simp at e
  ·simp at e
def aN{h1:T O}{n1:Nat}(k:ab h n h1 n1)(o:O):ab h n (h1.set n1 o) (n1+1):=(k.set k.le).up (vF _)
def wl(z:Int):Nat:=(aG z.natAbs).length
def Il:Fn A.C 171 [.int .i64 z] h N (fun v _ _=>v=.agg [.int .i64 z,.aa]):=by
 intro w
 rw[aM,A.k171 (by simp)]
 simp[A.b171,aR,aC,ae,az]
 exact(((ab.refl.set (aO N)).set (aO N)).up (vF N))
def dL(z:Int):Int:=if z<0 then -1 else if z=0 then 0 else 1
def Im(hx:In h N x z):Fn A.C 175 [x] h N (fun v _ _=>v=.int .i64 (dL z)):=by
 intro w
 rw[aM,A.k175 (by simp)]
 rcases hx with⟨rfl,_⟩|⟨i,o,l,c,rfl,_,hz⟩
 ·obtain h1|h1|h1:z<0\/z=0\/0<z:=by omega
  ·have e1:z<1:=by omega
   have e2:¬ -1<z:=by omega
   simp[A.b175,aR,aC,ae,az,zG,rO,CX,yR,BW,zD,h1,e1,e2,dL]
   exact aN ab.refl _
  ·subst h1
   simp[A.b175,aR,aC,ae,az,zG,rO,CX,yR,BW,zD,dL]
   exact aN ab.refl _
  ·have e1:¬z<1:=by omega
   have e2:¬z<0:=by omega
   have e3:¬z=0:=by omega
   simp[A.b175,aR,aC,ae,az,zG,rO,CX,yR,BW,zD,e1,e2,e3,dL]
   exact aN ab.refl _
 ·by_cases h1:z<0
  ·simp[A.b175,aR,aC,ae,az,zG,rO,CX,yR,BW,zD,za,dL,h1]
   exact aN ab.refl _
  ·have e3:¬z=0:=by omega
   simp[A.b175,aR,aC,ae,az,zG,rO,CX,yR,BW,zD,za,dL,h1,e3]
   exact aN ab.refl _
def YV(hz: -9223372036854775808<=z)(hm:z<9223372036854775808){st:St}:A.C.call (.func 203 [] []) [.int .i64 z] st=some (.int .u64 (z.natAbs:Nat),st):=by
 apply Call.eq
 rw[aM,A.k203 (by simp)]
 by_cases e1:z<0
 ·have e2:bh .u64 (IntKind.wrap .i64 (0-z))=(z.natAbs:Nat):=by
   rw[Kx]
   by_cases e3:z= -9223372036854775808
   ·subst e3;decide
   ·rw[LW (by omega) (by omega)];omega
  rw[Int.zero_sub]at e2
  simp[A.b203,e1,e2]
 ·have e2:bh .u64 z=(z.natAbs:Nat):=by rw[FK (by omega) (by omega)];omega
  simp[A.b203,e1,e2]
def Io(h:n<B)(h0:n≠0):aG n=[n]:=by
 rw[mZ h0,Ax h,rV,yQ h]
def DL(hx:In h N x z):Fn A.C 196 [x] h N (fun v h' n'=>∃u,v=.aV [.bool (decide (z<0)),u]/\Wn h' n' u z.natAbs):=by
 intro w
 rw[aM,A.k196 (by simp)]
 rcases hx with⟨rfl,h1,h2⟩|⟨i,o,l,c,rfl,hw,hz⟩
 ·by_cases h0:z=0
  ·subst h0
   simp[A.b196,aR,aC,ae,aJ,az]
   refine⟨aN ab.refl _,?_⟩
   unfold Wn;rw[rV];exact Sl.nil
  ·have hs:=fun st=>YV h1 h2 (st:=st)
   have d1:¬N=N+1:=by omega
   simp[A.b196,aR,aC,ae,aJ,h0,hs,az,cn.cr]
   refine⟨aN (aN ab.refl _) _,?_⟩
   unfold Wn
   rw[Io (by unfold B;omega) (by omega)]
   exact Sl.row (e:=200) (rw:=true) (L:=1) (by omega) (by simp[dg]) (by simp) (by simp)
 ·have e1:(za z<0)=(z<0):=by unfold za;split<;>simp_all
  simp[A.b196,aR,aC,ae,aJ,az,e1,cn.cr]
  refine⟨aN ab.refl _,hw.ad (aN ab.refl _)⟩
def FU{u:V}{b:Bool}(hu:Wn h N u n)(hl:(aG n).length<1099511627776):Fn A.C 197 [.bool b,u] h N (fun v h' n'=>In h' n' v (if b=true then -(n:Int) else n)):=by
 intro w
 have lu:=hu.len
 rw[bB]at lu
 rw[aM,A.k197 (by simp)]
 have kk:∀o1 o2:O,ab h N ((h.set N o1).set N o2) (N+1):=fun o1 o2=>(aN ab.refl o1).set (aO N)
 by_cases h0:n=0
 ·subst h0
  rw[rV]at lu
  simp[A.b197,lu,aR,aC,ae,az]
  refine⟨kk _ _,?_⟩
  have:(if b=true then -((0:Nat):Int) else ((0:Nat):Int))=0:=by split<;>rfl
  exact In.small (by omega) (by omega)
 ·by_cases h1:n<18446744073709551616
  ·rw[Io h1 h0]at lu
   obtain⟨i,o,c,e,rw,p1,p2,p3,p4⟩:=hu.at (fz (l:=aG n) (j:=0) (n:=n) (by rw[Io h1 h0];rfl))
   rw[iX]at p4
   have lu:pA u=some 1:=lu
   have aW:¬i=N:=by omega
   by_cases h2:n<=9223372036854775807
   ·have mB:(n:Int)<=9223372036854775807:=by omega
    have w1:bh .i64 (n:Int)=n:=cE (by omega) (by omega)
    have w2:IntKind.wrap .i64 (-(n:Int))= -(n:Int):=LW (by omega) (by omega)
    cases b
    ·simp[A.b197,lu,p1,p3,p4,aW,mB,w1,aR,aC,ae,az]
     exact⟨kk _ _,In.small (by omega) (by omega)⟩
    ·simp[A.b197,lu,p1,p3,p4,aW,mB,w1,w2,aR,aC,ae,az]
     exact⟨kk _ _,In.small (by omega) (by omega)⟩
   ·have mB:¬(n:Int)<=9223372036854775807:=by omega
    obtain⟨i2,o2,l2,c2,rfl⟩:∃i o l c,u=.slice i o l c 1:=by
     rcases hu with⟨hu,_⟩|⟨i,o,cp,c,e,rw,hu,_⟩
     ·rw[Io h1 h0]at hu;simp[dg]at hu
     ·exact⟨_,_,_,_,hu⟩
    cases b
    ·simp[A.b197,lu,p1,p3,p4,aW,mB,aR,aC,ae,az]
     refine⟨kk _ _,.inr ⟨i2,o2,l2,c2,?_,hu.ad (kk _ _),?_⟩⟩
     ·simp[za]
     ·omega
    ·simp[A.b197,lu,p1,p3,p4,aW,mB,aR,aC,ae,az]
     refine⟨kk _ _,.inr ⟨i2,o2,l2,c2,?_,?_,?_⟩⟩
     ·simp[za];omega
     ·simpa using hu.ad (kk _ _)
     ·omega
  ·have Fu:2<=(aG n).length:=by
    rw[mZ h0,mZ (by unfold B;omega)];simp
   have c0:¬((aG n).length:Int)=0:=by omega
   have c1:¬((aG n).length:Int)=1:=by omega
   have c2:¬(aG n).length=1:=by omega
   have c3:¬aG n=[]:=by intro h;rw[h]at Fu;simp at Fu
   rcases hu with⟨hu,_⟩|⟨i,o,cp,c,e,rw,rfl,hu⟩
   ·exfalso
    have:=congrArg List.length hu
    rw[bB]at this
    simp at this
    exact c3 this
   have hw:Wn h N (.slice i o (dg (aG n)).length cp 1) n:=.inr ⟨i,o,cp,c,e,rw,rfl,hu⟩
   rw[bB]at hw
   cases b
   ·simp[A.b197,c1,c3,aR,aC,ae,az]
    refine⟨kk _ _,.inr ⟨i,o,(aG n).length,cp,?_,hw.ad (kk _ _),?_⟩⟩
    ·simp[za]
    ·omega
   ·simp[A.b197,c1,c3,aR,aC,ae,az]
    refine⟨kk _ _,.inr ⟨i,o,(aG n).length,cp,?_,?_,?_⟩⟩
    ·simp[za];omega
    ·simpa using hw.ad (kk _ _)
    ·omega
def Sl.aH{v:V}{l:List Nat}{i:Nat}{c0 c1:List V}{e0 e1:TypeId}{w0 w1:Bool}(s:Sl h N v (dg l))(hr:h.get i=some (.cells c0 e0 w0))(hn:∀x∈c0,∀n,x≠.int .u64 n)(hc:c1.length=c0.length):Sl (h.set i (.cells c1 e1 w1)) N v (dg l):=by
 rcases s with s|⟨i',o,cp,c,e,rw,rfl,q1,q2,q3,q4,q5⟩
 ·exact .inl s
 ·by_cases hi:i'=i
  ·subst hi
   rw[hr]at q2
   simp only[an,O.cells.injEq]at q2
   obtain⟨rfl,rfl,rfl⟩:=q2
   cases l with
   |nil=>
    refine .inr ⟨i',o,cp,c1,e1,w1,rfl,q1,by rw[T.ag,ax rfl],?_,by simpa[hc]using q4,q5⟩
    intro j hj
    simp[dg]at hj
   |cons d l=>
    exfalso
    have:=q3 0 (by simp[dg])
    have hm:=bM (l:=c0) (i:=o+0) (a:=.int .u64 d) (by rw[this];simp[dg])
    exact hn _ hm _ rfl
  ·exact .inr ⟨i',o,cp,c,e,rw,rfl,q1,by rw[T.ag,ak hi];exact q2,q3,q4,q5⟩
def In.aH{i:Nat}{c0 c1:List V}{e0 e1:TypeId}{w0 w1:Bool}(s:In h N x z)(hr:h.get i=some (.cells c0 e0 w0))(hn:∀x∈c0,∀n,x≠.int .u64 n)(hc:c1.length=c0.length):In (h.set i (.cells c1 e1 w1)) N x z:=by
 rcases s with s|⟨i',o,l,c,s1,s2,s3⟩
 ·exact .inl s
 ·exact .inr ⟨i',o,l,c,s1,Sl.aH s2 hr hn hc,s3⟩
def KC(hx:In h N x z)(hl:wl z<500000000000):Fn A.C 189 [x] h N (fun v h' n'=>In h' n' v (-z)):=by
 intro w
 rw[aM,A.k189 (by simp)]
 have rest:∀{x:V},In h N x z->∀(h1:T O) (N1:Nat),ab h N h1 N1->Fn A.C 196 [x] h1 N1 (fun v h' n'=>∃u,v=.aV [.bool (decide (z<0)),u]/\Wn h' n' u z.natAbs):=fun hx h1 N1 k=>DL (hx.ad k)
 have fin:∀{v h' n'},In h' n' v (if (!decide (z<0))=true then -(z.natAbs:Int) else z.natAbs)->In h' n' v (-z):=fun {v h' n'} q=>by
  have e:(if (!decide (z<0))=true then -(z.natAbs:Int) else (z.natAbs:Int))= -z:=by
   by_cases h:z<0<;>simp[h]<;>omega
  rw[e]at q;exact q
 by_cases hz:x=.agg [.int .i64 z,.aa]/\z≠ -9223372036854775808/\ -9223372036854775808<=z/\z<9223372036854775808
 ·obtain⟨rfl,h0,h1,h2⟩:=hz
  have w2:IntKind.wrap .i64 (-z)= -z:=LW (by omega) (by omega)
  simp[A.b189,aR,aC,ae,aJ,h0,w2,az]
  exact⟨(aN (aN ab.refl _) _).set (by omega),In.small (by omega) (by omega)⟩
 ·rcases id hx with⟨rfl,h1,h2⟩|⟨i,o,l,c,rfl,_⟩
  ·have h0:z= -9223372036854775808:=by
    apply Decidable.byContradiction
    intro hc
    exact hz ⟨rfl,hc,h1,h2⟩
   have hp:=rest hx _ _ (aN (aN ab.refl (.cells [.int .i64 z,.aa] 106 true)) (.cells [.int .i64 0,.aa] 106 true))
   subst h0
   simp[A.b189,aR,aC,ae,aJ]
   refine ay hp ?_
   rintro _ h3 n3 k3 ⟨u,rfl,hu⟩
   have ye:=k3.le
   have g0:=k3.get (N+1) (by omega)
   simp at g0
   simp[]
   refine ay (FU hu (by unfold wl at hl;omega)) ?_
   rintro v h4 n4 k4 hv
   have uE:=k4.le
   have g1:=(k4.get (N+1) (by omega)).trans g0
   obtain⟨n5,u5,rfl,jx⟩:=hv.cells
   unfold V.one at jx
   simp[g1,aR,aC,ae,bD,az,jx]
   have kk:=(((aN (aN ab.refl _) _).trans k3).trans k4).set (h:=h) (n:=N) (i:=N+1) (o:=.cells [.int .i64 n5,u5] 106 true) (by omega)
   exact⟨kk,(fin hv).aH g1 (by simp) rfl⟩
  ·have hp:=rest hx _ _ (aN (aN ab.refl (.cells [.int .i64 (za z),.slice i o l c 1] 106 true)) (.cells [.int .i64 0,.aa] 106 true))
   simp[A.b189,aR,aC,ae,aJ]
   refine ay hp ?_
   rintro _ h3 n3 k3 ⟨u,rfl,hu⟩
   have ye:=k3.le
   have g0:=k3.get (N+1) (by omega)
   simp at g0
   simp[]
   refine ay (FU hu (by unfold wl at hl;omega)) ?_
   rintro v h4 n4 k4 hv
   have uE:=k4.le
   have g1:=(k4.get (N+1) (by omega)).trans g0
   obtain⟨n5,u5,rfl,jx⟩:=hv.cells
   unfold V.one at jx
   simp[g1,aR,aC,ae,bD,az,jx]
   have kk:=(((aN (aN ab.refl _) _).trans k3).trans k4).set (h:=h) (n:=N) (i:=N+1) (o:=.cells [.int .i64 n5,u5] 106 true) (by omega)
   exact⟨kk,(fin hv).aH g1 (by simp) rfl⟩
end
end Go.Mx
