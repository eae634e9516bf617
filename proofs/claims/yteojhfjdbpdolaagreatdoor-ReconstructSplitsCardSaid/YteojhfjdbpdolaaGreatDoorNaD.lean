/-num-/
import Derived.Test.YteojhfjdbpdolaaGreatDoorNaG
set_option linter.all false
namespace Go.Mx
noncomputable section
open Go Go.Proofs
variable {N b:Nat}
set_option maxHeartbeats 8000000
set_option maxRecDepth 1000000
def A.Da:=A.q Tryz.f208
def A.jQ:=A.ql A.Da 2 []
def A.mW:=A.ql A.Da 1 []
def A.mX:=A.ql A.Da 0 []
def A.b208:=(fun x0 x1 x2=>A.qb A.Da [x0,x1,x2]) A.mX A.mW A.jQ
def A.k208:=@A.kk 208 137 [.tmp 4,.tmp 5] A.b208 (by kernel_rfl) rfl
def Yn3{x y s:Nat}(hx:x<B)(h0:0<s)(hs:s<64):ji (au x s) (bK y (64-s))<B/\2^s*ji (au x s) (bK y (64-s))+x%2^s=x+B*(y%2^s):=by
 have hc:au x s<2^(64-s):=by
  unfold au
  apply (pU (qQ s)).2
  rw[<-ke,show 64-s+s=64 by omega];exact hx
 rw[Ro (by omega) hc]
 refine⟨Zqg (by omega) hc,?_⟩
 have e:bK y (64-s)=(y%2^s)*2^(64-s):=by
  unfold bK
  have:(18446744073709551616:Nat)=2^s*2^(64-s):=by rw[<-ke,show s+(64-s)=64 by omega]
  rw[this,K7]
 have e2:2^s*(y%2^s*2^(64-s))=B*(y%2^s):=by
  have:B=2^s*2^(64-s):=by rw[<-ke,show s+(64-s)=64 by omega];rfl
  rw[this]
  generalize 2^s=p
  generalize 2^(64-s)=q
  grind
 rw[e,tf,e2]
 unfold au
 have:=uo x (2^s)
 omega
structure Rp (h:T O) (N iq:Nat) (X:List Nat) (b m:Nat) (r:T V) (st:St):Prop where
 n:st.n=N+1
 w:ax N st.w=[]
 ae:ab h N st.h (N+1)
 ex:∃(rest:Nat) (Q:List Nat),m<=X.length/\r.get 8=some (.int .i64 ((m:Int)-1))/\r.get 7=some (.int .u64 rest)/\st.h.get N=some (.cells (dg Q) 195 true)/\Q.length=X.length/\Dg Q/\val B (X.drop m)=b*val B (Q.drop m)+rest/\rest<b
def Ykq{h:T O}{N b:Nat}{va vb:V}{X:List Nat}{r0:T V}(ha:Sl h N va (dg X))(hb:Sl h N vb (dg [b]))(dA:Dg X)(FT:b<B)(hl:X.length<1099511627776)
  (a0:r0.get 0=some va) (a1:r0.get 1=some vb) (a6:r0.get 6=some (.slice N 0 X.length (some X.length) 1)):
  ∀k r st,(∀t,jP [(7,8),(30,48)] t=false->r.get t=r0.get t)->Fx [(7,8),(30,48)] r0 137 ⟨r,137,[]⟩->Rp h N N X b k r st->Code A.C none A.mX ⟨r,137,[]⟩ st (Rd [(7,8),(30,48)] r0 137 (Rp h N N X b) k (fun e r st=>e=.exit 0/\Rp h N N X b 0 r st)):=by
 rintro m r ⟨H,n1,W⟩ hr hf ⟨hn,hW,hK,rest,Q,hm,h8,h7,aq,hQ,dQ,he,ay⟩
 simp only at hn hW hK aq
 subst hn
 have la:=ha.len
 have lb:=hb.len
 rw[bA]at la lb
 rw[bl]
 cases m with
 |zero=>
  simp[A.mX,hr,hf,h8]
  exact⟨rfl,hW,hK,rest,Q,by omega,by simp[h8],by simp[h7],aq,hQ,dQ,he,ay⟩
 |succ m=>
  have gx:=cy (l:=X) (i:=m) (by omega)
  generalize X[m]'(by omega)=x at*
  have hx:x<B:=dA.get gx
  obtain⟨i1,o1,c1,e1,w1,p1,p2,p3,p4⟩:=ha.at (fw gx)
  have p3:=(hK.get _ p2).trans p3
  obtain⟨i2,o2,c2,e2,w2,q1,q2,q3,q4⟩:=hb.at (fw (l:=[b]) (j:=0) rfl)
  have q3:=(hK.get _ q2).trans q3
  rw[kv]at q4
  have gq:=cy (l:=Q) (i:=m) (by omega)
  have mC:((m+1:Nat):Int)-1=(m:Int):=by omega
  have mw:m<X.length:=by omega
  have xF:i1<N+1:=by omega
  have BO:i2<N+1:=by omega
  have Ys:¬i1=N:=by omega
  have iA:¬i2=N:=by omega
  have Yt:¬N=i1:=by omega
  have Yu:¬N=i2:=by omega
  rw[mC]at h8
  have hd:=Zy3 (h:=H) (N:=N+1) ay FT hx
  obtain⟨q,hq⟩:∃q,(rest*18446744073709551616+x)/b=q:=⟨_,rfl⟩
  obtain⟨rr,Db⟩:∃q,(rest*18446744073709551616+x)%b=q:=⟨_,rfl⟩
  rw[hq,Db]at hd
  have hinv:b*q+rr=rest*B+x:=by
   have:=uo (rest*18446744073709551616+x) b
   rw[hq,Db]at this
   exact this
  have qp:rr<b:=by rw[<-Db];exact kO _ (by omega)
  have zB:q<B:=by
   rw[<-hq];apply (pU (by omega)).2
   have:=jB B (show rest+1<=b by omega)
   rw[jb B b]
   rw[iZ]at this
   unfold B at*;omega
  simp[A.mX,hr,hf,h8,h7,la,lb,a0,a1,a6,p1,p3,p4,q1,q3,q4,mw,xF,BO]
  refine aA hd ?_
  rintro _ H n2 BP ⟨rfl,rfl,rfl⟩
  simp(disch:=first|(simp;done)|omega|(simp only[bA,cA,bo];omega)|rfl) [hr,hf,h8,h7,la,lb,a0,a1,a6,aq,pE,mw,xF,BO,Ys,iA,Yt,Yu,ct.cv]
  refine⟨m,by omega,rfl,by simp[ax,hW],hK.set (aM _),rr,Q.set m q,by omega,by simp,by simp,by simp,by simp[hQ],dQ.tL zB,?_,qp⟩
  rw[BQ gx,BQ (gG (by omega)),List.drop_set_of_lt (by omega),he,tf,tf]
  have:B*(b*val B (Q.drop (m+1)))=b*(B*val B (Q.drop (m+1))):=by grind
  rw[jb rest]at hinv
  omega
structure Rq (N n2:Nat) (h2:T O) (iu iq Nq lu k A0:Nat) (Y:List Nat) (m:Nat) (r:T V) (st:St):Prop where
 n:st.n=Nq
 w:ax n2 st.w=[]
 ae:ab h2 n2 st.h Nq
 ex:∃(U Q:List Nat),r.get 14=some (.int .i64 ((m:Int)-1))/\st.h.get iu=some (.cells (dg U) 195 true)/\st.h.get iq=some (.cells (dg Q) 195 true)/\U.length=lu/\Q.length+(k+2)=lu/\m<=Q.length/\Dg U/\Dg Q/\(∀t,m+k+2<=t->t<lu->U[t]?=some 0)/\val B (U.drop m)<val B Y/\val B U+B^m*(val B (Q.drop m)*val B Y)=A0
def Ykp{h2:T O}{N n2 iu iq Nq lu k v1 A0:Nat}{Y:List Nat}{v:V}{r0:T V}{cq:Option Nat}(hv:Sl h2 n2 v (dg Y))(hY:Y.length=k+2)(dY:Dg Y)(sZ:lu<1099511627776)(f1:Y[k+1]?=some v1)(me:0<v1)(MG:n2<=iu)(EU:iu<iq)(hq:iq<Nq)
  (wV:k+2<lu) (Cb:r0.get 10=some v) (yw:r0.get 11=some (.slice iu 0 lu (some lu) 1)) (BR:r0.get 12=some (.int .i64 ((k:Int)+2))) (a13:r0.get 13=some (.slice iq 0 (lu-(k+2)) cq 1)):
  ∀x r st,(∀t,jP [(14,14),(80,95)] t=false->r.get t=r0.get t)->Fx [(14,14),(80,95)] r0 137 ⟨r,137,[]⟩->Rq N n2 h2 iu iq Nq lu k A0 Y x r st->Code A.C none A.mW ⟨r,137,[]⟩ st (Rd [(14,14),(80,95)] r0 137 (Rq N n2 h2 iu iq Nq lu k A0 Y) x (fun e r st=>e=.exit 2/\Rq N n2 h2 iu iq Nq lu k A0 Y 0 r st)):=by
 rintro m r ⟨H,n1,W⟩ hr hf ⟨hn,hW,hK,U,Q,oG,hU,hQ,lU,lQ,hm,dU,dQ,hz,ay,he⟩
 simp only at hn hW hK hU hQ
 subst hn
 rw[bl]
 cases m with
 |zero=>
  simp[A.mW,hr,hf,oG]
  exact⟨rfl,hW,hK,U,Q,by simp[oG],hU,hQ,lU,lQ,hm,dU,dQ,hz,ay,he⟩
 |succ m=>
  have mC:((m+1:Nat):Int)-1=(m:Int):=by omega
  rw[mC]at oG
  have gu:=cy (l:=U) (i:=m) (by omega)
  generalize U[m]'(by omega)=um at*
  have zaF:um<B:=dU.get gu
  have hsK:l8 ⟨H,n1,W⟩ 1 (some (.slice iu 0 lu (some lu) 1)) (some (some (.int .i64 m))) (some (some (.int .i64 ((m:Int)+((k:Int)+2)+1)))) (some none)=some (.slice iu m (k+3) (some (lu-m)) 1,⟨H,n1,W⟩):=by
   have e1:(0:Int)<=(m:Int)+((k:Int)+2)+1/\(m:Int)+((k:Int)+2)+1<=(lu:Int):=by omega
   have e2:((m:Int)+((k:Int)+2)+1).toNat=m+k+3:=by omega
   have e3:¬lu=m:=by omega
   have e4:m<=m+k+3:=by omega
   have e5:m+k+3-m=k+3:=by omega
   have e6:(m:Int)<=((m+k+3:Nat):Int):=by omega
   simp only[l8,po,aB,dv,j_,Option.map,Src.ev,e1,e2,e3,e5,e6,and_self,if_true,if_false,Int.natCast_nonneg,Int.toNat_natCast,true_and,ne_eq,not_true_eq_false,Option.isSome,Option.isNone,Cf,false_or,fH,xg,yZ]
  have hmq:m<lu-(k+2):=by omega
  simp(disch:=first|(simp;done)|omega|(simp only[bA,cA,bo];omega)|rfl) [A.mW,hr,hf,oG,Cb,yw,BR,a13,zJ,aB,hsK]
  refine BB (Ycy (n2:=n2) (k:=k) (U:=U) (v1:=v1) (hv.ae ⟨aM _,fun i hi=>hK.get i hi⟩) hY dY MG (by omega) (by omega) (by omega) hU dU f1 me (fun t h1 h2=>hz t (by omega) (by omega)) ?_) ?_
  ·rw[BQ gu]
   have:=jr B ay
   rw[Nat.mul_succ]at this
   omega
  rintro x ⟨H2,n3,W2⟩ ⟨s1,s2,s3,q,o,rfl,s4,s5,s6,s7,s8,s9,s10,s11⟩
  simp only at s1 s2 s3 s5
  subst s1
  have MH:H2.get iq=some (.cells (dg Q) 195 true):=by rw[s3 iq (by omega)];exact hQ
  simp(disch:=first|(simp;done)|omega|(simp only[bA,cA,bo];omega)|rfl) [hr,hf,oG,Cb,yw,BR,a13,hmq,MH,pE]
  have vQ:¬iq<n2:=by omega
  have hHe:∀i,i<n2->(H2.set iq (.cells (dg (Q.set m q)) 195 true)).get i=h2.get i:=fun i hi=>by
   rw[T.ag,ak (by omega),s3 i (by omega)];exact hK.get i hi
  refine⟨m,by omega,rfl,?_,⟨by omega,hHe⟩,o,Q.set m q,by simp,by simp[s5,(show ¬iu=iq by omega)],by simp,by omega,by simp;omega,by simp;omega,s7,dQ.tL s4,?_,s11,?_⟩
  ·simp only[ax,vQ,if_false]
   rw[s2];exact hW
  ·intro t h1 kI
   exact s9 t (by omega) (by omega)
  ·have eU:=EV B U m (by omega)
   have eO:=EV B o m (by omega)
   have et:o.take m=U.take m:=by
    apply lA
    intro t
    rw[iz,iz]
    split
    ·exact s8 t (by omega)
    ·rfl
   rw[BQ (gG (by omega)),List.drop_set_of_lt (by omega),eO,et]
   rw[eU,<-s10,gg]at he
   rw[<-he]
   generalize val B (U.take m)=z1
   generalize val B (o.drop m)=z2
   generalize val B Y=z3
   generalize val B (Q.drop (m+1))=z4
   generalize B^m=z5
   grind
structure Rr (n2:Nat) (h2:T O) (iu iq Nq lu n s:Nat) (U Q:List Nat) (m:Nat) (r:T V) (st:St):Prop where
 hn:st.n=Nq
 w:ax n2 st.w=[]
 ae:ab h2 n2 st.h Nq
 q:st.h.get iq=some (.cells (dg Q) 195 true)
 ex:∃(i:Nat) (o:List Nat),i+m=n/\r.get 97=some (.int .i64 i)/\st.h.get iu=some (.cells (dg o) 195 true)/\o.length=lu/\Dg o/\(∀t,i<=t->o[t]?=U[t]?)/\2^s*val B (o.take i)=val B (U.take i)+B^i*(dz U i%2^s)
def Yij{h2:T O}{n2 iu iq Nq lu n s:Nat}{U Q:List Nat}{r0:T V}{cu:Option Nat}(sZ:lu<1099511627776)(lU:U.length=lu)(dU:Dg U)(hs:s<64)(MG:n2<=iu)(EU:iu<iq)(hq:iq<Nq)(hn:n<lu)
  (a9:r0.get 9=some (.int .i64 s)) (yw:r0.get 11=some (.slice iu 0 lu cu 1)) (Yv:r0.get 96=some (.int .i64 n)):
  ∀x r st,(∀t,jP [(15,15),(97,130)] t=false->r.get t=r0.get t)->Fx [(15,15),(97,130)] r0 137 ⟨r,137,[]⟩->Rr n2 h2 iu iq Nq lu n s U Q x r st->Code A.C none A.jQ ⟨r,137,[]⟩ st (Rd [(15,15),(97,130)] r0 137 (Rr n2 h2 iu iq Nq lu n s U Q) x (fun e r st=>e=.exit 4/\Rr n2 h2 iu iq Nq lu n s U Q 0 r st)):=by
 rintro m r ⟨H,n1,W⟩ hr hf ⟨vR,hW,hK,hQ,i,o,hi,MI,aq,lo,dO,dP,he⟩
 simp only at vR hW hK hQ aq
 subst vR
 rw[bl]
 cases m with
 |zero=>
  have:i=n:=by omega
  subst this
  simp[A.jQ,hr,hf,MI,Yv]
  exact⟨rfl,hW,hK,hQ,i,o,by omega,by simp[MI],aq,lo,dO,dP,he⟩
 |succ m=>
  have ay:i<n:=by omega
  have gx:U[i]?=some (U[i]'(by omega)):=cy (by omega)
  have gy:U[i+1]?=some (U[i+1]'(by omega)):=cy (by omega)
  generalize U[i]'(by omega)=x at*
  generalize U[i+1]'(by omega)=y at*
  have hx:x<B:=dU.get gx
  have hy:y<B:=dU.get gy
  have ox:o[i]?=some x:=by rw[dP i (aM _)];exact gx
  have oy:o[i+1]?=some y:=by rw[dP (i+1) (by omega)];exact gy
  have t_:i<lu:=by omega
  have MJ:i+1<lu:=by omega
  have Yw:(i:Int)+1<(lu:Int):=by omega
  have qa:dz U i=x:=by simp[dz,gx]
  have hzy:dz U (i+1)=y:=by simp[dz,gy]
  have vQ:¬iu<n2:=by omega
  have hiu:iu<n1:=by omega
  have hqu:¬iq=iu:=by omega
  have hsB:au x s<B:=Zxu hx
  have zar:au x s<18446744073709551616:=hsB
  have zaG:x<18446744073709551616:=hx
  have Hq:y<18446744073709551616:=hy
  have p9:(s:Int)<=64:=by omega
  have K1:=fun v1 v2=>(hK.set (o:=v1) MG).set (i:=iu) (o:=v2) MG
  by_cases h0:0<s
  ·have iO:(0:Int)<(s:Int):=by omega
   obtain⟨z1,z2⟩:=Yn3 (y:=y) hx h0 hs
   have ox2:(o.set i (au x s))[i]?=some (au x s):=gG (by omega)
   have oy2:(o.set i (au x s))[i+1]?=some y:=by rw[d_ (by omega)];exact oy
   have tM:(o.set i (au x s)).length=lu:=by simp[lo]
   have FL:bj .i64 (64-(s:Int))=((64-s:Nat):Int):=by rw[cD (by omega) (by omega)];omega
   simp(disch:=first|(simp;done)|omega|(simp only[bA,cA,bo];omega)|rfl) [-getElem?_pos,A.jQ,hr,hf,MI,Yv,a9,yw,ay,t_,MJ,aq,fw ox,pE,h0,iO,Yw,FL,fw ox2,fw oy2,tM,hiu,ct.cv]
   refine⟨m,by omega,rfl,by simp[ax,hW,vQ],K1 _ _,by simp[hqu,hQ],i+1,(o.set i (au x s)).set i (ji (au x s) (bK y (64-s))),by omega,by simp,by simp,by simp[lo],(dO.tL hsB).tL z1,?_,?_⟩
   ·intro t ht
    rw[d_ (by omega),d_ (by omega)]
    exact dP t (by omega)
   ·rw[List.set_set,C8,C8,qa,hzy,show dz (o.set i (ji (au x s) (bK y (64-s)))) i=ji (au x s) (bK y (64-s)) by simp[dz,gG (show i<o.length by omega)]]
    have ht:(o.set i (ji (au x s) (bK y (64-s)))).take i=o.take i:=by
     apply lA
     intro t
     rw[iz,iz]
     split
     ·rw[d_ (by omega)]
     ·rfl
    rw[ht]
    rw[qa]at he
    have e2:B^i*(2^s*ji (au x s) (bK y (64-s))+x%2^s)=B^i*(x+B*(y%2^s)):=by rw[z2]
    rw[gg]
    generalize ji (au x s) (bK y (64-s))=z at*
    generalize val B (o.take i)=y1 at*
    generalize val B (U.take i)=y2 at*
    generalize x%2^s=y3 at*
    generalize y%2^s=y4 at*
    generalize (2:Nat)^s=y5 at*
    generalize B^i=y6 at*
    clear z2 ht K1
    grind
  ·have ui:s=0:=by omega
   subst ui
   have z0:au x 0=x:=by unfold au;simp
   have MK:o.set i x=o:=by
    apply lA
    intro t
    by_cases ht:t=i
    ·subst ht;rw[gG (by omega),ox]
    ·rw[d_ (by omega)]
   simp(disch:=first|(simp;done)|omega|(simp only[bA,cA,bo];omega)|rfl) [-getElem?_pos,A.jQ,hr,hf,MI,Yv,a9,yw,ay,t_,MJ,aq,fw ox,pE,z0,MK]
   refine⟨m,by omega,rfl,by simp[ax,hW,vQ],hK.set MG,by simp[hqu,hQ],i+1,o,by omega,by simp,by simp,lo,dO,fun t ht=>dP t (by omega),?_⟩
   rw[C8,C8,qa,show dz o i=x by simp[dz,ox]]
   have:dz U i%2^0=0:=Nat.mod_one _
   rw[this]at he
   simp only[D8,Nat.one_mul,Nat.mod_one,Nat.mul_zero,kv]at he ⊢
   omega
def Yne(h:(aJ b).length=1):aJ b=[b]/\b<B:=by
 obtain⟨h1,h2⟩:=Hr (k:=0) h
 rw[D8]at h1
 rw[xg,Nat.pow_one]at h2
 refine⟨?_,h2⟩
 rw[mU (by omega),zZ h2,rD,yn h2]
def Yh1{r:Nat}(h:r<B):sV [r]=aJ r:=by
 rw[C9 (by intro d hd;simp at hd;subst hd;exact h)]
 simp[val]
def Zue{h:T O}{u v:V}{a:Nat}(hu:Wn h N u a)(hv:Wn h N v b)(hb:0<b)(hl:(aJ a).length<1000000000000)(iD:(aJ b).length<1000000000000):Fn A.C 208 [u,v] h N (fun x h' n'=>∃q r,x=.aX [q,r]/\Wn h' n' q (a/b)/\Wn h' n' r (a%b)):=by
 intro w
 have lu:=hu.len
 have lv:=hv.len
 rw[bA]at lu lv
 rw[aR,A.k208 (by simp)]
 simp[A.b208]
 refine aA (Zik hu hv (by omega) (by omega)) ?_
 rintro _ h1 n1 k1 rfl
 by_cases ay:a<b
 ·have c1:vT a b= -1:=by simp[vT,ay]
  simp[c1,aE]
  refine⟨k1,_,_,⟨rfl,rfl⟩,?_,?_⟩
  ·rw[zZ ay];unfold Wn;rw[rD];exact Sl.nil
  ·rw[yn ay];exact hu.ae k1
 ·have c1:¬vT a b<0:=by
   unfold vT
   rw[ak (by omega)]
   split<;>omega
  have Ah:=hu.ae k1
  have me:=hv.ae k1
  have hle:=EW (a:=b) (b:=a) (by omega)
  by_cases h1l:(aJ b).length=1
  ·obtain⟨e1,e2⟩:=Yne h1l
   have ML:((aJ b).length:Int)=1:=by omega
   have Hu:Sl h1 n1 v (dg [b]):=by rw[<-e1];exact me
   simp(disch:=first|(simp;done)|omega|(simp only[bA,cA,bo];omega)|rfl) [c1,lv,h1l,lu,aG]
   refine bL [(7,8),(30,48)] _ (Rp h1 n1 n1 (aJ a) b) (aJ a).length ?_ (Ykq Ah Hu (rE a) e2 (by omega) (by simp) (by simp) (by simp)) ?_
   ·refine⟨rfl,by simp,ab.refl.new _,0,List.replicate (aJ a).length 0,aM _,by simp,by simp,by simp[Hm],by simp,?_,?_,hb⟩
    ·intro d hd
     rw[Ge]at hd
     rw[hd.2];decide
    ·simp[val]
   rintro e r ⟨H,n2,W⟩ hr ⟨rfl,hn,hW,hK,rest,Q,hm,h8,h7,aq,hQ,dQ,he,qp⟩
   simp only at hn hW hK aq
   subst hn
   simp[hr,h7]
   refine aA (Dc (l:=Q) (Sl.row (e:=195) (rw:=true) (by omega) aq (by rw[bA];exact hQ) (by simp)) (by omega)) ?_
   rintro q2 h3 n3 k3 hq
   simp[hr,h7,ad]
   have k4:ab h3 n3 (h3.set n3 (.cells [.int .u64 rest] 195 true)) (n3+1):=ab.refl.new _
   have hs5:Sl (h3.set n3 (.cells [.int .u64 rest] 195 true)) (n3+1) (.slice n3 0 1 (some 1) 1) (dg [rest]):=Sl.row (e:=195) (rw:=true) (L:=1) (vn n3) (by simp[dg]) (by simp) (by simp)
   refine aA (Dc hs5 (by simp)) ?_
   rintro r2 h5 n5 k5 cZ
   simp only[yJ,mV]at he
   have Hv:val B Q=a/b:=by
    rw[he,Nat.mul_add_div hb,zZ qp];omega
   have yN:rest=a%b:=by
    rw[he,Nat.mul_add_mod,yn qp]
   rw[C9 dQ,Hv]at hq
   rw[Yh1 (by omega),yN]at cZ
   simp[hr,aE]
   exact⟨JU k1.le hW,((k1.trans hK).trans k3).trans (k4.trans k5),_,_,⟨rfl,rfl⟩,(hq.ae k4).ae k5,cZ⟩
  ·have hbl:(aJ b).length≠0:=by
    rw[mU (by omega)];simp
   obtain⟨k,hk⟩:∃k,(aJ b).length=k+2:=⟨(aJ b).length-2,by omega⟩
   have ML:¬(k:Int)+2=1:=by omega
   have gt:=cy (l:=aJ b) (i:=k+1) (by omega)
   generalize (aJ b)[k+1]'(by omega)=bt at*
   have MM:bt<B:=(rE b).get gt
   have Yx:¬bt=0:=by
    obtain⟨w1,w2⟩:=Hr (k:=k+1) hk
    have:=(MN w1 w2).2
    rw[gt]at this
    have e:=oV this
    have hp:0<B^(k+1):=z_ (by decide)
    have:=(Jh hp).2 (by rw[Nat.one_mul];exact w1)
    omega
   obtain⟨m1,m2,m3⟩:=Ymj Yx MM
   have hlz:=fun (h:T O) (N:Nat)=>Ye5 (h:=h) (N:=N) (x:=bt) MM
   generalize hs:64-aY bt=s at*
   obtain⟨i1,o1,PL,e1,w1,p1,p2,p3,p4⟩:=me.at (fw gt)
   have t1:((k:Int)+2-1)=(k:Int)+1:=by omega
   rw[hk]at lv
   simp(disch:=omega) [c1,lv,aG,p1,p3,p4,t1,ML]
   refine aA (hlz _ _) ?_
   rintro _ h1 n1 k2 ⟨rfl,rfl,rfl⟩
   simp[lv]
   refine aA (Zqi me (rE b) m3 (by omega)) ?_
   rintro vv h2 n2 k3 ⟨iv,ov,g1,g2,rfl,g3,g4,g5,g6⟩
   simp[lv]
   refine aA (Dc (l:=ov) (Sl.row (e:=195) (rw:=true) g2 g3 (by rw[bA];exact g4) (by simp)) (by omega)) ?_
   rintro vy h3 n3 k4 hy
   rw[C9 g5,g6,mV]at hy
   obtain⟨y1,v1,y2,y3⟩:=Yhu hk gt m1 m2 (by omega)
   have ly:=Sl.len hy
   rw[bA,y1]at ly
   have ly:pD vy=some (k+2):=ly
   obtain⟨L,hL⟩:∃L,L+(k+2)=(aJ a).length+1:=⟨(aJ a).length+1-(k+2),by omega⟩
   have hLi:((aJ a).length:Int)-((k:Int)+2)=(L:Int)-1:=by omega
   simp[]
   refine aA (Zqi ((Ah.ae k3).ae k4) (rE a) m3 (by omega)) ?_
   rintro uu h4 n4 k5 ⟨iu,ou,j1,j2,rfl,j3,j4,j5,j6⟩
   simp(disch:=first|(simp;done)|omega|(simp only[bA,cA,bo];omega)|rfl) [ly,lu,hLi,Hm]
   have BS:0<v1:=by omega
   have k6:ab h4 n4 (h4.set n4 (.cells (dg (List.replicate L 0)) 195 true)) (n4+1):=ab.refl.new _
   have hyv:v1*B^(k+1)<=val B (aJ (b*2^s)):=by
    obtain⟨w1,w2⟩:=Hr (k:=k+1) y1
    have:=(MN w1 w2).2
    rw[y2]at this
    have e:=oV this
    rw[mV,e]
    exact Nat.div_mul_le_self _ _
   refine bL [(14,14),(80,95)] _ (Rq N n3 h3 iu n4 (n4+1) ((aJ a).length+1) k (a*2^s) (aJ (b*2^s))) L ?_ (Ykp (cq:=some L) (v1:=v1) hy (by omega) (rE _) (by omega) (by rw[y2]) BS j1 j2 (vn n4) (by omega) (by simp) (by simp) (by simp) ?_) ?_
   ·have aW:¬iu=n4:=by omega
    refine⟨rfl,rfl,(k5.trans k6),ou,List.replicate L 0,by simp,by simp[aW,j3],by simp,j4,by simp;omega,by simp,j5,?_,fun t IW xG=>by omega,?_,?_⟩
    ·intro d hd
     rw[Ge]at hd
     rw[hd.2];decide
    ·have Yy:a≠0:=by omega
     have hla:(aJ a).length≠0:=by rw[mU Yy];simp
     obtain⟨la1,MO⟩:∃x,(aJ a).length=x+1:=⟨(aJ a).length-1,by omega⟩
     have gp:=(Hr MO).2
     rw[<-MO]at gp
     rw[mV]at j6
     exact Ycq (k:=k+1) j6 j4 (by omega) (by omega) gp m3 y3 hyv
    ·simp[val,j6,mV]
   ·have:(aJ a).length+1-(k+2)=L:=by omega
    simp[this]
   rintro e r ⟨H,n5,W⟩ hr ⟨rfl,hn,hW,hK,U,Q,oG,hU,hQ,lU,lQ,hm,dU,dQ,hz,dj,he⟩
   simp only at hn hW hK hU hQ
   subst hn
   simp only[yJ,D8,Nat.one_mul]at he dj
   simp[hr]
   refine bL [(15,15),(97,130)] _ (Rr n3 h3 iu n4 (n4+1) ((aJ a).length+1) (k+2) s U Q) (k+2) ?_ (Yij (cu:=some ((aJ a).length+1)) (by omega) lU dU m3 j1 j2 (vn n4) (by omega) (by simp[hr]) (by simp[hr]) (by simp[hr])) ?_
   ·refine⟨rfl,hW,hK,hQ,0,U,by omega,by simp,hU,lU,dU,fun _ _=>rfl,?_⟩
    obtain⟨x,hx⟩:∃x,val B U=2^s*x:=by
     refine⟨a-val B Q*b,?_⟩
     rw[mV]at he
     rw[Nat.mul_sub,jb _ a,<-he]
     have:val B Q*(b*2^s)=2^s*(val B Q*b):=by grind
     omega
    have pP:dz U 0%2^s=0:=by
     have h1:=C8 (b:=B) (l:=U) (k:=0)
     have h2:=EV B U 1 (by omega)
     simp only[List.take_zero,val,D8,Nat.one_mul,xg,Nat.pow_one]at h1 h2
     rw[h1,hx]at h2
     have h3:B=2^s*2^(64-s):=by rw[<-ke,show s+(64-s)=64 by omega];rfl
     rw[h3,D7]at h2
     have h4:dz U 0=2^s*(x-2^(64-s)*val (2^s*2^(64-s)) (U.drop 1)):=by rw[Nat.mul_sub];omega
     rw[h4,Nat.mul_mod_right]
    rw[pP];simp[val]
   rintro e r2 ⟨H2,n5,W2⟩ cZ ⟨rfl,eM,eH,ib,hQ2,i,o,hi,MI,aq,lo,dO,dP,uP⟩
   simp only at eM eH ib hQ2 aq
   subst eM
   have:i=k+2:=by omega
   subst this
   simp[cZ,hr]
   refine aA (Dc (l:=Q) (Sl.row (e:=195) (rw:=true) (vn n4) hQ2 (by rw[bA];omega) (by simp)) (by omega)) ?_
   rintro q2 h6 n6 k6 hq
   have Yz:Sl h6 n6 (.slice iu 0 ((aJ a).length+1) (some ((aJ a).length+1)) 1) (dg o):=(Sl.row (h:=H2) (N:=n4+1) (by omega) aq (by rw[bA];exact lo) (by simp)).ae k6
   obtain⟨v',e1,e2⟩:=DO (w:=[]) Yz (lo:=0) (hi:=k+2) (tX _) (by rw[bA];omega) none (some (.int .i64 ((k+2:Nat):Int))) (.inr ⟨rfl,rfl⟩) (.inl rfl)
   rw[show ((k+2:Nat):Int)=(k:Int)+2 by omega]at e1
   simp[cZ,hr,zJ,aB,e1]
   rw[yJ,show (dg o).take (k+2)=dg (o.take (k+2)) by simp[dg]]at e2
   refine aA (Dc (l:=o.take (k+2)) e2 (by rw[gD];omega)) ?_
   rintro r3 h7 n7 k7 MP
   rw[C9 dQ]at hq
   rw[C9 (fun d hd=>dO d (wW hd))]at MP
   rw[mV]at he dj
   have Rt:0<b*2^s:=yK hb (qQ s)
   have Hw:dz U (k+2)=0:=by simp[dz,hz (k+2) (by omega) (by omega)]
   have hUt:val B (U.take (k+2))=val B U:=by
    have h1:=EV B U (k+2) (by omega)
    rw[YA (fun t t1 t2=>hz t (by omega) (by omega))]at h1
    omega
   have Hv:val B Q=a/b:=by
    have h1:a*2^s/(b*2^s)=val B Q:=by
     rw[<-he,Nat.add_mul_div_right _ _ Rt,zZ dj];omega
    rw[Qo _ _ (qQ s)]at h1
    exact h1.symm
   have yN:val B (o.take (k+2))=a%b:=by
    have h1:a*2^s%(b*2^s)=val B U:=by
     rw[<-he,Nat.add_mul_mod_self_right,yn dj]
    rw[K7,jb]at h1
    rw[Hw,Nat.zero_mod,Nat.mul_zero,kv,hUt,<-h1]at uP
    exact Nat.eq_of_mul_eq_mul_left (qQ s) uP
   rw[Hv]at hq
   rw[yN]at MP
   simp[cZ,hr,ct.cv,aE]
   have kk:=(k1.trans k3).trans k4
   exact⟨JU kk.le eH,((kk.trans ib).trans k6).trans k7,q2,r3,⟨rfl,rfl⟩,Sl.ae hq k7,MP⟩
variable {N n:Nat} {h:T O} {x:V} {z:Int}
def A.b162:=A.q Tryz.f162
def A.k162:=@A.kk 162 5 [.cell 2 (some 2)] A.b162 (by kernel_rfl) rfl
def A.b166:=A.q Tryz.f166
def A.k166:=@A.kk 166 7 [.tmp 2] A.b166 (by kernel_rfl) rfl
def A.b217:=A.q Tryz.f217
def A.k217:=@A.kk 217 9 [.cell 2 (some 2)] A.b217 (by kernel_rfl) rfl
def A.b199:=A.q Tryz.f199
def A.k199:=@A.kk 199 10 [.tmp 2] A.b199 (by kernel_rfl) rfl
def A.b179:=A.q Tryz.f179
def A.k179:=@A.kk 179 26 [.cell 2 (some 2)] A.b179 (by kernel_rfl) rfl
def A.b192:=A.q Tryz.f192
def A.k192:=@A.kk 192 24 [.tmp 2,.tmp 3] A.b192 (by kernel_rfl) rfl
def A.b193:=A.q Tryz.f193
def A.k193:=@A.kk 193 50 [.cell 4 (some 2)] A.b193 (by kernel_rfl) rfl
def yx(z:Int):Int:=if z<0 then -1 else 1
def In(h:T O)(N:Nat)(x:V)(z:Int):Prop:=
 (x=.agg [.int .i64 z,.aa]/\ -9223372036854775808<=z/\z<9223372036854775808)\/
 ∃i o l c,x=.agg [.int .i64 (yx z),.slice i o l c 1]/\Wn h N (.slice i o l c 1) z.natAbs/\9223372036854775808<=z.natAbs
def In.ae{h':T O}{N':Nat}(s:In h N x z)(k:ab h N h' N'):In h' N' x z:=by
 rcases s with s|⟨i,o,l,c,s1,s2,s3⟩
 ·exact .inl s
 ·exact .inr ⟨i,o,l,c,s1,s2.ae k,s3⟩
def In.small(h1: -9223372036854775808<=z)(h2:z<9223372036854775808):In h N (.agg [.int .i64 z,.aa]) z:=.inl ⟨rfl,h1,h2⟩
def In.cells(s:In h N x z):∃n u,x=.agg [.int .i64 n,u]/\V.one u=true:=by
 rcases s with⟨rfl,_⟩|⟨i,o,l,c,rfl,_⟩
 ·exact⟨_,_,rfl,rfl⟩
 ·exact⟨_,_,rfl,rfl⟩
def In.nu{n:Int}{u:V}(s:In h N (.agg [.int .i64 n,u]) z):∀x∈[V.int .i64 n,u],∀m,x≠.int .u64 m:=by
 intro x hx m hc
 simp only[kW,List.not_mem_nil,or_false]at hx
 rcases hx with rfl|rfl
 ·cases hc
 ·subst hc
  rcases s with⟨e,_⟩|⟨_,_,_,_,e,_⟩
  ·simp at e
  ·simp at e
def aN{h1:T O}{n1:Nat}(k:ab h n h1 n1)(o:O):ab h n (h1.set n1 o) (n1+1):=(k.set k.le).up (uR _)
def wl(z:Int):Nat:=(aJ z.natAbs).length
def Hx:Fn A.C 162 [.int .i64 z] h N (fun v _ _=>v=.agg [.int .i64 z,.aa]):=by
 intro w
 rw[aR,A.k162 (by simp)]
 simp[A.b162,aO,aF,ad,aE]
 exact(((ab.refl.set (aM N)).set (aM N)).up (uR N))
def eF(z:Int):Int:=if z<0 then -1 else if z=0 then 0 else 1
def Hy(hx:In h N x z):Fn A.C 166 [x] h N (fun v _ _=>v=.int .i64 (eF z)):=by
 intro w
 rw[aR,A.k166 (by simp)]
 rcases hx with⟨rfl,_⟩|⟨i,o,l,c,rfl,_,hz⟩
 ·obtain h1|h1|h1:z<0\/z=0\/0<z:=by omega
  ·have e1:z<1:=by omega
   have e2:¬ -1<z:=by omega
   simp[A.b166,aO,aF,ad,aE,zc,ri,Cs,yo,Bp,za,h1,e1,e2,eF]
   exact aN ab.refl _
  ·subst h1
   simp[A.b166,aO,aF,ad,aE,zc,ri,Cs,yo,Bp,za,eF]
   exact aN ab.refl _
  ·have e1:¬z<1:=by omega
   have e2:¬z<0:=by omega
   have e3:¬z=0:=by omega
   simp[A.b166,aO,aF,ad,aE,zc,ri,Cs,yo,Bp,za,e1,e2,e3,eF]
   exact aN ab.refl _
 ·by_cases h1:z<0
  ·simp[A.b166,aO,aF,ad,aE,zc,ri,Cs,yo,Bp,za,yx,eF,h1]
   exact aN ab.refl _
  ·have e3:¬z=0:=by omega
   simp[A.b166,aO,aF,ad,aE,zc,ri,Cs,yo,Bp,za,yx,eF,h1,e3]
   exact aN ab.refl _
def YB(hz: -9223372036854775808<=z)(hm:z<9223372036854775808){st:St}:A.C.call (.func 199 [] []) [.int .i64 z] st=some (.int .u64 (z.natAbs:Nat),st):=by
 apply Call.eq
 rw[aR,A.k199 (by simp)]
 by_cases e1:z<0
 ·have e2:bj .u64 (IntKind.wrap .i64 (0-z))=(z.natAbs:Nat):=by
   rw[JT]
   by_cases e3:z= -9223372036854775808
   ·subst e3;decide
   ·rw[Ld (by omega) (by omega)];omega
  rw[Int.zero_sub]at e2
  simp[A.b199,e1,e2]
 ·have e2:bj .u64 z=(z.natAbs:Nat):=by rw[EO (by omega) (by omega)];omega
  simp[A.b199,e1,e2]
def Hz(h:n<B)(h0:n≠0):aJ n=[n]:=by
 rw[mU h0,zZ h,rD,yn h]
def Dd(hx:In h N x z):Fn A.C 192 [x] h N (fun v h' n'=>∃u,v=.aX [.bool (decide (z<0)),u]/\Wn h' n' u z.natAbs):=by
 intro w
 rw[aR,A.k192 (by simp)]
 rcases hx with⟨rfl,h1,h2⟩|⟨i,o,l,c,rfl,hw,hz⟩
 ·by_cases h0:z=0
  ·subst h0
   simp[A.b192,aO,aF,ad,aG,aE]
   refine⟨aN ab.refl _,?_⟩
   unfold Wn;rw[rD];exact Sl.nil
  ·have hs:=fun st=>YB h1 h2 (st:=st)
   have d1:¬N=N+1:=by omega
   simp[A.b192,aO,aF,ad,aG,h0,hs,aE,ct.cv]
   refine⟨aN (aN ab.refl _) _,?_⟩
   unfold Wn
   rw[Hz (by unfold B;omega) (by omega)]
   exact Sl.row (e:=195) (rw:=true) (L:=1) (by omega) (by simp[dg]) (by simp) (by simp)
 ·have e1:(yx z<0)=(z<0):=by unfold yx;split<;>simp_all
  simp[A.b192,aO,aF,ad,aG,aE,e1,ct.cv]
  refine⟨aN ab.refl _,hw.ae (aN ab.refl _)⟩
def EX{u:V}{b:Bool}(hu:Wn h N u n)(hl:(aJ n).length<1099511627776):Fn A.C 193 [.bool b,u] h N (fun v h' n'=>In h' n' v (if b=true then -(n:Int) else n)):=by
 intro w
 have lu:=hu.len
 rw[bA]at lu
 rw[aR,A.k193 (by simp)]
 have kk:∀o1 o2:O,ab h N ((h.set N o1).set N o2) (N+1):=fun o1 o2=>(aN ab.refl o1).set (aM N)
 by_cases h0:n=0
 ·subst h0
  rw[rD]at lu
  simp[A.b193,lu,aG,aO,aF,ad,aE]
  refine⟨kk _ _,?_⟩
  have:(if b=true then -((0:Nat):Int) else ((0:Nat):Int))=0:=by split<;>rfl
  exact In.small (by omega) (by omega)
 ·by_cases h1:n<18446744073709551616
  ·rw[Hz h1 h0]at lu
   obtain⟨i,o,c,e,rw,p1,p2,p3,p4⟩:=hu.at (fw (l:=aJ n) (j:=0) (n:=n) (by rw[Hz h1 h0];rfl))
   rw[kv]at p4
   have lu:pD u=some 1:=lu
   have aW:¬i=N:=by omega
   by_cases h2:n<=9223372036854775807
   ·have kI:(n:Int)<=9223372036854775807:=by omega
    have w1:bj .i64 (n:Int)=n:=cD (by omega) (by omega)
    have w2:IntKind.wrap .i64 (-(n:Int))= -(n:Int):=Ld (by omega) (by omega)
    cases b
    ·simp[A.b193,lu,aG,p1,p3,p4,aW,kI,w1,aO,aF,ad,aE]
     exact⟨kk _ _,In.small (by omega) (by omega)⟩
    ·simp[A.b193,lu,aG,p1,p3,p4,aW,kI,w1,w2,aO,aF,ad,aE]
     exact⟨kk _ _,In.small (by omega) (by omega)⟩
   ·have kI:¬(n:Int)<=9223372036854775807:=by omega
    obtain⟨i2,o2,l2,c2,rfl⟩:∃i o l c,u=.slice i o l c 1:=by
     rcases hu with⟨hu,_⟩|⟨i,o,cp,c,e,rw,hu,_⟩
     ·rw[Hz h1 h0]at hu;simp[dg]at hu
     ·exact⟨_,_,_,_,hu⟩
    cases b
    ·simp[A.b193,lu,aG,p1,p3,p4,aW,kI,aO,aF,ad,aE]
     refine⟨kk _ _,.inr ⟨i2,o2,l2,c2,?_,hu.ae (kk _ _),?_⟩⟩
     ·simp[yx]
     ·omega
    ·simp[A.b193,lu,aG,p1,p3,p4,aW,kI,aO,aF,ad,aE]
     refine⟨kk _ _,.inr ⟨i2,o2,l2,c2,?_,?_,?_⟩⟩
     ·simp[yx];omega
     ·simpa using hu.ae (kk _ _)
     ·omega
  ·have EA:2<=(aJ n).length:=by
    rw[mU h0,mU (by unfold B;omega)];simp
   have c0:¬((aJ n).length:Int)=0:=by omega
   have c1:¬((aJ n).length:Int)=1:=by omega
   have c2:¬(aJ n).length=1:=by omega
   have c3:¬aJ n=[]:=by intro h;rw[h]at EA;simp at EA
   rcases hu with⟨hu,_⟩|⟨i,o,cp,c,e,rw,rfl,hu⟩
   ·exfalso
    have:=congrArg List.length hu
    rw[bA]at this
    simp at this
    exact c3 this
   have hw:Wn h N (.slice i o (dg (aJ n)).length cp 1) n:=.inr ⟨i,o,cp,c,e,rw,rfl,hu⟩
   rw[bA]at hw
   cases b
   ·simp[A.b193,aG,c0,c1,c2,c3,aO,aF,ad,aE]
    refine⟨kk _ _,.inr ⟨i,o,(aJ n).length,cp,?_,hw.ae (kk _ _),?_⟩⟩
    ·simp[yx]
    ·omega
   ·simp[A.b193,aG,c0,c1,c2,c3,aO,aF,ad,aE]
    refine⟨kk _ _,.inr ⟨i,o,(aJ n).length,cp,?_,?_,?_⟩⟩
    ·simp[yx];omega
    ·simpa using hw.ae (kk _ _)
    ·omega
def Sl.aK{v:V}{l:List Nat}{i:Nat}{c0 c1:List V}{e0 e1:TypeId}{w0 w1:Bool}(s:Sl h N v (dg l))(hr:h.get i=some (.cells c0 e0 w0))(hn:∀x∈c0,∀n,x≠.int .u64 n)(hc:c1.length=c0.length):Sl (h.set i (.cells c1 e1 w1)) N v (dg l):=by
 rcases s with s|⟨i',o,cp,c,e,rw,rfl,q1,q2,q3,q4,q5⟩
 ·exact .inl s
 ·by_cases hi:i'=i
  ·subst hi
   rw[hr]at q2
   simp only[al,O.cells.injEq]at q2
   obtain⟨rfl,rfl,rfl⟩:=q2
   cases l with
   |nil=>
    refine .inr ⟨i',o,cp,c1,e1,w1,rfl,q1,by rw[T.ag,av rfl],?_,by simpa[hc]using q4,q5⟩
    intro j hj
    simp[dg]at hj
   |cons d l=>
    exfalso
    have:=q3 0 (by simp[dg])
    have hm:=cG (l:=c0) (i:=o+0) (a:=.int .u64 d) (by rw[this];simp[dg])
    exact hn _ hm _ rfl
  ·exact .inr ⟨i',o,cp,c,e,rw,rfl,q1,by rw[T.ag,ak hi];exact q2,q3,q4,q5⟩
def In.aK{i:Nat}{c0 c1:List V}{e0 e1:TypeId}{w0 w1:Bool}(s:In h N x z)(hr:h.get i=some (.cells c0 e0 w0))(hn:∀x∈c0,∀n,x≠.int .u64 n)(hc:c1.length=c0.length):In (h.set i (.cells c1 e1 w1)) N x z:=by
 rcases s with s|⟨i',o,l,c,s1,s2,s3⟩
 ·exact .inl s
 ·exact .inr ⟨i',o,l,c,s1,Sl.aK s2 hr hn hc,s3⟩
def JV(hx:In h N x z)(hl:wl z<500000000000):Fn A.C 179 [x] h N (fun v h' n'=>In h' n' v (-z)):=by
 intro w
 rw[aR,A.k179 (by simp)]
 have rest:∀{x:V},In h N x z->∀(h1:T O) (N1:Nat),ab h N h1 N1->Fn A.C 192 [x] h1 N1 (fun v h' n'=>∃u,v=.aX [.bool (decide (z<0)),u]/\Wn h' n' u z.natAbs):=fun hx h1 N1 k=>Dd (hx.ae k)
 have fin:∀{v h' n'},In h' n' v (if (!decide (z<0))=true then -(z.natAbs:Int) else z.natAbs)->In h' n' v (-z):=fun {v h' n'} q=>by
  have e:(if (!decide (z<0))=true then -(z.natAbs:Int) else (z.natAbs:Int))= -z:=by
   by_cases h:z<0<;>simp[h]<;>omega
  rw[e]at q;exact q
 by_cases hz:x=.agg [.int .i64 z,.aa]/\z≠ -9223372036854775808/\ -9223372036854775808<=z/\z<9223372036854775808
 ·obtain⟨rfl,h0,h1,h2⟩:=hz
  have w2:IntKind.wrap .i64 (-z)= -z:=Ld (by omega) (by omega)
  simp[A.b179,aO,aF,ad,aG,h0,w2,aE]
  exact⟨(aN (aN ab.refl _) _).set (by omega),In.small (by omega) (by omega)⟩
 ·rcases id hx with⟨rfl,h1,h2⟩|⟨i,o,l,c,rfl,_⟩
  ·have h0:z= -9223372036854775808:=by
    apply Decidable.byContradiction
    intro hc
    exact hz ⟨rfl,hc,h1,h2⟩
   have hp:=rest hx _ _ (aN (aN ab.refl (.cells [.int .i64 z,.aa] 87 true)) (.cells [.int .i64 0,.aa] 87 true))
   subst h0
   simp[A.b179,aO,aF,ad,aG]
   refine aA hp ?_
   rintro _ h3 n3 k3 ⟨u,rfl,hu⟩
   have ve:=k3.le
   have g0:=k3.get (N+1) (by omega)
   simp at g0
   simp[]
   refine aA (EX hu (by unfold wl at hl;omega)) ?_
   rintro v h4 n4 k4 hv
   have tN:=k4.le
   have g1:=(k4.get (N+1) (by omega)).trans g0
   obtain⟨n5,u5,rfl,jt⟩:=hv.cells
   unfold V.one at jt
   simp[g1,aO,aF,ad,bC,aE,jt]
   have kk:=(((aN (aN ab.refl _) _).trans k3).trans k4).set (h:=h) (n:=N) (i:=N+1) (o:=.cells [.int .i64 n5,u5] 87 true) (by omega)
   exact⟨kk,(fin hv).aK g1 (by simp) rfl⟩
  ·have hp:=rest hx _ _ (aN (aN ab.refl (.cells [.int .i64 (yx z),.slice i o l c 1] 87 true)) (.cells [.int .i64 0,.aa] 87 true))
   simp[A.b179,aO,aF,ad,aG]
   refine aA hp ?_
   rintro _ h3 n3 k3 ⟨u,rfl,hu⟩
   have ve:=k3.le
   have g0:=k3.get (N+1) (by omega)
   simp at g0
   simp[]
   refine aA (EX hu (by unfold wl at hl;omega)) ?_
   rintro v h4 n4 k4 hv
   have tN:=k4.le
   have g1:=(k4.get (N+1) (by omega)).trans g0
   obtain⟨n5,u5,rfl,jt⟩:=hv.cells
   unfold V.one at jt
   simp[g1,aO,aF,ad,bC,aE,jt]
   have kk:=(((aN (aN ab.refl _) _).trans k3).trans k4).set (h:=h) (n:=N) (i:=N+1) (o:=.cells [.int .i64 n5,u5] 87 true) (by omega)
   exact⟨kk,(fin hv).aK g1 (by simp) rfl⟩
end
end Go.Mx
