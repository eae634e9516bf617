/-num-/
import Derived.Test.YtjjmkflbfpeagaaGreatDoorNaG
set_option linter.all false
namespace Go.Mx
noncomputable section
open Go Go.Proofs
variable {N b:Nat}
set_option maxHeartbeats 8000000
set_option maxRecDepth 1000000
def A.A8:=A.q Tryz.f231
def A.jl:=A.ql A.A8 2 []
def A.lF:=A.ql A.A8 1 []
def A.lG:=A.ql A.A8 0 []
def A.b231:=(fun x0 x1 x2=>A.qb A.A8 [x0,x1,x2]) A.lG A.lF A.jl
def A.k231:=@A.kk 231 137 [.tmp 4,.tmp 5] A.b231 (by kernel_rfl) rfl
def Yje{x y s:Nat}(hx:x<B)(h0:0<s)(hs:s<64):iK (al x s) (bJ y (64-s))<B/\2^s*iK (al x s) (bJ y (64-s))+x%2^s=x+B*(y%2^s):=by
 have hc:al x s<2^(64-s):=by
  unfold al
  apply (oh (qA s)).2
  rw[<-gL,show 64-s+s=64 by omega];exact hx
 rw[Oq (by omega) hc]
 refine⟨Zoj (by omega) hc,?_⟩
 have e:bJ y (64-s)=(y%2^s)*2^(64-s):=by
  unfold bJ
  have:(18446744073709551616:Nat)=2^s*2^(64-s):=by rw[<-gL,show s+(64-s)=64 by omega]
  rw[this,IG]
 have e2:2^s*(y%2^s*2^(64-s))=B*(y%2^s):=by
  have:B=2^s*2^(64-s):=by rw[<-gL,show s+(64-s)=64 by omega];rfl
  rw[this]
  generalize 2^s=p
  generalize 2^(64-s)=q
  grind
 rw[e,my,e2]
 unfold al
 have:=rz x (2^s)
 omega
structure Ot (h:T O) (N iq:Nat) (X:List Nat) (b m:Nat) (r:T V) (st:St):Prop where
 n:st.n=N+1
 w:aB N st.w=[]
 ae:ad h N st.h (N+1)
 ex:∃(rest:Nat) (Q:List Nat),m<=X.length/\r.get 8=some (.int .i64 ((m:Int)-1))/\r.get 7=some (.int .u64 rest)/\st.h.get N=some (.cells (dg Q) 212 true)/\Q.length=X.length/\Dg Q/\val B (X.drop m)=b*val B (Q.drop m)+rest/\rest<b
def Ygr{h:T O}{N b:Nat}{va vb:V}{X:List Nat}{r0:T V}(ha:Sl h N va (dg X))(hb:Sl h N vb (dg [b]))(dA:Dg X)(hbB:b<B)(hl:X.length<1099511627776)
  (a0:r0.get 0=some va) (a1:r0.get 1=some vb) (a6:r0.get 6=some (.slice N 0 X.length (some X.length) 1)):
  ∀k r st,(∀t,jk [(7,8),(30,48)] t=false->r.get t=r0.get t)->Fx [(7,8),(30,48)] r0 137 ⟨r,137,[]⟩->Ot h N N X b k r st->Code A.C none A.lG ⟨r,137,[]⟩ st (Rd [(7,8),(30,48)] r0 137 (Ot h N N X b) k (fun e r st=>e=.exit 0/\Ot h N N X b 0 r st)):=by
 rintro m r ⟨H,n1,W⟩ hr hf ⟨hn,hW,hK,rest,Q,hm,h8,h7,aE,hQ,dQ,he,aO⟩
 simp only at hn hW hK aE
 subst hn
 have la:=ha.len
 have lb:=hb.len
 rw[bn]at la lb
 rw[cm]
 cases m with
 |zero=>
  simp[A.lG,hf,h8]
  exact⟨rfl,hW,hK,rest,Q,by omega,by simp[h8],by simp[h7],aE,hQ,dQ,he,aO⟩
 |succ m=>
  have gx:=dT (l:=X) (i:=m) (by omega)
  generalize X[m]'(by omega)=x at*
  have hx:x<B:=dA.get gx
  obtain⟨i1,o1,c1,e1,w1,p1,p2,p3,p4⟩:=ha.at (eY gx)
  have p3:=(hK.get _ p2).trans p3
  obtain⟨i2,o2,c2,e2,w2,q1,q2,q3,q4⟩:=hb.at (eY (l:=[b]) (j:=0) rfl)
  have q3:=(hK.get _ q2).trans q3
  rw[ri]at q4
  have gq:=dT (l:=Q) (i:=m) (by omega)
  have k_:((m+1:Nat):Int)-1=(m:Int):=by omega
  have Ub:m<X.length:=by omega
  have vU:i1<N+1:=by omega
  have Qv:i2<N+1:=by omega
  have Uc:¬i1=N:=by omega
  have jR:¬i2=N:=by omega
  have Ud:¬N=i1:=by omega
  have Ue:¬N=i2:=by omega
  rw[k_]at h8
  have hd:=Zwi (h:=H) (N:=N+1) aO hbB hx
  obtain⟨q,hq⟩:∃q,(rest*18446744073709551616+x)/b=q:=⟨_,rfl⟩
  obtain⟨rr,A9⟩:∃q,(rest*18446744073709551616+x)%b=q:=⟨_,rfl⟩
  rw[hq,A9]at hd
  have hinv:b*q+rr=rest*B+x:=by
   have:=rz (rest*18446744073709551616+x) b
   rw[hq,A9]at this
   exact this
  have Hh:rr<b:=by rw[<-A9];exact jO _ (by omega)
  have Uf:q<B:=by
   rw[<-hq];apply (oh (by omega)).2
   have:=kp B (show rest+1<=b by omega)
   rw[fR B b]
   rw[jF]at this
   unfold B at*;omega
  simp[A.lG,hr,h8,h7,la,lb,a0,a1,a6,p1,p3,p4,q1,q3,q4,Ub,vU,Qv]
  refine au hd ?_
  rintro _ H n2 zZ ⟨rfl,rfl,rfl⟩
  simp(disch:=first|(simp;done)|omega|(simp only[bn,bW,bf];omega)|rfl) [hr,hf,h8,h7,la,lb,a0,a1,a6,aE,nR,Ub,vU,Qv,Uc,jR,Ud,Ue,cD.cG]
  refine⟨m,by omega,rfl,by simp[aB,hW],hK.set (aR _),rr,Q.set m q,by omega,by simp,by simp,by simp,by simp[hQ],dQ.qT Uf,?_,Hh⟩
  rw[zQ gx,zQ (nF (by omega)),List.drop_set_of_lt (by omega),he,my,my]
  have:B*(b*val B (Q.drop (m+1)))=b*(B*val B (Q.drop (m+1))):=by grind
  rw[fR rest]at hinv
  omega
structure Ou (N n2:Nat) (h2:T O) (iu iq Nq lu k A0:Nat) (Y:List Nat) (m:Nat) (r:T V) (st:St):Prop where
 n:st.n=Nq
 w:aB n2 st.w=[]
 ae:ad h2 n2 st.h Nq
 ex:∃(U Q:List Nat),r.get 14=some (.int .i64 ((m:Int)-1))/\st.h.get iu=some (.cells (dg U) 212 true)/\st.h.get iq=some (.cells (dg Q) 212 true)/\U.length=lu/\Q.length+(k+2)=lu/\m<=Q.length/\Dg U/\Dg Q/\(∀t,m+k+2<=t->t<lu->U[t]?=some 0)/\val B (U.drop m)<val B Y/\val B U+B^m*(val B (Q.drop m)*val B Y)=A0
def Ygq{h2:T O}{N n2 iu iq Nq lu k v1 A0:Nat}{Y:List Nat}{v:V}{r0:T V}{cq:Option Nat}(hv:Sl h2 n2 v (dg Y))(hY:Y.length=k+2)(dY:Dg Y)(Ug:lu<1099511627776)(f1:Y[k+1]?=some v1)(mY:0<v1)(J3:n2<=iu)(Ct:iu<iq)(hq:iq<Nq)
  (vM:k+2<lu) (EH:r0.get 10=some v) (zR:r0.get 11=some (.slice iu 0 lu (some lu) 1)) (zS:r0.get 12=some (.int .i64 ((k:Int)+2))) (a13:r0.get 13=some (.slice iq 0 (lu-(k+2)) cq 1)):
  ∀x r st,(∀t,jk [(14,14),(80,95)] t=false->r.get t=r0.get t)->Fx [(14,14),(80,95)] r0 137 ⟨r,137,[]⟩->Ou N n2 h2 iu iq Nq lu k A0 Y x r st->Code A.C none A.lF ⟨r,137,[]⟩ st (Rd [(14,14),(80,95)] r0 137 (Ou N n2 h2 iu iq Nq lu k A0 Y) x (fun e r st=>e=.exit 2/\Ou N n2 h2 iu iq Nq lu k A0 Y 0 r st)):=by
 rintro m r ⟨H,n1,W⟩ hr hf ⟨hn,hW,hK,U,Q,rY,hU,hQ,lU,lQ,hm,dU,dQ,hz,aO,he⟩
 simp only at hn hW hK hU hQ
 subst hn
 rw[cm]
 cases m with
 |zero=>
  simp[A.lF,hf,rY]
  exact⟨rfl,hW,hK,U,Q,by simp[rY],hU,hQ,lU,lQ,hm,dU,dQ,hz,aO,he⟩
 |succ m=>
  have k_:((m+1:Nat):Int)-1=(m:Int):=by omega
  rw[k_]at rY
  have gu:=dT (l:=U) (i:=m) (by omega)
  generalize U[m]'(by omega)=um at*
  have zau:um<B:=dU.get gu
  have hsK:nN ⟨H,n1,W⟩ 1 (some (.slice iu 0 lu (some lu) 1)) (some (some (.int .i64 m))) (some (some (.int .i64 ((m:Int)+((k:Int)+2)+1)))) (some none)=some (.slice iu m (k+3) (some (lu-m)) 1,⟨H,n1,W⟩):=by
   have e1:(0:Int)<=(m:Int)+((k:Int)+2)+1/\(m:Int)+((k:Int)+2)+1<=(lu:Int):=by omega
   have e2:((m:Int)+((k:Int)+2)+1).toNat=m+k+3:=by omega
   have e3:¬lu=m:=by omega
   have e4:m<=m+k+3:=by omega
   have e5:m+k+3-m=k+3:=by omega
   have e6:(m:Int)<=((m+k+3:Nat):Int):=by omega
   simp only[nN,po,az,dt,jP,Option.map,Src.ev,e1,e2,e3,e5,e6,and_self,if_true,if_false,Int.natCast_nonneg,Int.toNat_natCast,ne_eq,not_true_eq_false,Option.isSome,Option.isNone,Bool.false_and,false_or,fY,vW,se]
  have hmq:m<lu-(k+2):=by omega
  simp(disch:=first|(simp;done)|omega|(simp only[bn,bW,bf];omega)|rfl) [A.lF,hr,hf,rY,EH,zR,zS,a13,HH,az,hsK]
  refine zK (Zz9 (n2:=n2) (k:=k) (U:=U) (v1:=v1) (hv.ae ⟨aR _,fun i hi=>hK.get i hi⟩) hY dY J3 (by omega) (by omega) (by omega) hU dU f1 mY (fun t h1 h2=>hz t (by omega) (by omega)) ?_) ?_
  ·rw[zQ gu]
   have:=iT B aO
   rw[Nat.mul_succ]at this
   omega
  rintro x ⟨H2,n3,W2⟩ ⟨s1,s2,s3,q,o,rfl,s4,s5,s6,s7,s8,s9,s10,MW⟩
  simp only at s1 s2 s3 s5
  subst s1
  have J4:H2.get iq=some (.cells (dg Q) 212 true):=by rw[s3 iq (by omega)];exact hQ
  simp(disch:=first|(simp;done)|omega|(simp only[bn,bW,bf];omega)|rfl) [hr,hf,rY,EH,zR,zS,a13,hmq,J4,nR]
  have s_:¬iq<n2:=by omega
  have hHe:∀i,i<n2->(H2.set iq (.cells (dg (Q.set m q)) 212 true)).get i=h2.get i:=fun i hi=>by
   rw[T.ai,aq (by omega),s3 i (by omega)];exact hK.get i hi
  refine⟨m,by omega,rfl,?_,⟨by omega,hHe⟩,o,Q.set m q,by simp,by simp[s5,(show ¬iu=iq by omega)],by simp,by omega,by simp;omega,by simp;omega,s7,dQ.qT s4,?_,MW,?_⟩
  ·simp only[aB,s_,if_false]
   rw[s2];exact hW
  ·intro t h1 ks
   exact s9 t (by omega) (by omega)
  ·have eU:=Cu B U m (by omega)
   have eO:=Cu B o m (by omega)
   have et:o.take m=U.take m:=by
    apply nX
    intro t
    rw[kg,kg]
    split
    ·exact s8 t (by omega)
    ·rfl
   rw[zQ (nF (by omega)),List.drop_set_of_lt (by omega),eO,et]
   rw[eU,<-s10,fv]at he
   rw[<-he]
   generalize val B (U.take m)=z1
   generalize val B (o.drop m)=z2
   generalize val B Y=z3
   generalize val B (Q.drop (m+1))=z4
   generalize B^m=z5
   grind
structure Ov (n2:Nat) (h2:T O) (iu iq Nq lu n s:Nat) (U Q:List Nat) (m:Nat) (r:T V) (st:St):Prop where
 hn:st.n=Nq
 w:aB n2 st.w=[]
 ae:ad h2 n2 st.h Nq
 q:st.h.get iq=some (.cells (dg Q) 212 true)
 ex:∃(i:Nat) (o:List Nat),i+m=n/\r.get 97=some (.int .i64 i)/\st.h.get iu=some (.cells (dg o) 212 true)/\o.length=lu/\Dg o/\(∀t,i<=t->o[t]?=U[t]?)/\2^s*val B (o.take i)=val B (U.take i)+B^i*(dz U i%2^s)
def Ye1{h2:T O}{n2 iu iq Nq lu n s:Nat}{U Q:List Nat}{r0:T V}{cu:Option Nat}(Ug:lu<1099511627776)(lU:U.length=lu)(dU:Dg U)(hs:s<64)(J3:n2<=iu)(Ct:iu<iq)(hq:iq<Nq)(hn:n<lu)
  (a9:r0.get 9=some (.int .i64 s)) (zR:r0.get 11=some (.slice iu 0 lu cu 1)) (Uh:r0.get 96=some (.int .i64 n)):
  ∀x r st,(∀t,jk [(15,15),(97,130)] t=false->r.get t=r0.get t)->Fx [(15,15),(97,130)] r0 137 ⟨r,137,[]⟩->Ov n2 h2 iu iq Nq lu n s U Q x r st->Code A.C none A.jl ⟨r,137,[]⟩ st (Rd [(15,15),(97,130)] r0 137 (Ov n2 h2 iu iq Nq lu n s U Q) x (fun e r st=>e=.exit 4/\Ov n2 h2 iu iq Nq lu n s U Q 0 r st)):=by
 rintro m r ⟨H,n1,W⟩ hr hf ⟨oT,hW,hK,hQ,i,o,hi,J5,aE,lo,dO,eh,he⟩
 simp only at oT hW hK hQ aE
 subst oT
 rw[cm]
 cases m with
 |zero=>
  have:i=n:=by omega
  subst this
  simp[A.jl,hr,hf,J5,Uh]
  exact⟨rfl,hW,hK,hQ,i,o,by omega,by simp[J5],aE,lo,dO,eh,he⟩
 |succ m=>
  have aO:i<n:=by omega
  have gx:U[i]?=some (U[i]'(by omega)):=dT (by omega)
  have gy:U[i+1]?=some (U[i+1]'(by omega)):=dT (by omega)
  generalize U[i]'(by omega)=x at*
  generalize U[i+1]'(by omega)=y at*
  have hx:x<B:=dU.get gx
  have hy:y<B:=dU.get gy
  have ox:o[i]?=some x:=by rw[eh i (aR _)];exact gx
  have oy:o[i+1]?=some y:=by rw[eh (i+1) (by omega)];exact gy
  have IZ:i<lu:=by omega
  have J6:i+1<lu:=by omega
  have Ui:(i:Int)+1<(lu:Int):=by omega
  have oF:dz U i=x:=by simp[dz,gx]
  have hzy:dz U (i+1)=y:=by simp[dz,gy]
  have s_:¬iu<n2:=by omega
  have hiu:iu<n1:=by omega
  have hqu:¬iq=iu:=by omega
  have hsB:al x s<B:=Zu8 hx
  have zaa:al x s<18446744073709551616:=hsB
  have zav:x<18446744073709551616:=hx
  have EI:y<18446744073709551616:=hy
  have oB:(s:Int)<=64:=by omega
  have K1:=fun v1 v2=>(hK.set (o:=v1) J3).set (i:=iu) (o:=v2) J3
  by_cases h0:0<s
  ·have qk:(0:Int)<(s:Int):=by omega
   obtain⟨z1,z2⟩:=Yje (y:=y) hx h0 hs
   have ox2:(o.set i (al x s))[i]?=some (al x s):=nF (by omega)
   have oy2:(o.set i (al x s))[i+1]?=some y:=by rw[eB (by omega)];exact oy
   have qU:(o.set i (al x s)).length=lu:=by simp[lo]
   have Uj:bb .i64 (64-(s:Int))=((64-s:Nat):Int):=by rw[cb (by omega) (by omega)];omega
   simp(disch:=first|(simp;done)|omega|(simp only[bn,bW,bf];omega)|rfl) [-getElem?_pos,A.jl,hr,hf,J5,Uh,a9,zR,aO,IZ,J6,aE,eY ox,nR,h0,qk,Ui,Uj,eY ox2,eY oy2,qU,hiu,cD.cG]
   refine⟨m,by omega,rfl,by simp[aB,hW,s_],K1 _ _,by simp[hqu,hQ],i+1,(o.set i (al x s)).set i (iK (al x s) (bJ y (64-s))),by omega,by simp,by simp,by simp[lo],(dO.qT hsB).qT z1,?_,?_⟩
   ·intro t ht
    rw[eB (by omega),eB (by omega)]
    exact eh t (by omega)
   ·rw[List.set_set,A4,A4,oF,hzy,show dz (o.set i (iK (al x s) (bJ y (64-s)))) i=iK (al x s) (bJ y (64-s)) by simp[dz,nF (show i<o.length by omega)]]
    have ht:(o.set i (iK (al x s) (bJ y (64-s)))).take i=o.take i:=by
     apply nX
     intro t
     rw[kg,kg]
     split
     ·rw[eB (by omega)]
     ·rfl
    rw[ht]
    rw[oF]at he
    have e2:B^i*(2^s*iK (al x s) (bJ y (64-s))+x%2^s)=B^i*(x+B*(y%2^s)):=by rw[z2]
    rw[fv]
    generalize iK (al x s) (bJ y (64-s))=z at*
    generalize val B (o.take i)=y1 at*
    generalize val B (U.take i)=y2 at*
    generalize x%2^s=y3 at*
    generalize y%2^s=y4 at*
    generalize (2:Nat)^s=y5 at*
    generalize B^i=y6 at*
    clear z2 ht K1
    grind
  ·have uI:s=0:=by omega
   subst uI
   have z0:al x 0=x:=by unfold al;simp
   have J7:o.set i x=o:=by
    apply nX
    intro t
    by_cases ht:t=i
    ·subst ht;rw[nF (by omega),ox]
    ·rw[eB (by omega)]
   simp(disch:=first|(simp;done)|omega|(simp only[bn,bW,bf];omega)|rfl) [-getElem?_pos,A.jl,hr,hf,J5,Uh,a9,zR,aO,IZ,J6,aE,eY ox,nR,z0,J7]
   refine⟨m,by omega,rfl,by simp[aB,hW,s_],hK.set J3,by simp[hqu,hQ],i+1,o,by omega,by simp,by simp,lo,dO,fun t ht=>eh t (by omega),?_⟩
   rw[A4,A4,oF,show dz o i=x by simp[dz,ox]]
   have:dz U i%2^0=0:=Nat.mod_one _
   rw[this]at he
   simp only[Ag,Nat.one_mul,Nat.mod_one,Nat.mul_zero,ri]at he ⊢
   omega
def Yix(h:(aH b).length=1):aH b=[b]/\b<B:=by
 obtain⟨h1,h2⟩:=EJ (k:=0) h
 rw[Ag]at h1
 rw[vW,Nat.pow_one]at h2
 refine⟨?_,h2⟩
 rw[lD (by omega),xC h2,pB,vw h2]
def Yep{r:Nat}(h:r<B):qj [r]=aH r:=by
 rw[A5 (by intro d hd;simp at hd;subst hd;exact h)]
 simp[val]
def Zr5{h:T O}{u v:V}{a:Nat}(hu:Wn h N u a)(hv:Wn h N v b)(hb:0<b)(hl:(aH a).length<1000000000000)(pW:(aH b).length<1000000000000):Fn A.C 231 [u,v] h N (fun x h' n'=>∃q r,x=.aY [q,r]/\Wn h' n' q (a/b)/\Wn h' n' r (a%b)):=by
 intro w
 have lu:=hu.len
 have lv:=hv.len
 rw[bn]at lu lv
 rw[aQ,A.k231 (by simp)]
 simp[A.b231]
 refine au (Zho hu hv (by omega) (by omega)) ?_
 rintro _ h1 n1 k1 rfl
 by_cases aO:a<b
 ·have c1:ti a b= -1:=by simp[ti,aO]
  simp[c1,aA]
  refine⟨k1,_,_,⟨rfl,rfl⟩,?_,?_⟩
  ·rw[xC aO];unfold Wn;rw[pB];exact Sl.nil
  ·rw[vw aO];exact hu.ae k1
 ·have c1:¬ti a b<0:=by
   unfold ti
   rw[aq (by omega)]
   split<;>omega
  have yc:=hu.ae k1
  have mY:=hv.ae k1
  have hle:=Cv (a:=b) (b:=a) (by omega)
  by_cases h1l:(aH b).length=1
  ·obtain⟨e1,e2⟩:=Yix h1l
   have J8:((aH b).length:Int)=1:=by omega
   have EK:Sl h1 n1 v (dg [b]):=by rw[<-e1];exact mY
   simp(disch:=first|(simp;done)|omega|(simp only[bn,bW,bf];omega)|rfl) [c1,lv,h1l,lu,aW]
   refine cX [(7,8),(30,48)] _ (Ot h1 n1 n1 (aH a) b) (aH a).length ?_ (Ygr yc EK (pC a) e2 (by omega) (by simp) (by simp) (by simp)) ?_
   ·refine⟨rfl,by simp,ad.refl.new _,0,List.replicate (aH a).length 0,aR _,by simp,by simp,by simp[EC],by simp,?_,?_,hb⟩
    ·intro d hd
     rw[GD]at hd
     rw[hd.2];decide
    ·simp[val]
   rintro e r ⟨H,n2,W⟩ hr ⟨rfl,hn,hW,hK,rest,Q,hm,h8,h7,aE,hQ,dQ,he,Hh⟩
   simp only at hn hW hK aE
   subst hn
   simp[hr]
   refine au (Ba (l:=Q) (Sl.row (e:=212) (rw:=true) (by omega) aE (by rw[bn];exact hQ) (by simp)) (by omega)) ?_
   rintro q2 h3 n3 k3 hq
   simp[h7,ag]
   have k4:ad h3 n3 (h3.set n3 (.cells [.int .u64 rest] 212 true)) (n3+1):=ad.refl.new _
   have hs5:Sl (h3.set n3 (.cells [.int .u64 rest] 212 true)) (n3+1) (.slice n3 0 1 (some 1) 1) (dg [rest]):=Sl.row (e:=212) (rw:=true) (L:=1) (q9 n3) (by simp[dg]) (by simp) (by simp)
   refine au (Ba hs5 (by simp)) ?_
   rintro r2 h5 n5 k5 dW
   simp only[yO,kP]at he
   have EL:val B Q=a/b:=by
    rw[he,Nat.mul_add_div hb,xC Hh];omega
   have EM:rest=a%b:=by
    rw[he,Nat.mul_add_mod,vw Hh]
   rw[A5 dQ,EL]at hq
   rw[Yep (by omega),EM]at dW
   simp[aA]
   exact⟨Hi k1.le hW,((k1.trans hK).trans k3).trans (k4.trans k5),_,_,⟨rfl,rfl⟩,(hq.ae k4).ae k5,dW⟩
  ·have Zk:(aH b).length≠0:=by
    rw[lD (by omega)];simp
   obtain⟨k,hk⟩:∃k,(aH b).length=k+2:=⟨(aH b).length-2,by omega⟩
   have J8:¬(k:Int)+2=1:=by omega
   have gt:=dT (l:=aH b) (i:=k+1) (by omega)
   generalize (aH b)[k+1]'(by omega)=bt at*
   have J9:bt<B:=(pC b).get gt
   have Uk:¬bt=0:=by
    obtain⟨w1,w2⟩:=EJ (k:=k+1) hk
    have:=(Ka w1 w2).2
    rw[gt]at this
    have e:=uz this
    have hp:0<B^(k+1):=vf (by decide)
    have:=(GC hp).2 (by rw[Nat.one_mul];exact w1)
    omega
   obtain⟨m1,m2,m3⟩:=Yh0 Uk J9
   have hlz:=fun (h:T O) (N:Nat)=>Yb5 (h:=h) (N:=N) (x:=bt) J9
   generalize hs:64-aV bt=s at*
   obtain⟨i1,o1,cc1,e1,w1,p1,p2,p3,p4⟩:=mY.at (eY gt)
   have t1:((k:Int)+2-1)=(k:Int)+1:=by omega
   rw[hk]at lv
   simp(disch:=omega) [c1,lv,p1,p3,p4,t1,J8]
   refine au (hlz _ _) ?_
   rintro _ h1 n1 k2 ⟨rfl,rfl,rfl⟩
   simp
   refine au (Zol mY (pC b) m3 (by omega)) ?_
   rintro vv h2 n2 k3 ⟨iv,ov,g1,g2,rfl,g3,g4,g5,g6⟩
   simp
   refine au (Ba (l:=ov) (Sl.row (e:=212) (rw:=true) g2 g3 (by rw[bn];exact g4) (by simp)) (by omega)) ?_
   rintro vy h3 n3 k4 hy
   rw[A5 g5,g6,kP]at hy
   obtain⟨y1,v1,y2,y3⟩:=Yei hk gt m1 m2 (by omega)
   have ly:=Sl.len hy
   rw[bn,y1]at ly
   have ly:qh vy=some (k+2):=ly
   obtain⟨L,hL⟩:∃L,L+(k+2)=(aH a).length+1:=⟨(aH a).length+1-(k+2),by omega⟩
   have hLi:((aH a).length:Int)-((k:Int)+2)=(L:Int)-1:=by omega
   simp[]
   refine au (Zol ((yc.ae k3).ae k4) (pC a) m3 (by omega)) ?_
   rintro uu h4 n4 k5 ⟨iu,ou,j1,j2,rfl,j3,j4,j5,j6⟩
   simp(disch:=first|(simp;done)|omega|(simp only[bn,bW,bf];omega)|rfl) [ly,lu,hLi,EC]
   have zT:0<v1:=by omega
   have k6:ad h4 n4 (h4.set n4 (.cells (dg (List.replicate L 0)) 212 true)) (n4+1):=ad.refl.new _
   have hyv:v1*B^(k+1)<=val B (aH (b*2^s)):=by
    obtain⟨w1,w2⟩:=EJ (k:=k+1) y1
    have:=(Ka w1 w2).2
    rw[y2]at this
    have e:=uz this
    rw[kP,e]
    exact Nat.div_mul_le_self _ _
   refine cX [(14,14),(80,95)] _ (Ou N n3 h3 iu n4 (n4+1) ((aH a).length+1) k (a*2^s) (aH (b*2^s))) L ?_ (Ygq (cq:=some L) (v1:=v1) hy (by omega) (pC _) (by omega) (by rw[y2]) zT j1 j2 (q9 n4) (by omega) (by simp) (by simp) (by simp) ?_) ?_
   ·have bK:¬iu=n4:=by omega
    refine⟨rfl,rfl,(k5.trans k6),ou,List.replicate L 0,by simp,by simp[bK,j3],by simp,j4,by simp;omega,by simp,j5,?_,fun t HM rQ=>by omega,?_,?_⟩
    ·intro d hd
     rw[GD]at hd
     rw[hd.2];decide
    ·have T5:a≠0:=by omega
     have hla:(aH a).length≠0:=by rw[lD T5];simp
     obtain⟨la1,Kb⟩:∃x,(aH a).length=x+1:=⟨(aH a).length-1,by omega⟩
     have kh:=(EJ Kb).2
     rw[<-Kb]at kh
     rw[kP]at j6
     exact Zz3 (k:=k+1) j6 j4 (by omega) (by omega) kh m3 y3 hyv
    ·simp[val,j6,kP]
   ·have:(aH a).length+1-(k+2)=L:=by omega
    simp[this]
   rintro e r ⟨H,n5,W⟩ hr ⟨rfl,hn,hW,hK,U,Q,rY,hU,hQ,lU,lQ,hm,dU,dQ,hz,eJ,he⟩
   simp only at hn hW hK hU hQ
   subst hn
   simp only[yO,Ag,Nat.one_mul]at he eJ
   simp[hr]
   refine cX [(15,15),(97,130)] _ (Ov n3 h3 iu n4 (n4+1) ((aH a).length+1) (k+2) s U Q) (k+2) ?_ (Ye1 (cu:=some ((aH a).length+1)) (by omega) lU dU m3 j1 j2 (q9 n4) (by omega) (by simp[hr]) (by simp[hr]) (by simp)) ?_
   ·refine⟨rfl,hW,hK,hQ,0,U,by omega,by simp,hU,lU,dU,fun _ _=>rfl,?_⟩
    obtain⟨x,hx⟩:∃x,val B U=2^s*x:=by
     refine⟨a-val B Q*b,?_⟩
     rw[kP]at he
     rw[Nat.mul_sub,fR _ a,<-he]
     have:val B Q*(b*2^s)=2^s*(val B Q*b):=by grind
     omega
    have rF:dz U 0%2^s=0:=by
     have h1:=A4 (b:=B) (l:=U) (k:=0)
     have h2:=Cu B U 1 (by omega)
     simp only[List.take_zero,val,Ag,Nat.one_mul,vW,Nat.pow_one]at h1 h2
     rw[h1,hx]at h2
     have h3:B=2^s*2^(64-s):=by rw[<-gL,show s+(64-s)=64 by omega];rfl
     rw[h3,tZ]at h2
     have h4:dz U 0=2^s*(x-2^(64-s)*val (2^s*2^(64-s)) (U.drop 1)):=by rw[Nat.mul_sub];omega
     rw[h4,Nat.mul_mod_right]
    rw[rF];simp[val]
   rintro e r2 ⟨H2,n5,W2⟩ dW ⟨rfl,eZ,ft,kO,hQ2,i,o,hi,J5,aE,lo,dO,eh,vH⟩
   simp only at eZ ft kO hQ2 aE
   subst eZ
   have:i=k+2:=by omega
   subst this
   simp[dW,hr]
   refine au (Ba (l:=Q) (Sl.row (e:=212) (rw:=true) (q9 n4) hQ2 (by rw[bn];omega) (by simp)) (by omega)) ?_
   rintro q2 h6 n6 k6 hq
   have Ul:Sl h6 n6 (.slice iu 0 ((aH a).length+1) (some ((aH a).length+1)) 1) (dg o):=(Sl.row (h:=H2) (N:=n4+1) (by omega) aE (by rw[bn];exact lo) (by simp)).ae k6
   obtain⟨v',e1,e2⟩:=Mq (w:=[]) Ul (lo:=0) (hi:=k+2) (tN _) (by rw[bn];omega) none (some (.int .i64 ((k+2:Nat):Int))) (.inr ⟨rfl,rfl⟩) (.inl rfl)
   rw[show ((k+2:Nat):Int)=(k:Int)+2 by omega]at e1
   simp[dW,hr,HH,az,e1]
   rw[yO,show (dg o).take (k+2)=dg (o.take (k+2)) by simp[dg]]at e2
   refine au (Ba (l:=o.take (k+2)) e2 (by rw[jH];omega)) ?_
   rintro r3 h7 n7 k7 Kc
   rw[A5 dQ]at hq
   rw[A5 (fun d hd=>dO d (Ae hd))]at Kc
   rw[kP]at he eJ
   have hbs:0<b*2^s:=sh hb (qA s)
   have EN:dz U (k+2)=0:=by simp[dz,hz (k+2) (by omega) (by omega)]
   have hUt:val B (U.take (k+2))=val B U:=by
    have h1:=Cu B U (k+2) (by omega)
    rw[Um (fun t t1 t2=>hz t (by omega) (by omega))]at h1
    omega
   have EL:val B Q=a/b:=by
    have h1:a*2^s/(b*2^s)=val B Q:=by
     rw[<-he,Nat.add_mul_div_right _ _ hbs,xC eJ];omega
    rw[Nd _ _ (qA s)]at h1
    exact h1.symm
   have EM:val B (o.take (k+2))=a%b:=by
    have h1:a*2^s%(b*2^s)=val B U:=by
     rw[<-he,Nat.add_mul_mod_self_right,vw eJ]
    rw[IG,fR]at h1
    rw[EN,Nat.zero_mod,Nat.mul_zero,ri,hUt,<-h1]at vH
    exact Nat.eq_of_mul_eq_mul_left (qA s) vH
   rw[EL]at hq
   rw[EM]at Kc
   simp[cD.cG,aA]
   have kk:=(k1.trans k3).trans k4
   exact⟨Hi kk.le ft,((kk.trans kO).trans k6).trans k7,q2,r3,⟨rfl,rfl⟩,Sl.ae hq k7,Kc⟩
variable {N n:Nat} {h:T O} {x:V} {z:Int}
def A.b69:=A.q Tryz.f69
def A.k69:=@A.kk 69 5 [.cell 2 (some 2)] A.b69 (by kernel_rfl) rfl
def A.b176:=A.q Tryz.f176
def A.k176:=@A.kk 176 7 [.tmp 2] A.b176 (by kernel_rfl) rfl
def A.b209:=A.q Tryz.f209
def A.k209:=@A.kk 209 9 [.cell 2 (some 2)] A.b209 (by kernel_rfl) rfl
def A.b179:=A.q Tryz.f179
def A.k179:=@A.kk 179 10 [.tmp 2] A.b179 (by kernel_rfl) rfl
def A.b134:=A.q Tryz.f134
def A.k134:=@A.kk 134 26 [.cell 2 (some 2)] A.b134 (by kernel_rfl) rfl
def A.b180:=A.q Tryz.f180
def A.k180:=@A.kk 180 24 [.tmp 2,.tmp 3] A.b180 (by kernel_rfl) rfl
def A.b181:=A.q Tryz.f181
def A.k181:=@A.kk 181 50 [.cell 4 (some 2)] A.b181 (by kernel_rfl) rfl
def vP(z:Int):Int:=if z<0 then -1 else 1
def In(h:T O)(N:Nat)(x:V)(z:Int):Prop:=
 (x=.agg [.int .i64 z,.aa]/\ -9223372036854775808<=z/\z<9223372036854775808)\/
 ∃i o l c,x=.agg [.int .i64 (vP z),.slice i o l c 1]/\Wn h N (.slice i o l c 1) z.natAbs/\9223372036854775808<=z.natAbs
def In.ae{h':T O}{N':Nat}(s:In h N x z)(k:ad h N h' N'):In h' N' x z:=by
 rcases s with s|⟨i,o,l,c,s1,s2,s3⟩
 ·exact .inl s
 ·exact .inr ⟨i,o,l,c,s1,s2.ae k,s3⟩
def In.small(h1: -9223372036854775808<=z)(h2:z<9223372036854775808):In h N (.agg [.int .i64 z,.aa]) z:=.inl ⟨rfl,h1,h2⟩
def In.cells(s:In h N x z):∃n u,x=.agg [.int .i64 n,u]/\V.one u=true:=by
 rcases s with⟨rfl,_⟩|⟨i,o,l,c,rfl,_⟩
 ·exact⟨_,_,rfl,rfl⟩
 ·exact⟨_,_,rfl,rfl⟩
def In.nu{n:Int}{u:V}(s:In h N (.agg [.int .i64 n,u]) z):∀x∈[V.int .i64 n,u],∀m,x≠.int .u64 m:=by
 intro x hx m hc
 simp only[jy,List.not_mem_nil,or_false]at hx
 rcases hx with rfl|rfl
 ·cases hc
 ·subst hc
  rcases s with⟨e,_⟩|⟨_,_,_,_,e,_⟩
  ·simp at e
  ·simp at e
def aG{h1:T O}{n1:Nat}(k:ad h n h1 n1)(o:O):ad h n (h1.set n1 o) (n1+1):=(k.set k.le).up (wC _)
def wl(z:Int):Nat:=(aH z.natAbs).length
def EO:Fn A.C 69 [.int .i64 z] h N (fun v _ _=>v=.agg [.int .i64 z,.aa]):=by
 intro w
 rw[aQ,A.k69 (by simp)]
 simp[A.b69,aL,aM,ag,aA]
 exact(((ad.refl.set (aR N)).set (aR N)).up (wC N))
def cY(z:Int):Int:=if z<0 then -1 else if z=0 then 0 else 1
def EP(hx:In h N x z):Fn A.C 176 [x] h N (fun v _ _=>v=.int .i64 (cY z)):=by
 intro w
 rw[aQ,A.k176 (by simp)]
 rcases hx with⟨rfl,_⟩|⟨i,o,l,c,rfl,_,hz⟩
 ·obtain h1|h1|h1:z<0\/z=0\/0<z:=by omega
  ·have e1:z<1:=by omega
   have e2:¬ -1<z:=by omega
   simp[A.b176,aL,aA,wH,pr,As,vA,zw,wE,h1,e1,e2,cY]
   exact aG ad.refl _
  ·subst h1
   simp[A.b176,aL,aA,wH,pr,As,vA,zw,wE,cY]
   exact aG ad.refl _
  ·have e1:¬z<1:=by omega
   have e2:¬z<0:=by omega
   have e3:¬z=0:=by omega
   simp[A.b176,aL,aA,wH,pr,As,vA,zw,wE,e1,e2,e3,cY]
   exact aG ad.refl _
 ·by_cases h1:z<0
  ·simp[A.b176,aL,aA,wH,pr,As,vA,zw,wE,vP,cY,h1]
   exact aG ad.refl _
  ·have e3:¬z=0:=by omega
   simp[A.b176,aL,aA,wH,pr,As,vA,zw,wE,vP,cY,h1,e3]
   exact aG ad.refl _
def Un(hz: -9223372036854775808<=z)(hm:z<9223372036854775808){st:St}:A.C.call (.func 179 [] []) [.int .i64 z] st=some (.int .u64 (z.natAbs:Nat),st):=by
 apply Call.eq
 rw[aQ,A.k179 (by simp)]
 by_cases e1:z<0
 ·have e2:bb .u64 (IntKind.wrap .i64 (0-z))=(z.natAbs:Nat):=by
   rw[Hf]
   by_cases e3:z= -9223372036854775808
   ·subst e3;decide
   ·rw[JY (by omega) (by omega)];omega
  rw[Int.zero_sub]at e2
  simp[A.b179,e1,e2]
 ·have e2:bb .u64 z=(z.natAbs:Nat):=by rw[Co (by omega) (by omega)];omega
  simp[A.b179,e1,e2]
def ER(h:n<B)(h0:n≠0):aH n=[n]:=by
 rw[lD h0,xC h,pB,vw h]
def Bb(hx:In h N x z):Fn A.C 180 [x] h N (fun v h' n'=>∃u,v=.aY [.bool (decide (z<0)),u]/\Wn h' n' u z.natAbs):=by
 intro w
 rw[aQ,A.k180 (by simp)]
 rcases hx with⟨rfl,h1,h2⟩|⟨i,o,l,c,rfl,hw,hz⟩
 ·by_cases h0:z=0
  ·subst h0
   simp[A.b180,aL,aW,aA]
   refine⟨aG ad.refl _,?_⟩
   unfold Wn;rw[pB];exact Sl.nil
  ·have hs:=fun st=>Un h1 h2 (st:=st)
   have d1:¬N=N+1:=by omega
   simp[A.b180,aL,ag,aW,h0,hs,aA,cD.cG]
   refine⟨aG (aG ad.refl _) _,?_⟩
   unfold Wn
   rw[ER (by unfold B;omega) (by omega)]
   exact Sl.row (e:=212) (rw:=true) (L:=1) (by omega) (by simp[dg]) (by simp) (by simp)
 ·have e1:(vP z<0)=(z<0):=by unfold vP;split<;>simp_all
  simp[A.b180,aL,aW,aA,e1,cD.cG]
  refine⟨aG ad.refl _,hw.ae (aG ad.refl _)⟩
def Cw{u:V}{b:Bool}(hu:Wn h N u n)(hl:(aH n).length<1099511627776):Fn A.C 181 [.bool b,u] h N (fun v h' n'=>In h' n' v (if b=true then -(n:Int) else n)):=by
 intro w
 have lu:=hu.len
 rw[bn]at lu
 rw[aQ,A.k181 (by simp)]
 have kk:∀o1 o2:O,ad h N ((h.set N o1).set N o2) (N+1):=fun o1 o2=>(aG ad.refl o1).set (aR N)
 by_cases h0:n=0
 ·subst h0
  rw[pB]at lu
  simp[A.b181,lu,aL,aM,ag,aA]
  refine⟨kk _ _,?_⟩
  have:(if b=true then -((0:Nat):Int) else ((0:Nat):Int))=0:=by split<;>rfl
  exact In.small (by omega) (by omega)
 ·by_cases h1:n<18446744073709551616
  ·rw[ER h1 h0]at lu
   obtain⟨i,o,c,e,rw,p1,p2,p3,p4⟩:=hu.at (eY (l:=aH n) (j:=0) (n:=n) (by rw[ER h1 h0];rfl))
   rw[ri]at p4
   have lu:qh u=some 1:=lu
   have bK:¬i=N:=by omega
   by_cases h2:n<=9223372036854775807
   ·have ks:(n:Int)<=9223372036854775807:=by omega
    have w1:bb .i64 (n:Int)=n:=cb (by omega) (by omega)
    have w2:IntKind.wrap .i64 (-(n:Int))= -(n:Int):=JY (by omega) (by omega)
    cases b
    ·simp[A.b181,lu,p1,p3,p4,bK,ks,w1,aL,aM,ag,aA]
     exact⟨kk _ _,In.small (by omega) (by omega)⟩
    ·simp[A.b181,lu,p1,p3,p4,bK,ks,w1,w2,aL,aM,ag,aA]
     exact⟨kk _ _,In.small (by omega) (by omega)⟩
   ·have ks:¬(n:Int)<=9223372036854775807:=by omega
    obtain⟨i2,o2,l2,c2,rfl⟩:∃i o l c,u=.slice i o l c 1:=by
     rcases hu with⟨hu,_⟩|⟨i,o,cp,c,e,rw,hu,_⟩
     ·rw[ER h1 h0]at hu;simp[dg]at hu
     ·exact⟨_,_,_,_,hu⟩
    cases b
    ·simp[A.b181,lu,p1,p3,p4,bK,ks,aL,aM,ag,aA]
     refine⟨kk _ _,.inr ⟨i2,o2,l2,c2,?_,hu.ae (kk _ _),?_⟩⟩
     ·simp[vP]
     ·omega
    ·simp[A.b181,lu,p1,p3,p4,bK,ks,aL,aM,ag,aA]
     refine⟨kk _ _,.inr ⟨i2,o2,l2,c2,?_,?_,?_⟩⟩
     ·simp[vP];omega
     ·simpa using hu.ae (kk _ _)
     ·omega
  ·have zW:2<=(aH n).length:=by
    rw[lD h0,lD (by unfold B;omega)];simp
   have c0:¬((aH n).length:Int)=0:=by omega
   have c1:¬((aH n).length:Int)=1:=by omega
   have c2:¬(aH n).length=1:=by omega
   have c3:¬aH n=[]:=by intro h;rw[h]at zW;simp at zW
   rcases hu with⟨hu,_⟩|⟨i,o,cp,c,e,rw,rfl,hu⟩
   ·exfalso
    have:=congrArg List.length hu
    rw[bn]at this
    simp at this
    exact c3 this
   have hw:Wn h N (.slice i o (dg (aH n)).length cp 1) n:=.inr ⟨i,o,cp,c,e,rw,rfl,hu⟩
   rw[bn]at hw
   cases b
   ·simp[A.b181,c1,c3,aL,aM,ag,aA]
    refine⟨kk _ _,.inr ⟨i,o,(aH n).length,cp,?_,hw.ae (kk _ _),?_⟩⟩
    ·simp[vP]
    ·omega
   ·simp[A.b181,c1,c3,aL,aM,ag,aA]
    refine⟨kk _ _,.inr ⟨i,o,(aH n).length,cp,?_,?_,?_⟩⟩
    ·simp[vP];omega
    ·simpa using hw.ae (kk _ _)
    ·omega
def Sl.aC{v:V}{l:List Nat}{i:Nat}{c0 c1:List V}{e0 e1:TypeId}{w0 w1:Bool}(s:Sl h N v (dg l))(hr:h.get i=some (.cells c0 e0 w0))(hn:∀x∈c0,∀n,x≠.int .u64 n)(hc:c1.length=c0.length):Sl (h.set i (.cells c1 e1 w1)) N v (dg l):=by
 rcases s with s|⟨i',o,cp,c,e,rw,rfl,q1,q2,q3,q4,q5⟩
 ·exact .inl s
 ·by_cases hi:i'=i
  ·subst hi
   rw[hr]at q2
   simp only[ak,O.cells.injEq]at q2
   obtain⟨rfl,rfl,rfl⟩:=q2
   cases l with
   |nil=>
    refine .inr ⟨i',o,cp,c1,e1,w1,rfl,q1,by rw[T.ai,aJ rfl],?_,by simpa[hc]using q4,q5⟩
    intro j hj
    simp[dg]at hj
   |cons d l=>
    exfalso
    have:=q3 0 (by simp[dg])
    have hm:=fW (l:=c0) (i:=o+0) (a:=.int .u64 d) (by rw[this];simp[dg])
    exact hn _ hm _ rfl
  ·exact .inr ⟨i',o,cp,c,e,rw,rfl,q1,by rw[T.ai,aq hi];exact q2,q3,q4,q5⟩
def In.aC{i:Nat}{c0 c1:List V}{e0 e1:TypeId}{w0 w1:Bool}(s:In h N x z)(hr:h.get i=some (.cells c0 e0 w0))(hn:∀x∈c0,∀n,x≠.int .u64 n)(hc:c1.length=c0.length):In (h.set i (.cells c1 e1 w1)) N x z:=by
 rcases s with s|⟨i',o,l,c,s1,s2,s3⟩
 ·exact .inl s
 ·exact .inr ⟨i',o,l,c,s1,Sl.aC s2 hr hn hc,s3⟩
def FZ(hx:In h N x z)(hl:wl z<500000000000):Fn A.C 134 [x] h N (fun v h' n'=>In h' n' v (-z)):=by
 intro w
 rw[aQ,A.k134 (by simp)]
 have rest:∀{x:V},In h N x z->∀(h1:T O) (N1:Nat),ad h N h1 N1->Fn A.C 180 [x] h1 N1 (fun v h' n'=>∃u,v=.aY [.bool (decide (z<0)),u]/\Wn h' n' u z.natAbs):=fun hx h1 N1 k=>Bb (hx.ae k)
 have fin:∀{v h' n'},In h' n' v (if (!decide (z<0))=true then -(z.natAbs:Int) else z.natAbs)->In h' n' v (-z):=fun {v h' n'} q=>by
  have e:(if (!decide (z<0))=true then -(z.natAbs:Int) else (z.natAbs:Int))= -z:=by
   by_cases h:z<0<;>simp[h]<;>omega
  rw[e]at q;exact q
 by_cases hz:x=.agg [.int .i64 z,.aa]/\z≠ -9223372036854775808/\ -9223372036854775808<=z/\z<9223372036854775808
 ·obtain⟨rfl,h0,h1,h2⟩:=hz
  have w2:IntKind.wrap .i64 (-z)= -z:=JY (by omega) (by omega)
  simp[A.b134,aL,aM,ag,aW,h0,w2,aA]
  exact⟨(aG (aG ad.refl _) _).set (by omega),In.small (by omega) (by omega)⟩
 ·rcases id hx with⟨rfl,h1,h2⟩|⟨i,o,l,c,rfl,_⟩
  ·have h0:z= -9223372036854775808:=by
    apply Decidable.byContradiction
    intro hc
    exact hz ⟨rfl,hc,h1,h2⟩
   have hp:=rest hx _ _ (aG (aG ad.refl (.cells [.int .i64 z,.aa] 70 true)) (.cells [.int .i64 0,.aa] 70 true))
   subst h0
   simp[A.b134,aL,aM,aW]
   refine au hp ?_
   rintro _ h3 n3 k3 ⟨u,rfl,hu⟩
   have vT:=k3.le
   have g0:=k3.get (N+1) (by omega)
   simp at g0
   simp[]
   refine au (Cw hu (by unfold wl at hl;omega)) ?_
   rintro v h4 n4 k4 hv
   have tj:=k4.le
   have g1:=(k4.get (N+1) (by omega)).trans g0
   obtain⟨n5,u5,rfl,iW⟩:=hv.cells
   unfold V.one at iW
   simp[g1,aL,aM,ag,bS,aA,iW]
   have kk:=(((aG (aG ad.refl _) _).trans k3).trans k4).set (h:=h) (n:=N) (i:=N+1) (o:=.cells [.int .i64 n5,u5] 70 true) (by omega)
   exact⟨kk,(fin hv).aC g1 (by simp) rfl⟩
  ·have hp:=rest hx _ _ (aG (aG ad.refl (.cells [.int .i64 (vP z),.slice i o l c 1] 70 true)) (.cells [.int .i64 0,.aa] 70 true))
   simp[A.b134,aL,aM,aW]
   refine au hp ?_
   rintro _ h3 n3 k3 ⟨u,rfl,hu⟩
   have vT:=k3.le
   have g0:=k3.get (N+1) (by omega)
   simp at g0
   simp[]
   refine au (Cw hu (by unfold wl at hl;omega)) ?_
   rintro v h4 n4 k4 hv
   have tj:=k4.le
   have g1:=(k4.get (N+1) (by omega)).trans g0
   obtain⟨n5,u5,rfl,iW⟩:=hv.cells
   unfold V.one at iW
   simp[g1,aL,aM,ag,bS,aA,iW]
   have kk:=(((aG (aG ad.refl _) _).trans k3).trans k4).set (h:=h) (n:=N) (i:=N+1) (o:=.cells [.int .i64 n5,u5] 70 true) (by omega)
   exact⟨kk,(fin hv).aC g1 (by simp) rfl⟩
end
end Go.Mx
