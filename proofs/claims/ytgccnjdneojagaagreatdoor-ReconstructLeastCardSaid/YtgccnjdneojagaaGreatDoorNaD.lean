/-num-/
import Derived.Test.YtgccnjdneojagaaGreatDoorNaG
set_option linter.all false
namespace Go.Mx
noncomputable section
open Go Go.Proofs
variable {N b:Nat}
set_option maxHeartbeats 8000000
set_option maxRecDepth 1000000
def A.Fl:=A.q Tryz.f211
def A.l8:=A.ql A.Fl 2 []
def A.oP:=A.ql A.Fl 1 []
def A.oQ:=A.ql A.Fl 0 []
def A.b211:=(fun x0 x1 x2=>A.qb A.Fl [x0,x1,x2]) A.oQ A.oP A.l8
def A.k211:=@A.kk 211 137 [.tmp 4,.tmp 5] A.b211 (by kernel_rfl) rfl
def Yrx{x y s:Nat}(hx:x<B)(h0:0<s)(hs:s<64):ko (ax x s) (bR y (64-s))<B/\2^s*ko (ax x s) (bR y (64-s))+x%2^s=x+B*(y%2^s):=by
 have hc:ax x s<2^(64-s):=by unfold ax;apply (su (s_ s)).2;rw[<-mJ,show 64-s+s=64 by omega];exact hx
 rw[UT (by omega) hc];refine⟨Zrq (by omega) hc,?_⟩;have e:bR y (64-s)=(y%2^s)*2^(64-s):=by
  unfold bR;have:(18446744073709551616:Nat)=2^s*2^(64-s):=by rw[<-mJ,show s+(64-s)=64 by omega]
  rw[this,Ov]
 have e2:2^s*(y%2^s*2^(64-s))=B*(y%2^s):=by
  have:B=2^s*2^(64-s):=by rw[<-mJ,show s+(64-s)=64 by omega];rfl
  rw[this];generalize 2^s=p;generalize 2^(64-s)=q;grind
 rw[e,vF,e2];unfold ax;have:=wI x (2^s);omega
structure UU (h:T O) (N iq:Nat) (X:List Nat) (b m:Nat) (r:T V) (st:St):Prop where
 n:st.n=N+1
 w:ay N st.w=[]
 ad:ab h N st.h (N+1)
 ex:∃(rest:Nat) (Q:List Nat),m<=X.length/\r.get 8=some (.int .i64 ((m:Int)-1))/\r.get 7=some (.int .u64 rest)/\st.h.get N=some (.cells (dg Q) 199 true)/\Q.length=X.length/\Dg Q/\val B (X.drop m)=b*val B (Q.drop m)+rest/\rest<b
def Yn4{h:T O}{N b:Nat}{va vb:V}{X:List Nat}{r0:T V}(ha:Sl h N va (dg X))(hb:Sl h N vb (dg [b]))(dA:Dg X)(Ic:b<B)(hl:X.length<1099511627776)
  (a0:r0.get 0=some va) (a1:r0.get 1=some vb) (a6:r0.get 6=some (.slice N 0 X.length (some X.length) 1)):
  ∀k r st,(∀t,j_ [(7,8),(30,48)] t=false->r.get t=r0.get t)->Fx [(7,8),(30,48)] r0 137 ⟨r,137,[]⟩->UU h N N X b k r st->Code A.C none A.oQ ⟨r,137,[]⟩ st (Rd [(7,8),(30,48)] r0 137 (UU h N N X b) k (fun e r st=>e=.exit 0/\UU h N N X b 0 r st)):=by
 rintro m r ⟨H,n1,W⟩ hr hf ⟨hn,hW,hK,rest,Q,hm,h8,h7,aA,hQ,dQ,he,aE⟩;simp only at hn hW hK aA;subst hn;have la:=ha.len;have lb:=hb.len;rw[bz]at la lb;rw[bu];cases m with
 |zero=> simp[A.oQ,hf,h8];exact⟨rfl,hW,hK,rest,Q,by omega,by simp[h8],by simp[h7],aA,hQ,dQ,he,aE⟩
 |succ m=>
  have gx:=ct (l:=X) (i:=m) (by omega);generalize X[m]'(by omega)=x at*;have hx:x<B:=dA.get gx;obtain⟨i1,o1,c1,e1,w1,p1,p2,p3,p4⟩:=ha.at (fZ gx);have p3:=(hK.get _ p2).trans p3;obtain⟨i2,o2,c2,e2,w2,q1,q2,q3,q4⟩:=hb.at (fZ (l:=[b]) (j:=0) rfl);have q3:=(hK.get _ q2).trans q3;rw[gE]at q4;have gq:=ct (l:=Q) (i:=m) (by omega);have rC:((m+1:Nat):Int)-1=(m:Int):=by omega
  have iH:m<X.length:=by omega
  have AT:i1<N+1:=by omega
  have PV:i2<N+1:=by omega
  have zat:¬i1=N:=by omega
  have np:¬i2=N:=by omega
  have zau:¬N=i1:=by omega
  have zav:¬N=i2:=by omega
  rw[rC]at h8;have hd:=Ybl (h:=H) (N:=N+1) aE Ic hx;obtain⟨q,hq⟩:∃q,(rest*18446744073709551616+x)/b=q:=⟨_,rfl⟩;obtain⟨rr,Fm⟩:∃q,(rest*18446744073709551616+x)%b=q:=⟨_,rfl⟩;rw[hq,Fm]at hd;have hinv:b*q+rr=rest*B+x:=by have:=wI (rest*18446744073709551616+x) b;rw[hq,Fm]at this;exact this
  have vo:rr<b:=by rw[<-Fm];exact m8 _ (by omega)
  have JX:q<B:=by rw[<-hq];apply (su (by omega)).2;have:=jz B (show rest+1<=b by omega);rw[kg B b];rw[js]at this;unfold B at*;omega
  simp[A.oQ,hr,h8,h7,la,lb,a0,a1,a6,p1,p3,p4,q1,q3,q4,iH,AT,PV];refine ar hd ?_;rintro _ H n2 DL ⟨rfl,rfl,rfl⟩;simp(disch:=first|(simp;done)|omega|(simp only[bz,cm,bl];omega)|rfl) [hr,hf,h8,h7,la,lb,a0,a1,a6,aA,rF,iH,AT,PV,zat,np,zau,zav,dv.dw];refine⟨m,by omega,rfl,by simp[ay,hW],hK.set (aM _),rr,Q.set m q,by omega,by simp,by simp,by simp,by simp[hQ],dQ.v_ JX,?_,vo⟩;rw[DM gx,DM (jW (by omega)),List.drop_set_of_lt (by omega),he,vF,vF];have:B*(b*val B (Q.drop (m+1)))=b*(B*val B (Q.drop (m+1))):=by grind
  rw[kg rest]at hinv;omega
structure UW (N n2:Nat) (h2:T O) (iu iq Nq lu k A0:Nat) (Y:List Nat) (m:Nat) (r:T V) (st:St):Prop where
 n:st.n=Nq
 w:ay n2 st.w=[]
 ad:ab h2 n2 st.h Nq
 ex:∃(U Q:List Nat),r.get 14=some (.int .i64 ((m:Int)-1))/\st.h.get iu=some (.cells (dg U) 199 true)/\st.h.get iq=some (.cells (dg Q) 199 true)/\U.length=lu/\Q.length+(k+2)=lu/\m<=Q.length/\Dg U/\Dg Q/\(∀t,m+k+2<=t->t<lu->U[t]?=some 0)/\val B (U.drop m)<val B Y/\val B U+B^m*(val B (Q.drop m)*val B Y)=A0
def Yn3{h2:T O}{N n2 iu iq Nq lu k v1 A0:Nat}{Y:List Nat}{v:V}{r0:T V}{cq:Option Nat}(hv:Sl h2 n2 v (dg Y))(hY:Y.length=k+2)(dY:Dg Y)(Hh:lu<1099511627776)(f1:Y[k+1]?=some v1)(nT:0<v1)(PW:n2<=iu)(Hi:iu<iq)(hq:iq<Nq)
  (rP:k+2<lu) (JY:r0.get 10=some v) (uL:r0.get 11=some (.slice iu 0 lu (some lu) 1)) (DN:r0.get 12=some (.int .i64 ((k:Int)+2))) (Lo:r0.get 13=some (.slice iq 0 (lu-(k+2)) cq 1)):
  ∀x r st,(∀t,j_ [(14,14),(80,95)] t=false->r.get t=r0.get t)->Fx [(14,14),(80,95)] r0 137 ⟨r,137,[]⟩->UW N n2 h2 iu iq Nq lu k A0 Y x r st->Code A.C none A.oP ⟨r,137,[]⟩ st (Rd [(14,14),(80,95)] r0 137 (UW N n2 h2 iu iq Nq lu k A0 Y) x (fun e r st=>e=.exit 2/\UW N n2 h2 iu iq Nq lu k A0 Y 0 r st)):=by
 rintro m r ⟨H,n1,W⟩ hr hf ⟨hn,hW,hK,U,Q,qV,hU,hQ,lU,lQ,hm,dU,dQ,hz,aE,he⟩;simp only at hn hW hK hU hQ;subst hn;rw[bu];cases m with
 |zero=> simp[A.oP,hf,qV];exact⟨rfl,hW,hK,U,Q,by simp[qV],hU,hQ,lU,lQ,hm,dU,dQ,hz,aE,he⟩
 |succ m=>
  have rC:((m+1:Nat):Int)-1=(m:Int):=by omega
  rw[rC]at qV;have gu:=ct (l:=U) (i:=m) (by omega);generalize U[m]'(by omega)=um at*;have zbQ:um<B:=dU.get gu;have hsK:oz ⟨H,n1,W⟩ 1 (some (.slice iu 0 lu (some lu) 1)) (some (some (.int .i64 m))) (some (some (.int .i64 ((m:Int)+((k:Int)+2)+1)))) (some none)=some (.slice iu m (k+3) (some (lu-m)) 1,⟨H,n1,W⟩):=by
   have e1:(0:Int)<=(m:Int)+((k:Int)+2)+1/\(m:Int)+((k:Int)+2)+1<=(lu:Int):=by omega
   have e2:((m:Int)+((k:Int)+2)+1).toNat=m+k+3:=by omega
   have e3:¬lu=m:=by omega
   have e4:m<=m+k+3:=by omega
   have e5:m+k+3-m=k+3:=by omega
   have e6:(m:Int)<=((m+k+3:Nat):Int):=by omega
   simp only[oz,rQ,aC,dW,m_,Option.map,Src.ev,e1,e2,e3,e5,e6,and_self,if_true,if_false,Int.natCast_nonneg,Int.toNat_natCast,ne_eq,not_true_eq_false,Option.isSome,Option.isNone,EA,false_or,ix,yR,AH]
  have hmq:m<lu-(k+2):=by omega
  simp(disch:=first|(simp;done)|omega|(simp only[bz,cm,bl];omega)|rfl) [A.oP,hr,hf,qV,JY,uL,DN,Lo,F7,aC,hsK];refine BL (Yfm (n2:=n2) (k:=k) (U:=U) (v1:=v1) (hv.ad ⟨aM _,fun i hi=>hK.get i hi⟩) hY dY PW (by omega) (by omega) (by omega) hU dU f1 nT (fun t h1 h2=>hz t (by omega) (by omega)) ?_) ?_
  ·rw[DM gu];have:=lF B aE;rw[Nat.mul_succ]at this;omega
  rintro x ⟨H2,n3,W2⟩ ⟨s1,s2,s3,q,o,rfl,s4,s5,s6,s7,s8,s9,s10,s11⟩;simp only at s1 s2 s3 s5;subst s1;have PX:H2.get iq=some (.cells (dg Q) 199 true):=by rw[s3 iq (by omega)];exact hQ
  simp(disch:=first|(simp;done)|omega|(simp only[bz,cm,bl];omega)|rfl) [hr,hf,qV,JY,uL,DN,Lo,hmq,PX,rF];have xS:¬iq<n2:=by omega
  have hHe:∀i,i<n2->(H2.set iq (.cells (dg (Q.set m q)) 199 true)).get i=h2.get i:=fun i hi=>by rw[T.ag,ak (by omega),s3 i (by omega)];exact hK.get i hi
  refine⟨m,by omega,rfl,?_,⟨by omega,hHe⟩,o,Q.set m q,by simp,by simp[s5,(show ¬iu=iq by omega)],by simp,by omega,by simp;omega,by simp;omega,s7,dQ.v_ s4,?_,s11,?_⟩
  ·simp only[ay,xS,if_false];rw[s2];exact hW
  ·intro t h1 mW;exact s9 t (by omega) (by omega)
  have eU:=Hj B U m (by omega);have eO:=Hj B o m (by omega);have et:o.take m=U.take m:=by
   apply nN;intro t;rw[jZ,jZ];split
   ·exact s8 t (by omega)
   rfl
  rw[DM (jW (by omega)),List.drop_set_of_lt (by omega),eO,et];rw[eU,<-s10,im]at he;rw[<-he];generalize val B (U.take m)=z1;generalize val B (o.drop m)=z2;generalize val B Y=z3;generalize val B (Q.drop (m+1))=z4;generalize B^m=z5;grind
structure UX (n2:Nat) (h2:T O) (iu iq Nq lu n s:Nat) (U Q:List Nat) (m:Nat) (r:T V) (st:St):Prop where
 hn:st.n=Nq
 w:ay n2 st.w=[]
 ad:ab h2 n2 st.h Nq
 q:st.h.get iq=some (.cells (dg Q) 199 true)
 ex:∃(i:Nat) (o:List Nat),i+m=n/\r.get 97=some (.int .i64 i)/\st.h.get iu=some (.cells (dg o) 199 true)/\o.length=lu/\Dg o/\(∀t,i<=t->o[t]?=U[t]?)/\2^s*val B (o.take i)=val B (U.take i)+B^i*(dz U i%2^s)
def Ylj{h2:T O}{n2 iu iq Nq lu n s:Nat}{U Q:List Nat}{r0:T V}{cu:Option Nat}(Hh:lu<1099511627776)(lU:U.length=lu)(dU:Dg U)(hs:s<64)(PW:n2<=iu)(Hi:iu<iq)(hq:iq<Nq)(hn:n<lu)
  (a9:r0.get 9=some (.int .i64 s)) (uL:r0.get 11=some (.slice iu 0 lu cu 1)) (a96:r0.get 96=some (.int .i64 n)):
  ∀x r st,(∀t,j_ [(15,15),(97,130)] t=false->r.get t=r0.get t)->Fx [(15,15),(97,130)] r0 137 ⟨r,137,[]⟩->UX n2 h2 iu iq Nq lu n s U Q x r st->Code A.C none A.l8 ⟨r,137,[]⟩ st (Rd [(15,15),(97,130)] r0 137 (UX n2 h2 iu iq Nq lu n s U Q) x (fun e r st=>e=.exit 4/\UX n2 h2 iu iq Nq lu n s U Q 0 r st)):=by
 rintro m r ⟨H,n1,W⟩ hr hf ⟨wA,hW,hK,hQ,i,o,hi,PY,aA,lo,dO,ff,he⟩;simp only at wA hW hK hQ aA;subst wA;rw[bu];cases m with
 |zero=>
  have:i=n:=by omega
  subst this;simp[A.l8,hr,hf,PY,a96];exact⟨rfl,hW,hK,hQ,i,o,by omega,by simp[PY],aA,lo,dO,ff,he⟩
 |succ m=>
  have aE:i<n:=by omega
  have gx:U[i]?=some (U[i]'(by omega)):=ct (by omega);have gy:U[i+1]?=some (U[i+1]'(by omega)):=ct (by omega);generalize U[i]'(by omega)=x at*;generalize U[i+1]'(by omega)=y at*;have hx:x<B:=dU.get gx;have hy:y<B:=dU.get gy;have ox:o[i]?=some x:=by rw[ff i (aM _)];exact gx
  have oy:o[i+1]?=some y:=by rw[ff (i+1) (by omega)];exact gy
  have yH:i<lu:=by omega
  have PZ:i+1<lu:=by omega
  have zaw:(i:Int)+1<(lu:Int):=by omega
  have sH:dz U i=x:=by simp[dz,gx]
  have hzy:dz U (i+1)=y:=by simp[dz,gy]
  have xS:¬iu<n2:=by omega
  have hiu:iu<n1:=by omega
  have hqu:¬iq=iu:=by omega
  have hsB:ax x s<B:=Zz1 hx;have zby:ax x s<18446744073709551616:=hsB;have zbR:x<18446744073709551616:=hx;have JZ:y<18446744073709551616:=hy;have si:(s:Int)<=64:=by omega
  have K1:=fun v1 v2=>(hK.set (o:=v1) PW).set (i:=iu) (o:=v2) PW;by_cases h0:0<s
  ·have jJ:(0:Int)<(s:Int):=by omega
   obtain⟨z1,z2⟩:=Yrx (y:=y) hx h0 hs;have ox2:(o.set i (ax x s))[i]?=some (ax x s):=jW (by omega);have oy2:(o.set i (ax x s))[i+1]?=some y:=by rw[eW (by omega)];exact oy
   have wc:(o.set i (ax x s)).length=lu:=by simp[lo]
   have zax:bn .i64 (64-(s:Int))=((64-s:Nat):Int):=by rw[cL (by omega) (by omega)];omega
   simp(disch:=first|(simp;done)|omega|(simp only[bz,cm,bl];omega)|rfl) [-getElem?_pos,A.l8,hr,hf,PY,a96,a9,uL,aE,yH,PZ,aA,fZ ox,rF,h0,jJ,zaw,zax,fZ ox2,fZ oy2,wc,hiu,dv.dw];refine⟨m,by omega,rfl,by simp[ay,hW,xS],K1 _ _,by simp[hqu,hQ],i+1,(o.set i (ax x s)).set i (ko (ax x s) (bR y (64-s))),by omega,by simp,by simp,by simp[lo],(dO.v_ hsB).v_ z1,?_,?_⟩
   ·intro t ht;rw[eW (by omega),eW (by omega)];exact ff t (by omega)
   rw[List.set_set,Fj,Fj,sH,hzy,show dz (o.set i (ko (ax x s) (bR y (64-s)))) i=ko (ax x s) (bR y (64-s)) by simp[dz,jW (show i<o.length by omega)]];have ht:(o.set i (ko (ax x s) (bR y (64-s)))).take i=o.take i:=by
    apply nN;intro t;rw[jZ,jZ];split
    ·rw[eW (by omega)]
    rfl
   rw[ht];rw[sH]at he;have e2:B^i*(2^s*ko (ax x s) (bR y (64-s))+x%2^s)=B^i*(x+B*(y%2^s)):=by rw[z2]
   rw[im];generalize ko (ax x s) (bR y (64-s))=z at*;generalize val B (o.take i)=y1 at*;generalize val B (U.take i)=y2 at*;generalize x%2^s=y3 at*;generalize y%2^s=y4 at*;generalize (2:Nat)^s=y5 at*;generalize B^i=y6 at*;clear z2 ht K1;grind
  have iN:s=0:=by omega
  subst iN;have z0:ax x 0=x:=by unfold ax;simp
  have P0:o.set i x=o:=by
   apply nN;intro t;by_cases ht:t=i
   ·subst ht;rw[jW (by omega),ox]
   rw[eW (by omega)]
  simp(disch:=first|(simp;done)|omega|(simp only[bz,cm,bl];omega)|rfl) [-getElem?_pos,A.l8,hr,hf,PY,a96,a9,uL,aE,yH,PZ,aA,fZ ox,rF,z0,P0];refine⟨m,by omega,rfl,by simp[ay,hW,xS],hK.set PW,by simp[hqu,hQ],i+1,o,by omega,by simp,by simp,lo,dO,fun t ht=>ff t (by omega),?_⟩;rw[Fj,Fj,sH,show dz o i=x by simp[dz,ox]];have:dz U i%2^0=0:=Nat.mod_one _;rw[this]at he;simp only[Gn,Nat.one_mul,Nat.mod_one,Nat.mul_zero,gE]at he ⊢;omega
def Yq2(h:(aJ b).length=1):aJ b=[b]/\b<B:=by obtain⟨h1,h2⟩:=J0 (k:=0) h;rw[Gn]at h1;rw[yR,Nat.pow_one]at h2;refine⟨?_,h2⟩;rw[oM (by omega),BC h2,tJ,z_ h2]
def Yk3{r:Nat}(h:r<B):uV [r]=aJ r:=by rw[Fk (by intro d hd;simp at hd;subst hd;exact h)];simp[val]
def Zv8{h:T O}{u v:V}{a:Nat}(hu:Wn h N u a)(hv:Wn h N v b)(hb:0<b)(hl:(aJ a).length<1000000000000)(jq:(aJ b).length<1000000000000):Fn A.C 211 [u,v] h N (fun x h' n'=>∃q r,x=.aX [q,r]/\Wn h' n' q (a/b)/\Wn h' n' r (a%b)):=by
 intro w;have lu:=hu.len;have lv:=hv.len;rw[bz]at lu lv;rw[aQ,A.k211 (by simp)];simp[A.b211];refine ar (Zi9 hu hv (by omega) (by omega)) ?_;rintro _ h1 n1 k1 rfl;by_cases aE:a<b
 ·have c1:ya a b= -1:=by simp[ya,aE]
  simp[c1,az];refine⟨k1,_,_,⟨rfl,rfl⟩,?_,?_⟩
  ·rw[BC aE];unfold Wn;rw[tJ];exact Sl.nil
  rw[z_ aE];exact hu.ad k1
 have c1:¬ya a b<0:=by unfold ya;rw[ak (by omega)];split<;>omega
 have Ae:=hu.ad k1;have nT:=hv.ad k1;have hle:=Hk (a:=b) (b:=a) (by omega);by_cases h1l:(aJ b).length=1
 ·obtain⟨e1,e2⟩:=Yq2 h1l;have P1:((aJ b).length:Int)=1:=by omega
  have J1:Sl h1 n1 v (dg [b]):=by rw[<-e1];exact nT
  simp(disch:=first|(simp;done)|omega|(simp only[bz,cm,bl];omega)|rfl) [c1,lv,h1l,lu,bA];refine b_ [(7,8),(30,48)] _ (UU h1 n1 n1 (aJ a) b) (aJ a).length ?_ (Yn4 Ae J1 (tK a) e2 (by omega) (by simp) (by simp) (by simp)) ?_
  ·refine⟨rfl,by simp,ab.refl.new _,0,List.replicate (aJ a).length 0,aM _,by simp,by simp,by simp[JU],by simp,?_,?_,hb⟩
   ·intro d hd;rw[Im]at hd;rw[hd.2];decide
   simp[val]
  rintro e r ⟨H,n2,W⟩ hr ⟨rfl,hn,hW,hK,rest,Q,hm,h8,h7,aA,hQ,dQ,he,vo⟩;simp only at hn hW hK aA;subst hn;simp[hr];refine ar (Fo (l:=Q) (Sl.row (e:=199) (rw:=true) (by omega) aA (by rw[bz];exact hQ) (by simp)) (by omega)) ?_;rintro q2 h3 n3 k3 hq;simp[h7,ae];have k4:ab h3 n3 (h3.set n3 (.cells [.int .u64 rest] 199 true)) (n3+1):=ab.refl.new _;have hs5:Sl (h3.set n3 (.cells [.int .u64 rest] 199 true)) (n3+1) (.slice n3 0 1 (some 1) 1) (dg [rest]):=Sl.row (e:=199) (rw:=true) (L:=1) (xC n3) (by simp[dg]) (by simp) (by simp);refine ar (Fo hs5 (by simp)) ?_;rintro r2 h5 n5 k5 dJ;simp only[BB,oO]at he;have J3:val B Q=a/b:=by rw[he,Nat.mul_add_div hb,BC vo];omega
  have xj:rest=a%b:=by rw[he,Nat.mul_add_mod,z_ vo]
  rw[Fk dQ,J3]at hq;rw[Yk3 (by omega),xj]at dJ;simp[az];exact⟨MG k1.le hW,((k1.trans hK).trans k3).trans (k4.trans k5),_,_,⟨rfl,rfl⟩,(hq.ad k4).ad k5,dJ⟩
 have hbl:(aJ b).length≠0:=by rw[oM (by omega)];simp
 obtain⟨k,hk⟩:∃k,(aJ b).length=k+2:=⟨(aJ b).length-2,by omega⟩;have P1:¬(k:Int)+2=1:=by omega
 have gt:=ct (l:=aJ b) (i:=k+1) (by omega);generalize (aJ b)[k+1]'(by omega)=bt at*;have P2:bt<B:=(tK b).get gt;have zay:¬bt=0:=by obtain⟨w1,w2⟩:=J0 (k:=k+1) hk;have:=(P3 w1 w2).2;rw[gt]at this;have e:=pC this;have hp:0<B^(k+1):=BD (by decide);have:=(LK hp).2 (by rw[Nat.one_mul];exact w1);omega
 obtain⟨m1,m2,m3⟩:=Ypz zay P2;have hlz:=fun (h:T O) (N:Nat)=>Yhx (h:=h) (N:=N) (x:=bt) P2;generalize hs:64-ba bt=s at*;obtain⟨i1,o1,UY,e1,w1,p1,p2,p3,p4⟩:=nT.at (fZ gt);have t1:((k:Int)+2-1)=(k:Int)+1:=by omega
 rw[hk]at lv;simp(disch:=omega) [c1,lv,p1,p3,p4,t1,P1];refine ar (hlz _ _) ?_;rintro _ h1 n1 k2 ⟨rfl,rfl,rfl⟩;simp;refine ar (Zrs nT (tK b) m3 (by omega)) ?_;rintro vv h2 n2 k3 ⟨iv,ov,g1,g2,rfl,g3,g4,g5,g6⟩;simp;refine ar (Fo (l:=ov) (Sl.row (e:=199) (rw:=true) g2 g3 (by rw[bz];exact g4) (by simp)) (by omega)) ?_;rintro vy h3 n3 k4 hy;rw[Fk g5,g6,oO]at hy;obtain⟨y1,v1,y2,y3⟩:=Ykv hk gt m1 m2 (by omega);have ly:=Sl.len hy;rw[bz,y1]at ly;have ly:qQ vy=some (k+2):=ly;obtain⟨L,hL⟩:∃L,L+(k+2)=(aJ a).length+1:=⟨(aJ a).length+1-(k+2),by omega⟩;have hLi:((aJ a).length:Int)-((k:Int)+2)=(L:Int)-1:=by omega
 simp[];refine ar (Zrs ((Ae.ad k3).ad k4) (tK a) m3 (by omega)) ?_;rintro uu h4 n4 k5 ⟨iu,ou,j1,j2,rfl,j3,j4,j5,j6⟩;simp(disch:=first|(simp;done)|omega|(simp only[bz,cm,bl];omega)|rfl) [ly,lu,hLi,JU];have DO:0<v1:=by omega
 have k6:ab h4 n4 (h4.set n4 (.cells (dg (List.replicate L 0)) 199 true)) (n4+1):=ab.refl.new _;have hyv:v1*B^(k+1)<=val B (aJ (b*2^s)):=by obtain⟨w1,w2⟩:=J0 (k:=k+1) y1;have:=(P3 w1 w2).2;rw[y2]at this;have e:=pC this;rw[oO,e];exact Nat.div_mul_le_self _ _
 refine b_ [(14,14),(80,95)] _ (UW N n3 h3 iu n4 (n4+1) ((aJ a).length+1) k (a*2^s) (aJ (b*2^s))) L ?_ (Yn3 (cq:=some L) (v1:=v1) hy (by omega) (tK _) (by omega) (by rw[y2]) DO j1 j2 (xC n4) (by omega) (by simp) (by simp) (by simp) ?_) ?_
 ·have aZ:¬iu=n4:=by omega
  refine⟨rfl,rfl,(k5.trans k6),ou,List.replicate L 0,by simp,by simp[aZ,j3],by simp,j4,by simp;omega,by simp,j5,?_,fun t ht1 zr=>by omega,?_,?_⟩
  ·intro d hd;rw[Im]at hd;rw[hd.2];decide
  ·have ha0:a≠0:=by omega
   have hla:(aJ a).length≠0:=by rw[oM ha0];simp
   obtain⟨la1,P4⟩:∃x,(aJ a).length=x+1:=⟨(aJ a).length-1,by omega⟩;have f_:=(J0 P4).2;rw[<-P4]at f_;rw[oO]at j6;exact Yfc (k:=k+1) j6 j4 (by omega) (by omega) f_ m3 y3 hyv
  simp[val,j6,oO]
 ·have:(aJ a).length+1-(k+2)=L:=by omega
  simp[this]
 rintro e r ⟨H,n5,W⟩ hr ⟨rfl,hn,hW,hK,U,Q,qV,hU,hQ,lU,lQ,hm,dU,dQ,hz,fb,he⟩;simp only at hn hW hK hU hQ;subst hn;simp only[BB,Gn,Nat.one_mul]at he fb;simp[hr];refine b_ [(15,15),(97,130)] _ (UX n3 h3 iu n4 (n4+1) ((aJ a).length+1) (k+2) s U Q) (k+2) ?_ (Ylj (cu:=some ((aJ a).length+1)) (by omega) lU dU m3 j1 j2 (xC n4) (by omega) (by simp[hr]) (by simp[hr]) (by simp)) ?_
 ·refine⟨rfl,hW,hK,hQ,0,U,by omega,by simp,hU,lU,dU,fun _ _=>rfl,?_⟩;obtain⟨x,hx⟩:∃x,val B U=2^s*x:=by
   refine⟨a-val B Q*b,?_⟩;rw[oO]at he;rw[Nat.mul_sub,kg _ a,<-he];have:val B Q*(b*2^s)=2^s*(val B Q*b):=by grind
   omega
  have pN:dz U 0%2^s=0:=by
   have h1:=Fj (b:=B) (l:=U) (k:=0);have h2:=Hj B U 1 (by omega);simp only[List.take_zero,val,Gn,Nat.one_mul,yR,Nat.pow_one]at h1 h2;rw[h1,hx]at h2;have h3:B=2^s*2^(64-s):=by rw[<-mJ,show s+(64-s)=64 by omega];rfl
   rw[h3,Gm]at h2;have h4:dz U 0=2^s*(x-2^(64-s)*val (2^s*2^(64-s)) (U.drop 1)):=by rw[Nat.mul_sub];omega
   rw[h4,Nat.mul_mod_right]
  rw[pN];simp[val]
 rintro e r2 ⟨H2,n5,W2⟩ dJ ⟨rfl,fV,fY,qj,UZ,i,o,hi,PY,aA,lo,dO,ff,xP⟩;simp only at fV fY qj UZ aA;subst fV;have:i=k+2:=by omega
 subst this;simp[dJ,hr];refine ar (Fo (l:=Q) (Sl.row (e:=199) (rw:=true) (xC n4) UZ (by rw[bz];omega) (by simp)) (by omega)) ?_;rintro q2 h6 n6 k6 hq;have hsU:Sl h6 n6 (.slice iu 0 ((aJ a).length+1) (some ((aJ a).length+1)) 1) (dg o):=(Sl.row (h:=H2) (N:=n4+1) (by omega) aA (by rw[bz];exact lo) (by simp)).ad k6;obtain⟨v',e1,e2⟩:=MF (w:=[]) hsU (lo:=0) (hi:=k+2) (wx _) (by rw[bz];omega) none (some (.int .i64 ((k+2:Nat):Int))) (.inr ⟨rfl,rfl⟩) (.inl rfl);rw[show ((k+2:Nat):Int)=(k:Int)+2 by omega]at e1;simp[dJ,hr,F7,aC,e1];rw[BB,show (dg o).take (k+2)=dg (o.take (k+2)) by simp[dg]]at e2;refine ar (Fo (l:=o.take (k+2)) e2 (by rw[ik];omega)) ?_;rintro r3 h7 n7 k7 P5;rw[Fk dQ]at hq;rw[Fk (fun d hd=>dO d (wy hd))]at P5;rw[oO]at he fb;have U0:0<b*2^s:=zN hb (s_ s);have J4:dz U (k+2)=0:=by simp[dz,hz (k+2) (by omega) (by omega)]
 have hUt:val B (U.take (k+2))=val B U:=by have h1:=Hj B U (k+2) (by omega);rw[Zhm (fun t t1 t2=>hz t (by omega) (by omega))]at h1;omega
 have J3:val B Q=a/b:=by
  have h1:a*2^s/(b*2^s)=val B Q:=by rw[<-he,Nat.add_mul_div_right _ _ U0,BC fb];omega
  rw[TS _ _ (s_ s)]at h1;exact h1.symm
 have xj:val B (o.take (k+2))=a%b:=by
  have h1:a*2^s%(b*2^s)=val B U:=by rw[<-he,Nat.add_mul_mod_self_right,z_ fb]
  rw[Ov,kg]at h1;rw[J4,Nat.zero_mod,Nat.mul_zero,gE,hUt,<-h1]at xP;exact Nat.eq_of_mul_eq_mul_left (s_ s) xP
 rw[J3]at hq;rw[xj]at P5;simp[dv.dw,az];have kk:=(k1.trans k3).trans k4;exact⟨MG kk.le fY,((kk.trans qj).trans k6).trans k7,q2,r3,⟨rfl,rfl⟩,Sl.ad hq k7,P5⟩
variable {N n:Nat} {h:T O} {x:V} {z:Int}
def A.b185:=A.q Tryz.f185
def A.k185:=@A.kk 185 5 [.cell 2 (some 2)] A.b185 (by kernel_rfl) rfl
def A.b189:=A.q Tryz.f189
def A.k189:=@A.kk 189 7 [.tmp 2] A.b189 (by kernel_rfl) rfl
def A.b232:=A.q Tryz.f232
def A.k232:=@A.kk 232 9 [.cell 2 (some 2)] A.b232 (by kernel_rfl) rfl
def A.b204:=A.q Tryz.f204
def A.k204:=@A.kk 204 10 [.tmp 2] A.b204 (by kernel_rfl) rfl
def A.b195:=A.q Tryz.f195
def A.k195:=@A.kk 195 26 [.cell 2 (some 2)] A.b195 (by kernel_rfl) rfl
def A.b205:=A.q Tryz.f205
def A.k205:=@A.kk 205 24 [.tmp 2,.tmp 3] A.b205 (by kernel_rfl) rfl
def A.b206:=A.q Tryz.f206
def A.k206:=@A.kk 206 50 [.cell 4 (some 2)] A.b206 (by kernel_rfl) rfl
def Ah(z:Int):Int:=if z<0 then -1 else 1
def In(h:T O)(N:Nat)(x:V)(z:Int):Prop:=
 (x=.agg [.int .i64 z,.aa]/\ -9223372036854775808<=z/\z<9223372036854775808)\/
 ∃i o l c,x=.agg [.int .i64 (Ah z),.slice i o l c 1]/\Wn h N (.slice i o l c 1) z.natAbs/\9223372036854775808<=z.natAbs
def In.ad{h':T O}{N':Nat}(s:In h N x z)(k:ab h N h' N'):In h' N' x z:=by
 rcases s with s|⟨i,o,l,c,s1,s2,s3⟩
 ·exact .inl s
 exact .inr ⟨i,o,l,c,s1,s2.ad k,s3⟩
def In.small(h1: -9223372036854775808<=z)(h2:z<9223372036854775808):In h N (.agg [.int .i64 z,.aa]) z:=.inl ⟨rfl,h1,h2⟩
def In.cells(s:In h N x z):∃n u,x=.agg [.int .i64 n,u]/\V.one u=true:=by
 rcases s with⟨rfl,_⟩|⟨i,o,l,c,rfl,_⟩
 ·exact⟨_,_,rfl,rfl⟩
 exact⟨_,_,rfl,rfl⟩
def In.nu{n:Int}{u:V}(s:In h N (.agg [.int .i64 n,u]) z):∀x∈[V.int .i64 n,u],∀m,x≠.int .u64 m:=by
 intro x hx m hc;simp only[ky,List.not_mem_nil,or_false]at hx;rcases hx with rfl|rfl
 ·cases hc
 subst hc;rcases s with⟨e,_⟩|⟨_,_,_,_,e,_⟩
 ·simp at e
 simp at e
def aR{h1:T O}{n1:Nat}(k:ab h n h1 n1)(o:O):ab h n (h1.set n1 o) (n1+1):=(k.set k.le).up (xf _)
def wl(z:Int):Nat:=(aJ z.natAbs).length
def J5:Fn A.C 185 [.int .i64 z] h N (fun v _ _=>v=.agg [.int .i64 z,.aa]):=by intro w;rw[aQ,A.k185 (by simp)];simp[A.b185,aS,aP,ae,az];exact(((ab.refl.set (aM N)).set (aM N)).up (xf N))
def dN(z:Int):Int:=if z<0 then -1 else if z=0 then 0 else 1
def J6(hx:In h N x z):Fn A.C 189 [x] h N (fun v _ _=>v=.int .i64 (dN z)):=by
 intro w;rw[aQ,A.k189 (by simp)];rcases hx with⟨rfl,_⟩|⟨i,o,l,c,rfl,_,hz⟩
 ·obtain h1|h1|h1:z<0\/z=0\/0<z:=by omega
  ·have e1:z<1:=by omega
   have e2:¬ -1<z:=by omega
   simp[A.b189,aS,az,AL,tE,EB,Aa,Dm,AJ,h1,e1,e2,dN];exact aR ab.refl _
  ·subst h1;simp[A.b189,aS,az,AL,tE,EB,Aa,Dm,AJ,dN];exact aR ab.refl _
  have e1:¬z<1:=by omega
  have e2:¬z<0:=by omega
  have e3:¬z=0:=by omega
  simp[A.b189,aS,az,AL,tE,EB,Aa,Dm,AJ,e1,e2,e3,dN];exact aR ab.refl _
 by_cases h1:z<0
 ·simp[A.b189,aS,az,AL,tE,EB,Aa,Dm,AJ,Ah,dN,h1];exact aR ab.refl _
 have e3:¬z=0:=by omega
 simp[A.b189,aS,az,AL,tE,EB,Aa,Dm,AJ,Ah,dN,h1,e3];exact aR ab.refl _
def Zxj(hz: -9223372036854775808<=z)(hm:z<9223372036854775808){st:St}:A.C.call (.func 204 [] []) [.int .i64 z] st=some (.int .u64 (z.natAbs:Nat),st):=by
 apply Call.eq;rw[aQ,A.k204 (by simp)];by_cases e1:z<0
 ·have e2:bn .u64 (IntKind.wrap .i64 (0-z))=(z.natAbs:Nat):=by
   rw[ME];by_cases e3:z= -9223372036854775808
   ·subst e3;decide
   rw[OC (by omega) (by omega)];omega
  rw[Int.zero_sub]at e2;simp[A.b204,e1,e2]
 have e2:bn .u64 z=(z.natAbs:Nat):=by rw[G8 (by omega) (by omega)];omega
 simp[A.b204,e1,e2]
def J7(h:n<B)(h0:n≠0):aJ n=[n]:=by rw[oM h0,BC h,tJ,z_ h]
def Fp(hx:In h N x z):Fn A.C 205 [x] h N (fun v h' n'=>∃u,v=.aX [.bool (decide (z<0)),u]/\Wn h' n' u z.natAbs):=by
 intro w;rw[aQ,A.k205 (by simp)];rcases hx with⟨rfl,h1,h2⟩|⟨i,o,l,c,rfl,hw,hz⟩
 ·by_cases h0:z=0
  ·subst h0;simp[A.b205,aS,bA,az];refine⟨aR ab.refl _,?_⟩;unfold Wn;rw[tJ];exact Sl.nil
  have hs:=fun st=>Zxj h1 h2 (st:=st);have d1:¬N=N+1:=by omega
  simp[A.b205,aS,ae,bA,h0,hs,az,dv.dw];refine⟨aR (aR ab.refl _) _,?_⟩;unfold Wn;rw[J7 (by unfold B;omega) (by omega)];exact Sl.row (e:=199) (rw:=true) (L:=1) (by omega) (by simp[dg]) (by simp) (by simp)
 have e1:(Ah z<0)=(z<0):=by unfold Ah;split<;>simp_all
 simp[A.b205,aS,bA,az,e1,dv.dw];refine⟨aR ab.refl _,hw.ad (aR ab.refl _)⟩
def Hl{u:V}{b:Bool}(hu:Wn h N u n)(hl:(aJ n).length<1099511627776):Fn A.C 206 [.bool b,u] h N (fun v h' n'=>In h' n' v (if b=true then -(n:Int) else n)):=by
 intro w;have lu:=hu.len;rw[bz]at lu;rw[aQ,A.k206 (by simp)];have kk:∀o1 o2:O,ab h N ((h.set N o1).set N o2) (N+1):=fun o1 o2=>(aR ab.refl o1).set (aM N);by_cases h0:n=0
 ·subst h0;rw[tJ]at lu;simp[A.b206,lu,aS,aP,ae,az];refine⟨kk _ _,?_⟩;have:(if b=true then -((0:Nat):Int) else ((0:Nat):Int))=0:=by split<;>rfl
  exact In.small (by omega) (by omega)
 by_cases h1:n<18446744073709551616
 ·rw[J7 h1 h0]at lu;obtain⟨i,o,c,e,rw,p1,p2,p3,p4⟩:=hu.at (fZ (l:=aJ n) (j:=0) (n:=n) (by rw[J7 h1 h0];rfl));rw[gE]at p4;have lu:qQ u=some 1:=lu;have aZ:¬i=N:=by omega
  by_cases h2:n<=9223372036854775807
  ·have mW:(n:Int)<=9223372036854775807:=by omega
   have w1:bn .i64 (n:Int)=n:=cL (by omega) (by omega);have w2:IntKind.wrap .i64 (-(n:Int))= -(n:Int):=OC (by omega) (by omega);cases b
   ·simp[A.b206,lu,p1,p3,p4,aZ,mW,w1,aS,aP,ae,az];exact⟨kk _ _,In.small (by omega) (by omega)⟩
   simp[A.b206,lu,p1,p3,p4,aZ,mW,w1,w2,aS,aP,ae,az];exact⟨kk _ _,In.small (by omega) (by omega)⟩
  have mW:¬(n:Int)<=9223372036854775807:=by omega
  obtain⟨i2,o2,l2,c2,rfl⟩:∃i o l c,u=.slice i o l c 1:=by
   rcases hu with⟨hu,_⟩|⟨i,o,cp,c,e,rw,hu,_⟩
   ·rw[J7 h1 h0]at hu;simp[dg]at hu
   exact⟨_,_,_,_,hu⟩
  cases b
  ·simp[A.b206,lu,p1,p3,p4,aZ,mW,aS,aP,ae,az];refine⟨kk _ _,.inr ⟨i2,o2,l2,c2,?_,hu.ad (kk _ _),?_⟩⟩
   ·simp[Ah]
   omega
  simp[A.b206,lu,p1,p3,p4,aZ,mW,aS,aP,ae,az];refine⟨kk _ _,.inr ⟨i2,o2,l2,c2,?_,?_,?_⟩⟩
  ·simp[Ah];omega
  ·simpa using hu.ad (kk _ _)
  omega
 have JF:2<=(aJ n).length:=by rw[oM h0,oM (by unfold B;omega)];simp
 have c0:¬((aJ n).length:Int)=0:=by omega
 have c1:¬((aJ n).length:Int)=1:=by omega
 have c2:¬(aJ n).length=1:=by omega
 have c3:¬aJ n=[]:=by intro h;rw[h]at JF;simp at JF
 rcases hu with⟨hu,_⟩|⟨i,o,cp,c,e,rw,rfl,hu⟩
 ·exfalso;have:=congrArg List.length hu;rw[bz]at this;simp at this;exact c3 this
 have hw:Wn h N (.slice i o (dg (aJ n)).length cp 1) n:=.inr ⟨i,o,cp,c,e,rw,rfl,hu⟩;rw[bz]at hw;cases b
 ·simp[A.b206,c1,c3,aS,aP,ae,az];refine⟨kk _ _,.inr ⟨i,o,(aJ n).length,cp,?_,hw.ad (kk _ _),?_⟩⟩
  ·simp[Ah]
  omega
 simp[A.b206,c1,c3,aS,aP,ae,az];refine⟨kk _ _,.inr ⟨i,o,(aJ n).length,cp,?_,?_,?_⟩⟩
 ·simp[Ah];omega
 ·simpa using hw.ad (kk _ _)
 omega
def Sl.aI{v:V}{l:List Nat}{i:Nat}{c0 c1:List V}{e0 e1:TypeId}{w0 w1:Bool}(s:Sl h N v (dg l))(hr:h.get i=some (.cells c0 e0 w0))(hn:∀x∈c0,∀n,x≠.int .u64 n)(hc:c1.length=c0.length):Sl (h.set i (.cells c1 e1 w1)) N v (dg l):=by
 rcases s with s|⟨i',o,cp,c,e,rw,rfl,q1,q2,q3,q4,q5⟩
 ·exact .inl s
 by_cases hi:i'=i
 ·subst hi;rw[hr]at q2;simp only[au,O.cells.injEq]at q2;obtain⟨rfl,rfl,rfl⟩:=q2;cases l with
  |nil=> refine .inr ⟨i',o,cp,c1,e1,w1,rfl,q1,by rw[T.ag,av rfl],?_,by simpa[hc]using q4,q5⟩;intro j hj;simp[dg]at hj
  |cons d l=> exfalso;have:=q3 0 (by simp[dg]);have hm:=cy (l:=c0) (i:=o+0) (a:=.int .u64 d) (by rw[this];simp[dg]);exact hn _ hm _ rfl
 exact .inr ⟨i',o,cp,c,e,rw,rfl,q1,by rw[T.ag,ak hi];exact q2,q3,q4,q5⟩
def In.aI{i:Nat}{c0 c1:List V}{e0 e1:TypeId}{w0 w1:Bool}(s:In h N x z)(hr:h.get i=some (.cells c0 e0 w0))(hn:∀x∈c0,∀n,x≠.int .u64 n)(hc:c1.length=c0.length):In (h.set i (.cells c1 e1 w1)) N x z:=by
 rcases s with s|⟨i',o,l,c,s1,s2,s3⟩
 ·exact .inl s
 exact .inr ⟨i',o,l,c,s1,Sl.aI s2 hr hn hc,s3⟩
def MH(hx:In h N x z)(hl:wl z<500000000000):Fn A.C 195 [x] h N (fun v h' n'=>In h' n' v (-z)):=by
 intro w;rw[aQ,A.k195 (by simp)];have rest:∀{x:V},In h N x z->∀(h1:T O) (N1:Nat),ab h N h1 N1->Fn A.C 205 [x] h1 N1 (fun v h' n'=>∃u,v=.aX [.bool (decide (z<0)),u]/\Wn h' n' u z.natAbs):=fun hx h1 N1 k=>Fp (hx.ad k);have fin:∀{v h' n'},In h' n' v (if (!decide (z<0))=true then -(z.natAbs:Int) else z.natAbs)->In h' n' v (-z):=fun {v h' n'} q=>by
  have e:(if (!decide (z<0))=true then -(z.natAbs:Int) else (z.natAbs:Int))= -z:=by by_cases h:z<0<;>simp[h]<;>omega
  rw[e]at q;exact q
 by_cases hz:x=.agg [.int .i64 z,.aa]/\z≠ -9223372036854775808/\ -9223372036854775808<=z/\z<9223372036854775808
 ·obtain⟨rfl,h0,h1,h2⟩:=hz;have w2:IntKind.wrap .i64 (-z)= -z:=OC (by omega) (by omega);simp[A.b195,aS,aP,ae,bA,h0,w2,az];exact⟨(aR (aR ab.refl _) _).set (by omega),In.small (by omega) (by omega)⟩
 rcases id hx with⟨rfl,h1,h2⟩|⟨i,o,l,c,rfl,_⟩
 ·have h0:z= -9223372036854775808:=by apply Decidable.byContradiction;intro hc;exact hz ⟨rfl,hc,h1,h2⟩
  have hp:=rest hx _ _ (aR (aR ab.refl (.cells [.int .i64 z,.aa] 94 true)) (.cells [.int .i64 0,.aa] 94 true));subst h0;simp[A.b195,aS,aP,bA];refine ar hp ?_;rintro _ h3 n3 k3 ⟨u,rfl,hu⟩;have uM:=k3.le;have g0:=k3.get (N+1) (by omega);simp at g0;simp[];refine ar (Hl hu (by unfold wl at hl;omega)) ?_;rintro v h4 n4 k4 hv;have we:=k4.le;have g1:=(k4.get (N+1) (by omega)).trans g0;obtain⟨n5,u5,rfl,kQ⟩:=hv.cells;unfold V.one at kQ;simp[g1,aS,aP,ae,bO,az,kQ];have kk:=(((aR (aR ab.refl _) _).trans k3).trans k4).set (h:=h) (n:=N) (i:=N+1) (o:=.cells [.int .i64 n5,u5] 94 true) (by omega);exact⟨kk,(fin hv).aI g1 (by simp) rfl⟩
 have hp:=rest hx _ _ (aR (aR ab.refl (.cells [.int .i64 (Ah z),.slice i o l c 1] 94 true)) (.cells [.int .i64 0,.aa] 94 true));simp[A.b195,aS,aP,bA];refine ar hp ?_;rintro _ h3 n3 k3 ⟨u,rfl,hu⟩;have uM:=k3.le;have g0:=k3.get (N+1) (by omega);simp at g0;simp[];refine ar (Hl hu (by unfold wl at hl;omega)) ?_;rintro v h4 n4 k4 hv;have we:=k4.le;have g1:=(k4.get (N+1) (by omega)).trans g0;obtain⟨n5,u5,rfl,kQ⟩:=hv.cells;unfold V.one at kQ;simp[g1,aS,aP,ae,bO,az,kQ];have kk:=(((aR (aR ab.refl _) _).trans k3).trans k4).set (h:=h) (n:=N) (i:=N+1) (o:=.cells [.int .i64 n5,u5] 94 true) (by omega);exact⟨kk,(fin hv).aI g1 (by simp) rfl⟩
def A.b28:=A.q Tryz.f28
def A.k28:=@A.kk 28 13 [.tmp 2] A.b28 (by kernel_rfl) rfl
def A.b158:=A.q Tryz.f158
def A.k158:=@A.kk 158 14 [.tmp 2] A.b158 (by kernel_rfl) rfl
def A.b95:=A.q Tryz.f95
def A.k95:=@A.kk 95 7 [.tmp 2] A.b95 (by kernel_rfl) rfl
def A.b96:=A.q Tryz.f96
def A.k96:=@A.kk 96 14 [.tmp 2] A.b96 (by kernel_rfl) rfl
def A.b94:=A.q Tryz.f94
def A.k94:=@A.kk 94 9 [.tmp 2] A.b94 (by kernel_rfl) rfl
def Iw:aO 0=[48]:=by decide+kernel
def Yrc{q:Rat}:aO q=[48]↔q=0:=⟨fun h=>Yk2 (h.trans Iw.symm),fun h=>by rw[h,Iw]⟩
def DX{q:Rat}:q.num=0↔q=0:=Rat.num_eq_zero
def Yrb(q:Rat):0<(aO q).length:=by obtain⟨c,t,h,_⟩:=Zzn q;rw[DP,h];split<;>simp
def Yk1(q:Rat):∃c,(aO q)[0]?=some c/\(aO q).head?=some c/\(cX c=45↔q.num<0):=by
 obtain⟨c,t,h,h1⟩:=Zzn q;by_cases hz:q.num<0
 ·refine⟨45,?_,?_,?_⟩
  ·rw[DP,av hz];rfl
  ·rw[DP,av hz];rfl
  exact⟨fun _=>hz,fun _=>rfl⟩
 refine⟨c,?_,?_,?_⟩
 ·rw[DP,ak hz,h];rfl
 ·rw[DP,ak hz,h];rfl
 exact⟨fun h2=>by unfold cX at h2;omega,fun h2=>absurd h2 hz⟩
def P6{q:Rat}{st:St}:A.C.call (.func 28 [] []) [.str (aO q)] st=some (.int .i64 (dN q.num),st):=by
 have e:(aO q==[48])=decide (q=0):=by rw[Bool.eq_iff_iff,beq_iff_eq,decide_eq_true_eq];exact Yrc
 obtain⟨c,h1,h2,h3⟩:=Yk1 q;have hp:=Yrb q;have U5:(0:Int)<((aO q).length:Int):=by omega
 have aZ:aO q≠[]:=fun hc=>by rw[hc]at hp;simp at hp
 apply Call.eq;rw[aQ,A.k28 (by simp)];by_cases h0:q=0
 ·have hn:q.num=0:=DX.2 h0;have hs:dN q.num=0:=by rw[hn];rfl
  have e0:(aO q==[48])=true:=by rw[e];simp[h0]
  rw[hs];simp(disch:=first|(simp;done)|omega|rfl) [-getElem?_pos,A.b28,jE,e0]
 have hn:q.num≠0:=fun hc=>h0 (DX.1 hc);by_cases hz:q.num<0
 ·have hs:dN q.num= -1:=by unfold dN;rw[av hz]
  have hc:=h3.2 hz;rw[hs];simp(disch:=first|(simp;done)|omega|rfl) [-getElem?_pos,A.b28,jE,e,h0,hp,h1,hc]
 have hs:dN q.num=1:=by unfold dN;rw[ak hz,ak hn]
 have hc:¬cX c=45:=fun hc=>hz (h3.1 hc);rw[hs];simp(disch:=first|(simp;done)|omega|rfl) [-getElem?_pos,A.b28,jE,e,h0,hp,h1,hc]
def Yy2(q:Rat):QB (-q)=QB q:=by unfold QB;rw[Rat.neg_den,Rat.neg_num,yE]
def Ys2{q:Rat}{st:St}(hl:(aO q).length<1000000000):A.C.call (.func 158 [] []) [.str (aO q)] st=some (.str (aO (-q)),st):=by
 have hs:=fun st=>P6 (q:=q) (st:=st);have cU:IntKind.max .i64=9223372036854775807:=rfl;apply Call.eq;rw[aQ,A.k158 (by simp)];have fV:=DP (-q);rw[Yy2,Rat.neg_num]at fV;by_cases hz:q.num<0
 ·have e1:aO q=45::QB q:=by rw[DP,av hz]
  have e2:aO (-q)=QB q:=by rw[fV,ak (by omega)]
  have e3:dN q.num= -1:=by unfold dN;rw[av hz]
  rw[e1,e3]at hs;have a3:∀st:St,uW st (some (.str (45::QB q))) (some (some (.int .i64 1))) (some none)=some (.str (QB q),st):=fun st=>by rw[Hg (by omega) (by simp only[bl];omega)];rfl
  rw[e1,e2];simp[A.b158,hs,aC,a3]
 by_cases h0:q=0
 ·have e3:dN q.num=0:=by rw[DX.2 h0];rfl
  rw[e3]at hs;have e4: -q=q:=by rw[h0];rfl
  rw[e4];simp[A.b158,hs]
 have hn:q.num≠0:=fun hc=>h0 (DX.1 hc);have e1:aO q=QB q:=by rw[DP,ak hz]
 have e2:aO (-q)=45::QB q:=by rw[fV,av (by omega)]
 have e3:dN q.num=1:=by unfold dN;rw[ak hz,ak hn]
 rw[e3]at hs;rw[e1]at hs hl;have hb:¬(9223372036854775807:Int)<1+((QB q).length:Int):=by omega
 rw[e2,e1];simp[A.b158,hs,jE,cU,hb]
def Zsc(q:Rat):q⁻¹=Rat.divInt (q.den:Int) q.num:=Rat.inv_def q
def Ysy{q:Rat}{st:St}(hl:(aO q).length<1000000000):A.C.call (.func 95 [] []) [.str (aO q)] st=some (.str (aN q.num),st):=by
 have cC:=fun st=>Hm (s:=aO q) (st:=st) (by omega);have h2:ah (aO q)<=(aO q).length:=by
  rw[Mz];unfold aO;split
  ·exact aM _
  rw[iI];omega
 have a4:∀st:St,uW st (some (.str (aO q))) (some none) (some (some (.int .i64 (ah (aO q):Nat))))=some (.str (aN q.num),st):=fun st=>by rw[Zm8 (by omega) (by omega),Int.toNat_natCast,Py]
 apply Call.eq;rw[aQ,A.k95 (by simp)];simp[A.b95,cC,aC,a4]
def Yuz{q:Rat}{st:St}(hl:(aO q).length<1000000000):A.C.call (.func 96 [] []) [.str (aO q)] st=some (.str (aq q.den),st):=by
 have cC:=fun st=>Hm (s:=aO q) (st:=st) (by omega);have aE:=EY q;have h2:ah (aO q)<=(aO q).length:=by
  rw[Mz];unfold aO;split
  ·exact aM _
  rw[iI];omega
 apply Call.eq;rw[aQ,A.k96 (by simp)];by_cases hd:q.den=1
 ·have c1:(ah (aO q):Int)=((aO q).length:Int):=by omega
  rw[hd,Nn];simp[A.b96,cC,c1]
 have jq:=aE.2 hd;have c1:¬(ah (aO q):Int)=((aO q).length:Int):=by omega
 have c2:¬ah (aO q)=(aO q).length:=by omega
 have w1:bn .i64 ((ah (aO q):Int)+1)=(ah (aO q):Int)+1:=cL (by omega) (by omega);have zt:=Pz q hd;have a4:∀st:St,uW st (some (.str (aO q))) (some (some (.int .i64 ((ah (aO q):Int)+1)))) (some none)=some (.str (aq q.den),st):=fun st=>by
  rw[Hg (by omega) (by omega)];have:((ah (aO q):Int)+1).toNat=ah (aO q)+1:=by omega
  rw[this,zt]
 simp[A.b96,cC,c1,w1,aC,a4]
def Yrd(z:Int):aO (z:Rat)=aN z:=by unfold aO;rw[av (by simp)];simp
def Yvy{z:Int}{st:St}(hl:(aN z).length<1000000000):A.C.call (.func 94 [] []) [.str (aN z)] st=some (.str (aq z.natAbs),st):=by
 have hs:=fun st=>P6 (q:=(z:Rat)) (st:=st);rw[Yrd]at hs;have hn:((z:Rat)).num=z:=by simp
 rw[hn]at hs;apply Call.eq;rw[aQ,A.k94 (by simp)];by_cases hz:z<0
 ·have e1:aN z=45::aq z.natAbs:=by unfold aN;rw[av hz]
  have e3:dN z= -1:=by unfold dN;rw[av hz]
  rw[e1,e3]at hs;have a3:∀st:St,uW st (some (.str (45::aq z.natAbs))) (some (some (.int .i64 1))) (some none)=some (.str (aq z.natAbs),st):=fun st=>by rw[Hg (by omega) (by simp only[bl];omega)];rfl
  rw[e1];simp[A.b94,hs,aC,a3]
 have e1:aN z=aq z.natAbs:=by unfold aN;rw[ak hz]
 have e3:¬dN z<0:=by unfold dN;rw[ak hz];split<;>omega
 rw[e1]at hs;rw[e1];simp[A.b94,hs,e3]
end
end Go.Mx
