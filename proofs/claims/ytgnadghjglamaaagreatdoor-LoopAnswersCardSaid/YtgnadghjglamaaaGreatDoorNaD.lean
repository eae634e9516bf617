/-num-/
import Derived.Test.YtgnadghjglamaaaGreatDoorNaG
set_option linter.all false
namespace Go.Mx
noncomputable section
open Go Go.Proofs
variable {N b:Nat}
set_option maxHeartbeats 8000000
set_option maxRecDepth 1000000
def A.w225:=A.q Tryz.f225
def A.lb225_0:=A.ql A.w225 2 []
def A.lb225_1:=A.ql A.w225 1 []
def A.lb225_2:=A.ql A.w225 0 []
def A.b225:=(fun x0 x1 x2=>A.qb A.w225 [x0,x1,x2]) A.lb225_2 A.lb225_1 A.lb225_0
def A.k225:=@A.kk 225 137 [.tmp 4,.tmp 5] A.b225 (by kernel_rfl) rfl
def Yiy{x y s:Nat}(hx:x<B)(h0:0<s)(hs:s<64):or64 (shr64 x s) (shl64 y (64-s))<B∧2^s*or64 (shr64 x s) (shl64 y (64-s))+x%2^s=x+B*(y%2^s):=by
 have hc:shr64 x s<2^(64-s):=by
  unfold shr64
  apply (Ysm (Ys7 s)).2
  rw[←Ysr,show 64-s+s=64 by omega];exact hx
 rw[Zvh (by omega) hc]
 refine⟨Zoh (by omega) hc,?_⟩
 have e:shl64 y (64-s)=(y%2^s)*2^(64-s):=by
  unfold shl64
  have:(18446744073709551616:Nat)=2^s*2^(64-s):=by rw[←Ysr,show s+(64-s)=64 by omega]
  rw[this,Yu7]
 have e2:2^s*(y%2^s*2^(64-s))=B*(y%2^s):=by
  have:B=2^s*2^(64-s):=by rw[←Ysr,show s+(64-s)=64 by omega];rfl
  rw[this]
  generalize 2^s=p
  generalize 2^(64-s)=q
  grind
 rw[e,Ys8,e2]
 unfold shr64
 have:=Ytc x (2^s)
 omega
structure Dv1 (h:T O) (N iq:Nat) (X:List Nat) (b m:Nat) (r:T V) (st:St):Prop where
 n:st.n=N+1
 w:Zae N st.w=[]
 keep:Keeps h N st.h (N+1)
 ex:∃(rest:Nat) (Q:List Nat),m≤X.length∧r.get 8=some (.int .i64 ((m:Int)-1))∧r.get 7=some (.int .u64 rest)∧st.h.get N=some (.cells (dg Q) 217 true)∧Q.length=X.length∧Dg Q∧val B (X.drop m)=b*val B (Q.drop m)+rest∧rest<b
def Ygg{h:T O}{N b:Nat}{va vb:V}{X:List Nat}{r0:T V}(ha:Sl h N va (dg X))(hb:Sl h N vb (dg [b]))(dA:Dg X)(hbB:b<B)(hl:X.length<1099511627776)
  (a0:r0.get 0=some va) (a1:r0.get 1=some vb) (a6:r0.get 6=some (.slice N 0 X.length (some X.length) 1)):
  ∀k r st,(∀t,inD [(7,8),(30,48)] t=false→r.get t=r0.get t)→Fx [(7,8),(30,48)] r0 137 ⟨r,137,[]⟩→Dv1 h N N X b k r st→Code A.C none A.lb225_2 ⟨r,137,[]⟩ st (Rd [(7,8),(30,48)] r0 137 (Dv1 h N N X b) k (fun e r st=>e=.exit 0∧Dv1 h N N X b 0 r st)):=by
 rintro m r ⟨H,n1,W⟩ hr hf ⟨hn,hW,hK,rest,Q,hm,h8,h7,hrow,hQ,dQ,he,hlt⟩
 simp only at hn hW hK hrow
 subst hn
 have la:=ha.len
 have lb:=hb.len
 rw[Zab]at la lb
 rw[Zai]
 cases m with
 |zero=>
  simp(disch:=first|(simp;done)|omega|(simp only[Zab,Zaa,Yrr];omega)|rfl) [-getElem?_pos,A.lb225_2,hr,hf,h8]
  exact⟨rfl,hW,hK,rest,Q,by omega,by simp[h8],by simp[h7],hrow,hQ,dQ,he,hlt⟩
 |succ m=>
  have gx:=Yrx (l:=X) (i:=m) (by omega)
  generalize X[m]'(by omega)=x at*
  have hx:x<B:=dA.get gx
  obtain⟨i1,o1,c1,e1,w1,p1,p2,p3,p4⟩:=ha.at (Za9 gx)
  have p3:=(hK.get _ p2).trans p3
  obtain⟨i2,o2,c2,e2,w2,q1,q2,q3,q4⟩:=hb.at (Za9 (l:=[b]) (j:=0) rfl)
  have q3:=(hK.get _ q2).trans q3
  rw[Yty]at q4
  have gq:=Yrx (l:=Q) (i:=m) (by omega)
  have hm1:((m+1:Nat):Int)-1=(m:Int):=by omega
  have hml:m<X.length:=by omega
  have hi1:i1<N+1:=by omega
  have hi2:i2<N+1:=by omega
  have hne1:¬i1=N:=by omega
  have hne2:¬i2=N:=by omega
  have hne3:¬N=i1:=by omega
  have hne4:¬N=i2:=by omega
  rw[hm1]at h8
  have hd:=Zv9 (h:=H) (N:=N+1) hlt hbB hx
  obtain⟨q,hq⟩:∃q,(rest*18446744073709551616+x)/b=q:=⟨_,rfl⟩
  obtain⟨rr,hrr⟩:∃q,(rest*18446744073709551616+x)%b=q:=⟨_,rfl⟩
  rw[hq,hrr]at hd
  have hinv:b*q+rr=rest*B+x:=by
   have:=Ytc (rest*18446744073709551616+x) b
   rw[hq,hrr]at this
   exact this
  have hrl:rr<b:=by rw[←hrr];exact Ys2 _ (by omega)
  have hqB:q<B:=by
   rw[←hq];apply (Ysm (by omega)).2
   have:=Ysb B (show rest+1≤b by omega)
   rw[Ysk B b]
   rw[Ysv]at this
   unfold B at*;omega
  simp(disch:=first|(simp;done)|omega|(simp only[Zab,Zaa,Yrr];omega)|rfl) [-getElem?_pos,A.lb225_2,hr,hf,h8,h7,la,lb,a0,a1,a6,p1,p3,p4,q1,q3,q4,hml,hi1,hi2]
  refine Zac hd ?_
  rintro _ H n2 hk3 ⟨rfl,rfl,rfl⟩
  simp(disch:=first|(simp;done)|omega|(simp only[Zab,Zaa,Yrr];omega)|rfl) [-getElem?_pos,hr,hf,h8,h7,la,lb,a0,a1,a6,hrow,Zcx,hml,hi1,hi2,hne1,hne2,hne3,hne4,Zal.chk]
  refine⟨m,by omega,rfl,by simp[Zae,hW],hK.set (Yru _),rr,Q.set m q,by omega,by simp,by simp,by simp,by simp[hQ],dQ.set' hqB,?_,hrl⟩
  rw[Zcv gx,Zcv (Ysf (by omega)),List.drop_set_of_lt (by omega),he,Ys8,Ys8]
  have:B*(b*val B (Q.drop (m+1)))=b*(B*val B (Q.drop (m+1))):=by grind
  rw[Ysk rest]at hinv
  omega
structure DvN (N n2:Nat) (h2:T O) (iu iq Nq lu k A0:Nat) (Y:List Nat) (m:Nat) (r:T V) (st:St):Prop where
 n:st.n=Nq
 w:Zae n2 st.w=[]
 keep:Keeps h2 n2 st.h Nq
 ex:∃(U Q:List Nat),r.get 14=some (.int .i64 ((m:Int)-1))∧st.h.get iu=some (.cells (dg U) 217 true)∧st.h.get iq=some (.cells (dg Q) 217 true)∧U.length=lu∧Q.length+(k+2)=lu∧m≤Q.length∧Dg U∧Dg Q∧(∀t,m+k+2≤t→t<lu→U[t]?=some 0)∧val B (U.drop m)<val B Y∧val B U+B^m*(val B (Q.drop m)*val B Y)=A0
def Ygf{h2:T O}{N n2 iu iq Nq lu k v1 A0:Nat}{Y:List Nat}{v:V}{r0:T V}{cq:Option Nat}(hv:Sl h2 n2 v (dg Y))(hY:Y.length=k+2)(dY:Dg Y)(hlu:lu<1099511627776)(f1:Y[k+1]?=some v1)(hv1:0<v1)(h2u:n2≤iu)(huq:iu<iq)(hq:iq<Nq)
  (hkl:k+2<lu) (a10:r0.get 10=some v) (a11:r0.get 11=some (.slice iu 0 lu (some lu) 1)) (a12:r0.get 12=some (.int .i64 ((k:Int)+2))) (a13:r0.get 13=some (.slice iq 0 (lu-(k+2)) cq 1)):
  ∀x r st,(∀t,inD [(14,14),(80,95)] t=false→r.get t=r0.get t)→Fx [(14,14),(80,95)] r0 137 ⟨r,137,[]⟩→DvN N n2 h2 iu iq Nq lu k A0 Y x r st→Code A.C none A.lb225_1 ⟨r,137,[]⟩ st (Rd [(14,14),(80,95)] r0 137 (DvN N n2 h2 iu iq Nq lu k A0 Y) x (fun e r st=>e=.exit 2∧DvN N n2 h2 iu iq Nq lu k A0 Y 0 r st)):=by
 rintro m r ⟨H,n1,W⟩ hr hf ⟨hn,hW,hK,U,Q,h14,hU,hQ,lU,lQ,hm,dU,dQ,hz,hlt,he⟩
 simp only at hn hW hK hU hQ
 subst hn
 rw[Zai]
 cases m with
 |zero=>
  simp(disch:=first|(simp;done)|omega|(simp only[Zab,Zaa,Yrr];omega)|rfl) [-getElem?_pos,A.lb225_1,hr,hf,h14]
  exact⟨rfl,hW,hK,U,Q,by simp[h14],hU,hQ,lU,lQ,hm,dU,dQ,hz,hlt,he⟩
 |succ m=>
  have hm1:((m+1:Nat):Int)-1=(m:Int):=by omega
  rw[hm1]at h14
  have gu:=Yrx (l:=U) (i:=m) (by omega)
  generalize U[m]'(by omega)=um at*
  have humB:um<B:=dU.get gu
  have hsK:Zcw ⟨H,n1,W⟩ 1 (some (.slice iu 0 lu (some lu) 1)) (some (some (.int .i64 m))) (some (some (.int .i64 ((m:Int)+((k:Int)+2)+1)))) (some none)=some (.slice iu m (k+3) (some (lu-m)) 1,⟨H,n1,W⟩):=by
   have e1:(0:Int)≤(m:Int)+((k:Int)+2)+1∧(m:Int)+((k:Int)+2)+1≤(lu:Int):=by omega
   have e2:((m:Int)+((k:Int)+2)+1).toNat=m+k+3:=by omega
   have e3:¬lu=m:=by omega
   have e4:m≤m+k+3:=by omega
   have e5:m+k+3-m=k+3:=by omega
   have e6:(m:Int)≤((m+k+3:Nat):Int):=by omega
   simp only[Zcw,Za6,evOpt,Zax,Zd5,Option.map,Src.ev,e1,e2,e3,e5,e6,and_self,if_true,if_false,Int.natCast_nonneg,Int.toNat_natCast,true_and,ne_eq,not_true_eq_false,Option.isSome,Option.isNone,Bool.false_and,false_or,Yr3,Yt5,Yub]
  have hmq:m<lu-(k+2):=by omega
  simp(disch:=first|(simp;done)|omega|(simp only[Zab,Zaa,Yrr];omega)|rfl) [-getElem?_pos,A.lb225_1,hr,hf,h14,a10,a11,a12,a13,Zef,evOpt,hsK]
  refine Zd7 (Zzv (n2:=n2) (k:=k) (U:=U) (v1:=v1) (hv.keep ⟨Yru _,fun i hi=>hK.get i hi⟩) hY dY h2u (by omega) (by omega) (by omega) hU dU f1 hv1 (fun t h1 h2=>hz t (by omega) (by omega)) ?_) ?_
  ·rw[Zcv gu]
   have:=Yr9 B hlt
   rw[Nat.mul_succ]at this
   omega
  rintro x ⟨H2,n3,W2⟩ ⟨s1,s2,s3,q,o,rfl,s4,s5,s6,s7,s8,s9,s10,s11⟩
  simp only at s1 s2 s3 s5
  subst s1
  have hrowq:H2.get iq=some (.cells (dg Q) 217 true):=by rw[s3 iq (by omega)];exact hQ
  simp(disch:=first|(simp;done)|omega|(simp only[Zab,Zaa,Yrr];omega)|rfl) [-getElem?_pos,hr,hf,h14,a10,a11,a12,a13,hmq,hrowq,Zcx]
  have hw':¬iq<n2:=by omega
  have hHe:∀i,i<n2→(H2.set iq (.cells (dg (Q.set m q)) 217 true)).get i=h2.get i:=fun i hi=>by
   rw[T.get_set,Yrt (by omega),s3 i (by omega)];exact hK.get i hi
  refine⟨m,by omega,rfl,?_,⟨by omega,hHe⟩,o,Q.set m q,by simp,by simp[s5,(show ¬iu=iq by omega)],by simp,by omega,by simp;omega,by simp;omega,s7,dQ.set' s4,?_,s11,?_⟩
  ·simp only[Zae,hw',if_false]
   rw[s2];exact hW
  ·intro t h1 h2'
   exact s9 t (by omega) (by omega)
  ·have eU:=Zda B U m (by omega)
   have eO:=Zda B o m (by omega)
   have et:o.take m=U.take m:=by
    apply Ysw
    intro t
    rw[Ysh,Ysh]
    split
    ·exact s8 t (by omega)
    ·rfl
   rw[Zcv (Ysf (by omega)),List.drop_set_of_lt (by omega),eO,et]
   rw[eU,←s10,Ysg]at he
   rw[←he]
   generalize val B (U.take m)=z1
   generalize val B (o.drop m)=z2
   generalize val B Y=z3
   generalize val B (Q.drop (m+1))=z4
   generalize B^m=z5
   grind
structure ShD (n2:Nat) (h2:T O) (iu iq Nq lu n s:Nat) (U Q:List Nat) (m:Nat) (r:T V) (st:St):Prop where
 hn:st.n=Nq
 w:Zae n2 st.w=[]
 keep:Keeps h2 n2 st.h Nq
 q:st.h.get iq=some (.cells (dg Q) 217 true)
 ex:∃(i:Nat) (o:List Nat),i+m=n∧r.get 97=some (.int .i64 i)∧st.h.get iu=some (.cells (dg o) 217 true)∧o.length=lu∧Dg o∧(∀t,i≤t→o[t]?=U[t]?)∧2^s*val B (o.take i)=val B (U.take i)+B^i*(dz U i%2^s)
def Yer{h2:T O}{n2 iu iq Nq lu n s:Nat}{U Q:List Nat}{r0:T V}{cu:Option Nat}(hlu:lu<1099511627776)(lU:U.length=lu)(dU:Dg U)(hs:s<64)(h2u:n2≤iu)(huq:iu<iq)(hq:iq<Nq)(hn:n<lu)
  (a9:r0.get 9=some (.int .i64 s)) (a11:r0.get 11=some (.slice iu 0 lu cu 1)) (a96:r0.get 96=some (.int .i64 n)):
  ∀x r st,(∀t,inD [(15,15),(97,130)] t=false→r.get t=r0.get t)→Fx [(15,15),(97,130)] r0 137 ⟨r,137,[]⟩→ShD n2 h2 iu iq Nq lu n s U Q x r st→Code A.C none A.lb225_0 ⟨r,137,[]⟩ st (Rd [(15,15),(97,130)] r0 137 (ShD n2 h2 iu iq Nq lu n s U Q) x (fun e r st=>e=.exit 4∧ShD n2 h2 iu iq Nq lu n s U Q 0 r st)):=by
 rintro m r ⟨H,n1,W⟩ hr hf ⟨hn1,hW,hK,hQ,i,o,hi,h97,hrow,lo,dO,hsame,he⟩
 simp only at hn1 hW hK hQ hrow
 subst hn1
 rw[Zai]
 cases m with
 |zero=>
  have:i=n:=by omega
  subst this
  simp(disch:=first|(simp;done)|omega|(simp only[Zab,Zaa,Yrr];omega)|rfl) [-getElem?_pos,A.lb225_0,hr,hf,h97,a96]
  exact⟨rfl,hW,hK,hQ,i,o,by omega,by simp[h97],hrow,lo,dO,hsame,he⟩
 |succ m=>
  have hlt:i<n:=by omega
  have gx:U[i]?=some (U[i]'(by omega)):=Yrx (by omega)
  have gy:U[i+1]?=some (U[i+1]'(by omega)):=Yrx (by omega)
  generalize U[i]'(by omega)=x at*
  generalize U[i+1]'(by omega)=y at*
  have hx:x<B:=dU.get gx
  have hy:y<B:=dU.get gy
  have ox:o[i]?=some x:=by rw[hsame i (Yru _)];exact gx
  have oy:o[i+1]?=some y:=by rw[hsame (i+1) (by omega)];exact gy
  have hil:i<lu:=by omega
  have hil2:i+1<lu:=by omega
  have hil3:(i:Int)+1<(lu:Int):=by omega
  have hzx:dz U i=x:=by simp[dz,gx]
  have hzy:dz U (i+1)=y:=by simp[dz,gy]
  have hw':¬iu<n2:=by omega
  have hiu:iu<n1:=by omega
  have hqu:¬iq=iu:=by omega
  have hsB:shr64 x s<B:=Zu2 hx
  have hsB64:shr64 x s<18446744073709551616:=hsB
  have hx64:x<18446744073709551616:=hx
  have hy64:y<18446744073709551616:=hy
  have hxs:(s:Int)≤64:=by omega
  have K1:=fun v1 v2=>(hK.set (o:=v1) h2u).set (i:=iu) (o:=v2) h2u
  by_cases h0:0<s
  ·have h0':(0:Int)<(s:Int):=by omega
   obtain⟨z1,z2⟩:=Yiy (y:=y) hx h0 hs
   have ox2:(o.set i (shr64 x s))[i]?=some (shr64 x s):=Ysf (by omega)
   have oy2:(o.set i (shr64 x s))[i+1]?=some y:=by rw[Yry (by omega)];exact oy
   have hlo2:(o.set i (shr64 x s)).length=lu:=by simp[lo]
   have hsub:Zap .i64 (64-(s:Int))=((64-s:Nat):Int):=by rw[Zah (by omega) (by omega)];omega
   simp(disch:=first|(simp;done)|omega|(simp only[Zab,Zaa,Yrr];omega)|rfl) [-getElem?_pos,A.lb225_0,hr,hf,h97,a96,a9,a11,hlt,hil,hil2,hrow,Za9 ox,Zcx,h0,h0',hil3,hsub,Za9 ox2,Za9 oy2,hlo2,hiu,Zal.chk]
   refine⟨m,by omega,rfl,by simp[Zae,hW,hw'],K1 _ _,by simp[hqu,hQ],i+1,(o.set i (shr64 x s)).set i (or64 (shr64 x s) (shl64 y (64-s))),by omega,by simp,by simp,by simp[lo],(dO.set' hsB).set' z1,?_,?_⟩
   ·intro t ht
    rw[Yry (by omega),Yry (by omega)]
    exact hsame t (by omega)
   ·rw[List.set_set,Zb8,Zb8,hzx,hzy,show dz (o.set i (or64 (shr64 x s) (shl64 y (64-s)))) i=or64 (shr64 x s) (shl64 y (64-s)) by simp[dz,Ysf (show i<o.length by omega)]]
    have ht:(o.set i (or64 (shr64 x s) (shl64 y (64-s)))).take i=o.take i:=by
     apply Ysw
     intro t
     rw[Ysh,Ysh]
     split
     ·rw[Yry (by omega)]
     ·rfl
    rw[ht]
    rw[hzx]at he
    have e2:B^i*(2^s*or64 (shr64 x s) (shl64 y (64-s))+x%2^s)=B^i*(x+B*(y%2^s)):=by rw[z2]
    rw[Ysg]
    generalize or64 (shr64 x s) (shl64 y (64-s))=z at*
    generalize val B (o.take i)=y1 at*
    generalize val B (U.take i)=y2 at*
    generalize x%2^s=y3 at*
    generalize y%2^s=y4 at*
    generalize (2:Nat)^s=y5 at*
    generalize B^i=y6 at*
    clear z2 ht K1
    grind
  ·have hs0:s=0:=by omega
   subst hs0
   have z0:shr64 x 0=x:=by unfold shr64;simp
   have hself:o.set i x=o:=by
    apply Ysw
    intro t
    by_cases ht:t=i
    ·subst ht;rw[Ysf (by omega),ox]
    ·rw[Yry (by omega)]
   simp(disch:=first|(simp;done)|omega|(simp only[Zab,Zaa,Yrr];omega)|rfl) [-getElem?_pos,A.lb225_0,hr,hf,h97,a96,a9,a11,hlt,hil,hil2,hrow,Za9 ox,Zcx,z0,hself]
   refine⟨m,by omega,rfl,by simp[Zae,hW,hw'],hK.set h2u,by simp[hqu,hQ],i+1,o,by omega,by simp,by simp,lo,dO,fun t ht=>hsame t (by omega),?_⟩
   rw[Zb8,Zb8,hzx,show dz o i=x by simp[dz,ox]]
   have:dz U i%2^0=0:=Nat.mod_one _
   rw[this]at he
   simp only[Yvc,Nat.one_mul,Nat.mod_one,Nat.mul_zero,Yty]at he ⊢
   omega
def Yij(h:(wds b).length=1):wds b=[b]∧b<B:=by
 obtain⟨h1,h2⟩:=Zdv (k:=0) h
 rw[Yvc]at h1
 rw[Yt5,Nat.pow_one]at h2
 refine⟨?_,h2⟩
 rw[Zbr (by omega),Yt0 h2,Zbp,Ytl h2]
def Yeg{r:Nat}(h:r<B):Zgt [r]=wds r:=by
 rw[Zdi (by intro d hd;simp at hd;subst hd;exact h)]
 simp[val]
def Zrv{h:T O}{u v:V}{a:Nat}(hu:Wn h N u a)(hv:Wn h N v b)(hb:0<b)(hl:(wds a).length<1000000000000)(hl2:(wds b).length<1000000000000):Fn A.C 225 [u,v] h N (fun x h' n'=>∃q r,x=.tup [q,r]∧Wn h' n' q (a/b)∧Wn h' n' r (a%b)):=by
 intro w
 have lu:=hu.len
 have lv:=hv.len
 rw[Zab]at lu lv
 rw[Zaf,A.k225 (by simp)]
 simp(disch:=first|(simp;done)|omega|(simp only[Zab,Zaa,Yrr];omega)|rfl) [-getElem?_pos,A.b225]
 refine Zac (Zhi hu hv (by omega) (by omega)) ?_
 rintro _ h1 n1 k1 rfl
 by_cases hlt:a<b
 ·have c1:Zuj a b= -1:=by simp[Zuj,hlt]
  simp(disch:=first|(simp;done)|omega|(simp only[Zab,Zaa,Yrr];omega)|rfl) [-getElem?_pos,c1,Ret]
  refine⟨k1,_,_,⟨rfl,rfl⟩,?_,?_⟩
  ·rw[Yt0 hlt];unfold Wn;rw[Zbp];exact Sl.nil
  ·rw[Ytl hlt];exact hu.keep k1
 ·have c1:¬Zuj a b<0:=by
   unfold Zuj
   rw[Yrt (by omega)]
   split<;>omega
  have hu1:=hu.keep k1
  have hv1:=hv.keep k1
  have hle:=Zc9 (a:=b) (b:=a) (by omega)
  by_cases h1l:(wds b).length=1
  ·obtain⟨e1,e2⟩:=Yij h1l
   have h1l':((wds b).length:Int)=1:=by omega
   have hv1':Sl h1 n1 v (dg [b]):=by rw[←e1];exact hv1
   simp(disch:=first|(simp;done)|omega|(simp only[Zab,Zaa,Yrr];omega)|rfl) [-getElem?_pos,c1,lv,h1l,lu,Zag]
   refine Zak [(7,8),(30,48)] _ (Dv1 h1 n1 n1 (wds a) b) (wds a).length ?_ (Ygg hu1 hv1' (Zdh a) e2 (by omega) (by simp) (by simp) (by simp)) ?_
   ·refine⟨rfl,by simp,Keeps.refl.new _,0,List.replicate (wds a).length 0,Yru _,by simp,by simp,by simp[Zgj],by simp,?_,?_,hb⟩
    ·intro d hd
     rw[Yu5]at hd
     rw[hd.2];decide
    ·simp[val]
   rintro e r ⟨H,n2,W⟩ hr ⟨rfl,hn,hW,hK,rest,Q,hm,h8,h7,hrow,hQ,dQ,he,hrl⟩
   simp only at hn hW hK hrow
   subst hn
   simp(disch:=first|(simp;done)|omega|(simp only[Zab,Zaa,Yrr];omega)|rfl) [-getElem?_pos,hr,h7]
   refine Zac (Zfy (l:=Q) (Sl.row (e:=217) (rw:=true) (by omega) hrow (by rw[Zab];exact hQ) (by simp)) (by omega)) ?_
   rintro q2 h3 n3 k3 hq
   simp(disch:=first|(simp;done)|omega|(simp only[Zab,Zaa,Yrr];omega)|rfl) [-getElem?_pos,hr,h7,splice]
   have k4:Keeps h3 n3 (h3.set n3 (.cells [.int .u64 rest] 217 true)) (n3+1):=Keeps.refl.new _
   have hs5:Sl (h3.set n3 (.cells [.int .u64 rest] 217 true)) (n3+1) (.slice n3 0 1 (some 1) 1) (dg [rest]):=Sl.row (e:=217) (rw:=true) (L:=1) (Ys4 n3) (by simp[dg]) (by simp) (by simp)
   refine Zac (Zfy hs5 (by simp)) ?_
   rintro r2 h5 n5 k5 hr2
   simp only[Yun,Zbq]at he
   have hqv:val B Q=a/b:=by
    rw[he,Nat.mul_add_div hb,Yt0 hrl];omega
   have hrv:rest=a%b:=by
    rw[he,Nat.mul_add_mod,Ytl hrl]
   rw[Zdi dQ,hqv]at hq
   rw[Yeg (by omega),hrv]at hr2
   simp(disch:=first|(simp;done)|omega|(simp only[Zab,Zaa,Yrr];omega)|rfl) [-getElem?_pos,hr,Ret]
   exact⟨Zfk k1.le hW,((k1.trans hK).trans k3).trans (k4.trans k5),_,_,⟨rfl,rfl⟩,(hq.keep k4).keep k5,hr2⟩
  ·have hbl:(wds b).length≠0:=by
    rw[Zbr (by omega)];simp
   obtain⟨k,hk⟩:∃k,(wds b).length=k+2:=⟨(wds b).length-2,by omega⟩
   have h1l':¬(k:Int)+2=1:=by omega
   have gt:=Yrx (l:=wds b) (i:=k+1) (by omega)
   generalize (wds b)[k+1]'(by omega)=bt at*
   have hbtB:bt<B:=(Zdh b).get gt
   have hbt0:¬bt=0:=by
    obtain⟨w1,w2⟩:=Zdv (k:=k+1) hk
    have:=(Zl8 w1 w2).2
    rw[gt]at this
    have e:=Ys0 this
    have hp:0<B^(k+1):=Yuv (by decide)
    have:=(Yuz hp).2 (by rw[Nat.one_mul];exact w1)
    omega
   obtain⟨m1,m2,m3⟩:=Yho hbt0 hbtB
   have hlz:=fun (h:T O) (N:Nat)=>Ybv (h:=h) (N:=N) (x:=bt) hbtB
   generalize hs:64-blen bt=s at*
   obtain⟨i1,o1,cc1,e1,w1,p1,p2,p3,p4⟩:=hv1.at (Za9 gt)
   have t1:((k:Int)+2-1)=(k:Int)+1:=by omega
   rw[hk]at lv
   simp(disch:=first|(simp;done)|omega|(simp only[Zab,Zaa,Yrr];omega)|rfl) [-getElem?_pos,c1,lv,Zag,p1,p3,p4,t1,h1l']
   refine Zac (hlz _ _) ?_
   rintro _ h1 n1 k2 ⟨rfl,rfl,rfl⟩
   simp(disch:=first|(simp;done)|omega|(simp only[Zab,Zaa,Yrr];omega)|rfl) [-getElem?_pos,lv]
   refine Zac (Zoj hv1 (Zdh b) m3 (by omega)) ?_
   rintro vv h2 n2 k3 ⟨iv,ov,g1,g2,rfl,g3,g4,g5,g6⟩
   simp(disch:=first|(simp;done)|omega|(simp only[Zab,Zaa,Yrr];omega)|rfl) [-getElem?_pos,lv]
   refine Zac (Zfy (l:=ov) (Sl.row (e:=217) (rw:=true) g2 g3 (by rw[Zab];exact g4) (by simp)) (by omega)) ?_
   rintro vy h3 n3 k4 hy
   rw[Zdi g5,g6,Zbq]at hy
   obtain⟨y1,v1,y2,y3⟩:=Yd9 hk gt m1 m2 (by omega)
   have ly:=Sl.len hy
   rw[Zab,y1]at ly
   have ly:Zqa vy=some (k+2):=ly
   obtain⟨L,hL⟩:∃L,L+(k+2)=(wds a).length+1:=⟨(wds a).length+1-(k+2),by omega⟩
   have hLi:((wds a).length:Int)-((k:Int)+2)=(L:Int)-1:=by omega
   simp(disch:=first|(simp;done)|omega|(simp only[Zab,Zaa,Yrr];omega)|rfl) [-getElem?_pos,]
   refine Zac (Zoj ((hu1.keep k3).keep k4) (Zdh a) m3 (by omega)) ?_
   rintro uu h4 n4 k5 ⟨iu,ou,j1,j2,rfl,j3,j4,j5,j6⟩
   simp(disch:=first|(simp;done)|omega|(simp only[Zab,Zaa,Yrr];omega)|rfl) [-getElem?_pos,ly,lu,hLi,Zgj]
   have hY0:0<v1:=by omega
   have k6:Keeps h4 n4 (h4.set n4 (.cells (dg (List.replicate L 0)) 217 true)) (n4+1):=Keeps.refl.new _
   have hyv:v1*B^(k+1)≤val B (wds (b*2^s)):=by
    obtain⟨w1,w2⟩:=Zdv (k:=k+1) y1
    have:=(Zl8 w1 w2).2
    rw[y2]at this
    have e:=Ys0 this
    rw[Zbq,e]
    exact Nat.div_mul_le_self _ _
   refine Zak [(14,14),(80,95)] _ (DvN N n3 h3 iu n4 (n4+1) ((wds a).length+1) k (a*2^s) (wds (b*2^s))) L ?_ (Ygf (cq:=some L) (v1:=v1) hy (by omega) (Zdh _) (by omega) (by rw[y2]) hY0 j1 j2 (Ys4 n4) (by omega) (by simp) (by simp) (by simp) ?_) ?_
   ·have hne:¬iu=n4:=by omega
    refine⟨rfl,rfl,(k5.trans k6),ou,List.replicate L 0,by simp,by simp[hne,j3],by simp,j4,by simp;omega,by simp,j5,?_,fun t ht1 ht2=>by omega,?_,?_⟩
    ·intro d hd
     rw[Yu5]at hd
     rw[hd.2];decide
    ·have ha0:a≠0:=by omega
     have hla:(wds a).length≠0:=by rw[Zbr ha0];simp
     obtain⟨la1,hla1⟩:∃x,(wds a).length=x+1:=⟨(wds a).length-1,by omega⟩
     have hab:=(Zdv hla1).2
     rw[←hla1]at hab
     rw[Zbq]at j6
     exact Zzq (k:=k+1) j6 j4 (by omega) (by omega) hab m3 y3 hyv
    ·simp[val,j6,Zbq]
   ·have:(wds a).length+1-(k+2)=L:=by omega
    simp[this]
   rintro e r ⟨H,n5,W⟩ hr ⟨rfl,hn,hW,hK,U,Q,h14,hU,hQ,lU,lQ,hm,dU,dQ,hz,hlt2,he⟩
   simp only at hn hW hK hU hQ
   subst hn
   simp only[Yun,Yvc,Nat.one_mul]at he hlt2
   simp(disch:=first|(simp;done)|omega|(simp only[Zab,Zaa,Yrr];omega)|rfl) [-getElem?_pos,hr]
   refine Zak [(15,15),(97,130)] _ (ShD n3 h3 iu n4 (n4+1) ((wds a).length+1) (k+2) s U Q) (k+2) ?_ (Yer (cu:=some ((wds a).length+1)) (by omega) lU dU m3 j1 j2 (Ys4 n4) (by omega) (by simp[hr]) (by simp[hr]) (by simp[hr])) ?_
   ·refine⟨rfl,hW,hK,hQ,0,U,by omega,by simp,hU,lU,dU,fun _ _=>rfl,?_⟩
    obtain⟨x,hx⟩:∃x,val B U=2^s*x:=by
     refine⟨a-val B Q*b,?_⟩
     rw[Zbq]at he
     rw[Nat.mul_sub,Ysk _ a,←he]
     have:val B Q*(b*2^s)=2^s*(val B Q*b):=by grind
     omega
    have hz0:dz U 0%2^s=0:=by
     have h1:=Zb8 (b:=B) (l:=U) (k:=0)
     have h2:=Zda B U 1 (by omega)
     simp only[List.take_zero,val,Yvc,Nat.one_mul,Yt5,Nat.pow_one]at h1 h2
     rw[h1,hx]at h2
     have h3:B=2^s*2^(64-s):=by rw[←Ysr,show s+(64-s)=64 by omega];rfl
     rw[h3,Yt3]at h2
     have h4:dz U 0=2^s*(x-2^(64-s)*val (2^s*2^(64-s)) (U.drop 1)):=by rw[Nat.mul_sub];omega
     rw[h4,Nat.mul_mod_right]
    rw[hz0];simp[val]
   rintro e r2 ⟨H2,n5,W2⟩ hr2 ⟨rfl,hn2,hW2,hK2,hQ2,i,o,hi,h97,hrow,lo,dO,hsame,he2⟩
   simp only at hn2 hW2 hK2 hQ2 hrow
   subst hn2
   have:i=k+2:=by omega
   subst this
   simp(disch:=first|(simp;done)|omega|(simp only[Zab,Zaa,Yrr];omega)|rfl) [-getElem?_pos,hr2,hr]
   refine Zac (Zfy (l:=Q) (Sl.row (e:=217) (rw:=true) (Ys4 n4) hQ2 (by rw[Zab];omega) (by simp)) (by omega)) ?_
   rintro q2 h6 n6 k6 hq
   have hsU:Sl h6 n6 (.slice iu 0 ((wds a).length+1) (some ((wds a).length+1)) 1) (dg o):=(Sl.row (h:=H2) (N:=n4+1) (by omega) hrow (by rw[Zab];exact lo) (by simp)).keep k6
   obtain⟨v',e1,e2⟩:=Zjn (w:=[]) hsU (lo:=0) (hi:=k+2) (Yum _) (by rw[Zab];omega) none (some (.int .i64 ((k+2:Nat):Int))) (.inr ⟨rfl,rfl⟩) (.inl rfl)
   rw[show ((k+2:Nat):Int)=(k:Int)+2 by omega]at e1
   simp(disch:=first|(simp;done)|omega|(simp only[Zab,Zaa,Yrr];omega)|rfl) [-getElem?_pos,hr2,hr,Zef,evOpt,e1]
   rw[Yun,show (dg o).take (k+2)=dg (o.take (k+2)) by simp[dg]]at e2
   refine Zac (Zfy (l:=o.take (k+2)) e2 (by rw[Ysi];omega)) ?_
   rintro r3 h7 n7 k7 hr3
   rw[Zdi dQ]at hq
   rw[Zdi (fun d hd=>dO d (Ytx hd))]at hr3
   rw[Zbq]at he hlt2
   have hbs:0<b*2^s:=Yuc hb (Ys7 s)
   have hU0:dz U (k+2)=0:=by simp[dz,hz (k+2) (by omega) (by omega)]
   have hUt:val B (U.take (k+2))=val B U:=by
    have h1:=Zda B U (k+2) (by omega)
    rw[Zfw (fun t t1 t2=>hz t (by omega) (by omega))]at h1
    omega
   have hqv:val B Q=a/b:=by
    have h1:a*2^s/(b*2^s)=val B Q:=by
     rw[←he,Nat.add_mul_div_right _ _ hbs,Yt0 hlt2];omega
    rw[Yvm _ _ (Ys7 s)]at h1
    exact h1.symm
   have hrv:val B (o.take (k+2))=a%b:=by
    have h1:a*2^s%(b*2^s)=val B U:=by
     rw[←he,Nat.add_mul_mod_self_right,Ytl hlt2]
    rw[Yu7,Ysk]at h1
    rw[hU0,Nat.zero_mod,Nat.mul_zero,Yty,hUt,←h1]at he2
    exact Nat.eq_of_mul_eq_mul_left (Ys7 s) he2
   rw[hqv]at hq
   rw[hrv]at hr3
   simp(disch:=first|(simp;done)|omega|(simp only[Zab,Zaa,Yrr];omega)|rfl) [-getElem?_pos,hr2,hr,Zal.chk,Ret]
   have kk:=(k1.trans k3).trans k4
   exact⟨Zfk kk.le hW2,((kk.trans hK2).trans k6).trans k7,q2,r3,⟨rfl,rfl⟩,Sl.keep hq k7,hr3⟩
variable {N n:Nat} {h:T O} {x:V} {z:Int}
def A.b136:=A.q Tryz.f136
def A.k136:=@A.kk 136 5 [.cell 2 (some 2)] A.b136 (by kernel_rfl) rfl
def A.b192:=A.q Tryz.f192
def A.k192:=@A.kk 192 7 [.tmp 2] A.b192 (by kernel_rfl) rfl
def A.b228:=A.q Tryz.f228
def A.k228:=@A.kk 228 9 [.cell 2 (some 2)] A.b228 (by kernel_rfl) rfl
def A.b211:=A.q Tryz.f211
def A.k211:=@A.kk 211 10 [.tmp 2] A.b211 (by kernel_rfl) rfl
def A.b200:=A.q Tryz.f200
def A.k200:=@A.kk 200 26 [.cell 2 (some 2)] A.b200 (by kernel_rfl) rfl
def A.b212:=A.q Tryz.f212
def A.k212:=@A.kk 212 24 [.tmp 2,.tmp 3] A.b212 (by kernel_rfl) rfl
def A.b213:=A.q Tryz.f213
def A.k213:=@A.kk 213 50 [.cell 4 (some 2)] A.b213 (by kernel_rfl) rfl
def sgn(z:Int):Int:=if z<0 then -1 else 1
def In(h:T O)(N:Nat)(x:V)(z:Int):Prop:=
 (x=.agg [.int .i64 z,.nilslice]∧ -9223372036854775808≤z∧z<9223372036854775808)∨
 ∃i o l c,x=.agg [.int .i64 (sgn z),.slice i o l c 1]∧Wn h N (.slice i o l c 1) z.natAbs∧9223372036854775808≤z.natAbs
def In.keep{h':T O}{N':Nat}(s:In h N x z)(k:Keeps h N h' N'):In h' N' x z:=by
 rcases s with s|⟨i,o,l,c,s1,s2,s3⟩
 ·exact .inl s
 ·exact .inr ⟨i,o,l,c,s1,s2.keep k,s3⟩
def In.small(h1: -9223372036854775808≤z)(h2:z<9223372036854775808):In h N (.agg [.int .i64 z,.nilslice]) z:=.inl ⟨rfl,h1,h2⟩
def In.cells(s:In h N x z):∃n u,x=.agg [.int .i64 n,u]∧V.one u=true:=by
 rcases s with⟨rfl,_⟩|⟨i,o,l,c,rfl,_⟩
 ·exact⟨_,_,rfl,rfl⟩
 ·exact⟨_,_,rfl,rfl⟩
def In.nu{n:Int}{u:V}(s:In h N (.agg [.int .i64 n,u]) z):∀x∈[V.int .i64 n,u],∀m,x≠.int .u64 m:=by
 intro x hx m hc
 simp only[Yss,List.not_mem_nil,or_false]at hx
 rcases hx with rfl|rfl
 ·cases hc
 ·subst hc
  rcases s with⟨e,_⟩|⟨_,_,_,_,e,_⟩
  ·simp at e
  ·simp at e
def kset{h1:T O}{n1:Nat}(k:Keeps h n h1 n1)(o:O):Keeps h n (h1.set n1 o) (n1+1):=(k.set k.le).up (Yuu _)
def wl(z:Int):Nat:=(wds z.natAbs).length
def Ztj:Fn A.C 136 [.int .i64 z] h N (fun v _ _=>v=.agg [.int .i64 z,.nilslice]):=by
 intro w
 rw[Zaf,A.k136 (by simp)]
 simp(disch:=first|(simp;done)|omega|(simp only[Zab,Zaa,Yrr];omega)|rfl) [-getElem?_pos,A.b136,Zaj,slc,splice,Ret]
 exact(((Keeps.refl.set (Yru N)).set (Yru N)).up (Yuu N))
def sg3(z:Int):Int:=if z<0 then -1 else if z=0 then 0 else 1
def Zik(hx:In h N x z):Fn A.C 192 [x] h N (fun v _ _=>v=.int .i64 (sg3 z)):=by
 intro w
 rw[Zaf,A.k192 (by simp)]
 rcases hx with⟨rfl,_⟩|⟨i,o,l,c,rfl,_,hz⟩
 ·obtain h1|h1|h1:z<0∨z=0∨0<z:=by omega
  ·have e1:z<1:=by omega
   have e2:¬ -1<z:=by omega
   simp(disch:=first|(simp;done)|omega|(simp only[Zab,Zaa,Yrr];omega)|rfl) [-getElem?_pos,A.b192,Zaj,slc,splice,Ret,Zjv,Zf9,Yd0,Zvs,Yd1,Zzh,h1,e1,e2,sg3]
   exact kset Keeps.refl _
  ·subst h1
   simp(disch:=first|(simp;done)|omega|(simp only[Zab,Zaa,Yrr];omega)|rfl) [-getElem?_pos,A.b192,Zaj,slc,splice,Ret,Zjv,Zf9,Yd0,Zvs,Yd1,Zzh,sg3]
   exact kset Keeps.refl _
  ·have e1:¬z<1:=by omega
   have e2:¬z<0:=by omega
   have e3:¬z=0:=by omega
   simp(disch:=first|(simp;done)|omega|(simp only[Zab,Zaa,Yrr];omega)|rfl) [-getElem?_pos,A.b192,Zaj,slc,splice,Ret,Zjv,Zf9,Yd0,Zvs,Yd1,Zzh,e1,e2,e3,sg3]
   exact kset Keeps.refl _
 ·by_cases h1:z<0
  ·simp(disch:=first|(simp;done)|omega|(simp only[Zab,Zaa,Yrr];omega)|rfl) [-getElem?_pos,A.b192,Zaj,slc,splice,Ret,Zjv,Zf9,Yd0,Zvs,Yd1,Zzh,sgn,sg3,h1]
   exact kset Keeps.refl _
  ·have e3:¬z=0:=by omega
   simp(disch:=first|(simp;done)|omega|(simp only[Zab,Zaa,Yrr];omega)|rfl) [-getElem?_pos,A.b192,Zaj,slc,splice,Ret,Zjv,Zf9,Yd0,Zvs,Yd1,Zzh,sgn,sg3,h1,e3]
   exact kset Keeps.refl _
def Zsx(hz: -9223372036854775808≤z)(hm:z<9223372036854775808){st:St}:A.C.call (.func 211 [] []) [.int .i64 z] st=some (.int .u64 (z.natAbs:Nat),st):=by
 apply Call.eq
 rw[Zaf,A.k211 (by simp)]
 by_cases e1:z<0
 ·have e2:Zap .u64 (IntKind.wrap .i64 (0-z))=(z.natAbs:Nat):=by
   rw[Zco]
   by_cases e3:z= -9223372036854775808
   ·subst e3;decide
   ·rw[Zi7 (by omega) (by omega)];omega
  rw[Int.zero_sub]at e2
  simp(disch:=first|(simp;done)|omega|(simp only[Zab,Zaa,Yrr];omega)|rfl) [-getElem?_pos,A.b211,e1,e2]
 ·have e2:Zap .u64 z=(z.natAbs:Nat):=by rw[Zeb (by omega) (by omega)];omega
  simp(disch:=first|(simp;done)|omega|(simp only[Zab,Zaa,Yrr];omega)|rfl) [-getElem?_pos,A.b211,e1,e2]
def Zey(h:n<B)(h0:n≠0):wds n=[n]:=by
 rw[Zbr h0,Yt0 h,Zbp,Ytl h]
def Zeq(hx:In h N x z):Fn A.C 212 [x] h N (fun v h' n'=>∃u,v=.tup [.bool (decide (z<0)),u]∧Wn h' n' u z.natAbs):=by
 intro w
 rw[Zaf,A.k212 (by simp)]
 rcases hx with⟨rfl,h1,h2⟩|⟨i,o,l,c,rfl,hw,hz⟩
 ·by_cases h0:z=0
  ·subst h0
   simp(disch:=first|(simp;done)|omega|(simp only[Zab,Zaa,Yrr];omega)|rfl) [-getElem?_pos,A.b212,Zaj,slc,splice,Zag,Ret]
   refine⟨kset Keeps.refl _,?_⟩
   unfold Wn;rw[Zbp];exact Sl.nil
  ·have hs:=fun st=>Zsx h1 h2 (st:=st)
   have d1:¬N=N+1:=by omega
   simp(disch:=first|(simp;done)|omega|(simp only[Zab,Zaa,Yrr];omega)|rfl) [-getElem?_pos,A.b212,Zaj,slc,splice,Zag,h0,hs,Ret,Zal.chk]
   refine⟨kset (kset Keeps.refl _) _,?_⟩
   unfold Wn
   rw[Zey (by unfold B;omega) (by omega)]
   exact Sl.row (e:=217) (rw:=true) (L:=1) (by omega) (by simp[dg]) (by simp) (by simp)
 ·have e1:(sgn z<0)=(z<0):=by unfold sgn;split<;>simp_all
  simp(disch:=first|(simp;done)|omega|(simp only[Zab,Zaa,Yrr];omega)|rfl) [-getElem?_pos,A.b212,Zaj,slc,splice,Zag,Ret,e1,Zal.chk]
  refine⟨kset Keeps.refl _,hw.keep (kset Keeps.refl _)⟩
def Zg6{u:V}{b:Bool}(hu:Wn h N u n)(hl:(wds n).length<1099511627776):Fn A.C 213 [.bool b,u] h N (fun v h' n'=>In h' n' v (if b=true then -(n:Int) else n)):=by
 intro w
 have lu:=hu.len
 rw[Zab]at lu
 rw[Zaf,A.k213 (by simp)]
 have kk:∀o1 o2:O,Keeps h N ((h.set N o1).set N o2) (N+1):=fun o1 o2=>(kset Keeps.refl o1).set (Yru N)
 by_cases h0:n=0
 ·subst h0
  rw[Zbp]at lu
  simp(disch:=first|(simp;done)|omega|(simp only[Zab,Zaa,Yrr];omega)|rfl) [-getElem?_pos,A.b213,lu,Zag,Zaj,slc,splice,Ret]
  refine⟨kk _ _,?_⟩
  have:(if b=true then -((0:Nat):Int) else ((0:Nat):Int))=0:=by split<;>rfl
  exact In.small (by omega) (by omega)
 ·by_cases h1:n<18446744073709551616
  ·rw[Zey h1 h0]at lu
   obtain⟨i,o,c,e,rw,p1,p2,p3,p4⟩:=hu.at (Za9 (l:=wds n) (j:=0) (n:=n) (by rw[Zey h1 h0];rfl))
   rw[Yty]at p4
   have lu:Zqa u=some 1:=lu
   have hne:¬i=N:=by omega
   by_cases h2:n≤9223372036854775807
   ·have h2':(n:Int)≤9223372036854775807:=by omega
    have w1:Zap .i64 (n:Int)=n:=Zah (by omega) (by omega)
    have w2:IntKind.wrap .i64 (-(n:Int))= -(n:Int):=Zi7 (by omega) (by omega)
    cases b
    ·simp(disch:=first|(simp;done)|omega|(simp only[Zab,Zaa,Yrr];omega)|rfl) [-getElem?_pos,A.b213,lu,Zag,p1,p3,p4,hne,h2',w1,Zaj,slc,splice,Ret]
     exact⟨kk _ _,In.small (by omega) (by omega)⟩
    ·simp(disch:=first|(simp;done)|omega|(simp only[Zab,Zaa,Yrr];omega)|rfl) [-getElem?_pos,A.b213,lu,Zag,p1,p3,p4,hne,h2',w1,w2,Zaj,slc,splice,Ret]
     exact⟨kk _ _,In.small (by omega) (by omega)⟩
   ·have h2':¬(n:Int)≤9223372036854775807:=by omega
    obtain⟨i2,o2,l2,c2,rfl⟩:∃i o l c,u=.slice i o l c 1:=by
     rcases hu with⟨hu,_⟩|⟨i,o,cp,c,e,rw,hu,_⟩
     ·rw[Zey h1 h0]at hu;simp[dg]at hu
     ·exact⟨_,_,_,_,hu⟩
    cases b
    ·simp(disch:=first|(simp;done)|omega|(simp only[Zab,Zaa,Yrr];omega)|rfl) [-getElem?_pos,A.b213,lu,Zag,p1,p3,p4,hne,h2',Zaj,slc,splice,Ret]
     refine⟨kk _ _,.inr ⟨i2,o2,l2,c2,?_,hu.keep (kk _ _),?_⟩⟩
     ·simp[sgn]
     ·omega
    ·simp(disch:=first|(simp;done)|omega|(simp only[Zab,Zaa,Yrr];omega)|rfl) [-getElem?_pos,A.b213,lu,Zag,p1,p3,p4,hne,h2',Zaj,slc,splice,Ret]
     refine⟨kk _ _,.inr ⟨i2,o2,l2,c2,?_,?_,?_⟩⟩
     ·simp[sgn];omega
     ·simpa using hu.keep (kk _ _)
     ·omega
  ·have hl1:2≤(wds n).length:=by
    rw[Zbr h0,Zbr (by unfold B;omega)];simp
   have c0:¬((wds n).length:Int)=0:=by omega
   have c1:¬((wds n).length:Int)=1:=by omega
   have c2:¬(wds n).length=1:=by omega
   have c3:¬wds n=[]:=by intro h;rw[h]at hl1;simp at hl1
   rcases hu with⟨hu,_⟩|⟨i,o,cp,c,e,rw,rfl,hu⟩
   ·exfalso
    have:=congrArg List.length hu
    rw[Zab]at this
    simp at this
    exact c3 this
   have hw:Wn h N (.slice i o (dg (wds n)).length cp 1) n:=.inr ⟨i,o,cp,c,e,rw,rfl,hu⟩
   rw[Zab]at hw
   cases b
   ·simp(disch:=first|(simp;done)|omega|(simp only[Zab,Zaa,Yrr];omega)|rfl) [-getElem?_pos,A.b213,Zag,c0,c1,c2,c3,Zaj,slc,splice,Ret]
    refine⟨kk _ _,.inr ⟨i,o,(wds n).length,cp,?_,hw.keep (kk _ _),?_⟩⟩
    ·simp[sgn]
    ·omega
   ·simp(disch:=first|(simp;done)|omega|(simp only[Zab,Zaa,Yrr];omega)|rfl) [-getElem?_pos,A.b213,Zag,c0,c1,c2,c3,Zaj,slc,splice,Ret]
    refine⟨kk _ _,.inr ⟨i,o,(wds n).length,cp,?_,?_,?_⟩⟩
    ·simp[sgn];omega
    ·simpa using hw.keep (kk _ _)
    ·omega
def Sl.setNU{v:V}{l:List Nat}{i:Nat}{c0 c1:List V}{e0 e1:TypeId}{w0 w1:Bool}(s:Sl h N v (dg l))(hr:h.get i=some (.cells c0 e0 w0))(hn:∀x∈c0,∀n,x≠.int .u64 n)(hc:c1.length=c0.length):Sl (h.set i (.cells c1 e1 w1)) N v (dg l):=by
 rcases s with s|⟨i',o,cp,c,e,rw,rfl,q1,q2,q3,q4,q5⟩
 ·exact .inl s
 ·by_cases hi:i'=i
  ·subst hi
   rw[hr]at q2
   simp only[Yrs,O.cells.injEq]at q2
   obtain⟨rfl,rfl,rfl⟩:=q2
   cases l with
   |nil=>
    refine .inr ⟨i',o,cp,c1,e1,w1,rfl,q1,by rw[T.get_set,Yrw rfl],?_,by simpa[hc]using q4,q5⟩
    intro j hj
    simp[dg]at hj
   |cons d l=>
    exfalso
    have:=q3 0 (by simp[dg])
    have hm:=Yr1 (l:=c0) (i:=o+0) (a:=.int .u64 d) (by rw[this];simp[dg])
    exact hn _ hm _ rfl
  ·exact .inr ⟨i',o,cp,c,e,rw,rfl,q1,by rw[T.get_set,Yrt hi];exact q2,q3,q4,q5⟩
def In.setNU{i:Nat}{c0 c1:List V}{e0 e1:TypeId}{w0 w1:Bool}(s:In h N x z)(hr:h.get i=some (.cells c0 e0 w0))(hn:∀x∈c0,∀n,x≠.int .u64 n)(hc:c1.length=c0.length):In (h.set i (.cells c1 e1 w1)) N x z:=by
 rcases s with s|⟨i',o,l,c,s1,s2,s3⟩
 ·exact .inl s
 ·exact .inr ⟨i',o,l,c,s1,Sl.setNU s2 hr hn hc,s3⟩
def Zor(hx:In h N x z)(hl:wl z<500000000000):Fn A.C 200 [x] h N (fun v h' n'=>In h' n' v (-z)):=by
 intro w
 rw[Zaf,A.k200 (by simp)]
 have rest:∀{x:V},In h N x z→∀(h1:T O) (N1:Nat),Keeps h N h1 N1→Fn A.C 212 [x] h1 N1 (fun v h' n'=>∃u,v=.tup [.bool (decide (z<0)),u]∧Wn h' n' u z.natAbs):=fun hx h1 N1 k=>Zeq (hx.keep k)
 have fin:∀{v h' n'},In h' n' v (if (!decide (z<0))=true then -(z.natAbs:Int) else z.natAbs)→In h' n' v (-z):=fun {v h' n'} q=>by
  have e:(if (!decide (z<0))=true then -(z.natAbs:Int) else (z.natAbs:Int))= -z:=by
   by_cases h:z<0<;>simp[h]<;>omega
  rw[e]at q;exact q
 by_cases hz:x=.agg [.int .i64 z,.nilslice]∧z≠ -9223372036854775808∧ -9223372036854775808≤z∧z<9223372036854775808
 ·obtain⟨rfl,h0,h1,h2⟩:=hz
  have w2:IntKind.wrap .i64 (-z)= -z:=Zi7 (by omega) (by omega)
  simp(disch:=first|(simp;done)|omega|(simp only[Zab,Zaa,Yrr];omega)|rfl) [-getElem?_pos,A.b200,Zaj,slc,splice,Zag,h0,w2,Ret]
  exact⟨(kset (kset Keeps.refl _) _).set (by omega),In.small (by omega) (by omega)⟩
 ·rcases id hx with⟨rfl,h1,h2⟩|⟨i,o,l,c,rfl,_⟩
  ·have h0:z= -9223372036854775808:=by
    apply Decidable.byContradiction
    intro hc
    exact hz ⟨rfl,hc,h1,h2⟩
   have hp:=rest hx _ _ (kset (kset Keeps.refl (.cells [.int .i64 z,.nilslice] 108 true)) (.cells [.int .i64 0,.nilslice] 108 true))
   subst h0
   simp(disch:=first|(simp;done)|omega|(simp only[Zab,Zaa,Yrr];omega)|rfl) [-getElem?_pos,A.b200,Zaj,slc,splice,Zag]
   refine Zac hp ?_
   rintro _ h3 n3 k3 ⟨u,rfl,hu⟩
   have kle:=k3.le
   have g0:=k3.get (N+1) (by omega)
   simp at g0
   simp(disch:=first|(simp;done)|omega|(simp only[Zab,Zaa,Yrr];omega)|rfl) [-getElem?_pos,]
   refine Zac (Zg6 hu (by unfold wl at hl;omega)) ?_
   rintro v h4 n4 k4 hv
   have kle4:=k4.le
   have g1:=(k4.get (N+1) (by omega)).trans g0
   obtain⟨n5,u5,rfl,ho5⟩:=hv.cells
   unfold V.one at ho5
   simp(disch:=first|(simp;done)|omega|(simp only[Zab,Zaa,Yrr];omega)|rfl) [-getElem?_pos,g1,Zaj,slc,splice,Zam,Ret,ho5]
   have kk:=(((kset (kset Keeps.refl _) _).trans k3).trans k4).set (h:=h) (n:=N) (i:=N+1) (o:=.cells [.int .i64 n5,u5] 108 true) (by omega)
   exact⟨kk,(fin hv).setNU g1 (by simp) rfl⟩
  ·have hp:=rest hx _ _ (kset (kset Keeps.refl (.cells [.int .i64 (sgn z),.slice i o l c 1] 108 true)) (.cells [.int .i64 0,.nilslice] 108 true))
   simp(disch:=first|(simp;done)|omega|(simp only[Zab,Zaa,Yrr];omega)|rfl) [-getElem?_pos,A.b200,Zaj,slc,splice,Zag]
   refine Zac hp ?_
   rintro _ h3 n3 k3 ⟨u,rfl,hu⟩
   have kle:=k3.le
   have g0:=k3.get (N+1) (by omega)
   simp at g0
   simp(disch:=first|(simp;done)|omega|(simp only[Zab,Zaa,Yrr];omega)|rfl) [-getElem?_pos,]
   refine Zac (Zg6 hu (by unfold wl at hl;omega)) ?_
   rintro v h4 n4 k4 hv
   have kle4:=k4.le
   have g1:=(k4.get (N+1) (by omega)).trans g0
   obtain⟨n5,u5,rfl,ho5⟩:=hv.cells
   unfold V.one at ho5
   simp(disch:=first|(simp;done)|omega|(simp only[Zab,Zaa,Yrr];omega)|rfl) [-getElem?_pos,g1,Zaj,slc,splice,Zam,Ret,ho5]
   have kk:=(((kset (kset Keeps.refl _) _).trans k3).trans k4).set (h:=h) (n:=N) (i:=N+1) (o:=.cells [.int .i64 n5,u5] 108 true) (by omega)
   exact⟨kk,(fin hv).setNU g1 (by simp) rfl⟩
end
end Go.Mx
