/-num-/
import Derived.Test.YthekjfgljafnaaaGreatDoorNaG
set_option linter.all false
namespace Go.Mx
open Go Go.Proofs
variable {N b:Nat}
set_option maxHeartbeats 8000000
set_option maxRecDepth 1000000
noncomputable def A.w218:=A.q Tryz.f218
noncomputable def A.lb218_0:=A.ql A.w218 2 []
noncomputable def A.lb218_1:=A.ql A.w218 1 []
noncomputable def A.lb218_2:=A.ql A.w218 0 []
noncomputable def A.b218:=(fun x0 x1 x2=>A.qb A.w218 [x0,x1,x2]) A.lb218_2 A.lb218_1 A.lb218_0
def A.k218:=@A.kk 218 137 [.tmp 4,.tmp 5] A.b218 (by kernel_rfl) rfl
def Ylv{x y s:Nat}(hx:x<B)(h0:0<s)(hs:s<64):or64 (shr64 x s) (shl64 y (64-s))<B∧2^s*or64 (shr64 x s) (shl64 y (64-s))+x%2^s=x+B*(y%2^s):=by
 have hc:shr64 x s<2^(64-s):=by
  unfold shr64
  apply (Ywz (Yxl s)).2
  rw[←Yxe,show 64-s+s=64 by omega];exact hx
 rw[Zws (by omega) hc]
 refine⟨Zpg (by omega) hc,?_⟩
 have e:shl64 y (64-s)=(y%2^s)*2^(64-s):=by
  unfold shl64
  have:(18446744073709551616:Nat)=2^s*2^(64-s):=by rw[←Yxe,show s+(64-s)=64 by omega]
  rw[this,Yzm]
 have e2:2^s*(y%2^s*2^(64-s))=B*(y%2^s):=by
  have:B=2^s*2^(64-s):=by rw[←Yxe,show s+(64-s)=64 by omega];rfl
  rw[this]
  generalize 2^s=p
  generalize 2^(64-s)=q
  grind
 rw[e,Yyg,e2]
 unfold shr64
 have:=Yxv x (2^s)
 omega
structure Dv1 (h:T O) (N iq:Nat) (X:List Nat) (b m:Nat) (r:T V) (st:St):Prop where
 n:st.n=N+1
 w:Zaa N st.w=[]
 keep:Keeps h N st.h (N+1)
 ex:∃(rest:Nat) (Q:List Nat),m≤X.length∧r.get 8=some (.int .i64 ((m:Int)-1))∧r.get 7=some (.int .u64 rest)∧st.h.get N=some (.cells (dg Q) 205 true)∧Q.length=X.length∧Dg Q∧val B (X.drop m)=b*val B (Q.drop m)+rest∧rest<b
def Yiw{h:T O}{N b:Nat}{va vb:V}{X:List Nat}{r0:T V}(ha:Sl h N va (dg X))(hb:Sl h N vb (dg [b]))(dA:Dg X)(hbB:b<B)(hl:X.length<1099511627776)
  (a0:r0.get 0=some va) (a1:r0.get 1=some vb) (a6:r0.get 6=some (.slice N 0 X.length (some X.length) 1)):
  ∀k r st,(∀t,inD [(7,8),(30,48)] t=false→r.get t=r0.get t)→Fx [(7,8),(30,48)] r0 137 ⟨r,137,[]⟩→Dv1 h N N X b k r st→Code A.C none A.lb218_2 ⟨r,137,[]⟩ st (Rd [(7,8),(30,48)] r0 137 (Dv1 h N N X b) k (fun e r st=>e=.exit 0∧Dv1 h N N X b 0 r st)):=by
 rintro m r ⟨H,n1,W⟩ hr hf ⟨hn,hW,hK,rest,Q,hm,h8,h7,hrow,hQ,dQ,he,hlt⟩
 simp only at hn hW hK hrow
 subst hn
 have la:=ha.len
 have lb:=hb.len
 rw[Zaf]at la lb
 rw[Zah]
 cases m with
 |zero=>
  simp[A.lb218_2,hr,hf,h8]
  exact⟨rfl,hW,hK,rest,Q,by omega,by simp[h8],by simp[h7],hrow,hQ,dQ,he,hlt⟩
 |succ m=>
  have gx:=Yv9 (l:=X) (i:=m) (by omega)
  generalize X[m]'(by omega)=x at*
  have hx:x<B:=dA.get gx
  obtain⟨i1,o1,c1,e1,w1,p1,p2,p3,p4⟩:=ha.at (Za9 gx)
  have p3:=(hK.get _ p2).trans p3
  obtain⟨i2,o2,c2,e2,w2,q1,q2,q3,q4⟩:=hb.at (Za9 (l:=[b]) (j:=0) rfl)
  have q3:=(hK.get _ q2).trans q3
  rw[Yxc]at q4
  have gq:=Yv9 (l:=Q) (i:=m) (by omega)
  have hm1:((m+1:Nat):Int)-1=(m:Int):=by omega
  have hml:m<X.length:=by omega
  have hi1:i1<N+1:=by omega
  have hi2:i2<N+1:=by omega
  have hne1:¬i1=N:=by omega
  have hne2:¬i2=N:=by omega
  have hne3:¬N=i1:=by omega
  have hne4:¬N=i2:=by omega
  rw[hm1]at h8
  have hd:=Zxq (h:=H) (N:=N+1) hlt hbB hx
  obtain⟨q,hq⟩:∃q,(rest*18446744073709551616+x)/b=q:=⟨_,rfl⟩
  obtain⟨rr,hrr⟩:∃q,(rest*18446744073709551616+x)%b=q:=⟨_,rfl⟩
  rw[hq,hrr]at hd
  have hinv:b*q+rr=rest*B+x:=by
   have:=Yxv (rest*18446744073709551616+x) b
   rw[hq,hrr]at this
   exact this
  have hrl:rr<b:=by rw[←hrr];exact Yxo _ (by omega)
  have hqB:q<B:=by
   rw[←hq];apply (Ywz (by omega)).2
   have:=Ywr B (show rest+1≤b by omega)
   rw[Yw4 B b]
   rw[Yxd]at this
   unfold B at*;omega
  simp[A.lb218_2,hr,hf,h8,h7,la,lb,a0,a1,a6,p1,p3,p4,q1,q3,q4,hml,hi1,hi2]
  refine Zac hd ?_
  rintro _ H n2 hk3 ⟨rfl,rfl,rfl⟩
  simp(disch:=first|(simp;done)|omega|(simp only[Zaf,Zag,Yv8];omega)|rfl) [hr,hf,h8,h7,la,lb,a0,a1,a6,hrow,Zc7,hml,hi1,hi2,hne1,hne2,hne3,hne4,Zao.chk]
  refine⟨m,by omega,rfl,by simp[Zaa,hW],hK.set (Yv5 _),rr,Q.set m q,by omega,by simp,by simp,by simp,by simp[hQ],dQ.set' hqB,?_,hrl⟩
  rw[Zc6 gx,Zc6 (Ywh (by omega)),List.drop_set_of_lt (by omega),he,Yyg,Yyg]
  have:B*(b*val B (Q.drop (m+1)))=b*(B*val B (Q.drop (m+1))):=by grind
  rw[Yw4 rest]at hinv
  omega
structure DvN (N n2:Nat) (h2:T O) (iu iq Nq lu k A0:Nat) (Y:List Nat) (m:Nat) (r:T V) (st:St):Prop where
 n:st.n=Nq
 w:Zaa n2 st.w=[]
 keep:Keeps h2 n2 st.h Nq
 ex:∃(U Q:List Nat),r.get 14=some (.int .i64 ((m:Int)-1))∧st.h.get iu=some (.cells (dg U) 205 true)∧st.h.get iq=some (.cells (dg Q) 205 true)∧U.length=lu∧Q.length+(k+2)=lu∧m≤Q.length∧Dg U∧Dg Q∧(∀t,m+k+2≤t→t<lu→U[t]?=some 0)∧val B (U.drop m)<val B Y∧val B U+B^m*(val B (Q.drop m)*val B Y)=A0
def Yiv{h2:T O}{N n2 iu iq Nq lu k v1 A0:Nat}{Y:List Nat}{v:V}{r0:T V}{cq:Option Nat}(hv:Sl h2 n2 v (dg Y))(hY:Y.length=k+2)(dY:Dg Y)(hlu:lu<1099511627776)(f1:Y[k+1]?=some v1)(hv1:0<v1)(h2u:n2≤iu)(huq:iu<iq)(hq:iq<Nq)
  (hkl:k+2<lu) (a10:r0.get 10=some v) (a11:r0.get 11=some (.slice iu 0 lu (some lu) 1)) (a12:r0.get 12=some (.int .i64 ((k:Int)+2))) (a13:r0.get 13=some (.slice iq 0 (lu-(k+2)) cq 1)):
  ∀x r st,(∀t,inD [(14,14),(80,95)] t=false→r.get t=r0.get t)→Fx [(14,14),(80,95)] r0 137 ⟨r,137,[]⟩→DvN N n2 h2 iu iq Nq lu k A0 Y x r st→Code A.C none A.lb218_1 ⟨r,137,[]⟩ st (Rd [(14,14),(80,95)] r0 137 (DvN N n2 h2 iu iq Nq lu k A0 Y) x (fun e r st=>e=.exit 2∧DvN N n2 h2 iu iq Nq lu k A0 Y 0 r st)):=by
 rintro m r ⟨H,n1,W⟩ hr hf ⟨hn,hW,hK,U,Q,h14,hU,hQ,lU,lQ,hm,dU,dQ,hz,hlt,he⟩
 simp only at hn hW hK hU hQ
 subst hn
 rw[Zah]
 cases m with
 |zero=>
  simp[A.lb218_1,hr,hf,h14]
  exact⟨rfl,hW,hK,U,Q,by simp[h14],hU,hQ,lU,lQ,hm,dU,dQ,hz,hlt,he⟩
 |succ m=>
  have hm1:((m+1:Nat):Int)-1=(m:Int):=by omega
  rw[hm1]at h14
  have gu:=Yv9 (l:=U) (i:=m) (by omega)
  generalize U[m]'(by omega)=um at*
  have humB:um<B:=dU.get gu
  have hsK:Zc0 ⟨H,n1,W⟩ 1 (some (.slice iu 0 lu (some lu) 1)) (some (some (.int .i64 m))) (some (some (.int .i64 ((m:Int)+((k:Int)+2)+1)))) (some none)=some (.slice iu m (k+3) (some (lu-m)) 1,⟨H,n1,W⟩):=by
   have e1:(0:Int)≤(m:Int)+((k:Int)+2)+1∧(m:Int)+((k:Int)+2)+1≤(lu:Int):=by omega
   have e2:((m:Int)+((k:Int)+2)+1).toNat=m+k+3:=by omega
   have e3:¬lu=m:=by omega
   have e4:m≤m+k+3:=by omega
   have e5:m+k+3-m=k+3:=by omega
   have e6:(m:Int)≤((m+k+3:Nat):Int):=by omega
   simp only[Zc0,Za7,evOpt,Za2,Zei,Option.map,Src.ev,e1,e2,e3,e5,e6,and_self,if_true,if_false,Int.natCast_nonneg,Int.toNat_natCast,true_and,ne_eq,not_true_eq_false,Option.isSome,Option.isNone,Yzd,false_or,Ywi,Yyt,Yyy]
  have hmq:m<lu-(k+2):=by omega
  simp(disch:=first|(simp;done)|omega|(simp only[Zaf,Zag,Yv8];omega)|rfl) [A.lb218_1,hr,hf,h14,a10,a11,a12,a13,Zcb,evOpt,hsK]
  refine Zek (Ybh (n2:=n2) (k:=k) (U:=U) (v1:=v1) (hv.keep ⟨Yv5 _,fun i hi=>hK.get i hi⟩) hY dY h2u (by omega) (by omega) (by omega) hU dU f1 hv1 (fun t h1 h2=>hz t (by omega) (by omega)) ?_) ?_
  ·rw[Zc6 gu]
   have:=Ywt B hlt
   rw[Nat.mul_succ]at this
   omega
  rintro x ⟨H2,n3,W2⟩ ⟨s1,s2,s3,q,o,rfl,s4,s5,s6,s7,s8,s9,s10,s11⟩
  simp only at s1 s2 s3 s5
  subst s1
  have hrowq:H2.get iq=some (.cells (dg Q) 205 true):=by rw[s3 iq (by omega)];exact hQ
  simp(disch:=first|(simp;done)|omega|(simp only[Zaf,Zag,Yv8];omega)|rfl) [hr,hf,h14,a10,a11,a12,a13,hmq,hrowq,Zc7]
  have hw':¬iq<n2:=by omega
  have hHe:∀i,i<n2→(H2.set iq (.cells (dg (Q.set m q)) 205 true)).get i=h2.get i:=fun i hi=>by
   rw[T.get_set,Yv4 (by omega),s3 i (by omega)];exact hK.get i hi
  refine⟨m,by omega,rfl,?_,⟨by omega,hHe⟩,o,Q.set m q,by simp,by simp[s5,(show ¬iu=iq by omega)],by simp,by omega,by simp;omega,by simp;omega,s7,dQ.set' s4,?_,s11,?_⟩
  ·simp only[Zaa,hw',if_false]
   rw[s2];exact hW
  ·intro t h1 h2'
   exact s9 t (by omega) (by omega)
  ·have eU:=Zdl B U m (by omega)
   have eO:=Zdl B o m (by omega)
   have et:o.take m=U.take m:=by
    apply Ywy
    intro t
    rw[Ywn,Ywn]
    split
    ·exact s8 t (by omega)
    ·rfl
   rw[Zc6 (Ywh (by omega)),List.drop_set_of_lt (by omega),eO,et]
   rw[eU,←s10,Ywx]at he
   rw[←he]
   generalize val B (U.take m)=z1
   generalize val B (o.drop m)=z2
   generalize val B Y=z3
   generalize val B (Q.drop (m+1))=z4
   generalize B^m=z5
   grind
structure ShD (n2:Nat) (h2:T O) (iu iq Nq lu n s:Nat) (U Q:List Nat) (m:Nat) (r:T V) (st:St):Prop where
 hn:st.n=Nq
 w:Zaa n2 st.w=[]
 keep:Keeps h2 n2 st.h Nq
 q:st.h.get iq=some (.cells (dg Q) 205 true)
 ex:∃(i:Nat) (o:List Nat),i+m=n∧r.get 97=some (.int .i64 i)∧st.h.get iu=some (.cells (dg o) 205 true)∧o.length=lu∧Dg o∧(∀t,i≤t→o[t]?=U[t]?)∧2^s*val B (o.take i)=val B (U.take i)+B^i*(dz U i%2^s)
def Ygr{h2:T O}{n2 iu iq Nq lu n s:Nat}{U Q:List Nat}{r0:T V}{cu:Option Nat}(hlu:lu<1099511627776)(lU:U.length=lu)(dU:Dg U)(hs:s<64)(h2u:n2≤iu)(huq:iu<iq)(hq:iq<Nq)(hn:n<lu)
  (a9:r0.get 9=some (.int .i64 s)) (a11:r0.get 11=some (.slice iu 0 lu cu 1)) (a96:r0.get 96=some (.int .i64 n)):
  ∀x r st,(∀t,inD [(15,15),(97,130)] t=false→r.get t=r0.get t)→Fx [(15,15),(97,130)] r0 137 ⟨r,137,[]⟩→ShD n2 h2 iu iq Nq lu n s U Q x r st→Code A.C none A.lb218_0 ⟨r,137,[]⟩ st (Rd [(15,15),(97,130)] r0 137 (ShD n2 h2 iu iq Nq lu n s U Q) x (fun e r st=>e=.exit 4∧ShD n2 h2 iu iq Nq lu n s U Q 0 r st)):=by
 rintro m r ⟨H,n1,W⟩ hr hf ⟨hn1,hW,hK,hQ,i,o,hi,h97,hrow,lo,dO,hsame,he⟩
 simp only at hn1 hW hK hQ hrow
 subst hn1
 rw[Zah]
 cases m with
 |zero=>
  have:i=n:=by omega
  subst this
  simp[A.lb218_0,hr,hf,h97,a96]
  exact⟨rfl,hW,hK,hQ,i,o,by omega,by simp[h97],hrow,lo,dO,hsame,he⟩
 |succ m=>
  have hlt:i<n:=by omega
  have gx:U[i]?=some (U[i]'(by omega)):=Yv9 (by omega)
  have gy:U[i+1]?=some (U[i+1]'(by omega)):=Yv9 (by omega)
  generalize U[i]'(by omega)=x at*
  generalize U[i+1]'(by omega)=y at*
  have hx:x<B:=dU.get gx
  have hy:y<B:=dU.get gy
  have ox:o[i]?=some x:=by rw[hsame i (Yv5 _)];exact gx
  have oy:o[i+1]?=some y:=by rw[hsame (i+1) (by omega)];exact gy
  have hil:i<lu:=by omega
  have hil2:i+1<lu:=by omega
  have hil3:(i:Int)+1<(lu:Int):=by omega
  have hzx:dz U i=x:=by simp[dz,gx]
  have hzy:dz U (i+1)=y:=by simp[dz,gy]
  have hw':¬iu<n2:=by omega
  have hiu:iu<n1:=by omega
  have hqu:¬iq=iu:=by omega
  have hsB:shr64 x s<B:=Zwd hx
  have hsB64:shr64 x s<18446744073709551616:=hsB
  have hx64:x<18446744073709551616:=hx
  have hy64:y<18446744073709551616:=hy
  have hxs:(s:Int)≤64:=by omega
  have K1:=fun v1 v2=>(hK.set (o:=v1) h2u).set (i:=iu) (o:=v2) h2u
  by_cases h0:0<s
  ·have h0':(0:Int)<(s:Int):=by omega
   obtain⟨z1,z2⟩:=Ylv (y:=y) hx h0 hs
   have ox2:(o.set i (shr64 x s))[i]?=some (shr64 x s):=Ywh (by omega)
   have oy2:(o.set i (shr64 x s))[i+1]?=some y:=by rw[Ywb (by omega)];exact oy
   have hlo2:(o.set i (shr64 x s)).length=lu:=by simp[lo]
   have hsub:Zar .i64 (64-(s:Int))=((64-s:Nat):Int):=by rw[Zaj (by omega) (by omega)];omega
   simp(disch:=first|(simp;done)|omega|(simp only[Zaf,Zag,Yv8];omega)|rfl) [-getElem?_pos,A.lb218_0,hr,hf,h97,a96,a9,a11,hlt,hil,hil2,hrow,Za9 ox,Zc7,h0,h0',hil3,hsub,Za9 ox2,Za9 oy2,hlo2,hiu,Zao.chk]
   refine⟨m,by omega,rfl,by simp[Zaa,hW,hw'],K1 _ _,by simp[hqu,hQ],i+1,(o.set i (shr64 x s)).set i (or64 (shr64 x s) (shl64 y (64-s))),by omega,by simp,by simp,by simp[lo],(dO.set' hsB).set' z1,?_,?_⟩
   ·intro t ht
    rw[Ywb (by omega),Ywb (by omega)]
    exact hsame t (by omega)
   ·rw[List.set_set,Zce,Zce,hzx,hzy,show dz (o.set i (or64 (shr64 x s) (shl64 y (64-s)))) i=or64 (shr64 x s) (shl64 y (64-s)) by simp[dz,Ywh (show i<o.length by omega)]]
    have ht:(o.set i (or64 (shr64 x s) (shl64 y (64-s)))).take i=o.take i:=by
     apply Ywy
     intro t
     rw[Ywn,Ywn]
     split
     ·rw[Ywb (by omega)]
     ·rfl
    rw[ht]
    rw[hzx]at he
    have e2:B^i*(2^s*or64 (shr64 x s) (shl64 y (64-s))+x%2^s)=B^i*(x+B*(y%2^s)):=by rw[z2]
    rw[Ywx]
    generalize or64 (shr64 x s) (shl64 y (64-s))=z at*
    generalize val B (o.take i)=y1 at*
    generalize val B (U.take i)=y2 at*
    generalize x%2^s=y3 at*
    generalize y%2^s=y4 at*
    generalize (2:Nat)^s=y5 at*
    generalize B^i=y6 at*
    clear z2 ht K1
    grind
  ·have hs0:s=0:=by omega
   subst hs0
   have z0:shr64 x 0=x:=by unfold shr64;simp
   have hself:o.set i x=o:=by
    apply Ywy
    intro t
    by_cases ht:t=i
    ·subst ht;rw[Ywh (by omega),ox]
    ·rw[Ywb (by omega)]
   simp(disch:=first|(simp;done)|omega|(simp only[Zaf,Zag,Yv8];omega)|rfl) [-getElem?_pos,A.lb218_0,hr,hf,h97,a96,a9,a11,hlt,hil,hil2,hrow,Za9 ox,Zc7,z0,hself]
   refine⟨m,by omega,rfl,by simp[Zaa,hW,hw'],hK.set h2u,by simp[hqu,hQ],i+1,o,by omega,by simp,by simp,lo,dO,fun t ht=>hsame t (by omega),?_⟩
   rw[Zce,Zce,hzx,show dz o i=x by simp[dz,ox]]
   have:dz U i%2^0=0:=Nat.mod_one _
   rw[this]at he
   simp only[Yzs,Nat.one_mul,Nat.mod_one,Nat.mul_zero,Yxc]at he ⊢
   omega
def Ylb(h:(wds b).length=1):wds b=[b]∧b<B:=by
 obtain⟨h1,h2⟩:=Zd7 (k:=0) h
 rw[Yzs]at h1
 rw[Yyt,Nat.pow_one]at h2
 refine⟨?_,h2⟩
 rw[Zbq (by omega),Yyl h2,Zbo,Yx5 h2]
def Yga{r:Nat}(h:r<B):Zhf [r]=wds r:=by
 rw[Zdt (by intro d hd;simp at hd;subst hd;exact h)]
 simp[val]
def Zs7{h:T O}{u v:V}{a:Nat}(hu:Wn h N u a)(hv:Wn h N v b)(hb:0<b)(hl:(wds a).length<1000000000000)(hl2:(wds b).length<1000000000000):Fn A.C 218 [u,v] h N (fun x h' n'=>∃q r,x=.tup [q,r]∧Wn h' n' q (a/b)∧Wn h' n' r (a%b)):=by
 intro w
 have lu:=hu.len
 have lv:=hv.len
 rw[Zaf]at lu lv
 rw[Zab,A.k218 (by simp)]
 simp[A.b218]
 refine Zac (Zh4 hu hv (by omega) (by omega)) ?_
 rintro _ h1 n1 k1 rfl
 by_cases hlt:a<b
 ·have c1:Zvs a b= -1:=by simp[Zvs,hlt]
  simp[c1,Ret]
  refine⟨k1,_,_,⟨rfl,rfl⟩,?_,?_⟩
  ·rw[Yyl hlt];unfold Wn;rw[Zbo];exact Sl.nil
  ·rw[Yx5 hlt];exact hu.keep k1
 ·have c1:¬Zvs a b<0:=by
   unfold Zvs
   rw[Yv4 (by omega)]
   split<;>omega
  have hu1:=hu.keep k1
  have hv1:=hv.keep k1
  have hle:=Zdk (a:=b) (b:=a) (by omega)
  by_cases h1l:(wds b).length=1
  ·obtain⟨e1,e2⟩:=Ylb h1l
   have h1l':((wds b).length:Int)=1:=by omega
   have hv1':Sl h1 n1 v (dg [b]):=by rw[←e1];exact hv1
   simp(disch:=first|(simp;done)|omega|(simp only[Zaf,Zag,Yv8];omega)|rfl) [c1,lv,h1l,lu,Zad]
   refine Zai [(7,8),(30,48)] _ (Dv1 h1 n1 n1 (wds a) b) (wds a).length ?_ (Yiw hu1 hv1' (Zds a) e2 (by omega) (by simp) (by simp) (by simp)) ?_
   ·refine⟨rfl,by simp,Keeps.refl.new _,0,List.replicate (wds a).length 0,Yv5 _,by simp,by simp,by simp[Zg7],by simp,?_,?_,hb⟩
    ·intro d hd
     rw[Yzk]at hd
     rw[hd.2];decide
    ·simp[val]
   rintro e r ⟨H,n2,W⟩ hr ⟨rfl,hn,hW,hK,rest,Q,hm,h8,h7,hrow,hQ,dQ,he,hrl⟩
   simp only at hn hW hK hrow
   subst hn
   simp[hr,h7]
   refine Zac (Zgl (l:=Q) (Sl.row (e:=205) (rw:=true) (by omega) hrow (by rw[Zaf];exact hQ) (by simp)) (by omega)) ?_
   rintro q2 h3 n3 k3 hq
   simp[hr,h7,splice]
   have k4:Keeps h3 n3 (h3.set n3 (.cells [.int .u64 rest] 205 true)) (n3+1):=Keeps.refl.new _
   have hs5:Sl (h3.set n3 (.cells [.int .u64 rest] 205 true)) (n3+1) (.slice n3 0 1 (some 1) 1) (dg [rest]):=Sl.row (e:=205) (rw:=true) (L:=1) (Yxu n3) (by simp[dg]) (by simp) (by simp)
   refine Zac (Zgl hs5 (by simp)) ?_
   rintro r2 h5 n5 k5 hr2
   simp only[Yyv,Zbp]at he
   have hqv:val B Q=a/b:=by
    rw[he,Nat.mul_add_div hb,Yyl hrl];omega
   have hrv:rest=a%b:=by
    rw[he,Nat.mul_add_mod,Yx5 hrl]
   rw[Zdt dQ,hqv]at hq
   rw[Yga (by omega),hrv]at hr2
   simp[hr,Ret]
   exact⟨Zf5 k1.le hW,((k1.trans hK).trans k3).trans (k4.trans k5),_,_,⟨rfl,rfl⟩,(hq.keep k4).keep k5,hr2⟩
  ·have hbl:(wds b).length≠0:=by
    rw[Zbq (by omega)];simp
   obtain⟨k,hk⟩:∃k,(wds b).length=k+2:=⟨(wds b).length-2,by omega⟩
   have h1l':¬(k:Int)+2=1:=by omega
   have gt:=Yv9 (l:=wds b) (i:=k+1) (by omega)
   generalize (wds b)[k+1]'(by omega)=bt at*
   have hbtB:bt<B:=(Zds b).get gt
   have hbt0:¬bt=0:=by
    obtain⟨w1,w2⟩:=Zd7 (k:=k+1) hk
    have:=(Zmw w1 w2).2
    rw[gt]at this
    have e:=Yxj this
    have hp:0<B^(k+1):=Yzf (by decide)
    have:=(Yzc hp).2 (by rw[Nat.one_mul];exact w1)
    omega
   obtain⟨m1,m2,m3⟩:=Ykc hbt0 hbtB
   have hlz:=fun (h:T O) (N:Nat)=>Ydh (h:=h) (N:=N) (x:=bt) hbtB
   generalize hs:64-blen bt=s at*
   obtain⟨i1,o1,cc1,e1,w1,p1,p2,p3,p4⟩:=hv1.at (Za9 gt)
   have t1:((k:Int)+2-1)=(k:Int)+1:=by omega
   rw[hk]at lv
   simp(disch:=omega) [c1,lv,Zad,p1,p3,p4,t1,h1l']
   refine Zac (hlz _ _) ?_
   rintro _ h1 n1 k2 ⟨rfl,rfl,rfl⟩
   simp[lv]
   refine Zac (Zpi hv1 (Zds b) m3 (by omega)) ?_
   rintro vv h2 n2 k3 ⟨iv,ov,g1,g2,rfl,g3,g4,g5,g6⟩
   simp[lv]
   refine Zac (Zgl (l:=ov) (Sl.row (e:=205) (rw:=true) g2 g3 (by rw[Zaf];exact g4) (by simp)) (by omega)) ?_
   rintro vy h3 n3 k4 hy
   rw[Zdt g5,g6,Zbp]at hy
   obtain⟨y1,v1,y2,y3⟩:=Yf3 hk gt m1 m2 (by omega)
   have ly:=Sl.len hy
   rw[Zaf,y1]at ly
   have ly:Zo1 vy=some (k+2):=ly
   obtain⟨L,hL⟩:∃L,L+(k+2)=(wds a).length+1:=⟨(wds a).length+1-(k+2),by omega⟩
   have hLi:((wds a).length:Int)-((k:Int)+2)=(L:Int)-1:=by omega
   simp[]
   refine Zac (Zpi ((hu1.keep k3).keep k4) (Zds a) m3 (by omega)) ?_
   rintro uu h4 n4 k5 ⟨iu,ou,j1,j2,rfl,j3,j4,j5,j6⟩
   simp(disch:=first|(simp;done)|omega|(simp only[Zaf,Zag,Yv8];omega)|rfl) [ly,lu,hLi,Zg7]
   have hY0:0<v1:=by omega
   have k6:Keeps h4 n4 (h4.set n4 (.cells (dg (List.replicate L 0)) 205 true)) (n4+1):=Keeps.refl.new _
   have hyv:v1*B^(k+1)≤val B (wds (b*2^s)):=by
    obtain⟨w1,w2⟩:=Zd7 (k:=k+1) y1
    have:=(Zmw w1 w2).2
    rw[y2]at this
    have e:=Yxj this
    rw[Zbp,e]
    exact Nat.div_mul_le_self _ _
   refine Zai [(14,14),(80,95)] _ (DvN N n3 h3 iu n4 (n4+1) ((wds a).length+1) k (a*2^s) (wds (b*2^s))) L ?_ (Yiv (cq:=some L) (v1:=v1) hy (by omega) (Zds _) (by omega) (by rw[y2]) hY0 j1 j2 (Yxu n4) (by omega) (by simp) (by simp) (by simp) ?_) ?_
   ·have hne:¬iu=n4:=by omega
    refine⟨rfl,rfl,(k5.trans k6),ou,List.replicate L 0,by simp,by simp[hne,j3],by simp,j4,by simp;omega,by simp,j5,?_,fun t ht1 ht2=>by omega,?_,?_⟩
    ·intro d hd
     rw[Yzk]at hd
     rw[hd.2];decide
    ·have ha0:a≠0:=by omega
     have hla:(wds a).length≠0:=by rw[Zbq ha0];simp
     obtain⟨la1,hla1⟩:∃x,(wds a).length=x+1:=⟨(wds a).length-1,by omega⟩
     have hab:=(Zd7 hla1).2
     rw[←hla1]at hab
     rw[Zbp]at j6
     exact Yba (k:=k+1) j6 j4 (by omega) (by omega) hab m3 y3 hyv
    ·simp[val,j6,Zbp]
   ·have:(wds a).length+1-(k+2)=L:=by omega
    simp[this]
   rintro e r ⟨H,n5,W⟩ hr ⟨rfl,hn,hW,hK,U,Q,h14,hU,hQ,lU,lQ,hm,dU,dQ,hz,hlt2,he⟩
   simp only at hn hW hK hU hQ
   subst hn
   simp only[Yyv,Yzs,Nat.one_mul]at he hlt2
   simp[hr]
   refine Zai [(15,15),(97,130)] _ (ShD n3 h3 iu n4 (n4+1) ((wds a).length+1) (k+2) s U Q) (k+2) ?_ (Ygr (cu:=some ((wds a).length+1)) (by omega) lU dU m3 j1 j2 (Yxu n4) (by omega) (by simp[hr]) (by simp[hr]) (by simp[hr])) ?_
   ·refine⟨rfl,hW,hK,hQ,0,U,by omega,by simp,hU,lU,dU,fun _ _=>rfl,?_⟩
    obtain⟨x,hx⟩:∃x,val B U=2^s*x:=by
     refine⟨a-val B Q*b,?_⟩
     rw[Zbp]at he
     rw[Nat.mul_sub,Yw4 _ a,←he]
     have:val B Q*(b*2^s)=2^s*(val B Q*b):=by grind
     omega
    have hz0:dz U 0%2^s=0:=by
     have h1:=Zce (b:=B) (l:=U) (k:=0)
     have h2:=Zdl B U 1 (by omega)
     simp only[List.take_zero,val,Yzs,Nat.one_mul,Yyt,Nat.pow_one]at h1 h2
     rw[h1,hx]at h2
     have h3:B=2^s*2^(64-s):=by rw[←Yxe,show s+(64-s)=64 by omega];rfl
     rw[h3,Yzn]at h2
     have h4:dz U 0=2^s*(x-2^(64-s)*val (2^s*2^(64-s)) (U.drop 1)):=by rw[Nat.mul_sub];omega
     rw[h4,Nat.mul_mod_right]
    rw[hz0];simp[val]
   rintro e r2 ⟨H2,n5,W2⟩ hr2 ⟨rfl,hn2,hW2,hK2,hQ2,i,o,hi,h97,hrow,lo,dO,hsame,he2⟩
   simp only at hn2 hW2 hK2 hQ2 hrow
   subst hn2
   have:i=k+2:=by omega
   subst this
   simp[hr2,hr]
   refine Zac (Zgl (l:=Q) (Sl.row (e:=205) (rw:=true) (Yxu n4) hQ2 (by rw[Zaf];omega) (by simp)) (by omega)) ?_
   rintro q2 h6 n6 k6 hq
   have hsU:Sl h6 n6 (.slice iu 0 ((wds a).length+1) (some ((wds a).length+1)) 1) (dg o):=(Sl.row (h:=H2) (N:=n4+1) (by omega) hrow (by rw[Zaf];exact lo) (by simp)).keep k6
   obtain⟨v',e1,e2⟩:=Zfe (w:=[]) hsU (lo:=0) (hi:=k+2) (Yyj _) (by rw[Zaf];omega) none (some (.int .i64 ((k+2:Nat):Int))) (.inr ⟨rfl,rfl⟩) (.inl rfl)
   rw[show ((k+2:Nat):Int)=(k:Int)+2 by omega]at e1
   simp[hr2,hr,Zcb,evOpt,e1]
   rw[Yyv,show (dg o).take (k+2)=dg (o.take (k+2)) by simp[dg]]at e2
   refine Zac (Zgl (l:=o.take (k+2)) e2 (by rw[Ywm];omega)) ?_
   rintro r3 h7 n7 k7 hr3
   rw[Zdt dQ]at hq
   rw[Zdt (fun d hd=>dO d (Yxi hd))]at hr3
   rw[Zbp]at he hlt2
   have hbs:0<b*2^s:=Yzg hb (Yxl s)
   have hU0:dz U (k+2)=0:=by simp[dz,hz (k+2) (by omega) (by omega)]
   have hUt:val B (U.take (k+2))=val B U:=by
    have h1:=Zdl B U (k+2) (by omega)
    rw[Zgj (fun t t1 t2=>hz t (by omega) (by omega))]at h1
    omega
   have hqv:val B Q=a/b:=by
    have h1:a*2^s/(b*2^s)=val B Q:=by
     rw[←he,Nat.add_mul_div_right _ _ hbs,Yyl hlt2];omega
    rw[Yz0 _ _ (Yxl s)]at h1
    exact h1.symm
   have hrv:val B (o.take (k+2))=a%b:=by
    have h1:a*2^s%(b*2^s)=val B U:=by
     rw[←he,Nat.add_mul_mod_self_right,Yx5 hlt2]
    rw[Yzm,Yw4]at h1
    rw[hU0,Nat.zero_mod,Nat.mul_zero,Yxc,hUt,←h1]at he2
    exact Nat.eq_of_mul_eq_mul_left (Yxl s) he2
   rw[hqv]at hq
   rw[hrv]at hr3
   simp[hr2,hr,Zao.chk,Ret]
   have kk:=(k1.trans k3).trans k4
   exact⟨Zf5 kk.le hW2,((kk.trans hK2).trans k6).trans k7,q2,r3,⟨rfl,rfl⟩,Sl.keep hq k7,hr3⟩
variable {N n:Nat} {h:T O} {x:V} {z:Int}
noncomputable def A.b181:=A.q Tryz.f181
def A.k181:=@A.kk 181 5 [.cell 2 (some 2)] A.b181 (by kernel_rfl) rfl
noncomputable def A.b185:=A.q Tryz.f185
def A.k185:=@A.kk 185 7 [.tmp 2] A.b185 (by kernel_rfl) rfl
noncomputable def A.b226:=A.q Tryz.f226
def A.k226:=@A.kk 226 9 [.cell 2 (some 2)] A.b226 (by kernel_rfl) rfl
noncomputable def A.b209:=A.q Tryz.f209
def A.k209:=@A.kk 209 10 [.tmp 2] A.b209 (by kernel_rfl) rfl
noncomputable def A.b188:=A.q Tryz.f188
def A.k188:=@A.kk 188 26 [.cell 2 (some 2)] A.b188 (by kernel_rfl) rfl
noncomputable def A.b202:=A.q Tryz.f202
def A.k202:=@A.kk 202 24 [.tmp 2,.tmp 3] A.b202 (by kernel_rfl) rfl
noncomputable def A.b203:=A.q Tryz.f203
def A.k203:=@A.kk 203 50 [.cell 4 (some 2)] A.b203 (by kernel_rfl) rfl
def sgn(z:Int):Int:=if z<0 then -1 else 1
def In(h:T O)(N:Nat)(x:V)(z:Int):Prop:=
 (x=.agg [.int .i64 z,.nilslice]∧ -9223372036854775808≤z∧z<9223372036854775808)∨
 ∃i o l c,x=.agg [.int .i64 (sgn z),.slice i o l c 1]∧Wn h N (.slice i o l c 1) z.natAbs∧9223372036854775808≤z.natAbs
def In.keep{h':T O}{N':Nat}(s:In h N x z)(k:Keeps h N h' N'):In h' N' x z:=by
 rcases s with s|⟨i,o,l,c,s1,s2,s3⟩
 ·exact .inl s
 ·exact .inr ⟨i,o,l,c,s1,s2.keep k,s3⟩
def In.small(h1: -9223372036854775808≤z)(h2:z<9223372036854775808):In h N (.agg [.int .i64 z,.nilslice]) z:=.inl ⟨rfl,h1,h2⟩
def In.cells(s:In h N x z):∃n u,x=.agg [.int .i64 n,u]∧V.one u=true:=by
 rcases s with⟨rfl,_⟩|⟨i,o,l,c,rfl,_⟩
 ·exact⟨_,_,rfl,rfl⟩
 ·exact⟨_,_,rfl,rfl⟩
def In.nu{n:Int}{u:V}(s:In h N (.agg [.int .i64 n,u]) z):∀x∈[V.int .i64 n,u],∀m,x≠.int .u64 m:=by
 intro x hx m hc
 simp only[Yxa,List.not_mem_nil,or_false]at hx
 rcases hx with rfl|rfl
 ·cases hc
 ·subst hc
  rcases s with⟨e,_⟩|⟨_,_,_,_,e,_⟩
  ·simp at e
  ·simp at e
def kset{h1:T O}{n1:Nat}(k:Keeps h n h1 n1)(o:O):Keeps h n (h1.set n1 o) (n1+1):=(k.set k.le).up (Yy6 _)
def wl(z:Int):Nat:=(wds z.natAbs).length
def Zus:Fn A.C 181 [.int .i64 z] h N (fun v _ _=>v=.agg [.int .i64 z,.nilslice]):=by
 intro w
 rw[Zab,A.k181 (by simp)]
 simp[A.b181,Zak,slc,splice,Ret]
 exact(((Keeps.refl.set (Yv5 N)).set (Yv5 N)).up (Yy6 N))
def sg3(z:Int):Int:=if z<0 then -1 else if z=0 then 0 else 1
def Zi2(hx:In h N x z):Fn A.C 185 [x] h N (fun v _ _=>v=.int .i64 (sg3 z)):=by
 intro w
 rw[Zab,A.k185 (by simp)]
 rcases hx with⟨rfl,_⟩|⟨i,o,l,c,rfl,_,hz⟩
 ·obtain h1|h1|h1:z<0∨z=0∨0<z:=by omega
  ·have e1:z<1:=by omega
   have e2:¬ -1<z:=by omega
   simp[A.b185,Zak,slc,splice,Ret,Zl6,Zgv,Yhy,Zzf,Yfz,Yas,h1,e1,e2,sg3]
   exact kset Keeps.refl _
  ·subst h1
   simp[A.b185,Zak,slc,splice,Ret,Zl6,Zgv,Yhy,Zzf,Yfz,Yas,sg3]
   exact kset Keeps.refl _
  ·have e1:¬z<1:=by omega
   have e2:¬z<0:=by omega
   have e3:¬z=0:=by omega
   simp[A.b185,Zak,slc,splice,Ret,Zl6,Zgv,Yhy,Zzf,Yfz,Yas,e1,e2,e3,sg3]
   exact kset Keeps.refl _
 ·by_cases h1:z<0
  ·simp[A.b185,Zak,slc,splice,Ret,Zl6,Zgv,Yhy,Zzf,Yfz,Yas,sgn,sg3,h1]
   exact kset Keeps.refl _
  ·have e3:¬z=0:=by omega
   simp[A.b185,Zak,slc,splice,Ret,Zl6,Zgv,Yhy,Zzf,Yfz,Yas,sgn,sg3,h1,e3]
   exact kset Keeps.refl _
def Zt9(hz: -9223372036854775808≤z)(hm:z<9223372036854775808){st:St}:A.C.call (.func 209 [] []) [.int .i64 z] st=some (.int .u64 (z.natAbs:Nat),st):=by
 apply Call.eq
 rw[Zab,A.k209 (by simp)]
 by_cases e1:z<0
 ·have e2:Zar .u64 (IntKind.wrap .i64 (0-z))=(z.natAbs:Nat):=by
   rw[Zcx]
   by_cases e3:z= -9223372036854775808
   ·subst e3;decide
   ·rw[Zjr (by omega) (by omega)];omega
  rw[Int.zero_sub]at e2
  simp[A.b209,e1,e2]
 ·have e2:Zar .u64 z=(z.natAbs:Nat):=by rw[Zeo (by omega) (by omega)];omega
  simp[A.b209,e1,e2]
def Zfd(h:n<B)(h0:n≠0):wds n=[n]:=by
 rw[Zbq h0,Yyl h,Zbo,Yx5 h]
def Ze2(hx:In h N x z):Fn A.C 202 [x] h N (fun v h' n'=>∃u,v=.tup [.bool (decide (z<0)),u]∧Wn h' n' u z.natAbs):=by
 intro w
 rw[Zab,A.k202 (by simp)]
 rcases hx with⟨rfl,h1,h2⟩|⟨i,o,l,c,rfl,hw,hz⟩
 ·by_cases h0:z=0
  ·subst h0
   simp[A.b202,Zak,slc,splice,Zad,Ret]
   refine⟨kset Keeps.refl _,?_⟩
   unfold Wn;rw[Zbo];exact Sl.nil
  ·have hs:=fun st=>Zt9 h1 h2 (st:=st)
   have d1:¬N=N+1:=by omega
   simp[A.b202,Zak,slc,splice,Zad,h0,hs,Ret,Zao.chk]
   refine⟨kset (kset Keeps.refl _) _,?_⟩
   unfold Wn
   rw[Zfd (by unfold B;omega) (by omega)]
   exact Sl.row (e:=205) (rw:=true) (L:=1) (by omega) (by simp[dg]) (by simp) (by simp)
 ·have e1:(sgn z<0)=(z<0):=by unfold sgn;split<;>simp_all
  simp[A.b202,Zak,slc,splice,Zad,Ret,e1,Zao.chk]
  refine⟨kset Keeps.refl _,hw.keep (kset Keeps.refl _)⟩
def Zhv{u:V}{b:Bool}(hu:Wn h N u n)(hl:(wds n).length<1099511627776):Fn A.C 203 [.bool b,u] h N (fun v h' n'=>In h' n' v (if b=true then -(n:Int) else n)):=by
 intro w
 have lu:=hu.len
 rw[Zaf]at lu
 rw[Zab,A.k203 (by simp)]
 have kk:∀o1 o2:O,Keeps h N ((h.set N o1).set N o2) (N+1):=fun o1 o2=>(kset Keeps.refl o1).set (Yv5 N)
 by_cases h0:n=0
 ·subst h0
  rw[Zbo]at lu
  simp[A.b203,lu,Zad,Zak,slc,splice,Ret]
  refine⟨kk _ _,?_⟩
  have:(if b=true then -((0:Nat):Int) else ((0:Nat):Int))=0:=by split<;>rfl
  exact In.small (by omega) (by omega)
 ·by_cases h1:n<18446744073709551616
  ·rw[Zfd h1 h0]at lu
   obtain⟨i,o,c,e,rw,p1,p2,p3,p4⟩:=hu.at (Za9 (l:=wds n) (j:=0) (n:=n) (by rw[Zfd h1 h0];rfl))
   rw[Yxc]at p4
   have lu:Zo1 u=some 1:=lu
   have hne:¬i=N:=by omega
   by_cases h2:n≤9223372036854775807
   ·have h2':(n:Int)≤9223372036854775807:=by omega
    have w1:Zar .i64 (n:Int)=n:=Zaj (by omega) (by omega)
    have w2:IntKind.wrap .i64 (-(n:Int))= -(n:Int):=Zjr (by omega) (by omega)
    cases b
    ·simp[A.b203,lu,Zad,p1,p3,p4,hne,h2',w1,Zak,slc,splice,Ret]
     exact⟨kk _ _,In.small (by omega) (by omega)⟩
    ·simp[A.b203,lu,Zad,p1,p3,p4,hne,h2',w1,w2,Zak,slc,splice,Ret]
     exact⟨kk _ _,In.small (by omega) (by omega)⟩
   ·have h2':¬(n:Int)≤9223372036854775807:=by omega
    obtain⟨i2,o2,l2,c2,rfl⟩:∃i o l c,u=.slice i o l c 1:=by
     rcases hu with⟨hu,_⟩|⟨i,o,cp,c,e,rw,hu,_⟩
     ·rw[Zfd h1 h0]at hu;simp[dg]at hu
     ·exact⟨_,_,_,_,hu⟩
    cases b
    ·simp[A.b203,lu,Zad,p1,p3,p4,hne,h2',Zak,slc,splice,Ret]
     refine⟨kk _ _,.inr ⟨i2,o2,l2,c2,?_,hu.keep (kk _ _),?_⟩⟩
     ·simp[sgn]
     ·omega
    ·simp[A.b203,lu,Zad,p1,p3,p4,hne,h2',Zak,slc,splice,Ret]
     refine⟨kk _ _,.inr ⟨i2,o2,l2,c2,?_,?_,?_⟩⟩
     ·simp[sgn];omega
     ·simpa using hu.keep (kk _ _)
     ·omega
  ·have hl1:2≤(wds n).length:=by
    rw[Zbq h0,Zbq (by unfold B;omega)];simp
   have c0:¬((wds n).length:Int)=0:=by omega
   have c1:¬((wds n).length:Int)=1:=by omega
   have c2:¬(wds n).length=1:=by omega
   have c3:¬wds n=[]:=by intro h;rw[h]at hl1;simp at hl1
   rcases hu with⟨hu,_⟩|⟨i,o,cp,c,e,rw,rfl,hu⟩
   ·exfalso
    have:=congrArg List.length hu
    rw[Zaf]at this
    simp at this
    exact c3 this
   have hw:Wn h N (.slice i o (dg (wds n)).length cp 1) n:=.inr ⟨i,o,cp,c,e,rw,rfl,hu⟩
   rw[Zaf]at hw
   cases b
   ·simp[A.b203,Zad,c0,c1,c2,c3,Zak,slc,splice,Ret]
    refine⟨kk _ _,.inr ⟨i,o,(wds n).length,cp,?_,hw.keep (kk _ _),?_⟩⟩
    ·simp[sgn]
    ·omega
   ·simp[A.b203,Zad,c0,c1,c2,c3,Zak,slc,splice,Ret]
    refine⟨kk _ _,.inr ⟨i,o,(wds n).length,cp,?_,?_,?_⟩⟩
    ·simp[sgn];omega
    ·simpa using hw.keep (kk _ _)
    ·omega
def Sl.setNU{v:V}{l:List Nat}{i:Nat}{c0 c1:List V}{e0 e1:TypeId}{w0 w1:Bool}(s:Sl h N v (dg l))(hr:h.get i=some (.cells c0 e0 w0))(hn:∀x∈c0,∀n,x≠.int .u64 n)(hc:c1.length=c0.length):Sl (h.set i (.cells c1 e1 w1)) N v (dg l):=by
 rcases s with s|⟨i',o,cp,c,e,rw,rfl,q1,q2,q3,q4,q5⟩
 ·exact .inl s
 ·by_cases hi:i'=i
  ·subst hi
   rw[hr]at q2
   simp only[Yv3,O.cells.injEq]at q2
   obtain⟨rfl,rfl,rfl⟩:=q2
   cases l with
   |nil=>
    refine .inr ⟨i',o,cp,c1,e1,w1,rfl,q1,by rw[T.get_set,Yv6 rfl],?_,by simpa[hc]using q4,q5⟩
    intro j hj
    simp[dg]at hj
   |cons d l=>
    exfalso
    have:=q3 0 (by simp[dg])
    have hm:=Yv7 (l:=c0) (i:=o+0) (a:=.int .u64 d) (by rw[this];simp[dg])
    exact hn _ hm _ rfl
  ·exact .inr ⟨i',o,cp,c,e,rw,rfl,q1,by rw[T.get_set,Yv4 hi];exact q2,q3,q4,q5⟩
def In.setNU{i:Nat}{c0 c1:List V}{e0 e1:TypeId}{w0 w1:Bool}(s:In h N x z)(hr:h.get i=some (.cells c0 e0 w0))(hn:∀x∈c0,∀n,x≠.int .u64 n)(hc:c1.length=c0.length):In (h.set i (.cells c1 e1 w1)) N x z:=by
 rcases s with s|⟨i',o,l,c,s1,s2,s3⟩
 ·exact .inl s
 ·exact .inr ⟨i',o,l,c,s1,Sl.setNU s2 hr hn hc,s3⟩
def Zpq(hx:In h N x z)(hl:wl z<500000000000):Fn A.C 188 [x] h N (fun v h' n'=>In h' n' v (-z)):=by
 intro w
 rw[Zab,A.k188 (by simp)]
 have rest:∀{x:V},In h N x z→∀(h1:T O) (N1:Nat),Keeps h N h1 N1→Fn A.C 202 [x] h1 N1 (fun v h' n'=>∃u,v=.tup [.bool (decide (z<0)),u]∧Wn h' n' u z.natAbs):=fun hx h1 N1 k=>Ze2 (hx.keep k)
 have fin:∀{v h' n'},In h' n' v (if (!decide (z<0))=true then -(z.natAbs:Int) else z.natAbs)→In h' n' v (-z):=fun {v h' n'} q=>by
  have e:(if (!decide (z<0))=true then -(z.natAbs:Int) else (z.natAbs:Int))= -z:=by
   by_cases h:z<0<;>simp[h]<;>omega
  rw[e]at q;exact q
 by_cases hz:x=.agg [.int .i64 z,.nilslice]∧z≠ -9223372036854775808∧ -9223372036854775808≤z∧z<9223372036854775808
 ·obtain⟨rfl,h0,h1,h2⟩:=hz
  have w2:IntKind.wrap .i64 (-z)= -z:=Zjr (by omega) (by omega)
  simp[A.b188,Zak,slc,splice,Zad,h0,w2,Ret]
  exact⟨(kset (kset Keeps.refl _) _).set (by omega),In.small (by omega) (by omega)⟩
 ·rcases id hx with⟨rfl,h1,h2⟩|⟨i,o,l,c,rfl,_⟩
  ·have h0:z= -9223372036854775808:=by
    apply Decidable.byContradiction
    intro hc
    exact hz ⟨rfl,hc,h1,h2⟩
   have hp:=rest hx _ _ (kset (kset Keeps.refl (.cells [.int .i64 z,.nilslice] 109 true)) (.cells [.int .i64 0,.nilslice] 109 true))
   subst h0
   simp[A.b188,Zak,slc,splice,Zad]
   refine Zac hp ?_
   rintro _ h3 n3 k3 ⟨u,rfl,hu⟩
   have kle:=k3.le
   have g0:=k3.get (N+1) (by omega)
   simp at g0
   simp[]
   refine Zac (Zhv hu (by unfold wl at hl;omega)) ?_
   rintro v h4 n4 k4 hv
   have kle4:=k4.le
   have g1:=(k4.get (N+1) (by omega)).trans g0
   obtain⟨n5,u5,rfl,ho5⟩:=hv.cells
   unfold V.one at ho5
   simp[g1,Zak,slc,splice,Zal,Ret,ho5]
   have kk:=(((kset (kset Keeps.refl _) _).trans k3).trans k4).set (h:=h) (n:=N) (i:=N+1) (o:=.cells [.int .i64 n5,u5] 109 true) (by omega)
   exact⟨kk,(fin hv).setNU g1 (by simp) rfl⟩
  ·have hp:=rest hx _ _ (kset (kset Keeps.refl (.cells [.int .i64 (sgn z),.slice i o l c 1] 109 true)) (.cells [.int .i64 0,.nilslice] 109 true))
   simp[A.b188,Zak,slc,splice,Zad]
   refine Zac hp ?_
   rintro _ h3 n3 k3 ⟨u,rfl,hu⟩
   have kle:=k3.le
   have g0:=k3.get (N+1) (by omega)
   simp at g0
   simp[]
   refine Zac (Zhv hu (by unfold wl at hl;omega)) ?_
   rintro v h4 n4 k4 hv
   have kle4:=k4.le
   have g1:=(k4.get (N+1) (by omega)).trans g0
   obtain⟨n5,u5,rfl,ho5⟩:=hv.cells
   unfold V.one at ho5
   simp[g1,Zak,slc,splice,Zal,Ret,ho5]
   have kk:=(((kset (kset Keeps.refl _) _).trans k3).trans k4).set (h:=h) (n:=N) (i:=N+1) (o:=.cells [.int .i64 n5,u5] 109 true) (by omega)
   exact⟨kk,(fin hv).setNU g1 (by simp) rfl⟩
noncomputable def A.b201:=A.q Tryz.f201
def A.k201:=@A.kk 201 13 [.tmp 2] A.b201 (by kernel_rfl) rfl
noncomputable def A.b151:=A.q Tryz.f151
def A.k151:=@A.kk 151 7 [.tmp 2] A.b151 (by kernel_rfl) rfl
noncomputable def A.b152:=A.q Tryz.f152
def A.k152:=@A.kk 152 14 [.tmp 2] A.b152 (by kernel_rfl) rfl
noncomputable def A.b150:=A.q Tryz.f150
def A.k150:=@A.kk 150 9 [.tmp 2] A.b150 (by kernel_rfl) rfl
noncomputable def A.b54:=A.q Tryz.f54
def A.k54:=@A.kk 54 5 [.tmp 2] A.b54 (by kernel_rfl) rfl
def Ya7:Zax 0=[48]:=by decide+kernel
def Ya6{q:Rat}:Zax q=[48]↔q=0:=⟨fun h=>Yf9 (h.trans Ya7.symm),fun h=>by rw[h,Ya7]⟩
def Yd2{q:Rat}{st:St}:A.C.call (.func 54 [] []) [.str (Zax q)] st=some (.bool (decide (q=0)),st):=by
 have e:(Zax q==[48])=decide (q=0):=by rw[Bool.eq_iff_iff,beq_iff_eq,decide_eq_true_eq];exact Ya6
 apply Call.eq
 rw[Zab,A.k54 (by simp)]
 simp[A.b54,Zad,Zbm,e]
def Ykb{q:Rat}:q.num=0↔q=0:=Rat.num_eq_zero
def Ylg(q:Rat):0<(Zax q).length:=by
 obtain⟨c,t,h,_⟩:=Zv3 q
 rw[Zm1,h]
 split<;>simp
def Yf8(q:Rat):∃c,(Zax q)[0]?=some c∧(Zax q).head?=some c∧(u8I c=45↔q.num<0):=by
 obtain⟨c,t,h,h1⟩:=Zv3 q
 by_cases hz:q.num<0
 ·refine⟨45,?_,?_,?_⟩
  ·rw[Zm1,Yv6 hz];rfl
  ·rw[Zm1,Yv6 hz];rfl
  ·exact⟨fun _=>hz,fun _=>rfl⟩
 ·refine⟨c,?_,?_,?_⟩
  ·rw[Zm1,Yv4 hz,h];rfl
  ·rw[Zm1,Yv4 hz,h];rfl
  ·exact⟨fun h2=>by unfold u8I at h2;omega,fun h2=>absurd h2 hz⟩
def Ygo{q:Rat}{st:St}:A.C.call (.func 201 [] []) [.str (Zax q)] st=some (.int .i64 (sg3 q.num),st):=by
 have e:(Zax q==[48])=decide (q=0):=by rw[Bool.eq_iff_iff,beq_iff_eq,decide_eq_true_eq];exact Ya6
 obtain⟨c,h1,h2,h3⟩:=Yf8 q
 have hp:=Ylg q
 have hp':(0:Int)<((Zax q).length:Int):=by omega
 have hne:Zax q≠[]:=fun hc=>by rw[hc]at hp;simp at hp
 apply Call.eq
 rw[Zab,A.k201 (by simp)]
 by_cases h0:q=0
 ·have hn:q.num=0:=Ykb.2 h0
  have hs:sg3 q.num=0:=by rw[hn];rfl
  have e0:(Zax q==[48])=true:=by rw[e];simp[h0]
  rw[hs]
  simp(disch:=first|(simp;done)|omega|rfl) [-getElem?_pos,A.b201,Zad,Zbm,e0]
 ·have hn:q.num≠0:=fun hc=>h0 (Ykb.1 hc)
  by_cases hz:q.num<0
  ·have hs:sg3 q.num= -1:=by unfold sg3;rw[Yv6 hz]
   have hc:=h3.2 hz
   rw[hs]
   simp(disch:=first|(simp;done)|omega|rfl) [-getElem?_pos,A.b201,Zad,Zbm,e,h0,hp,hp',hne,h1,h2,hc]
  ·have hs:sg3 q.num=1:=by unfold sg3;rw[Yv4 hz,Yv4 hn]
   have hc:¬u8I c=45:=fun hc=>hz (h3.1 hc)
   rw[hs]
   simp(disch:=first|(simp;done)|omega|rfl) [-getElem?_pos,A.b201,Zad,Zbm,e,h0,hp,hp',hne,h1,h2,hc]
def Zpw(q:Rat):q⁻¹=Rat.divInt (q.den:Int) q.num:=Rat.inv_def q
def Ymq{q:Rat}{st:St}(hl:(Zax q).length<1000000000):A.C.call (.func 151 [] []) [.str (Zax q)] st=some (.str (decI q.num),st):=by
 have hsl:=fun st=>Zfo (s:=Zax q) (st:=st) (by omega)
 have h2:slashAt (Zax q)≤(Zax q).length:=by
  rw[Zd9]
  unfold Zax
  split
  ·exact Yv5 _
  ·rw[Ywl];omega
 have a4:∀st:St,Zc2 st (some (.str (Zax q))) (some none) (some (some (.int .i64 (slashAt (Zax q):Nat))))=some (.str (decI q.num),st):=fun st=>by rw[Zlc (by omega) (by omega),Int.toNat_natCast,Zjx]
 apply Call.eq
 rw[Zab,A.k151 (by simp)]
 simp[A.b151,hsl,evOpt,a4]
def Yon{q:Rat}{st:St}(hl:(Zax q).length<1000000000):A.C.call (.func 152 [] []) [.str (Zax q)] st=some (.str (decN q.den),st):=by
 have hsl:=fun st=>Zfo (s:=Zax q) (st:=st) (by omega)
 have hlt:=Zjy q
 have h2:slashAt (Zax q)≤(Zax q).length:=by
  rw[Zd9]
  unfold Zax
  split
  ·exact Yv5 _
  ·rw[Ywl];omega
 apply Call.eq
 rw[Zab,A.k152 (by simp)]
 by_cases hd:q.den=1
 ·have c1:(slashAt (Zax q):Int)=((Zax q).length:Int):=by omega
  rw[hd,Ztb]
  simp[A.b152,hsl,Zad,c1]
 ·have hl2:=hlt.2 hd
  have c1:¬(slashAt (Zax q):Int)=((Zax q).length:Int):=by omega
  have c2:¬slashAt (Zax q)=(Zax q).length:=by omega
  have w1:Zar .i64 ((slashAt (Zax q):Int)+1)=(slashAt (Zax q):Int)+1:=Zaj (by omega) (by omega)
  have hdr:=Zjz q hd
  have a4:∀st:St,Zc2 st (some (.str (Zax q))) (some (some (.int .i64 ((slashAt (Zax q):Int)+1)))) (some none)=some (.str (decN q.den),st):=fun st=>by
   rw[Ze8 (by omega) (by omega)]
   have:((slashAt (Zax q):Int)+1).toNat=slashAt (Zax q)+1:=by omega
   rw[this,hdr]
  simp[A.b152,hsl,Zad,c1,c2,w1,evOpt,a4]
def Ylh(z:Int):Zax (z:Rat)=decI z:=by
 unfold Zax
 rw[Yv6 (by simp)];simp
def Ypd{z:Int}{st:St}(hl:(decI z).length<1000000000):A.C.call (.func 150 [] []) [.str (decI z)] st=some (.str (decN z.natAbs),st):=by
 have hs:=fun st=>Ygo (q:=(z:Rat)) (st:=st)
 rw[Ylh]at hs
 have hn:((z:Rat)).num=z:=by simp
 rw[hn]at hs
 apply Call.eq
 rw[Zab,A.k150 (by simp)]
 by_cases hz:z<0
 ·have e1:decI z=45::decN z.natAbs:=by unfold decI;rw[Yv6 hz]
  have e3:sg3 z= -1:=by unfold sg3;rw[Yv6 hz]
  rw[e1,e3]at hs
  have a3:∀st:St,Zc2 st (some (.str (45::decN z.natAbs))) (some (some (.int .i64 1))) (some none)=some (.str (decN z.natAbs),st):=fun st=>by rw[Ze8 (by omega) (by simp only[Yv8];omega)];rfl
  rw[e1]
  simp[A.b150,hs,evOpt,a3]
 ·have e1:decI z=decN z.natAbs:=by unfold decI;rw[Yv4 hz]
  have e3:¬sg3 z<0:=by unfold sg3;rw[Yv4 hz];split<;>omega
  rw[e1]at hs
  rw[e1]
  simp[A.b150,hs,e3]
end Go.Mx
