/-The kernel of a matrix-/
import Derived.Test.YthekjfgljafnaaaGreatDoorSpA
set_option linter.all false
namespace Go.Mx
open Go Go.Proofs
variable {K i k n:Nat} {m:List (List Rat)} {ps:List Nat}
set_option maxRecDepth 1000000
def kvP(m:List (List Rat))(ps:List Nat)(n k:Nat)(p:Nat→Bool):List Rat:=(List.range n).map fun j=>if j=k then 1 else if p j=true then -atQ m (ps.idxOf j) k else 0
def Znx{p:Nat→Bool}:(kvP m ps n k p).length=n:=by simp[kvP]
def Yni:kvP m ps n k (fun j=>decide (j∈ps))=kvQ m ps n k:=by
 unfold kvP kvQ
 apply Yyp
 intro j _
 by_cases e:j=k
 ·rw[Yv6 e,Yv6 e]
 ·rw[Yv4 e,Yv4 e]
  by_cases h:j∈ps<;>simp[h]
def Ynh{a:Nat}{p q:Nat→Bool}(ha:a<n)(hk:a≠k)(h:∀j,j<n→q j=(p j||decide (j=a))):kvP m ps n k q=(kvP m ps n k p).set a (-atQ m (ps.idxOf a) k):=by
 apply Ywy
 intro j
 by_cases hj:j<n
 ·by_cases e:j=a
  ·subst e
   rw[Ywh (by rw[Znx];exact hj)]
   unfold kvP
   simp[hj,hk,h j hj]
  ·rw[Ywb (Ne.symm e)]
   unfold kvP
   simp[hj,h j hj,e]
 ·rw[Ywd (by rw[Znx];omega),Ywd (by rw[Yx4,Znx];omega)]
def Zqx{t p:Nat}(h:ps[t]?=some p){j:Nat}:decide (j∈ps.take (t+1))=(decide (j∈ps.take t)||decide (j=p)):=by
 rw[Yyq,h]
 simp
def Ycb(h:i<(Za0 m n).2.1):(Zea m n)[i]?=(Za0 m n).1[i]?:=by
 unfold Zea
 rw[Ywn,Yv6 h]
def Zwf{j:Nat}(h:i<(Za0 m n).2.1):atQ (Zea m n) i j=atQ (Za0 m n).1 i j:=by
 unfold atQ
 rw[Ycb h]
def Znc{c:Nat}(h:RcN m c):RcN (Zea m n) c:=fun r hr=>(@Zga m c h n).1 r (Yxi hr)
def Yb9(h:QbM m K)(hK:1≤K):QbM (Zea m n) (kB K (Za0 m n).2.1):=fun r hr=>(@Zp0 m K h hK n) r (Yxi hr)
def Yl9:Zea [] n=[]:=by
 have h:(Za0 [] n).1.length=0:=Zee
 unfold Zea
 rw[List.length_eq_zero_iff.1 h,List.take_nil]
def fnz(l:List Rat):Nat→Nat→Nat
 |k,0=>k
 |k,n+1=>if l[k]?.getD 0≠0 then k else fnz l (k+1) n
def Ykp{l:List Rat}{p:Nat}:∀{n k:Nat},k≤p→p<k+n→l[p]?.getD 0≠0→(∀j,k≤j→j<p→l[j]?.getD 0=0)→fnz l k n=p
 |0,k,h1,h2,_,_=>by omega
 |n+1,k,h1,h2,h3,h4=>by
  unfold fnz
  by_cases e:k=p
  ·subst e;rw[Yv6 h3]
  ·rw[Yv4 (fun hc=>hc (h4 k (Yv5 _) (by omega)))]
   exact Ykp (by omega) (by omega) h3 fun j a b=>h4 j (by omega) b
def Yca{c:Nat}{row:List Rat}(hc:RcN m c)(hi:(Zea m c)[i]?=some row):∃p,(Za0 m c).2.2[i]?=some p∧p<c∧fnz row 0 row.length=p∧(Za0 m c).2.2.idxOf p=i:=by
 have I:=@Zci m c hc c
 have hid:i<(Za0 m c).2.1:=by have:=Zau hi;rw[Zdx hc]at this;exact this
 rw[Ycb hid]at hi
 obtain⟨p,hp⟩:=Zae (l:=(Za0 m c).2.2) (k:=i) (by rw[I.len];exact hid)
 have hx:=I.idx hid
 have hl:=I.lt i hid
 have ho:=I.one i i hid (by have:=I.le;omega)
 have hz:=fun k=>I.lead i k hid
 rw[hp]at hx hl ho hz
 simp only[Yxg,if_true]at hx hl ho hz
 unfold atQ at ho hz
 rw[hi]at ho hz
 simp only[Yxg]at ho hz
 have hr:=(@Zga m c hc c).1 row (Yv7 hi)
 refine⟨p,hp,hl,Ykp (Yyj _) (by omega) (by rw[ho];decide) fun j _ hj=>hz j hj,hx⟩
def Yed:Zdg ps (k+1)=Zdg ps k++if ps.contains k=true then [] else [k]:=by
 unfold Zdg
 rw[List.range_succ,List.filter_append]
 congr 1
 rw[List.filter_cons]
 cases hc:ps.contains k<;>rfl
def Zkj:RcN (Zhw m n) n:=fun r hr=>by
 unfold Zhw at hr
 obtain⟨k,_,rfl⟩:=Ywv.1 hr
 simp[kvQ]
def Zlk(hc:RcN m n):(Zhw m n).length+(Za0 m n).2.1=n:=by
 have I:=@Zci m n hc n
 have:=@Zkp n (Za0 m n).2.2 (fun i hi=>I.lt i (by rw[←I.len];exact hi)) (fun i j h1 h2=>I.asc i j h1 (by rw[←I.len];exact h2))
 rw[I.len]at this
 unfold Zhw
 rw[Yw7]
 exact this
def Yqh{q:Rat}(h:Qb K q):Qb K (-q):=⟨by rw[Rat.neg_num,Yyz];exact h.1,by rw[Rat.neg_den];exact h.2⟩
def Ykh(h:QbM m K)(hK:1≤K):QbM (Zhw m n) (kB K (Za0 m n).2.1):=fun r hr q hq=>by
 have hB:1≤kB K (Za0 m n).2.1:=Zkk hK
 have h2:(1:Nat)<2^kB K (Za0 m n).2.1:=Nat.one_lt_two_pow (by omega)
 unfold Zhw at hr
 obtain⟨k,_,rfl⟩:=Ywv.1 hr
 unfold kvQ at hq
 obtain⟨j,_,rfl⟩:=Ywv.1 hq
 split
 ·exact⟨h2,h2⟩
 ·split
  ·unfold atQ
   exact Yqh (Zg2 (fun q hq=>(Yb9 h hK).at q hq) hB k)
  ·exact⟨by show 0<_;omega,h2⟩
def Zja:RcN (Zll m n) n:=Znc Zkj
def Ynn(hc:RcN m n)(hn:n≤6):(∀t,t<(Zhw m n).length→t<n→3*kB (kB 96 (Za0 m n).2.1) t≤400000000):=fun t h1 h2=>by
 have:=Zlk hc
 rw[Yd0]
 exact Ynr (by omega)
def Ydu(hc:RcN m n)(hn:n≤6)(h:QbM m 96):QbM (Zll m n) 400000000:=by
 have h1:=Yb9 (n:=n) (Ykh (n:=n) h (by decide)) (Zkk (by decide))
 refine h1.mono ?_
 rw[Yd0]
 have h2:=Zlk hc
 have h3:=Zdx (n:=n) (Zkj (m:=m) (n:=n))
 have h4:(Zea (Zhw m n) n).length≤(Zhw m n).length:=by unfold Zea;rw[Ywm,Zee];omega
 exact Yki (by omega)
def Ycc(hm:m.length≤6)(hc:RcN m n)(h:QbM m 96):QbM (Zea m n) 400000000:=by
 refine(Yb9 (n:=n) h (by decide)).mono ?_
 have:=(@Zga m n hc n).2
 exact Yki (by omega)
def Yme:(pvI ps).contains (k:Int)=ps.contains k:=by
 rw[Bool.eq_iff_iff]
 simp[pvI]
variable {N R:Nat} {h:T O} {l:List Rat}
noncomputable def A.w70:=A.q Tryz.f70
noncomputable def A.lb70_0:=A.ql A.w70 0 []
noncomputable def A.b70:=(fun x0=>A.qb A.w70 [x0]) A.lb70_0
def A.k70:=@A.kk 70 18 [.tmp 2] A.b70 (by kernel_rfl) rfl
def Zt6{cs:List (List V)}{c B:List V}{j:Nat}(h4:∀x∈cs,x.length=4)(hj:j<cs.length)(hc:c.length=4):splice (cs.flatten++B) (j*4) c=(cs.set j c).flatten++B:=by
 obtain⟨x,hx⟩:=Zae hj
 have e:cs=cs.take j++x::cs.drop (j+1):=by
  have:=Yx2 j cs
  rw[Zan hx]at this
  exact this.symm
 have hl:(cs.take j).flatten.length=j*4:=by
  rw[Zbi (z:=4) (fun y hy=>h4 y (Yxi hy)),Ywm,Yxh (by omega)]
 have hs:cs.set j c=cs.take j++c::cs.drop (j+1):=by rw[List.set_eq_take_append_cons_drop,Yv6 hj]
 rw[hs]
 conv=>lhs;rw[e]
 simp only[List.flatten_append,List.flatten_cons,Yxf]
 rw[Zf1 hl (h4 x (Yv7 hx)) hc]
structure RwQ (h:T O) (N R:Nat) (l:List Rat) (m:Nat):Prop where
 lt:R<N
 ex:∃cs:List (List V),h.get R=some (.cells (cs.flatten++Zck zF m) 111 true)∧cs.length=l.length∧∀(j:Nat) (q:Rat),l[j]?=some q→∃c,cs[j]?=some c∧FcC h N c q
def RwQ.keep{h':T O}{N' m:Nat}(s:RwQ h N R l m)(k:Keeps h N h' N'):RwQ h' N' R l m:=by
 obtain⟨cs,g1,g2,g3⟩:=s.ex
 refine⟨Ywf s.lt k.le,cs,(k.get R s.lt).trans g1,g2,fun j q hq=>?_⟩
 obtain⟨c,a,b⟩:=g3 j q hq
 exact⟨c,a,b.keep k⟩
def RwQ.fcs{cs:List (List V)}(g2:cs.length=l.length)(g3:∀(j:Nat) (q:Rat),l[j]?=some q→∃c,cs[j]?=some c∧FcC h N c q):(∀c∈cs,c.length=4)∧NoU cs.flatten∧cs.flatten.all V.one=true:=Zn4 (l:=l) (by omega) fun j q _ hq=>g3 j q hq
def RwQ.next{m:Nat}{c:List V}{q:Rat}(s:RwQ h N R l (m+1))(hc:FcC h N c q):∃X,h.get R=some (.cells X 111 true)∧l.length*4+4≤X.length∧RwQ (h.set R (.cells (splice X (l.length*4) c) 111 true)) N R (l++[q]) m:=by
 obtain⟨cs,g1,g2,g3⟩:=s.ex
 obtain⟨f1,f2,_⟩:=RwQ.fcs g2 g3
 have hfl:=Zbi f1
 obtain⟨e1,_⟩:=hc.len
 have hsp:splice (cs.flatten++Zck zF (m+1)) (l.length*4) c=(cs++[c]).flatten++Zck zF m:=by
  rw[Zfm,Zf1 (n:=4) (by rw[hfl,g2]) rfl e1,Zik,Yxf]
 have hnu:NoU (cs.flatten++Zck zF (m+1)):=f2.app Zjq
 have hln:((cs++[c]).flatten++Zck zF m).length=(cs.flatten++Zck zF (m+1)).length:=by
  rw[Zfm,Zik];simp[e1,zF];omega
 refine⟨_,g1,by rw[Ywl,hfl,g2,Yay];omega,s.lt,cs++[c],by rw[T.get_set,Yv6 rfl,hsp],by simp[g2],fun j r hr=>?_⟩
 rw[hsp]
 by_cases e:j<l.length
 ·rw[Ywp e]at hr
  obtain⟨x,a,b⟩:=g3 j r hr
  exact⟨x,by rw[Ywp (by omega)];exact a,b.setNU g1 hnu hln⟩
 ·have hj:j=l.length:=by have:=Zau hr;simp at this;omega
  subst hj
  rw[Yw0 (Yv5 _)]at hr
  simp at hr
  subst hr
  exact⟨c,by rw[Yw0 (by omega),g2];simp,hc.setNU g1 hnu hln⟩
def RwQ.put{j:Nat}{c:List V}{q:Rat}(s:RwQ h N R l 0)(hc:FcC h N c q)(hj:j<l.length):∃X,h.get R=some (.cells X 111 true)∧j*4+4≤X.length∧RwQ (h.set R (.cells (splice X (j*4) c) 111 true)) N R (l.set j q) 0:=by
 obtain⟨cs,g1,g2,g3⟩:=s.ex
 obtain⟨f1,f2,_⟩:=RwQ.fcs g2 g3
 have hfl:=Zbi f1
 obtain⟨e1,_⟩:=hc.len
 have hsp:splice (cs.flatten++Zck zF 0) (j*4) c=(cs.set j c).flatten++Zck zF 0:=Zt6 f1 (by omega) e1
 have hnu:NoU (cs.flatten++Zck zF 0):=f2.app Zjq
 have hln:((cs.set j c).flatten++Zck zF 0).length=(cs.flatten++Zck zF 0).length:=by
  rw[Ywl,Ywl,hfl,Zbi (z:=4) fun x hx=>?_,Yx4]
  rcases Yxm hx with hx|rfl
  ·exact f1 x hx
  ·exact e1
 refine⟨_,g1,by rw[Ywl,hfl];omega,s.lt,cs.set j c,by rw[T.get_set,Yv6 rfl,hsp],by simp[g2],fun i r hr=>?_⟩
 rw[hsp]
 by_cases e:i=j
 ·subst e
  rw[Ywh hj]at hr
  simp only[Yv3]at hr
  subst hr
  exact⟨c,by rw[Ywh (by omega)],hc.setNU g1 hnu hln⟩
 ·rw[Ywb (Ne.symm e)]at hr ⊢
  obtain⟨x,a,b⟩:=g3 i r hr
  exact⟨x,a,b.setNU g1 hnu hln⟩
def RwQ.frt(s:RwQ h N R l 0):FrT h N (.slice R 0 l.length (some l.length) 4) l:=by
 obtain⟨cs,g1,g2,g3⟩:=s.ex
 obtain⟨f1,f2,_⟩:=RwQ.fcs g2 g3
 have hz:Zck zF 0=[]:=by simp[Zck]
 rw[hz,Yyb]at g1
 refine⟨⟨cs,.inr ⟨R,0,some l.length,cs.flatten,_,true,by rw[g2],s.lt,g1,fun j x hj=>by rw[Yyt];exact Zfj f1 hj,by rw[Zbi f1];omega,fun k hk=>by simp at hk;omega⟩,g2,g3⟩,fun i hi=>?_⟩
 simp[Zel]at hi
 subst hi
 exact⟨_,_,g1⟩
def Yf2{n:Nat}(hn:n<1000):Fn A.C 70 [.int .i64 n] h N (fun x h' n'=>x=.slice N 0 n (some n) 4∧RwQ h' n' N ((List.range n).map fun _=>0) 0):=by
 intro w
 have c1:(64:Int)*(n:Int)≤140737488355328:=by omega
 have c2:(n:Int)<4611686018427387904:=by omega
 have kB:Keeps h N (h.set N (.cells (Zck zF n) 111 true)) (N+1):=Keeps.refl.new _
 have gB:(h.set N (.cells (Zck zF n) 111 true)).get N=some (.cells (Zck zF n) 111 true):=by rw[T.get_set,Yv6 rfl]
 rw[Zab,A.k70 (by simp)]
 simp[A.b70,c1,c2]
 refine Zai [(4,4),(9,16)] (fun e r st=>e=.exit 0∧Zaa N st.w=[]∧Keeps h N st.h st.n∧RwQ st.h st.n N ((List.range n).map fun _=>0) 0) (fun i r st=>Zaa N st.w=[]∧Keeps h N st.h st.n∧∃t,t+i=n∧r.get 9=some (.int .i64 t)∧RwQ st.h st.n N ((List.range t).map fun _=>0) i) n ?_ ?_ ?_
 ·exact⟨by simp,kB,0,by omega,by simp,by show N<N+1;omega,[],by simp;rfl,rfl,fun j q hq=>by simp at hq⟩
 ·rintro i r ⟨H,n1,W⟩ hr hf ⟨hW,hK,t,ht,h9,hQ⟩
  simp only at hW hK hQ
  rw[Zah]
  cases i with
  |zero=>
   obtain rfl:t=n:=by omega
   simp[A.lb70_0,hr,hf,h9,hW,hK]
   exact hQ
  |succ i=>
   have hlt:t<n:=by omega
   have hlt':(t:Int)<(n:Int):=by omega
   simp[A.lb70_0,hr,hf,h9,hlt,hlt']
   refine Zac (Yn5 (by decide) (by decide)) ?_
   rintro _ H2 n2 k2 hz
   obtain⟨c,rfl,hc⟩:=hz.c
   obtain⟨e1,e2⟩:=hc.len
   have le2:=k2.le
   have hcc:(V.agg c).cells=c:=rfl
   obtain⟨X,x1,x2,x3⟩:=(hQ.keep k2).next hc
   have lN:N<n2:=Ywf hQ.lt le2
   have hl:((List.range t).map fun _=>(0:Rat)).length=t:=by simp
   rw[hl]at x2 x3
   simp(disch:=first|(simp;done)|omega|rfl) [-V.cells, -V.one,hr,hf,h9,hlt,hlt',Zal,hcc,e1,e2,x1,x2,lN]
   exact⟨i,by omega,hW,(hK.trans k2).set (Yv5 _),t+1,by omega,by simp,by rw[List.range_succ,List.map_append];exact x3⟩
 ·rintro _ r ⟨H,n1,W⟩ hr ⟨rfl,hW,hK,hQ⟩
  simp only at hW hK hQ
  simp[hr,Ret,hW,hK]
  exact hQ
variable {N:Nat} {h:T O} {m:List (List Rat)}
set_option maxHeartbeats 2000000
noncomputable def A.w43:=A.q Tryz.f43
noncomputable def A.lb43_0:=A.ql A.w43 1 []
noncomputable def A.lb43_1:=(fun x0=>A.ql A.w43 0 [x0]) A.lb43_0
noncomputable def A.b43:=(fun x0=>A.qb A.w43 [x0]) A.lb43_1
def A.k43:=@A.kk 43 63 [.tmp 2] A.b43 (by kernel_rfl) rfl
def Yh6{ps:List Nat}{n k:Nat}(hk:k<n):((List.range n).map fun _=>(0:Rat)).set k (((1:Int):Rat))=kvP m ps n k fun _=>false:=by
 apply Ywy
 intro j
 by_cases hj:j<n
 ·by_cases e:j=k
  ·subst e
   rw[Ywh (by simp;exact hj)]
   unfold kvP
   simp[hj]
  ·rw[Ywb (Ne.symm e)]
   unfold kvP
   simp[hj,e]
 ·rw[Ywd (by simp;omega),Ywd (by rw[Znx];omega)]
def Zna{v:V}(s:MfS h N v m){i:Nat}{row:List Rat}(hr:m[i]?=some row):∃j o c e rw u,Zk3 v=some (j,o)∧j<N∧h.get j=some (.cells c e rw)∧c[o+i]?=some u∧FrT h N u row:=by
 obtain⟨us,h1,h2,h3⟩:=s
 obtain⟨u,a,b⟩:=h3 i row hr
 obtain⟨j,o,c,e,rw,q1,q2,q3,q4⟩:=h1.at a
 exact⟨j,o,c,e,rw,u,q1,q2,q3,q4,b⟩
def Yh7{H:T O}{n R k c K:Nat}{W0:List Nat}{r0:T V}{rv pv:V}{ps:List Nat}(sm:MfS H n rv m)(sp:Sl H n pv (dI (pvI ps)))(hl:m.length=ps.length)(hml:m.length<1000)(hc:RcN m c)(hk:k<c)(hcl:c<1000)(hq:QbM m K)(hK:K≤400000000)(hi:∀i,i<ps.length→∃p,ps[i]?=some p∧p<c∧ps.idxOf p=i)(hkp:k∉ps)(hRn:n≤R){H2:T O}{n2:Nat}(kk:Keeps H n H2 n2)(s:RwQ H2 n2 R (kvP m ps c k fun _=>false) 0)(hW0:Zaa n W0=[])(a3:r0.get 3=some rv)(a7:r0.get 7=some (.int .i64 k))(a8:r0.get 8=some (.slice R 0 c (some c) 4))(a33:r0.get 33=some pv)(a34:r0.get 34=some (.int .i64 ps.length))(a35:r0.get 35=some (.int .i64 0)):
  Code A.C none (.loop A.lb43_0) ⟨r0,63,[]⟩ ⟨H2,n2,W0⟩ (fun e fr st=>e=.exit 2∧Zaa n st.w=[]∧Upd (fun i=>i=R) H2 n2 st.h st.n∧RwQ st.h st.n R (kvQ m ps c k) 0∧∃r,Fx [(9,10),(35,51)] r0 63 ⟨r,63,[]⟩∧fr=⟨r,63,[]⟩):=by
 have lp:=sp.len
 rw[Zat]at lp
 have lpi:(pvI ps).length=ps.length:=by simp[pvI]
 rw[lpi]at lp
 have lm:=sm.len
 rw[Zah]
 refine Zai [(9,10),(35,51)] (fun e r st=>e=.exit 2∧Zaa n st.w=[]∧Upd (fun i=>i=R) H2 n2 st.h st.n∧RwQ st.h st.n R (kvQ m ps c k) 0) (fun i r st=>Zaa n st.w=[]∧Upd (fun i=>i=R) H2 n2 st.h st.n∧∃t,t≤ps.length∧i=ps.length-t∧r.get 35=some (.int .i64 t)∧RwQ st.h st.n R (kvP m ps c k fun j=>decide (j∈ps.take t)) 0) ps.length ?_ ?_ ?_
 ·exact⟨hW0,Upd.refl,0,by omega,by omega,a35,by simpa using s⟩
 ·rintro i r ⟨H1,n1,W⟩ hr hf ⟨hW,U1,t,ht,rfl,h35,s1⟩
  simp only at hW U1 s1
  have k1:Keeps H n H1 n1:=kk.then (U1.keeps kk.le fun i hi=>by omega)
  rw[Zah]
  by_cases hlt:t<ps.length
  ·have hlt':(t:Int)<(ps.length:Int):=by omega
   obtain⟨p,hp,hpc,hpx⟩:=hi t hlt
   have hpk:p≠k:=fun hc=>hkp (hc▸Yv7 hp)
   have hlm:t<m.length:=by omega
   have hlm':(t:Int)<(m.length:Int):=by omega
   obtain⟨row,hrow⟩:=Zae hlm
   have hrl:=hc row (Yv7 hrow)
   obtain⟨q,hq2⟩:=Zae (l:=row) (k:=k) (by omega)
   obtain⟨i1,o1,c1,e1,w1,p1,p2,p3,p4⟩:=(sp.keep k1).at (Zbg (l:=pvI ps) (j:=t) (n:=(p:Int)) (by simp[pvI,hp]))
   obtain⟨i2,o2,c2,e2,w2,u,q1,q2,q3,q4,q5⟩:=Zna (sm.keep k1) hrow
   obtain⟨i3,o3,c3,e3,w3,cs,x1,x2,x3,x4,x5⟩:=q5.1.at hq2
   have hlu:=q5.1.len
   have hk1:(k:Int)<(row.length:Int):=by omega
   have hk2:k<row.length:=by omega
   have hpc':(p:Int)<(c:Int):=by omega
   have hqb:=hq row (Yv7 hrow) q (Yv7 hq2)
   have hwl:=hqb.wls
   have hp0:(0:Int)≤(p:Int):=by omega
   simp[A.lb43_0,hr,hf,a3,a7,a8,a33,a34,h35,hlt,hlt',lp,lm,hlm,hlm',p1,p2,p3,p4,q1,q2,q3,q4,x1,x2,x3,x4,Zff x4,hlu,hk1,hk2]
   refine Zac (Yee x5.fc (by omega)) ?_
   rintro _ H3 n3 k3 hz
   obtain⟨cz,rfl,hcz⟩:=hz.c
   obtain⟨f1,f2⟩:=hcz.len
   have le3:=k3.le
   have hcc:(V.agg cz).cells=cz:=rfl
   obtain⟨X,y1,y2,y3⟩:=(s1.keep k3).put hcz (j:=p) (by rw[Znx];exact hpc)
   have lR:R<n3:=Ywf s1.lt le3
   simp(disch:=first|(simp;done)|omega|rfl) [-V.cells, -V.one,hr,hf,a8,h35,hpc,hpc',Zal,hcc,f1,f2,y1,y2,lR]
   refine⟨ps.length-(t+1),by omega,by rw[Yv4 (by omega)];exact hW,(U1.trans k3.upd).set (.inl rfl),t+1,by omega,rfl,by simp,?_⟩
   have hat:atQ m t k=q:=by unfold atQ;rw[hrow];simp[hq2]
   rw[Ynh (p:=fun j=>decide (j∈ps.take t)) hpc hpk fun j _=>Zqx hp,hpx,hat]
   exact y3
  ·obtain rfl:t=ps.length:=by omega
   rw[Ywe (Yv5 _),Yni]at s1
   simp[A.lb43_0,hr,hf,a34,h35,hW,U1]
   exact s1
 ·rintro _ r st hr ⟨rfl,hw,k1,s1⟩
  simp[]
  exact⟨hw,k1,s1,hr,rfl,rfl⟩
def Zvk:Fn A.C 40 [.nilslice] h N (fun x _ _=>x=.tup [.nilslice,.nilslice]):=by
 intro w
 rw[Zab,A.k40 (by simp)]
 have kB:∀o,Keeps h N (h.set N o) (N+1):=fun o=>Keeps.refl.new o
 have cn:∀w,Zvp ⟨h.set N (.cells (Zck [.nilslice] 0) 80 true),N+1,w⟩ 1 (some (.slice N 0 0 (some 0) 1)) (some .nilslice)=some (.int .i64 0,⟨h.set N (.cells (Zck [.nilslice] 0) 80 true),N+1,w⟩):=fun w=>Ye7 (xs:=[]) rfl
 simp[A.b40,cn,Zad,Ret]
 exact kB _
def Zst{c:Nat}{u:V}(hu:MfS h N u m)(hc:RcN m c)(hml:m.length≤6)(hm0:0<m.length)(hcl:c≤6)(hq:QbM m 96):Fn A.C 43 [u] h N (fun x h' n'=>MfS h' n' x (Zll m c)):=by
 intro w
 have lu:=hu.len
 have hm0':(0:Int)<(m.length:Int):=by omega
 obtain⟨l0,hl0⟩:=Zae hm0
 have I:=@Zci m c hc c
 have hdn:(Za0 m c).2.1≤c:=Zq5
 rw[Zab,A.k43 (by simp)]
 simp[A.b43]
 refine Zac (Zil (B:=kB 96) hu hc (by omega) hm0 (by omega) (fun _=>Zkk (by decide)) (fun _=>Zp0 hq (by decide)) fun n h1 h2=>Ynr (by omega)) ?_
 rintro _ H1 n1 k1 ⟨rv,pv,rfl,hrv,hpv⟩
 have le1:=k1.le
 obtain⟨i2,o2,c2,e2,w2,y,q1,q2,q3,q4,q5⟩:=Zna (hu.keep k1) hl0
 rw[Yxc]at q4
 have ly:=q5.1.len
 rw[hc l0 (Yv7 hl0)]at ly
 have hps:=hpv.sl
 have hpl:=hps.len
 rw[Zat]at hpl
 have hpl2:(pvI (Za0 m c).2.2).length=(Za0 m c).2.1:=by simp[pvI,I.len]
 have hpv2:∀i,i<(Za0 m c).2.2.length→∃p,(Za0 m c).2.2[i]?=some p∧p<c∧(Za0 m c).2.2.idxOf p=i:=fun i hi=>by
  obtain⟨row,hrow⟩:=Zae (l:=Zea m c) (k:=i) (by rw[Zdx hc,←I.len];exact hi)
  obtain⟨p,a,b,_,d⟩:=Yca hc hrow
  exact⟨p,a,b,d⟩
 rw[hpl2,←I.len]at hpl
 have hrl:(Zea m c).length=(Za0 m c).2.2.length:=by rw[Zdx hc,I.len]
 have hcont:=fun (k:Nat) (H:T O) (n:Nat) (w:List Nat) (kk:Keeps H1 n1 H n)=>Yot (w:=w) (z:=(k:Int)) (hps.keep kk) (by omega)
 simp[lu,hm0,hm0',q1,q2,q3,q4,ly]
 refine Zai [(6,10),(21,56)] (fun e r st=>e=.exit 0∧Zaa n1 st.w=[]∧Keeps H1 n1 st.h st.n∧∃v,r.get 6=some v∧MfO n1 st.h st.n v (Zhw m c)) (fun i r st=>Zaa n1 st.w=[]∧Keeps H1 n1 st.h st.n∧∃k v,k≤c∧i=c-k∧r.get 21=some (.int .i64 k)∧r.get 6=some v∧MfO n1 st.h st.n v ((Zdg (Za0 m c).2.2 k).map (kvQ (Zea m c) (Za0 m c).2.2 c))) c ?_ ?_ ?_
 ·exact⟨by simp[Zlh],Keeps.refl,0,_,by omega,by omega,by simp,by simp,MfO.nil⟩
 ·rintro i r ⟨H,n,W⟩ hr hf ⟨hW,hK,k,v,hk,rfl,h21,h6,hO⟩
  simp only at hW hK hO
  rw[Zah]
  have ln:=hK.le
  by_cases hlt:k<c
  ·have hlt':(k:Int)<(c:Int):=by omega
   have hcn:=fun w=>hcont k H n w hK
   rw[Yme]at hcn
   have hfs:=Yed (ps:=(Za0 m c).2.2) (k:=k)
   cases hb:(Za0 m c).2.2.contains k with
   |true=>
    rw[hb]at hcn
    rw[hb,Yv6 rfl,Yyb]at hfs
    simp(disch:=first|(simp;done)|omega|rfl) [A.lb43_1,hr,hf,h21,h6,hlt,hlt',hcn,hW,hK]
    exact⟨c-(k+1),by omega,k+1,by omega,rfl,by simp,by rw[hfs];exact hO⟩
   |false=>
    rw[hb]at hcn
    rw[hb,Yv4 (by decide)]at hfs
    have hkp:k∉(Za0 m c).2.2:=fun hm=>by simp[hm]at hb
    simp[A.lb43_1,hr,hf,h21,h6,hlt,hlt',hcn]
    refine Zac (Yf2 (by omega)) ?_
    rintro _ H2 n2 k2 ⟨rfl,s2⟩
    have le2:=k2.le
    simp[hr,hf]
    refine Zac (Yn5 (by decide) (by decide)) ?_
    rintro _ H3 n3 k3 hz
    obtain⟨cz,rfl,hcz⟩:=hz.c
    obtain⟨f1,f2⟩:=hcz.len
    have le3:=k3.le
    have hcc:(V.agg cz).cells=cz:=rfl
    obtain⟨X,y1,y2,y3⟩:=(s2.keep k3).put hcz (j:=k) (by simp;exact hlt)
    have lR:n<n3:=Ywf s2.lt le3
    simp[-V.cells, -V.one,hr,hf,h21,h6,hlt,hlt',Zal,hcc,f1,f2,y1,y2,lR,hpl]
    rw[Yh6 (m:=Zea m c) (ps:=(Za0 m c).2.2) hlt]at y3
    have k4:Keeps H n (H3.set n (.cells (splice X (k*4) cz) 111 true)) n3:=(k2.trans k3).set (Yv5 _)
    generalize H3.set n (.cells (splice X (k*4) cz) 111 true)=G at*
    refine Zbd (Yh7 (R:=n) (K:=400000000) hrv hps hrl (by rw[hrl,I.len];omega) (Znc hc) hlt (by omega) (Ycc hml hc hq) (Yv5 _) hpv2 hkp ln (hK.trans k4) y3 (by simp[Yy2.2 ln,hW]) (by simp[hr]) (by simp) (by simp) (by simp) (by simp) (by simp)) ?_
    rintro _ _ ⟨H4,n4,W4⟩ ⟨rfl,hW4,U4,s4,r4,f4,rfl⟩
    simp only at hW4 U4 s4
    have hr4:=f4.reg
    have hf4:=hf.inner (D':=[(9,10),(35,51)]) (by decide) (fun hx=>by simpa[Fx.set]using hx) hr4
    have k5:Keeps H n H4 n4:=k4.then (U4.keeps k4.le fun i hi=>by omega)
    have le4:=k5.le
    have fr:=s4.frt
    have hvl:(kvQ (Zea m c) (Za0 m c).2.2 c k).length=c:=by simp[kvQ]
    rw[hvl]at fr
    have sp1:splice [V.nilslice] 0 [.slice n 0 c (some c) 4]=[.slice n 0 c (some c) 4]:=rfl
    have kD:Keeps H4 n4 (H4.set n4 (.cells [.slice n 0 c (some c) 4] 80 true)) (n4+1):=Keeps.refl.new _
    have hfl:(Zdg (Za0 m c).2.2 k).length≤k:=by
     unfold Zdg
     exact Yxt (List.length_filter_le _ _) (by simp)
    obtain⟨v',h',w',j1,j2,j3,j4⟩:=MfO.push (N0:=n1) (x:=.slice n4 0 1 (some 1) 1) (w:=W4) ((hO.keep k5).keep kD) (fr.keep kD) (by omega) (by simp[Zaz,St.row,slc]) (by rw[Yw7];omega)
    have kF:Keeps H1 n1 h' (n4+1+1):=((hK.trans k5).trans kD).then j3
    simp(disch:=first|(simp;done)|omega|rfl) [hr4,hf4,hr,h21,h6,sp1,Zcw,j1,j2,hW4,kF]
    exact⟨c-(k+1),by omega,k+1,by omega,rfl,by simp,by rw[hfs,List.map_append];exact j4⟩
  ·obtain rfl:k=c:=by omega
   simp[A.lb43_1,hr,hf,h21,h6,hW,hK]
   exact hO
 ·rintro _ r ⟨H,n,W⟩ hr ⟨rfl,hW,hK,v,h6,hO⟩
  simp only at hW hK hO
  have le:=hK.le
  have hkl:=Zlk hc
  cases hkn:Zhw m c with
  |nil=>
   rw[hkn]at hO
   obtain⟨us,_,o2,o3,_⟩:=hO
   obtain rfl:v=.nilslice:=o2 (List.length_eq_zero_iff.1 o3)
   simp[hr,h6]
   refine Zac Zvk ?_
   rintro _ H5 n5 k5 rfl
   simp[hr,Ret]
   refine⟨Zwt hW le1,(k1.trans hK).trans k5,?_⟩
   unfold Zll
   rw[hkn,Yl9]
   exact⟨[],.inl ⟨rfl,.inl rfl⟩,rfl,fun j l hl=>by simp at hl⟩
  |cons r0 rest=>
   have hk0:0<(Zhw m c).length:=by rw[hkn];simp
   have hO':=hO.mfs
   simp[hr,h6]
   refine Zac (Zil hO' Zkj (by omega) hk0 (by omega) (fun _=>Zkk (Zkk (by decide))) (fun _=>Zp0 (Ykh hq (by decide)) (Zkk (by decide))) (Ynn hc hcl)) ?_
   rintro _ H5 n5 k5 ⟨a,b,rfl,ha,hb⟩
   simp[hr,Ret]
   exact⟨Zwt hW le1,(k1.trans hK).trans k5,ha⟩
variable {N k:Nat} {h:T O} {u:V}
set_option maxHeartbeats 1000000
noncomputable def A.w130:=A.q Tryz.f130
noncomputable def A.lb130_0:=A.ql A.w130 0 []
noncomputable def A.b130:=(fun x0=>A.qb A.w130 [x0]) A.lb130_0
def A.k130:=@A.kk 130 32 [.tmp 6] A.b130 (by kernel_rfl) rfl
noncomputable def A.w132:=A.q Tryz.f132
noncomputable def A.lb132_0:=A.ql A.w132 0 []
noncomputable def A.b132:=(fun x0=>A.qb A.w132 [x0]) A.lb132_0
def A.k132:=@A.kk 132 32 [.tmp 6] A.b132 (by kernel_rfl) rfl
noncomputable def A.b133:=A.q Tryz.f133
def A.k133:=@A.kk 133 9 [.tmp 4] A.b133 (by kernel_rfl) rfl
noncomputable def A.w42:=A.q Tryz.f42
noncomputable def A.lb42_0:=A.ql A.w42 0 []
noncomputable def A.b42:=(fun x0=>A.qb A.w42 [x0]) A.lb42_0
def A.k42:=@A.kk 42 29 [.tmp 2,.tmp 3] A.b42 (by kernel_rfl) rfl
noncomputable def A.b58:=A.q Tryz.f58
def A.k58:=@A.kk 58 8 [.tmp 4] A.b58 (by kernel_rfl) rfl
noncomputable def A.b131:=A.q Tryz.f131
def A.k131:=@A.kk 131 8 [.tmp 4] A.b131 (by kernel_rfl) rfl
def Ycf{p q:Rat}:p.num*(q.den:Int)-q.num*(p.den:Int)=0↔p=q:=by
 constructor
 ·intro h
  have h1:p.num*(q.den:Int)=q.num*(p.den:Int):=by omega
  have a:((p.den:Nat):Int)≠0:=by have:=p.den_nz;omega
  have b:((q.den:Nat):Int)≠0:=by have:=q.den_nz;omega
  rw[←Yx7 p,←Yx7 q]
  exact(Rat.divInt_eq_divInt_iff a b).2 h1
 ·intro h
  subst h
  omega
def Ysp{z:Int}:sg3 z=0↔z=0:=by
 unfold sg3
 constructor
 ·intro h
  split at h
  ·omega
  ·split at h<;>omega
 ·intro h
  subst h
  rfl
def Yil{c d:List V}{p q:Rat}(hc:FcC h N c p)(hd:FcC h N d q)(hp:Qb k p)(hq:Qb k q)(hk:k≤400000000):Fn A.C 133 [.agg c,.agg d] h N (fun x _ _=>x=.bool (decide (p=q))):=by
 intro w
 obtain⟨c1,c2⟩:=hc.len
 obtain⟨d1,d2⟩:=hd.len
 have w1:=hp.wls
 have w2:=hq.wls
 have hcc:∀c:List V,(V.agg c).cells=c:=fun _=>rfl
 have s0:=Ypp c1
 have s1:=Ypp d1
 have kB:Keeps h N ((h.set N (.cells c 111 true)).set (N+1) (.cells d 111 true)) (N+1+1):=(Keeps.refl.new _).new _
 have n1:¬N=N+1:=by omega
 rw[Zab,A.k133 (by simp)]
 simp[-V.cells, -V.one,A.b133,hcc,c1,c2,d1,d2,s0,s1,n1]
 refine Zac (Yn9 (hc.keep kB).fc (hd.keep kB).fc (by omega) (by omega) (by omega) (by omega)) ?_
 rintro _ H2 n2 k2 rfl
 simp[Zad,Ret]
 refine⟨kB.trans k2,?_⟩
 rw[Ysp]
 exact Ycf
def Yrj{v:V}{a b:List Rat}(hu:FrS h N u a)(hv:FrS h N v b)(ha:∀q∈a,Qb k q)(hb:∀q∈b,Qb k q)(hk:k≤400000000)(hl:a.length<100000)(hl2:b.length<100000):Fn A.C 132 [u,v,.func 133 [] []] h N (fun x _ _=>x=.bool (decide (a=b))):=by
 intro w
 have l1:=hu.len
 have l2:=hv.len
 rw[Zab,A.k132 (by simp)]
 by_cases e:a.length=b.length
 ·have e':(a.length:Int)=(b.length:Int):=by omega
  simp[A.b132,l1,l2,e,Zad]
  refine Zai [(6,9),(17,31)] (fun x r st=>Zaa N st.w=[]∧Keeps h N st.h st.n∧((x=.exit 0∧a=b)∨(x=.ret∧a≠b∧r.get 6=some (.bool false)))) (fun m r st=>Zaa N st.w=[]∧Keeps h N st.h st.n∧∃t,t+m=b.length∧r.get 17=some (.int .i64 t)∧(a=b↔a.drop t=b.drop t)) b.length ?_ ?_ ?_
  ·exact⟨by simp,Keeps.refl,0,by omega,by simp,by simp⟩
  ·rintro m r ⟨H,n,W⟩ hr hf ⟨hW,hK,t,ht,h17,hz⟩
   simp only at hW hK
   rw[Zah]
   cases m with
   |zero=>
    obtain rfl:t=b.length:=by omega
    have hab:a=b:=hz.2 (by rw[Yw8 (by omega),Yw8 (by omega)])
    simp[A.lb132_0,hr,hf,h17,hW,hK]
    exact hab
   |succ m=>
    have hlt:t<b.length:=by omega
    have hlt':(t:Int)<(b.length:Int):=by omega
    have hla:t<a.length:=by omega
    obtain⟨p,hp⟩:=Zae hla
    obtain⟨q,hq⟩:=Zae hlt
    obtain⟨i1,o1,x1,e1,w1,c,p1,p2,p3,p4,p5⟩:=(hu.keep hK).at hp
    obtain⟨i2,o2,x2,e2,w2,d,q1,q2,q3,q4,q5⟩:=(hv.keep hK).at hq
    obtain⟨c1,c2⟩:=p5.len
    obtain⟨d1,d2⟩:=q5.len
    have hcc:∀c:List V,(V.agg c).cells=c:=fun _=>rfl
    have s0:=Ypp c1
    have s1:=Ypp d1
    have f0:=Yr8 c1
    have f1:=Yr8 d1
    have m1:¬i1=n:=by omega
    have m2:¬i2=n:=by omega
    have m3:¬n=n+1:=by omega
    have m4:i2<n+1:=by omega
    have m5:i1<n+1:=by omega
    rw[Zan hp,Zan hq,Ywu]at hz
    simp[-V.cells, -V.one,A.lb132_0,hr,hf,h17,hlt,hlt',hla,l1,l2,e,p1,p2,p3,p4,q1,q2,q3,q4,Zff p4,Zff q4,Zal,hcc,c1,c2,d1,d2,s0,s1,f0,f1,m1,m2,m3,m4,m5]
    have kB:Keeps H n ((((H.set n (.cells [.int .i64 0,.nilslice,.int .i64 0,.nilslice] 111 true)).set n (.cells c 111 true)).set (n+1) (.cells [.int .i64 0,.nilslice,.int .i64 0,.nilslice] 111 true)).set (n+1) (.cells d 111 true)) (n+1+1):=(((Keeps.refl.new _).set (Yv5 _)).new _).set (by omega)
    generalize (((H.set n (.cells [.int .i64 0,.nilslice,.int .i64 0,.nilslice] 111 true)).set n (.cells c 111 true)).set (n+1) (.cells [.int .i64 0,.nilslice,.int .i64 0,.nilslice] 111 true)).set (n+1) (.cells d 111 true)=G at*
    refine Zac (Yil (p5.keep kB) (q5.keep kB) (ha p (Yv7 hp)) (hb q (Yv7 hq)) hk) ?_
    rintro _ H3 n3 k3 rfl
    have le:=hK.le
    have u1:¬n<N:=by omega
    have u2:¬n+1<N:=by omega
    by_cases hpq:p=q
    ·simp(disch:=first|(simp;done)|omega|rfl) [hr,hf,h17,hpq,hW,u1,u2]
     exact⟨m,by omega,(hK.trans kB).trans k3,t+1,by omega,by simp,by simpa[hpq]using hz⟩
    ·simp[hr,hf,h17,hpq,hW,u1,u2]
     exact⟨(hK.trans kB).trans k3,fun hc=>hpq (hz.1 hc).1⟩
  ·rintro x r ⟨H,n,W⟩ hr ⟨hW,hK,⟨rfl,hz⟩|⟨rfl,hz,h6⟩⟩
   ·simp only at hW hK
    simp[hr,hz,Ret,hW,hK]
   ·simp only at hW hK
    simp[hr,h6,Ret,hW,hK,hz]
 ·have e':¬(a.length:Int)=(b.length:Int):=by omega
  have hab:a≠b:=fun hc=>e (by rw[hc])
  simp[A.b132,l1,l2,e,e',Zad,Ret]
  exact⟨Keeps.refl,hab⟩
def Yly{v:V}{a b:List (List Rat)}(hu:MfS h N u a)(hv:MfS h N v b)(ha:QbM a k)(hb:QbM b k)(hk:k≤400000000)(hl:a.length<100000)(hl2:b.length<100000)(hx:∀r∈a,r.length<100000)(hy:∀r∈b,r.length<100000):Fn A.C 58 [u,v] h N (fun x _ _=>x=.bool (decide (a=b))):=by
 intro w
 have l1:=hu.len
 have l2:=hv.len
 rw[Zab,A.k58 (by simp)]
 simp[A.b58]
 have key:Fn A.C 130 [u,v,.func 131 [] []] h N (fun x _ _=>x=.bool (decide (a=b))):=by
  intro w
  rw[Zab,A.k130 (by simp)]
  by_cases e:a.length=b.length
  ·have e':(a.length:Int)=(b.length:Int):=by omega
   simp[A.b130,l1,l2,e,Zad]
   refine Zai [(6,9),(17,31)] (fun x r st=>Zaa N st.w=[]∧Keeps h N st.h st.n∧((x=.exit 0∧a=b)∨(x=.ret∧a≠b∧r.get 6=some (.bool false)))) (fun m r st=>Zaa N st.w=[]∧Keeps h N st.h st.n∧∃t,t+m=b.length∧r.get 17=some (.int .i64 t)∧(a=b↔a.drop t=b.drop t)) b.length ?_ ?_ ?_
   ·exact⟨by simp,Keeps.refl,0,by omega,by simp,by simp⟩
   ·rintro m r ⟨H,n,W⟩ hr hf ⟨hW,hK,t,ht,h17,hz⟩
    simp only at hW hK
    rw[Zah]
    cases m with
    |zero=>
     obtain rfl:t=b.length:=by omega
     have hab:a=b:=hz.2 (by rw[Yw8 (by omega),Yw8 (by omega)])
     simp[A.lb130_0,hr,hf,h17,hW,hK]
     exact hab
    |succ m=>
     have hlt:t<b.length:=by omega
     have hlt':(t:Int)<(b.length:Int):=by omega
     have hla:t<a.length:=by omega
     obtain⟨p,hp⟩:=Zae hla
     obtain⟨q,hq⟩:=Zae hlt
     obtain⟨i1,o1,x1,e1,w1,c,p1,p2,p3,p4,p5⟩:=Zna (hu.keep hK) hp
     obtain⟨i2,o2,x2,e2,w2,d,q1,q2,q3,q4,q5⟩:=Zna (hv.keep hK) hq
     rw[Zan hp,Zan hq,Ywu]at hz
     have hpm:=Yv7 hp
     have hqm:=Yv7 hq
     simp[A.lb130_0,hr,hf,h17,hlt,hlt',hla,l1,l2,e,p1,p2,p3,p4,q1,q2,q3,q4]
     have call:Fn A.C 131 [c,d] H n (fun x _ _=>x=.bool (decide (p=q))):=by
      intro w
      rw[Zab,A.k131 (by simp)]
      simp[A.b131]
      refine Zac (Yrj p5.1 q5.1 (ha p hpm) (hb q hqm) hk (hx p hpm) (hy q hqm)) ?_
      rintro _ H3 n3 k3 rfl
      simp[Ret]
      exact k3
     refine Zac call ?_
     rintro _ H3 n3 k3 rfl
     by_cases hpq:p=q
     ·simp(disch:=first|(simp;done)|omega|rfl) [hr,hf,h17,hpq,hW]
      exact⟨m,by omega,hK.trans k3,t+1,by omega,by simp,by simpa[hpq]using hz⟩
     ·simp[hr,hf,h17,hpq,hW]
      exact⟨hK.trans k3,fun hc=>hpq (hz.1 hc).1⟩
   ·rintro x r ⟨H,n,W⟩ hr ⟨hW,hK,⟨rfl,hz⟩|⟨rfl,hz,h6⟩⟩
    ·simp only at hW hK
     simp[hr,hz,Ret,hW,hK]
    ·simp only at hW hK
     simp[hr,h6,Ret,hW,hK,hz]
  ·have e':¬(a.length:Int)=(b.length:Int):=by omega
   have hab:a≠b:=fun hc=>e (by rw[hc])
   simp[A.b130,l1,l2,e,e',Zad,Ret]
   exact⟨Keeps.refl,hab⟩
 refine Zac key ?_
 rintro _ H3 n3 k3 rfl
 simp[Ret]
 exact k3
def Zwk{m:List (List Rat)}(hu:MfS h N u m)(hP:P10 h N)(hl:m.length<10000)(hr:∀r∈m,r.length<1000000000)(hq:QbM m k)(hk:k≤400000000):Fn A.C 42 [u] h N (fun x h' n'=>(Ztr m=true∧x=.tup [.nilslice,.int .i64 4])∨(Ztr m=false∧∃v,x=.tup [v,.int .i64 0]∧TxM h' n' v m)):=by
 intro w
 have l1:=hu.len
 rw[Zab,A.k42 (by simp)]
 simp[A.b42,l1]
 refine Zai [(2,4),(6,8),(11,27)] (fun e r st=>Zaa N st.w=[]∧Keeps h N st.h st.n∧((e=.exit 0∧Ztr m=false∧∃v,r.get 4=some v∧MtO N st.h st.n v m)∨(e=.ret∧Ztr m=true∧r.get 2=some .nilslice∧r.get 3=some (.int .i64 4)))) (fun i r st=>Zaa N st.w=[]∧Keeps h N st.h st.n∧∃t v,t+i=m.length∧r.get 11=some (.int .i64 t)∧Ztr m=Ztr (m.drop t)∧r.get 4=some v∧MtO N st.h st.n v (m.take t)) m.length ?_ ?_ ?_
 ·exact⟨by simp,Keeps.refl,0,_,by omega,by simp,by simp,by simp,MtO.nil⟩
 ·rintro i r ⟨H,n,W⟩ hr0 hf ⟨hW,hK,t,v,ht,h11,hz,h4,hO⟩
  simp only at hW hK hO
  rw[Zah]
  have le:=hK.le
  cases i with
  |zero=>
   obtain rfl:t=m.length:=by omega
   rw[Yw5]at hz
   rw[Ywe (Yv5 _)]at hO
   have hz':Ztr m=false:=by rw[hz];rfl
   simp[A.lb42_0,hr0,hf,h11,h4,hz',hW,hK]
   exact hO
  |succ i=>
   have hlt:t<m.length:=by omega
   have hlt':(t:Int)<(m.length:Int):=by omega
   obtain⟨row,hrow⟩:=Zae hlt
   have hm:=Yv7 hrow
   obtain⟨i1,o1,x1,e1,w1,c,p1,p2,p3,p4,p5⟩:=Zna (hu.keep hK) hrow
   rw[Zan hrow]at hz
   simp[A.lb42_0,hr0,hf,h11,h4,hlt,hlt',l1,p1,p2,p3,p4]
   refine Zac (Zv7 p5.1 (hP.keep hK) (hr row hm) (hq row hm) hk) ?_
   rintro _ H3 n3 k3 (⟨hb,rfl⟩|⟨hb,x,rfl,tx⟩)
   ·have hz':Ztr m=true:=by rw[hz];simp[Ztr,hb]
    simp[hr0,hf,Zad,hW,hz']
    exact hK.trans k3
   ·have hz':Ztr m=Ztr (m.drop (t+1)):=by rw[hz];simp[Ztr,hb]
    have ox:V.one x=true∧V.cells x=[x]:=⟨Sl.one1 tx.1,Sl.cells1 tx.1⟩
    have le3:=k3.le
    have kD:Keeps H3 n3 (H3.set n3 (.cells [x] 25 true)) (n3+1):=Keeps.refl.new _
    have sp1:splice [V.nilslice] 0 [x]=[x]:=rfl
    obtain⟨v',h',w',j1,j2,j3,j4⟩:=MtO.push (N0:=N) (x:=.slice n3 0 1 (some 1) 1) (w:=W) ((hO.keep k3).keep kD) (TxT.keep tx kD) (by omega) (by simp[Zaz,St.row,slc]) (by rw[Ywm];omega)
    have kF:Keeps h N h' (n3+1+1):=((hK.trans k3).trans kD).then j3
    simp(disch:=first|(simp;done)|omega|rfl) [-V.cells, -V.one,hr0,hf,h11,h4,Zad,hW,hz',ox.1,ox.2,sp1,Zcw,j1]
    exact⟨i,by omega,by rw[j2];exact hW,kF,t+1,by omega,by simp,rfl,by rw[Yyq,hrow];exact j4⟩
 ·rintro e r ⟨H,n,W⟩ hr0 ⟨hW,hK,⟨rfl,hz,v,h4,hO⟩|⟨rfl,hz,h2,h3⟩⟩
  ·simp only at hW hK hO
   simp[hr0,h4,Ret,hW,hK,hz]
   exact hO.txm
  ·simp only at hW hK
   simp[hr0,h2,h3,Ret,hW,hK,hz]
noncomputable def A.b67:=A.q Tryz.f67
def A.k67:=@A.kk 67 31 [.tmp 4] A.b67 (by kernel_rfl) rfl
noncomputable def A.w22:=A.q Tryz.f22
noncomputable def A.lb22_0:=A.ql A.w22 0 []
noncomputable def A.b22:=(fun x0=>A.qb A.w22 [x0]) A.lb22_0
def A.k22:=@A.kk 22 25 [.tmp 6] A.b22 (by kernel_rfl) rfl
def Yre(q:Rat)(d:Nat):Bool:=decide ((decN q.num.natAbs).length≤d)&&decide ((decN q.den).length≤d)
def Zvh(s:Str)(d:Nat):Bool:=decide (s.length≤2*d+2)&&(decide (chkNum s=0)&&Yre (Zo0 s) d)
def Yat(l:List Str)(n d:Nat):Bool:=decide (l.length≤n)&&l.all fun s=>Zvh s d
def Zty(q:Rat):(decI q.num).length≤(Zax q).length:=by
 unfold Zax
 split<;>simp
def Yrc{h:T O}{N d:Nat}{s:Str}(hd:d≤100):Fn A.C 67 [.str s,.int .i64 (d:Nat)] h N (fun u _ _=>u=.bool (Zvh s d)):=by
 intro w
 rw[Zab,A.k67 (by simp)]
 by_cases c1:s.length≤2*d+2
 ·have c1':(s.length:Int)≤2*(d:Int)+2:=by omega
  simp(disch:=first|(simp;done)|omega|rfl) [-getElem?_pos,A.b67,c1']
  refine Zac (Zr4 (s:=s) (by omega)) ?_
  rintro _ h1 n1 k1 rfl
  by_cases c2:chkNum s=0
  ·have et:=(Zoh c2).1
   obtain⟨q,hq⟩:∃q,Zo0 s=q:=⟨_,rfl⟩
   rw[hq]at et
   have hl:(Zax q).length<1000000000:=by rw[et];omega
   have e1:=fun st=>Ymq (q:=q) (st:=st) hl
   have e2:=fun st=>Yon (q:=q) (st:=st) hl
   rw[et]at e1 e2
   have hln:(decI q.num).length<1000000000:=by
    have:=Zty q
    rw[et]at this
    omega
   have e3:=fun st=>Ypd (z:=q.num) (st:=st) hln
   by_cases c3:(decN q.num.natAbs).length≤d
   ·have c3':((decN q.num.natAbs).length:Int)≤(d:Int):=by omega
    by_cases c4:(decN q.den).length≤d
    ·have c4':((decN q.den).length:Int)≤(d:Int):=by omega
     simp(disch:=first|(simp;done)|omega|rfl) [-getElem?_pos,c2,Zad,e1,e2,e3,c3',c4',Ret]
     exact⟨k1,by simp[Zvh,Yre,c1,c2,hq,c3,c4]⟩
    ·have c4':¬((decN q.den).length:Int)≤(d:Int):=by omega
     simp(disch:=first|(simp;done)|omega|rfl) [-getElem?_pos,c2,Zad,e1,e2,e3,c3',c4',Ret]
     exact⟨k1,by simp[Zvh,Yre,c1,c2,hq,c3,c4]⟩
   ·have c3':¬((decN q.num.natAbs).length:Int)≤(d:Int):=by omega
    simp(disch:=first|(simp;done)|omega|rfl) [-getElem?_pos,c2,Zad,e1,e2,e3,c3',Ret]
    exact⟨k1,by simp[Zvh,Yre,c1,c2,hq,c3]⟩
  ·have c2':¬((chkNum s:Nat):Int)=0:=by omega
   simp(disch:=first|(simp;done)|omega|rfl) [-getElem?_pos,c2,c2',Zad,Ret]
   exact⟨k1,by simp[Zvh,c2]⟩
 ·have c1':¬(s.length:Int)≤2*(d:Int)+2:=by omega
  simp(disch:=first|(simp;done)|omega|rfl) [-getElem?_pos,A.b67,c1',Ret]
  exact⟨Keeps.refl,by simp[Zvh,c1]⟩
def Yn6{h:T O}{N d n:Nat}{v:V}{l:List Str}(hs:Sl h N v (strs l))(hl:l.length<9223372036854775808)(hd:d≤100)(hn:n≤1000):Fn A.C 22 [v,.int .i64 (n:Nat),.int .i64 (d:Nat)] h N (fun u _ _=>u=.bool (Yat l n d)):=by
 intro w
 have hlen:=hs.len
 rw[Zb5]at hlen
 rw[Zab,A.k22 (by simp)]
 by_cases c0:l.length≤n
 ·have c0':¬(n:Int)<(l.length:Int):=by omega
  have e0:Yat l n d=l.all fun s=>Zvh s d:=by simp[Yat,c0]
  rw[e0]
  simp(disch:=first|(simp;done)|omega|rfl) [-getElem?_pos,A.b22,hlen,c0']
  refine Zai [(6,7),(12,24)] (fun e r st=>Zaa N st.w=[]∧Keeps h N st.h st.n∧((e=.exit 0∧(l.all fun s=>Zvh s d)=true)∨(e=.ret∧(l.all fun s=>Zvh s d)=false∧r.get 6=some (.bool false)))) (fun m r st=>Zaa N st.w=[]∧Keeps h N st.h st.n∧∃k,k+m=l.length∧r.get 7=some (.int .i64 k)∧(l.all fun s=>Zvh s d)=((l.drop k).all fun s=>Zvh s d)) l.length ?_ ?_ ?_
  ·exact⟨by simp,Keeps.refl,0,by omega,by simp,by simp⟩
  ·rintro m r ⟨H,n1,W⟩ hr hf ⟨hW,hK,k,hk,h7,hz⟩
   simp only at hW hK
   rw[Zah]
   cases m with
   |zero=>
    obtain rfl:k=l.length:=by omega
    rw[Yw5,List.all_nil]at hz
    simp(disch:=first|(simp;done)|omega|rfl) [-getElem?_pos,A.lb22_0,hr,hf,h7,hlen,hW,hK]
    simpa using hz
   |succ m=>
    have hlt:k<l.length:=by omega
    have hlt':(k:Int)<(l.length:Int):=by omega
    obtain⟨s,hsk⟩:=Zae hlt
    obtain⟨i,o,cc,e,rw,q1,q2,q3,q4⟩:=(hs.keep hK).at (Zgo hsk)
    rw[Zan hsk,List.all_cons]at hz
    simp(disch:=first|(simp;done)|omega|rfl) [-getElem?_pos,A.lb22_0,hr,hf,h7,hlen,hlt,hlt',q1,q2,q3,q4]
    refine Zac (Yrc (s:=s) hd) ?_
    rintro _ h3 n3 k3 rfl
    have kk:=hK.trans k3
    cases hfs:Zvh s d with
    |true=>
     rw[hfs,Bool.true_and]at hz
     simp(disch:=first|(simp;done)|omega|rfl) [-getElem?_pos,hr,hf,h7,hW]
     exact⟨m,by omega,kk,k+1,by omega,by simp,by simpa using hz⟩
    |false=>
     rw[hfs,Yzd]at hz
     simp(disch:=first|(simp;done)|omega|rfl) [-getElem?_pos,hr,hf,h7,hW]
     exact⟨kk,by simpa using hz⟩
  ·rintro e r ⟨H,n1,W⟩ hr ⟨hW,hK,⟨rfl,hz⟩|⟨rfl,hz,h6⟩⟩
   ·simp only at hW hK
    simp(disch:=first|(simp;done)|omega|rfl) [-getElem?_pos,hr,Ret,hW,hK]
    simpa using hz
   ·simp only at hW hK
    simp(disch:=first|(simp;done)|omega|rfl) [-getElem?_pos,hr,h6,Ret,hW,hK]
    simpa using hz
 ·have c0':(n:Int)<(l.length:Int):=by omega
  simp(disch:=first|(simp;done)|omega|rfl) [-getElem?_pos,A.b22,hlen,c0',Ret]
  exact⟨Keeps.refl,by simp[Yat,c0]⟩
end Go.Mx
