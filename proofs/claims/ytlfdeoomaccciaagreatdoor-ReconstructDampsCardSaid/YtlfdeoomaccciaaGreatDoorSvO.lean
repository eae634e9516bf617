/-Lists of fractions that are made by appe-/
import Derived.Test.YtlfdeoomaccciaaGreatDoorVbH
set_option linter.all false
namespace Go.Mx
noncomputable section
open Go Go.Proofs
variable {N z:Nat} {h:T O} {u v:V} {w:List Nat}
set_option maxRecDepth 1000000
def A.b125:=A.q Tryz.f125
def A.k125:=@A.kk 125 8 [.tmp 2] A.b125 (by kernel_rfl) rfl
def Iw(N0:Nat)(h:T O)(N:Nat)(v:V)(l:List Rat):Prop:=∃cs:List (List V),Own 4 80 N0 h N v cs/\(cs=[]->v=.aa)/\cs.length=l.length/\∀(j:Nat) (q:Rat),l[j]?=some q->∃c,cs[j]?=some c/\fj h N c q
def Yb0{c:List V}{z o:Nat}:∀{l:List (List V)},(∀(j:Nat) (x:List V),l[j]?=some x->aD c (o+j*z) z=some x)->o+l.length*z<=c.length->aD c o (l.length*z)=some l.flatten
 |[],_,h=>by
  unfold aD
  rw[ay (by simpa using h)]
  simp
 |x::t,h,hl=>by
  have h0:=h 0 x rfl
  rw[Nat.zero_mul,mP]at h0
  have ih:=Yb0 (c:=c) (z:=z) (o:=o+z) (l:=t) (fun j y hy=>by
   have:=h (j+1) y hy
   rw[iU,Nat.one_mul]at this
   rw[show o+z+j*z=o+(j*z+z) by omega]
   exact this) (by rw[bp,iU,Nat.one_mul]at hl;omega)
  obtain⟨_,e1⟩:=Mp h0
  obtain⟨_,e2⟩:=Mp ih
  unfold aD
  rw[ay hl,bp,iU,Nat.one_mul,Nat.add_comm (t.length*z) z,List.take_add,List.drop_drop,List.flatten_cons,e2,<-e1]
def IQ{l:List (List V)}(s:Sn z h N u l):eA ⟨h,N,w⟩ z u=some (l.length,l.flatten):=by
 rcases s with⟨rfl,rfl|rfl⟩|⟨i,o,cp,c,e,pn,rfl,_,h3,h4,h5,_⟩
 ·rfl
 ·rfl
 ·have:=Yb0 h4 h5
  simp[eA,St.row,h3,this]
def UR{e:TypeId}{N0:Nat}{l xs:List (List V)}{bytes:Nat}{Y:V->Prop}(s:Own z e N0 h N v l)(hn:l=[]->v=.aa)(hY:∀c∈l,∀y∈c,Y y)(hN:N0<=N)(hz:0<z)(hx:∀x∈xs,x.length=z)(h0:0<xs.length)(hu:eA ⟨h,N,w⟩ z u=some (xs.length,xs.flatten))(hb:2*(l.length+xs.length)*bytes<=281474976710656):
  ∃v' h' w',gJ ⟨h,N,w⟩ z bytes e v u=some (v',⟨h',N+1,w'⟩)/\av N0 w'=av N0 w/\ab h N0 h' (N+1)/\dG (fun i=>i∈bZ v) h N h' (N+1)/\kl e Y h v/\Own z e N0 h' (N+1) v' (l++xs):=by
 obtain⟨hl,s⟩:=s
 have jj:∀y∈l++xs,y.length=z:=fun y hy=>by
  rcases kh.1 hy with hy|hy
  ·exact hl y hy
  ·exact hx y hy
 have tg:z≠0:=by omega
 have O3:xs.length≠0:=by omega
 rcases s with⟨rfl,rfl⟩|⟨i,rfl,h2,h3,h4⟩
 ·refine⟨.slice N 0 xs.length none z,h.set N (.cells xs.flatten e true),w,?_,rfl,⟨by omega,fun j hj=>by rw[T.ag,ak (by omega)]⟩,⟨vw _,fun j hj _=>by rw[T.ag,ak (by omega)]⟩,kl.nil,jj,.inr ⟨N,by simp,hN,by omega,by rw[T.ag];simp⟩⟩
  have ta:2*xs.length*bytes<=281474976710656:=by simpa using hb
  simp only[gJ,hu,uk,St.alloc]
  simp[ta,tg,O3]
 ·have mA:=zj hl
  have hmul:(l.length+xs.length)*z=l.length*z+xs.length*z:=iU ..
  have ry:0<xs.length*z:=yF h0 hz
  refine⟨.slice N 0 (l.length+xs.length) none z,(h.set i .dead).set N (.cells (l.flatten++xs.flatten) e true),i::w,?_,by simp[av,tr.2 h2],⟨by omega,fun j hj=>by rw[T.ag,ak (by omega),T.ag,ak (by omega)]⟩,⟨vw _,fun j hj hd=>?_⟩,fun j hj=>?_,jj,.inr ⟨N,by simp,hN,by omega,by rw[T.ag];simp⟩⟩
  ·simp only[gJ,hu,uk,St.row,h4]
   rw[ak O3,ak (by rintro(h|h|h)<;>omega)]
   simp only[if_true]
   rw[ak (by rw[mA];omega),ay ⟨by rw[mA];omega,trivial,trivial⟩]
   rfl
  ·rw[T.ag,ak (by omega),T.ag,ak (fun hc=>hd (by simp[bZ,hc]))]
  ·simp only[bZ,uz]at hj
   subst hj
   refine⟨_,h4,fun hc=>?_,fun y hy=>?_⟩
   ·rw[hc]at mA
    have:l.length=0:=by
     rcases Nat.mul_eq_zero.1 mA.symm with h|h
     ·exact h
     ·omega
    have:=hn (q8 this)
    cases this
   ·obtain⟨c,hc,tR⟩:=List.mem_flatten.1 hy
    exact hY c hc y tR
def Iw.many{N0:Nat}{a b:List Rat}(s:Iw N0 h N v a)(hu:lV h N u b)(h0:0<b.length)(hN:N0<=N)(hl:a.length+b.length<100000):
  ∃v' h' w',gJ ⟨h,N,w⟩ 4 64 80 v u=some (v',⟨h',N+1,w'⟩)/\av N0 w'=av N0 w/\ab h N0 h' (N+1)/\Iw N0 h' (N+1) v' (a++b):=by
 obtain⟨cs,h1,h2,h3,h4⟩:=s
 obtain⟨ds,d1,d2,d3⟩:=hu
 have dl:∀x∈ds,x.length=4:=fun x hx=>by
  obtain⟨j,hj⟩:=xW hx
  obtain⟨r,hr⟩:=bh (l:=b) (k:=j) (by have:=f_ hj;omega)
  obtain⟨c',g1,g2⟩:=d3 j r hr
  rw[hj]at g1
  obtain rfl:x=c':=by simpa using g1
  exact g2.len.1
 obtain⟨v',h',w',f1,f2,f3,f4,fD,f5⟩:=UR (Y:=NW) (bytes:=64) (w:=w) h1 h2 (fun c hc y hy=>by
  obtain⟨j,hj⟩:=xW hc
  obtain⟨r,hr⟩:=bh (l:=a) (k:=j) (by have:=f_ hj;omega)
  obtain⟨c',g1,g2⟩:=h4 j r hr
  rw[hj]at g1
  obtain rfl:c=c':=by simpa using g1
  exact g2.Hn y hy) hN (by decide) dl (by omega) (IQ d1) (by omega)
 refine⟨v',h',w',f1,f2,f3,cs++ds,f5,fun hc=>?_,by simp[h3,d2],fun j r hr=>?_⟩
 ·rw[List.append_eq_nil_iff]at hc
  rw[hc.2]at d2
  simp at d2
  omega
 ·by_cases hj:j<a.length
  ·rw[kJ hj]at hr
   obtain⟨c',g1,g2⟩:=h4 j r hr
   exact⟨c',by rw[kJ (by omega)];exact g1,g2.bz f4 fD⟩
  ·rw[nU (by omega)]at hr
   obtain⟨c',g1,g2⟩:=d3 _ r hr
   exact⟨c',by rw[nU (by omega),h3];exact g1,g2.bz f4 fD⟩
def Iw.QT{N0:Nat}{l:List Rat}(s:Iw N0 h N v l):ec h N v l:=by
 obtain⟨cs,h1,h2,h3,h4⟩:=s
 exact QU h1 h3 fun j hj=>by
  obtain⟨q,hq⟩:=bh hj
  obtain⟨c,g1,g2⟩:=h4 j q hq
  exact⟨c,g1,fun r hr=>by rw[hq]at hr;cases hr;exact g2⟩
def Yfh{l:List Rat}(hs:lV h N v l)(h0:0<l.length)(hl:l.length<100000):Fn A.C 125 [v] h N (fun x h' n'=>Iw N h' n' x l):=by
 intro w
 obtain⟨cs,h1,h2,h3⟩:=id hs
 have fL:=h1
 rcases fL with⟨hn,_⟩|⟨i,o,cp,c,e,rw,rfl,q2,q3,q4,q5,q6⟩
 ·rw[hn]at h2
  simp at h2
  omega
 have kN:ab h N (h.set N (.cells [] 80 true)) (N+1):=ab.refl.new _
 have l8:=fun w=>IQ (w:=w) (h1.ae kN)
 have aW:cs.length≠0:=by omega
 have ha:∀w,gJ ⟨h.set N (.cells [] 80 true),N+1,w⟩ 4 64 80 (.slice N 0 0 (some 0) 4) (.slice i o cs.length cp 4)=some (.slice (N+1) 0 cs.length none 4,⟨(h.set N (.cells [] 80 true)).set (N+1) (.cells cs.flatten 80 true),N+1+1,w⟩):=fun w=>by
  have hg:(h.set N (.cells [] 80 true)).get N=some (.cells [] 80 true):=by simp
  simp only[gJ,l8,uk,St.row,hg,aD,St.alloc]
  simp[aW]
  omega
 have cl:∀x∈cs,x.length=4:=fun x hx=>by
  obtain⟨j,hj⟩:=xW hx
  obtain⟨r,hr⟩:=bh (l:=l) (k:=j) (by have:=f_ hj;omega)
  obtain⟨c',g1,g2⟩:=h3 j r hr
  rw[hj]at g1
  obtain rfl:x=c':=by simpa using g1
  exact g2.len.1
 rw[aN,A.k125 (by simp)]
 simp[A.b125,aE,wU,ha,aA]
 have kB:ab h N ((h.set N (.cells [] 80 true)).set (N+1) (.cells cs.flatten 80 true)) (N+1+1):=(ab.refl.new _).new _
 refine⟨kB,cs,⟨cl,.inr ⟨N+1,by simp,by omega,by omega,by rw[T.ag];simp⟩⟩,fun hc=>by rw[hc]at aW;simp at aW,h2,fun j q hq=>?_⟩
 obtain⟨c',g1,g2⟩:=h3 j q hq
 exact⟨c',g1,g2.ae kB⟩
variable {d k:Nat} {m:List (List Rat)}
def oc(m:List (List Rat))(k:Nat):Nat->Nat->Nat
 |d,0=>d
 |d,n+1=>if (m[d]?.getD [])[k]?.getD 0≠0 then d else oc m k (d+1) n
def fF(m:List (List Rat))(d k:Nat):Nat:=oc m k d (m.length-d)
def FG{m:List (List Rat)}{k:Nat}:∀{n d:Nat},d<=oc m k d n/\oc m k d n<=d+n
 |0,d=>by simp[oc]
 |n+1,d=>by
  unfold oc
  split
  ·omega
  ·have:=@FG m k n (d+1)
   omega
def IF{m:List (List Rat)}{k:Nat}:∀{n d:Nat},oc m k d n<d+n->(m[oc m k d n]?.getD [])[k]?.getD 0≠0
 |0,d,h=>by simp[oc]at h
 |n+1,d,h=>by
  unfold oc at h ⊢
  split
  ·assumption
  ·rename_i hc
   rw[ak hc]at h
   exact IF (by omega)
def qO(r p:List Rat)(k:Nat):List Rat:=oa (fun x y=>x-r[k]?.getD 0*y) r p r.length
def cC(m:List (List Rat))(d k t:Nat):List (List Rat):=(List.range m.length).map fun i=>if i<t/\i≠d then qO (m[i]?.getD []) (m[d]?.getD []) k else m[i]?.getD []
def cr(m:List (List Rat))(d p:Nat):List (List Rat):=(m.set d (m[p]?.getD [])).set p (m[d]?.getD [])
def gE(m:List (List Rat))(d k:Nat):List (List Rat):=m.set d ((m[d]?.getD []).map fun x=>x/(m[d]?.getD [])[k]?.getD 0)
def jw(s:List (List Rat)×Nat×List Nat)(k:Nat):List (List Rat)×Nat×List Nat:=
 if fF s.1 s.2.1 k<s.1.length then (cC (gE (cr s.1 s.2.1 (fF s.1 s.2.1 k)) s.2.1 k) s.2.1 k s.1.length,s.2.1+1,s.2.2++[k]) else s
def aU(m:List (List Rat))(n:Nat):List (List Rat)×Nat×List Nat:=(List.range n).foldl jw (m,0,[])
def uQ{n:Nat}:aU m (n+1)=jw (aU m n) n:=by simp[aU,List.range_succ]
def zt{t:Nat}:(cC m d k t).length=m.length:=by simp[cC]
def DO{t i:Nat}(h:i<m.length):(cC m d k t)[i]?=some (if i<t/\i≠d then qO (m[i]?.getD []) (m[d]?.getD []) k else m[i]?.getD []):=by simp[cC,h]
def Yr6:cC m d k 0=m:=by
 apply oe
 intro i
 by_cases h:i<m.length
 ·rw[DO h];simp[c9 h]
 ·rw[fl (by rw[zt];omega),fl (by omega)]
def Yr5{t:Nat}(h:d<m.length):(cC m d k t)[d]?=m[d]?:=by
 rw[DO h,c9 h];simp
def Vo{t:Nat}(h:t<m.length)(hd:t≠d):cC m d k (t+1)=(cC m d k t).set t (qO (m[t]?.getD []) (m[d]?.getD []) k):=by
 apply oe
 intro i
 by_cases hi:i<m.length
 ·by_cases e:i=t
  ·subst e
   rw[gK (by rw[zt];exact h),DO hi,ay ⟨by omega,hd⟩]
  ·rw[dW (Ne.symm e),DO hi,DO hi]
   congr 1
   by_cases e2:i<t
   ·simp[e2,show i<t+1 by omega]
   ·simp[e2,show ¬i<t+1 by omega]
 ·rw[fl (by rw[zt];omega),fl (by rw[sQ,zt];omega)]
def Zxv:cC m d k (d+1)=cC m d k d:=by
 unfold cC
 apply A6
 intro i _
 by_cases e:i=d
 ·subst e;simp
 ·by_cases e2:i<d
  ·simp[e,e2,show i<d+1 by omega]
  ·simp[e2,show ¬i<d+1 by omega]
def Ybu{r p:List Rat}(h:r[k]?.getD 0=0):qO r p k=r:=by
 apply oe
 intro i
 by_cases hi:i<r.length
 ·unfold qO
  rw[PS hi,h,Rat.zero_mul,Rat.sub_eq_add_neg,Rat.neg_zero,Rat.add_zero,c9 hi]
  rfl
 ·rw[fl (by unfold qO;rw[Ix];omega),fl (by omega)]
def KO{r p:List Rat}:(qO r p k).length=r.length:=by unfold qO;rw[Ix]
variable {K d i k n:Nat} {m:List (List Rat)}
def b_(m:List (List Rat))(n:Nat):Prop:=∀r∈m,r.length=n
def b_.at(h:b_ m n)(hi:i<m.length):(m[i]?.getD []).length=n:=by
 rw[c9 hi]
 exact h _ (List.getElem_mem hi)
def b_.set{r:List Rat}(h:b_ m n)(hr:r.length=n):b_ (m.set i r) n:=fun x hx=>by
 rcases A7 hx with hx|rfl
 ·exact h x hx
 ·exact hr
def b_.B1{p:Nat}(h:b_ m n)(hd:d<m.length)(hp:p<m.length):b_ (cr m d p) n:=(h.set (h.at hp)).set (h.at hd)
def b_.IG(h:b_ m n)(hd:d<m.length):b_ (gE m d k) n:=h.set (by rw[je];exact h.at hd)
def b_.elm{t:Nat}(h:b_ m n):b_ (cC m d k t) n:=fun r hr=>by
 unfold cC at hr
 obtain⟨i,hi,rfl⟩:=fv.1 hr
 have hi:=zq.1 hi
 split
 ·rw[KO];exact h.at hi
 ·exact h.at hi
def sM{p:Nat}:(cr m d p).length=m.length:=by simp[cr]
def DE:(gE m d k).length=m.length:=by simp[gE]
def Ymb{s:List (List Rat)×Nat×List Nat}:(jw s k).1.length=s.1.length:=by
 unfold jw
 split
 ·simp only[zt,DE,sM]
 ·rfl
def Yqs{s:List (List Rat)×Nat×List Nat}(h:b_ s.1 n)(hd:s.2.1<=s.1.length):b_ (jw s k).1 n/\(jw s k).2.1<=s.1.length/\s.2.1<=(jw s k).2.1:=by
 unfold jw
 have hle:=@FG s.1 k (s.1.length-s.2.1) s.2.1
 split
 ·rename_i hp
  have d_:s.2.1<s.1.length:=by unfold fF at hp;omega
  exact⟨((h.B1 d_ hp).IG (by rw[sM];exact d_)).elm,by simp only;omega,by simp⟩
 ·exact⟨h,hd,aQ _⟩
def cW(m:List (List Rat))(K:Nat):Prop:=∀r∈m,∀q∈r,Qb K q
def cW.mono{L:Nat}(h:cW m K)(hk:K<=L):cW m L:=fun r hr q hq=>(h r hr q hq).mono hk
def cW.at{m:List (List Rat)}{K i:Nat}(h:cW m K):∀q∈m[i]?.getD [],Qb K q:=fun q hq=>by
 cases hr:m[i]? with
 |none=>rw[hr]at hq;simp at hq
 |some r=>rw[hr]at hq;exact h r (bU hr) q hq
def cW.set{r:List Rat}(h:cW m K)(hr:∀q∈r,Qb K q):cW (m.set i r) K:=fun x hx=>by
 rcases A7 hx with hx|rfl
 ·exact h x hx
 ·exact hr
def cW.B1{p:Nat}(h:cW m K):cW (cr m d p) K:=(h.set h.at).set h.at
def Ykk(h:cW m K)(hK:1<=K)(hp:(m[d]?.getD [])[k]?.getD 0≠0):∀q∈(m[d]?.getD []).map (fun x=>x/(m[d]?.getD [])[k]?.getD 0),Qb (2*K) q:=fun q hq=>by
 obtain⟨x,hx,rfl⟩:=fv.1 hq
 have h1:=h.at (i:=d) x hx
 have h2:=Vx (FM (fun q hq=>h.at (i:=d) q hq) hK k) hp
 rw[Rat.div_def,show 2*K=K+K by omega]
 exact h1.mul h2
variable {a:List Rat}
def A.O4:=A.q Tryz.f215
def A.su:=A.ql A.O4 0 []
def A.b215:=(fun x0=>A.qb A.O4 [x0]) A.su
def A.k215:=@A.kk 215 26 [.tmp 4] A.b215 (by kernel_rfl) rfl
def A.O5:=A.q Tryz.f213
def A.sD:=A.ql A.O5 0 []
def A.b213:=(fun x0=>A.qb A.O5 [x0]) A.sD
def A.k213:=@A.kk 213 23 [.tmp 4] A.b213 (by kernel_rfl) rfl
def Zsi{h:T O}{N:Nat}{u:V}{c:Rat}{j k:Nat}(hu:Tx h N u a)(ha:∀q∈a,Qb j q)(hc:Qb k c)(hj:j<=400000000)(hk:k<=400000000)(hl:a.length<100000):Fn A.C 213 [u,.str (aR c)] h N (fun x h' n'=>Own 1 24 N h' n' x ((tx (a.map fun q=>q*c)).map fun y=>[y])):=by
 intro w
 have l1:=hu.len
 rw[aN,A.k213 (by simp)]
 simp[A.b213]
 refine bG [(5,21)] (fun e r st=>e=.exit 0/\av N st.w=[]/\ab h N st.h st.n/\∃x,r.get 5=some x/\Own 1 24 N st.h st.n x ((tx (a.map fun q=>q*c)).map fun y=>[y])) (fun i r st=>av N st.w=[]/\ab h N st.h st.n/\∃t x,t+i=a.length/\r.get 6=some (.int .i64 t)/\r.get 5=some x/\Own 1 24 N st.h st.n x ((tx ((a.take t).map fun q=>q*c)).map fun y=>[y])) (a.length) ?_ ?_ ?_
 ·exact⟨by simp,ab.refl,0,.aa,by omega,by simp,by simp,by simpa[tx,strs]using Own.nil⟩
 ·rintro i r ⟨H,n1,W⟩ hr hf ⟨hW,hK,t,x,ht,h6,h5,ho⟩
  simp only at hW hK ho
  rw[bk]
  cases i with
  |zero=>
   obtain rfl:t=a.length:=by omega
   rw[xg]at ho
   simp[A.sD,hr,hf,h6,h5,l1,hW,hK]
   exact ho
  |succ i=>
   have ax:t<a.length:=by omega
   have a_:(t:Int)<((a.length:Nat):Int):=by omega
   obtain⟨q,hq⟩:=bh ax
   have gF:=ha q (bU hq)
   obtain⟨i',o,cc,e,rw,q1,q2,q3,q4⟩:=(hu.ae hK).at (uV hq)
   simp[A.sD,hr,hf,h6,h5,l1,ax,a_,q1,q2,q3,q4]
   refine aB (Zw gF hc hj hk) ?_
   rintro _ H2 n2 k2 rfl
   have kK:=k2.le
   have fh:=hK.le
   obtain⟨v',h',w',f1,f2,f3,_,f5⟩:=tP (x:=[.str (aR (q*c))]) (u:=.slice n2 0 1 (some 1) 1) (bytes:=16) (w:=W) ((ho.ae k2).ae (ab.refl.new (.cells [.str (aR (q*c))] 24 true))) (by omega) (by decide) rfl (by simp[eA,St.row,aD]) (by simp[kM];omega)
   have e7:((tx ((a.take t).map fun q=>q*c)).map fun y=>[y])++[[.str (aR (q*c))]]=(tx ((a.take (t+1)).map fun q=>q*c)).map fun y=>[y]:=by rw[uC,hq];simp[tx,strs]
   rw[e7]at f5
   simp(disch:=first|(simp;done)|omega|rfl) [hr,hf,h6,h5,q1,q2,q3,q4,ad,f1]
   exact⟨i,by omega,by rw[f2];exact hW,((hK.trans k2).trans (ab.refl.new (.cells [.str (aR (q*c))] 24 true))).then f3,t+1,by omega,by simp,by rw[<-List.map_take];exact f5⟩
 ·rintro _ r ⟨H,n1,W⟩ hr ⟨rfl,hW,hK,x,h5,ho⟩
  simp only at hW hK ho
  simp[hr,h5,aA,hW,hK]
  exact ho
def Ybb{F:Rat->Rat->Rat}{b:List Rat}{t:Nat}{p q:Rat}(hp:a[t]?=some p)(hq:b[t]?=some q):oa F a b (t+1)=oa F a b t++[F p q]:=by
 simp[oa,List.range_succ,hp,hq]
def Yj7{h:T O}{N:Nat}{u v:V}{b:List Rat}{j k:Nat}(hu:Tx h N u a)(hv:Tx h N v b)(fU:a.length<=b.length)(ha:∀q∈a,Qb j q)(hb:∀q∈b,Qb k q)(hj:j<=400000000)(hk:k<=400000000)(hl:a.length<100000):Fn A.C 215 [u,v] h N (fun x h' n'=>Own 1 24 N h' n' x ((tx (oa (fun x y=>x+y) a b a.length)).map fun y=>[y])):=by
 intro w
 have l1:=hu.len
 have l2:=hv.len
 rw[aN,A.k215 (by simp)]
 simp[A.b215]
 refine bG [(5,24)] (fun e r st=>e=.exit 0/\av N st.w=[]/\ab h N st.h st.n/\∃x,r.get 5=some x/\Own 1 24 N st.h st.n x ((tx (oa (fun x y=>x+y) a b a.length)).map fun y=>[y])) (fun i r st=>av N st.w=[]/\ab h N st.h st.n/\∃t x,t+i=a.length/\r.get 6=some (.int .i64 t)/\r.get 5=some x/\Own 1 24 N st.h st.n x ((tx (oa (fun x y=>x+y) a b t)).map fun y=>[y])) (a.length) ?_ ?_ ?_
 ·exact⟨by simp,ab.refl,0,.aa,by omega,by simp,by simp,by simpa[tx,strs,oa]using Own.nil⟩
 ·rintro i r ⟨H,n1,W⟩ hr hf ⟨hW,hK,t,x,ht,h6,h5,ho⟩
  simp only at hW hK ho
  rw[bk]
  cases i with
  |zero=>
   obtain rfl:t=a.length:=by omega
   simp[A.su,hr,hf,h6,h5,l1,hW,hK]
   exact ho
  |succ i=>
   have ax:t<a.length:=by omega
   have a_:(t:Int)<((a.length:Nat):Int):=by omega
   obtain⟨p,hp⟩:=bh ax
   have uv:=ha p (bU hp)
   have Iy:t<b.length:=by omega
   have Fs:(t:Int)<(b.length:Int):=by omega
   obtain⟨q,hq⟩:=bh Iy
   have gF:=hb q (bU hq)
   obtain⟨i',o,cc,e,rw,q1,q2,q3,q4⟩:=(hu.ae hK).at (uV hp)
   obtain⟨i2,o2,cc2,e2,IP,p1,p2,p3,p4⟩:=(hv.ae hK).at (uV hq)
   simp[A.su,hr,hf,h6,h5,l1,ax,a_,l2,Iy,Fs,q1,q2,q3,q4,p1,p2,p3,p4]
   refine aB (U6 uv gF hj hk) ?_
   rintro _ H2 n2 k2 rfl
   have kK:=k2.le
   have fh:=hK.le
   obtain⟨v',h',w',f1,f2,f3,_,f5⟩:=tP (x:=[.str (aR (p+q))]) (u:=.slice n2 0 1 (some 1) 1) (bytes:=16) (w:=[]) ((ho.ae k2).ae (ab.refl.new (.cells [.str (aR (p+q))] 24 true))) (by omega) (by decide) rfl (by simp[eA,St.row,aD]) (by simp[kM,Ix];omega)
   have e7:((tx (oa (fun x y=>x+y) a b t)).map fun y=>[y])++[[.str (aR (p+q))]]=(tx (oa (fun x y=>x+y) a b (t+1))).map fun y=>[y]:=by rw[Ybb hp hq];simp[tx,strs]
   rw[e7]at f5
   have ow:av N w'=[]:=Zz f2 (by omega) rfl
   simp(disch:=first|(simp;done)|omega|rfl) [-av,q2,p2,hr,hf,h6,h5,l2,Iy,Fs,q1,q2,q3,q4,p1,p2,p3,p4,ad,f1]
   exact⟨i,by omega,Ycz ow hW,((hK.trans k2).trans (ab.refl.new (.cells [.str (aR (p+q))] 24 true))).then f3,t+1,by omega,by simp,f5⟩
 ·rintro _ r ⟨H,n1,W⟩ hr ⟨rfl,hW,hK,x,h5,ho⟩
  simp only at hW hK ho
  simp[hr,h5,aA,hW,hK]
  exact ho
variable {N R:Nat} {h:T O} {l:List Rat} {m:List (List Rat)} {u:V}
def AW(N0:Nat)(h:T O)(N:Nat)(u:V)(l:List Rat):Prop:=Tx h N u l/\∀i∈bZ u,i<N0\/∃z w,h.get i=some (.cells z 24 w)
def AW.ae{N0:Nat}{h':T O}{N':Nat}(s:AW N0 h N u l)(k:ab h N h' N'):AW N0 h' N' u l:=⟨s.1.ae k,fun i hi=>by
 rcases s.2 i hi with h1|⟨z,w,h1⟩
 ·exact .inl h1
 ·exact .inr ⟨z,w,(k.get i (Kx s.1 i hi)).trans h1⟩⟩
def tQ.old{N0:Nat}(s:tQ h N u l):AW N0 h N u l:=⟨s.1,fun i hi=>.inr (s.2 i hi)⟩
def Tx.old{N0:Nat}(s:Tx h N0 u l):AW N0 h N0 u l:=⟨s,fun i hi=>.inl (Kx s i hi)⟩
def AW.bj{N0:Nat}{us vs:List V}{b c:Bool}(s:AW N0 h N u l)(g:h.get R=some (.cells us 23 b))(hR:N0<=R):AW N0 (h.set R (.cells vs 23 c)) N u l:=by
 have aW:∀i∈bZ u,i≠R:=fun i hi hc=>by
  rcases s.2 i hi with h1|⟨z,w,hz⟩
  ·omega
  ·rw[hc,g]at hz
   simp at hz
 have k:dG (fun i=>i=R) h N (h.set R (.cells vs 23 c)) N:=⟨aQ _,fun i _ hi=>by rw[T.ag,ak hi]⟩
 refine⟨Sl.bz s.1 k aW,fun i hi=>?_⟩
 rcases s.2 i hi with h1|⟨z,w,hz⟩
 ·exact .inl h1
 ·exact .inr ⟨z,w,by rw[T.ag,ak (aW i hi)];exact hz⟩
structure jC (N0:Nat) (h:T O) (N R:Nat) (m:List (List Rat)):Prop where
 ge:N0<=R
 lt:R<N
 ex:∃us:List V,h.get R=some (.cells us 23 true)/\us.length=m.length/\∀(j:Nat) (l:List Rat),m[j]?=some l->∃u,us[j]?=some u/\AW N0 h N u l
def jC.ae{N0:Nat}{h':T O}{N':Nat}(s:jC N0 h N R m)(k:ab h N h' N'):jC N0 h' N' R m:=by
 obtain⟨us,g1,g2,g5⟩:=s.ex
 refine⟨s.ge,eY s.lt k.le,us,(k.get R s.lt).trans g1,g2,fun j l hl=>?_⟩
 obtain⟨u,a1,a2⟩:=g5 j l hl
 exact⟨u,a1,a2.ae k⟩
def jC.at{N0:Nat}(s:jC N0 h N R m){j:Nat}{l:List Rat}(hj:m[j]?=some l):∃us u,h.get R=some (.cells us 23 true)/\us.length=m.length/\us[j]?=some u/\AW N0 h N u l:=by
 obtain⟨us,g1,g2,g5⟩:=s.ex
 obtain⟨u,a1,a2⟩:=g5 j l hj
 exact⟨us,u,g1,g2,a1,a2⟩
def jC.put{N0:Nat}{i:Nat}{us:List V}(s:jC N0 h N R m)(g:h.get R=some (.cells us 23 true))(hu:AW N0 h N u l)(hi:i<m.length):jC N0 (h.set R (.cells (us.set i u) 23 true)) N R (m.set i l):=by
 obtain⟨vs,g1,g2,g5⟩:=s.ex
 rw[g]at g1
 simp only[aq,O.cells.injEq]at g1
 obtain⟨rfl,_⟩:=g1
 refine⟨s.ge,s.lt,us.set i u,by rw[T.ag,ay rfl],by simp[g2],fun j r hr=>?_⟩
 by_cases e:j=i
 ·subst e
  rw[gK hi]at hr
  simp only[aq]at hr
  subst hr
  exact⟨u,by rw[gK (by omega)],hu.bj g s.ge⟩
 ·rw[dW (Ne.symm e)]at hr ⊢
  obtain⟨u',a1,a2⟩:=g5 j r hr
  exact⟨u',a1,a2.bj g s.ge⟩
def zA{l:List V}{i:Nat}(h:i<l.length):ad l i [u]=l.set i u:=by
 unfold ad
 rw[List.set_eq_take_append_cons_drop,ay h]
 simp
def A.Dy:=A.q Tryz.f140
def A.jE:=A.ql A.Dy 2 []
def A.kc:=A.ql A.Dy 1 []
def A.mM:=(fun x0 x1=>A.ql A.Dy 0 [x0,x1]) A.kc A.jE
def A.b140:=(fun x0=>A.qb A.Dy [x0]) A.mM
def A.k140:=@A.kk 140 110 [.tmp 2] A.b140 (by kernel_rfl) rfl
def Ym3{m:List (List Rat)}{k p n:Nat}(hn:0<n):oc m k p n=if (m[p]?.getD [])[k]?.getD 0≠0 then p else oc m k (p+1) (n-1):=by
 obtain⟨n,rfl⟩:∃n',n=n'+1:=⟨n-1,by omega⟩
 rfl
def Yg8{W0:List Nat}{N0:Nat}{H:T O}{n R:Nat}{r0:T V}{m:List (List Rat)}{d k c:Nat}(s:jC N0 H n R m)(hc:b_ m c)(hk:k<c)(hd:d<=m.length)(kg:m.length<1000)(a3:r0.get 3=some (.slice R 0 m.length none 1))(a5:r0.get 5=some (.int .i64 k))(a6:r0.get 6=some (.int .i64 d)):
  Code A.C none (.loop A.kc) ⟨r0,110,[]⟩ ⟨H,n,W0⟩ (fun e fr st=>e=.exit 2/\st=⟨H,n,W0⟩/\∃r,Fx [(6,6),(25,40)] r0 110 ⟨r,110,[]⟩/\fr=⟨r,110,[]⟩/\r.get 6=some (.int .i64 (fF m d k))):=by
 rw[bk]
 refine bG [(6,6),(25,40)] (fun e r st=>e=.exit 2/\st=⟨H,n,W0⟩/\r.get 6=some (.int .i64 (fF m d k))) (fun i r st=>st=⟨H,n,W0⟩/\∃p,p<=m.length/\i=m.length-p/\r.get 6=some (.int .i64 p)/\fF m d k=oc m k p (m.length-p)) (m.length-d) ?_ ?_ ?_
 ·exact⟨rfl,d,hd,rfl,a6,rfl⟩
 ·rintro i r _ hr hf ⟨rfl,p,hp,rfl,h6,hz⟩
  rw[bk]
  by_cases ax:p<m.length
  ·have a_:(p:Int)<(m.length:Int):=by omega
   obtain⟨row,al⟩:=bh ax
   obtain⟨us,u,g1,g2,g3,g4⟩:=s.at al
   have qJ:=hc row (bU al)
   obtain⟨q,hq⟩:=bh (l:=row) (k:=k) (by omega)
   obtain⟨i1,o1,c1,e1,w1,q1,q2,q3,q4⟩:=g4.1.at (uV hq)
   have uY:=g4.1.len
   have bL:(k:Int)<(row.length:Int):=by omega
   have eF:k<row.length:=by omega
   have Hl:=fun st=>Zte (q:=q) (st:=st)
   have hR:=s.lt
   rw[Ym3 (by omega),al]at hz
   simp only[pd,hq]at hz
   by_cases c0:q=0
   ·rw[ak (by simpa using c0)]at hz
    have O6:=Hl
    simp only[decide_eq_true c0]at O6
    simp(disch:=first|(simp;done)|omega|rfl) [-getElem?_pos,A.kc,hr,hf,a3,a5,h6,ax,a_,g1,g3,hR,q1,q2,q3,q4,kM,bL,eF,O6,uY]
    refine⟨m.length-(p+1),by omega,p+1,by omega,rfl,by simp,?_⟩
    rw[hz,show m.length-p-1=m.length-(p+1) by omega]
   ·rw[ay c0]at hz
    have O6:=Hl
    simp only[decide_eq_false c0]at O6
    simp[A.kc,hr,hf,a3,a5,h6,ax,a_,g1,g3,hR,q1,q2,q3,q4,kM,bL,eF,O6,uY,hz]
  ·obtain rfl:p=m.length:=by omega
   rw[Nat.sub_self,oc]at hz
   simp[A.kc,hr,hf,a3,a5,h6,hz]
 ·rintro _ r _ hr ⟨rfl,rfl,h6⟩
  simp[]
  exact⟨r,⟨hr,rfl,rfl⟩,rfl,h6⟩
def A.b9:=A.q Tryz.f9
def A.k9:=@A.kk 9 5 [.tmp 2] A.b9 (by kernel_rfl) rfl
def Yhd{h:T O}{N:Nat}{v:V}{l:List (List aM)}(hs:iJ h N v l)(hl:l.length<100000)(hx:∀x∈l,x.length<100000/\∀s∈x,s.length<=100000):Fn A.C 9 [v] h N (fun u _ _=>u=.int .i64 (mb l 64 16)):=by
 intro w
 rw[aN,A.k9 (by simp)]
 simp[A.b9]
 refine aB (Ypj (a:=64) (b:=16) hs hl hx) ?_
 rintro _ H2 n2 k2 rfl
 simp[aA]
 exact k2
variable {N:Nat} {h:T O} {m:List (List Rat)} {v:V}
def xO(N0:Nat)(h:T O)(N:Nat)(v:V)(m:List (List Rat)):Prop:=∃us:List V,Own 1 23 N0 h N v (us.map fun y=>[y])/\us.length=m.length/\∀(j:Nat) (l:List Rat),m[j]?=some l->∃u,us[j]?=some u/\Tx h N0 u l
def xO.nil{N0:Nat}:xO N0 h N .aa []:=⟨[],Own.nil,rfl,fun j l hl=>by simp at hl⟩
def xO.ae{N0:Nat}{h':T O}{N':Nat}(s:xO N0 h N v m)(k:ab h N h' N')(hN:N0<=N):xO N0 h' N' v m:=by
 obtain⟨us,h1,h3,h4⟩:=s
 refine⟨us,h1.ae k,h3,fun j l hl=>?_⟩
 obtain⟨u,g1,g2⟩:=h4 j l hl
 exact⟨u,g1,g2.ae ⟨aQ _,fun i hi=>k.get i (by omega)⟩⟩
def xO.ya{N0:Nat}(s:xO N0 h N v m)(hN:N0<=N):gj h N v m:=by
 obtain⟨us,h1,h3,h4⟩:=s
 refine⟨us,Sn.one.1 h1.sn,h3,fun j l hl=>?_⟩
 obtain⟨u,g1,g2⟩:=h4 j l hl
 exact⟨u,g1,g2.ae ⟨hN,fun _ _=>rfl⟩⟩
def xO.push{N0:Nat}{u x:V}{l:List Rat}{w:List Nat}(s:xO N0 h N v m)(hu:Tx h N0 u l)(hN:N0<=N)(hx:eA ⟨h,N,w⟩ 1 x=some (1,[u]))(hm:m.length<100000):
  ∃v' h' w',gJ ⟨h,N,w⟩ 1 24 23 v x=some (v',⟨h',N+1,w'⟩)/\av N0 w'=av N0 w/\ab h N0 h' (N+1)/\xO N0 h' (N+1) v' (m++[l]):=by
 obtain⟨us,h1,h3,h4⟩:=s
 obtain⟨v',h',w',f1,f2,f3,_,f5⟩:=tP (x:=[u]) (u:=x) (bytes:=24) (w:=w) h1 hN (by decide) rfl hx (by rw[je];omega)
 have kk:ab h N0 h' N0:=⟨aQ _,f3.get⟩
 refine⟨v',h',w',f1,f2,f3,us++[u],by simpa using f5,by simp[h3],fun j r hr=>?_⟩
 by_cases hj:j<m.length
 ·rw[kJ hj]at hr
  obtain⟨u',g1,g2⟩:=h4 j r hr
  exact⟨u',by rw[kJ (by omega)];exact g1,g2.ae kk⟩
 ·rw[nU (by omega)]at hr
  cases hd:j-m.length with
  |zero=>
   rw[hd]at hr
   simp at hr
   subst hr
   exact⟨u,by rw[nU (by omega),h3,hd];rfl,hu.ae kk⟩
  |succ d=>rw[hd]at hr;simp at hr
variable {N:Nat} {h:T O} {m:List (List Rat)} {u v:V} {w:List Nat}
def A.w22:=A.q Tryz.f22
def A.wB:=A.ql A.w22 0 []
def A.b22:=(fun x0=>A.qb A.w22 [x0]) A.wB
def A.k22:=@A.kk 22 27 [.tmp 4] A.b22 (by kernel_rfl) rfl
def A.w56:=A.q Tryz.f56
def A.sE:=A.ql A.w56 0 []
def A.b56:=(fun x0=>A.qb A.w56 [x0]) A.sE
def A.k56:=@A.kk 56 19 [.tmp 2] A.b56 (by kernel_rfl) rfl
def A.b14:=A.q Tryz.f14
def A.c14:A.F 14=some ⟨34,[.tmp 8],A.b14⟩:=by kernel_rfl
def A.k14:=@A.kk 14 _ _ _ A.c14 rfl
def Ymm(hu:gj h N u m)(hv:gj h N v m)(hl:m.length<100000)(hr:∀r∈m,r.length<100000):A.C.call (.func 22 [] []) [u,v] ⟨h,N,w⟩=some (.bool true,⟨h,N,w⟩):=by
 apply Call.eq
 have l1:=hu.len
 have l2:=hv.len
 rw[aN,A.k22 (by simp)]
 simp[A.b22,l1,l2,aE]
 refine bG [(4,5),(11,26)] (fun e r st=>st=⟨h,N,[]⟩/\e=.exit 0) (fun i r st=>st=⟨h,N,[]⟩/\∃k,k+i=m.length/\r.get 5=some (.int .i64 k)) m.length ?_ ?_ ?_
 ·exact⟨rfl,0,by omega,by simp⟩
 ·rintro i r _ ef hf ⟨rfl,k,hk,h5⟩
  rw[bk]
  cases i with
  |zero=>
   obtain rfl:k=m.length:=by omega
   simp[A.wB,ef,hf,h5,l1]
  |succ i=>
   have ax:k<m.length:=by omega
   have a_:(k:Int)<(m.length:Int):=by omega
   obtain⟨row,al⟩:=bh ax
   obtain⟨i1,o,cc,e,rw,ru,q1,q2,q3,q4,q5⟩:=hu.at al
   obtain⟨i2,o2,c2,e2,IP,rv,p1,p2,p3,p4,p5⟩:=hv.at al
   have hs:=fun w=>Ymd (w:=w) (l:=row.map aR) q5 p5 (by simpa using hr row (bU al))
   simp(disch:=first|(simp;done)|omega|rfl) [A.wB,ef,hf,h5,l1,l2,ax,a_,q1,q2,q3,q4,p1,p2,p3,p4,hs,ct.cv]
   exact⟨i,by omega,k+1,by omega,by simp⟩
 ·rintro _ r _ ef ⟨rfl,rfl⟩
  simp[ef]
def mD(m:List (List Rat)):Bool:=m.any pO
def Ydt(hu:gj h N u m)(hl:m.length<100000)(hr:∀r∈m,r.length<100000/\∀q∈r,(aR q).length<1000000000):A.C.call (.func 56 [] []) [u] ⟨h,N,w⟩=some (.int .i64 (if mD m=true then 4 else 0),⟨h,N,w⟩):=by
 apply Call.eq
 have l1:=hu.len
 rw[aN,A.k56 (by simp)]
 simp[A.b56]
 refine bG [(2,18)] (fun e r st=>st=⟨h,N,[]⟩/\((e=.exit 0/\mD m=false)\/(e=.ret/\mD m=true/\r.get 2=some (.int .i64 4)))) (fun i r st=>st=⟨h,N,[]⟩/\∃k,k+i=m.length/\r.get 3=some (.int .i64 k)/\mD m=mD (m.drop k)) m.length ?_ ?_ ?_
 ·exact⟨rfl,0,by omega,by simp,by simp⟩
 ·rintro i r _ ef hf ⟨rfl,k,hk,h3,hz⟩
  rw[bk]
  cases i with
  |zero=>
   obtain rfl:k=m.length:=by omega
   rw[pg]at hz
   have ve:mD m=false:=by rw[hz];rfl
   simp[A.sE,ef,hf,h3,l1,ve]
  |succ i=>
   have ax:k<m.length:=by omega
   have a_:(k:Int)<(m.length:Int):=by omega
   obtain⟨row,al⟩:=bh ax
   obtain⟨i1,o,cc,e,rw,ru,q1,q2,q3,q4,q5⟩:=hu.at al
   obtain⟨a1,a2⟩:=hr row (bU al)
   have hs:=fun w=>Yn2 (w:=w) q5 a1 a2
   rw[lH al]at hz
   cases hb:pO row with
   |true=>
    have ve:mD m=true:=by rw[hz];simp[mD,hb]
    rw[hb]at hs
    simp only[if_true]at hs
    simp[A.sE,ef,hf,h3,l1,ax,a_,q1,q2,q3,q4,hs,aE,ve]
   |false=>
    have ve:mD m=mD (m.drop (k+1)):=by rw[hz];simp[mD,hb]
    rw[hb]at hs
    simp only[fI,if_false]at hs
    simp(disch:=first|(simp;done)|omega|rfl) [A.sE,ef,hf,h3,l1,ax,a_,q1,q2,q3,q4,hs,aE]
    exact⟨i,by omega,k+1,by omega,by simp,ve⟩
 ·rintro e r _ ef ⟨rfl,⟨rfl,hz⟩|⟨rfl,hz,h2⟩⟩
  ·simp[ef,hz]
  ·simp[ef,hz,h2]
def DK(e:Int)(m:List (List Rat))(v:V)(c:Int)(h:T O)(n:Nat):Prop:=(e≠0/\v=.aa/\c=e)\/(e=0/\((mD m=true/\v=.aa/\c=4)\/(mD m=false/\c=0/\gj h n v m)))
def DK.ae{h':T O}{n n':Nat}{e c:Int}(s:DK e m v c h n)(k:ab h n h' n'):DK e m v c h' n':=by
 rcases s with s|⟨a,s|⟨b,c,s⟩⟩
 ·exact .inl s
 ·exact .inr ⟨a,.inl s⟩
 ·exact .inr ⟨a,.inr ⟨b,c,s.ae k⟩⟩
def TPN(e:Int)(q:Rat)(s:List UInt8)(c:Int):Prop:=(e≠0/\s=[]/\c=e)\/(e=0/\((BJ q=true/\s=[]/\c=4)\/(BJ q=false/\c=0/\s=aR q)))
def Vi{e c:Int}(hv:DK e m v c h N)(hu:e=0->gj h N u m)(hl:m.length<100000)(hr:e=0->∀r∈m,r.length<100000/\∀q∈r,(aR q).length<1000000000):A.C.call (.func 14 [] []) [v,.int .i64 c,u,.int .i64 e] ⟨h,N,w⟩=some (.bool true,⟨h,N,w⟩):=by
 apply Call.eq
 rw[aN,A.k14 (by simp)]
 rcases hv with⟨a,rfl,rfl⟩|⟨rfl,⟨b,rfl,rfl⟩|⟨b,rfl,t⟩⟩
 ·simp[A.b14,a,aE]
 ·have hr:=fun w=>Ydt (w:=w) (hu rfl) hl (hr rfl)
  rw[b]at hr
  simp only[if_true]at hr
  simp[A.b14,hr,aE]
 ·have hs:=fun w=>Ymm (w:=w) t (hu rfl) hl (fun r hx=>(hr rfl r hx).1)
  have hr:=fun w=>Ydt (w:=w) (hu rfl) hl (hr rfl)
  rw[b]at hr
  simp only[fI,if_false]at hr
  simp[A.b14,hr,hs,aE]
def A.w10:=A.q Tryz.f10
def A.sF:=A.ql A.w10 0 []
def A.b10:=(fun x0=>A.qb A.w10 [x0]) A.sF
def A.c10:A.F 10=some ⟨15,[.tmp 2],A.b10⟩:=by kernel_rfl
def A.k10:=@A.kk 10 _ _ _ A.c10 rfl
def Ydw{h:T O}{N:Nat}{v:V}{l:List Int}{w:List Nat}(hs:Sl h N v (dI l))(hl:l.length<1000):A.C.call (.func 10 [] []) [v] ⟨h,N,w⟩=some (.int .i64 (cH l),⟨h,N,w⟩):=by
 apply Call.eq
 have hlen:=hs.len
 rw[ib]at hlen
 rw[aN,A.k10 (by simp)]
 simp[A.b10,hlen]
 refine bG [(2,2),(4,4),(7,14)] (fun e r st=>st=⟨h,N,[]⟩/\((e=.exit 0/\cH l=0)\/(e=.ret/\r.get 2=some (.int .i64 (cH l))))) (fun m r st=>st=⟨h,N,[]⟩/\∃k,m=l.length-k/\k<=l.length/\r.get 7=some (.int .i64 k)/\cH l=cH (l.drop k)) l.length ?_ ?_ ?_
 ·exact⟨rfl,0,by omega,by omega,by simp,by simp⟩
 ·rintro m r _ hr hf ⟨rfl,k,rfl,hk,h7,hz⟩
  rw[bk]
  by_cases ax:k<l.length
  ·obtain⟨c,hc⟩:=bh ax
   obtain⟨i,o,cc,e,rw,q1,q2,q3,q4⟩:=hs.at (ic hc)
   rw[lH hc,cH]at hz
   have bL:(k:Int)<(l.length:Int):=by omega
   by_cases h0:c=0
   ·rw[ay h0]at hz
    simp(disch:=first|(simp;done)|omega|rfl) [A.sF,hr,hf,h7,bL,hlen,q1,q3,q4,h0]
    exact⟨_,by omega,k+1,rfl,by omega,by simp,hz⟩
   ·rw[ak h0]at hz
    simp[A.sF,hr,hf,h7,bL,hlen,q1,q3,q4,h0,hz]
  ·have:l.drop k=[]:=zV (by omega)
   rw[this,cH]at hz
   have:k=l.length:=by omega
   subst this
   simp[A.sF,hr,hf,h7,hz]
 ·rintro _ r _ hr ⟨rfl,⟨rfl,hz⟩|⟨rfl,h2⟩⟩
  ·simp[hz]
  ·simp[h2]
def Yn7{h:T O}{N i:Nat}{w:List Nat}{a0 a1:Int}(hi:i<N):A.C.call (.func 10 [] []) [.slice i 0 2 (some 2) 1] ⟨h.set i (.cells [.int .i64 a0,.int .i64 a1] 3 true),N,w⟩=some (.int .i64 (cH [a0,a1]),⟨h.set i (.cells [.int .i64 a0,.int .i64 a1] 3 true),N,w⟩):=
 Ydw (l:=[a0,a1]) (Sl.row (e:=3) (rw:=true) (cp:=some 2) hi (by simp[dI]) rfl (by simp)) (by simp)
def KD{h:T O}{N:Nat}{w:List Nat}(hP:l_ h N):A.C.call (.func 7 [] []) [] ⟨h,N,w⟩=some (.bool true,⟨h,N,w⟩):=by
 exact A.known hP.2
structure Wt (e:Int) (l:List Rat) (v:V) (c:Int) (u:V) (h:T O) (n:Nat):Prop where
 p:l_ h n
 tp:TP e l v c h n
 tx:e=0->Tx h n u l
 len:l.length<100000
 Hm:e=0->∀q∈l,(aR q).length<1000000000
structure WtN (e:Int) (q:Rat) (s:aM) (c:Int) (t:aM):Prop where
 tp:TPN e q s c
 tx:e=0->t=aR q
 Hm:e=0->(aR q).length<1000000000
structure WtM (e:Int) (m:List (List Rat)) (v:V) (c:Int) (u:V) (h:T O) (n:Nat):Prop where
 tp:DK e m v c h n
 tx:e=0->gj h n u m
 len:m.length<100000
 Hm:e=0->∀r∈m,r.length<100000/\∀q∈r,(aR q).length<1000000000
def PG{N n:Nat}{w:List Nat}(h:av n w=[])(hN:N<=n):av N w=[]:=ui fun i hi=>by
 have:=yI h i hi
 omega
def Zsa{q:Rat}{k:Nat}(h:Qb k q)(hk:k<=400000000):(aR q).length<1000000000:=by
 have h1:=Hi h.1
 have h2:=EL h.2
 unfold aR
 split<;>simp<;>omega
end
end Go.Mx
